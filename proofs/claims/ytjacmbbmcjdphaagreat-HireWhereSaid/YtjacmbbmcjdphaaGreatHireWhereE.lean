/- Part 5 of the proof of HireWhere: shallow programs of Go functions, and what they compute. No condition. -/
import Derived.Test.YtjacmbbmcjdphaaGreatHireWhereD
noncomputable section
namespace Go.Fer
open M (Step)
set_option linter.unusedVariables false
set_option maxRecDepth 100000
abbrev Slip:Type:=Int×Int×Int×Int×Int×Int
abbrev Tar:Type:=Int×Int×Int×Int×Int×Int×Int
abbrev Ctr:Type:=List (Int×Int)×List Slip×List Int×List (Int×Int)×Tar
abbrev Ev:Type:=Slip×Int
abbrev Tru:Type:=List Int×List (List Ev)
abbrev Book:Type:=Ctr×List Slip×List (Option Tru)
abbrev Cells:Type:=List (Int×Int)×List Slip×List Int×List (Int×Int)×Int×Int×Int×Int×Int×Int×Int×List Slip×List (Option Tru)×Unit
abbrev msetI (l:List (Int×Int)) (a b:Int):List (Int×Int):=mset (k:=.int .i64) (v:=.int .i64) l a b
abbrev tSlip:Ty:=.st (.prod (.int .i64) (.prod (.int .i64) (.prod (.int .i64) (.prod (.int .i64) (.prod (.int .i64) (.int .i64))))))
abbrev msetS (l:List (Int×Slip)) (a:Int) (b:Slip):List (Int×Slip):=mset (k:=.int .i64) (v:=tSlip) l a b
abbrev len8:List UInt8:=0::1::(List.replicate 2 2++(List.replicate 4 3++(List.replicate 8 4++(List.replicate 16 5++(List.replicate 32 6++(List.replicate 64 7++List.replicate 128 8))))))
abbrev _root_.Prod.q5 {A0 A1 A2 A3 A4 A5 A6:Type} (x:A0×A1×A2×A3×A4×A5×A6):A5:=x.2.2.2.2.2.1
abbrev _root_.Prod.q6 {A0 A1 A2 A3 A4 A5 A6 A7:Type} (x:A0×A1×A2×A3×A4×A5×A6×A7):A6:=x.2.2.2.2.2.2.1
abbrev _root_.Prod.q7 {A0 A1 A2 A3 A4 A5 A6 A7 A8:Type} (x:A0×A1×A2×A3×A4×A5×A6×A7×A8):A7:=x.2.2.2.2.2.2.2.1
abbrev _root_.Prod.q8 {A0 A1 A2 A3 A4 A5 A6 A7 A8 A9:Type} (x:A0×A1×A2×A3×A4×A5×A6×A7×A8×A9):A8:=x.2.2.2.2.2.2.2.2.1
abbrev _root_.Prod.q9 {A0 A1 A2 A3 A4 A5 A6 A7 A8 A9 A10:Type} (x:A0×A1×A2×A3×A4×A5×A6×A7×A8×A9×A10):A9:=x.2.2.2.2.2.2.2.2.2.1
abbrev _root_.Prod.q10 {A0 A1 A2 A3 A4 A5 A6 A7 A8 A9 A10 A11:Type} (x:A0×A1×A2×A3×A4×A5×A6×A7×A8×A9×A10×A11):A10:=x.2.2.2.2.2.2.2.2.2.2.1
abbrev _root_.Prod.q11 {A0 A1 A2 A3 A4 A5 A6 A7 A8 A9 A10 A11 A12:Type} (x:A0×A1×A2×A3×A4×A5×A6×A7×A8×A9×A10×A11×A12):A11:=x.2.2.2.2.2.2.2.2.2.2.2.1
abbrev _root_.Prod.q12 {A0 A1 A2 A3 A4 A5 A6 A7 A8 A9 A10 A11 A12 A13:Type} (x:A0×A1×A2×A3×A4×A5×A6×A7×A8×A9×A10×A11×A12×A13):A12:=x.2.2.2.2.2.2.2.2.2.2.2.2.1
abbrev _root_.Prod.q13 {A0 A1 A2 A3 A4 A5 A6 A7 A8 A9 A10 A11 A12 A13 A14:Type} (x:A0×A1×A2×A3×A4×A5×A6×A7×A8×A9×A10×A11×A12×A13×A14):A13:=x.2.2.2.2.2.2.2.2.2.2.2.2.2.1
abbrev _root_.Prod.q14 {A0 A1 A2 A3 A4 A5 A6 A7 A8 A9 A10 A11 A12 A13 A14 A15:Type} (x:A0×A1×A2×A3×A4×A5×A6×A7×A8×A9×A10×A11×A12×A13×A14×A15):A14:=x.2.2.2.2.2.2.2.2.2.2.2.2.2.2.1
abbrev _root_.Prod.q15 {A0 A1 A2 A3 A4 A5 A6 A7 A8 A9 A10 A11 A12 A13 A14 A15 A16:Type} (x:A0×A1×A2×A3×A4×A5×A6×A7×A8×A9×A10×A11×A12×A13×A14×A15×A16):A15:=x.2.2.2.2.2.2.2.2.2.2.2.2.2.2.2.1
abbrev _root_.Prod.q16 {A0 A1 A2 A3 A4 A5 A6 A7 A8 A9 A10 A11 A12 A13 A14 A15 A16 A17:Type} (x:A0×A1×A2×A3×A4×A5×A6×A7×A8×A9×A10×A11×A12×A13×A14×A15×A16×A17):A16:=x.2.2.2.2.2.2.2.2.2.2.2.2.2.2.2.2.1
abbrev _root_.Prod.q17 {A0 A1 A2 A3 A4 A5 A6 A7 A8 A9 A10 A11 A12 A13 A14 A15 A16 A17 A18:Type} (x:A0×A1×A2×A3×A4×A5×A6×A7×A8×A9×A10×A11×A12×A13×A14×A15×A16×A17×A18):A17:=x.2.2.2.2.2.2.2.2.2.2.2.2.2.2.2.2.2.1
abbrev _root_.Prod.q18 {A0 A1 A2 A3 A4 A5 A6 A7 A8 A9 A10 A11 A12 A13 A14 A15 A16 A17 A18 A19:Type} (x:A0×A1×A2×A3×A4×A5×A6×A7×A8×A9×A10×A11×A12×A13×A14×A15×A16×A17×A18×A19):A18:=x.2.2.2.2.2.2.2.2.2.2.2.2.2.2.2.2.2.2.1
abbrev _root_.Prod.q19 {A0 A1 A2 A3 A4 A5 A6 A7 A8 A9 A10 A11 A12 A13 A14 A15 A16 A17 A18 A19 A20:Type} (x:A0×A1×A2×A3×A4×A5×A6×A7×A8×A9×A10×A11×A12×A13×A14×A15×A16×A17×A18×A19×A20):A19:=x.2.2.2.2.2.2.2.2.2.2.2.2.2.2.2.2.2.2.2.1
abbrev _root_.Prod.q20 {A0 A1 A2 A3 A4 A5 A6 A7 A8 A9 A10 A11 A12 A13 A14 A15 A16 A17 A18 A19 A20 A21:Type} (x:A0×A1×A2×A3×A4×A5×A6×A7×A8×A9×A10×A11×A12×A13×A14×A15×A16×A17×A18×A19×A20×A21):A20:=x.2.2.2.2.2.2.2.2.2.2.2.2.2.2.2.2.2.2.2.2.1
abbrev _root_.Prod.q21 {A0 A1 A2 A3 A4 A5 A6 A7 A8 A9 A10 A11 A12 A13 A14 A15 A16 A17 A18 A19 A20 A21 A22:Type} (x:A0×A1×A2×A3×A4×A5×A6×A7×A8×A9×A10×A11×A12×A13×A14×A15×A16×A17×A18×A19×A20×A21×A22):A21:=x.2.2.2.2.2.2.2.2.2.2.2.2.2.2.2.2.2.2.2.2.2.1
abbrev _root_.Prod.q22 {A0 A1 A2 A3 A4 A5 A6 A7 A8 A9 A10 A11 A12 A13 A14 A15 A16 A17 A18 A19 A20 A21 A22 A23:Type} (x:A0×A1×A2×A3×A4×A5×A6×A7×A8×A9×A10×A11×A12×A13×A14×A15×A16×A17×A18×A19×A20×A21×A22×A23):A22:=x.2.2.2.2.2.2.2.2.2.2.2.2.2.2.2.2.2.2.2.2.2.2.1
abbrev _root_.Prod.q23 {A0 A1 A2 A3 A4 A5 A6 A7 A8 A9 A10 A11 A12 A13 A14 A15 A16 A17 A18 A19 A20 A21 A22 A23 A24:Type} (x:A0×A1×A2×A3×A4×A5×A6×A7×A8×A9×A10×A11×A12×A13×A14×A15×A16×A17×A18×A19×A20×A21×A22×A23×A24):A23:=x.2.2.2.2.2.2.2.2.2.2.2.2.2.2.2.2.2.2.2.2.2.2.2.1
abbrev _root_.Prod.q24 {A0 A1 A2 A3 A4 A5 A6 A7 A8 A9 A10 A11 A12 A13 A14 A15 A16 A17 A18 A19 A20 A21 A22 A23 A24 A25:Type} (x:A0×A1×A2×A3×A4×A5×A6×A7×A8×A9×A10×A11×A12×A13×A14×A15×A16×A17×A18×A19×A20×A21×A22×A23×A24×A25):A24:=x.2.2.2.2.2.2.2.2.2.2.2.2.2.2.2.2.2.2.2.2.2.2.2.2.1
abbrev _root_.Prod.q25 {A0 A1 A2 A3 A4 A5 A6 A7 A8 A9 A10 A11 A12 A13 A14 A15 A16 A17 A18 A19 A20 A21 A22 A23 A24 A25 A26:Type} (x:A0×A1×A2×A3×A4×A5×A6×A7×A8×A9×A10×A11×A12×A13×A14×A15×A16×A17×A18×A19×A20×A21×A22×A23×A24×A25×A26):A25:=x.2.2.2.2.2.2.2.2.2.2.2.2.2.2.2.2.2.2.2.2.2.2.2.2.2.1
abbrev _root_.Prod.q26 {A0 A1 A2 A3 A4 A5 A6 A7 A8 A9 A10 A11 A12 A13 A14 A15 A16 A17 A18 A19 A20 A21 A22 A23 A24 A25 A26 A27:Type} (x:A0×A1×A2×A3×A4×A5×A6×A7×A8×A9×A10×A11×A12×A13×A14×A15×A16×A17×A18×A19×A20×A21×A22×A23×A24×A25×A26×A27):A26:=x.2.2.2.2.2.2.2.2.2.2.2.2.2.2.2.2.2.2.2.2.2.2.2.2.2.2.1
abbrev _root_.Prod.q27 {A0 A1 A2 A3 A4 A5 A6 A7 A8 A9 A10 A11 A12 A13 A14 A15 A16 A17 A18 A19 A20 A21 A22 A23 A24 A25 A26 A27 A28:Type} (x:A0×A1×A2×A3×A4×A5×A6×A7×A8×A9×A10×A11×A12×A13×A14×A15×A16×A17×A18×A19×A20×A21×A22×A23×A24×A25×A26×A27×A28):A27:=x.2.2.2.2.2.2.2.2.2.2.2.2.2.2.2.2.2.2.2.2.2.2.2.2.2.2.2.1
abbrev _root_.Prod.q28 {A0 A1 A2 A3 A4 A5 A6 A7 A8 A9 A10 A11 A12 A13 A14 A15 A16 A17 A18 A19 A20 A21 A22 A23 A24 A25 A26 A27 A28 A29:Type} (x:A0×A1×A2×A3×A4×A5×A6×A7×A8×A9×A10×A11×A12×A13×A14×A15×A16×A17×A18×A19×A20×A21×A22×A23×A24×A25×A26×A27×A28×A29):A28:=x.2.2.2.2.2.2.2.2.2.2.2.2.2.2.2.2.2.2.2.2.2.2.2.2.2.2.2.2.1
abbrev _root_.Prod.q29 {A0 A1 A2 A3 A4 A5 A6 A7 A8 A9 A10 A11 A12 A13 A14 A15 A16 A17 A18 A19 A20 A21 A22 A23 A24 A25 A26 A27 A28 A29 A30:Type} (x:A0×A1×A2×A3×A4×A5×A6×A7×A8×A9×A10×A11×A12×A13×A14×A15×A16×A17×A18×A19×A20×A21×A22×A23×A24×A25×A26×A27×A28×A29×A30):A29:=x.2.2.2.2.2.2.2.2.2.2.2.2.2.2.2.2.2.2.2.2.2.2.2.2.2.2.2.2.2.1
abbrev _root_.Prod.q30 {A0 A1 A2 A3 A4 A5 A6 A7 A8 A9 A10 A11 A12 A13 A14 A15 A16 A17 A18 A19 A20 A21 A22 A23 A24 A25 A26 A27 A28 A29 A30 A31:Type} (x:A0×A1×A2×A3×A4×A5×A6×A7×A8×A9×A10×A11×A12×A13×A14×A15×A16×A17×A18×A19×A20×A21×A22×A23×A24×A25×A26×A27×A28×A29×A30×A31):A30:=x.2.2.2.2.2.2.2.2.2.2.2.2.2.2.2.2.2.2.2.2.2.2.2.2.2.2.2.2.2.2.1
abbrev _root_.Prod.q31 {A0 A1 A2 A3 A4 A5 A6 A7 A8 A9 A10 A11 A12 A13 A14 A15 A16 A17 A18 A19 A20 A21 A22 A23 A24 A25 A26 A27 A28 A29 A30 A31 A32:Type} (x:A0×A1×A2×A3×A4×A5×A6×A7×A8×A9×A10×A11×A12×A13×A14×A15×A16×A17×A18×A19×A20×A21×A22×A23×A24×A25×A26×A27×A28×A29×A30×A31×A32):A31:=x.2.2.2.2.2.2.2.2.2.2.2.2.2.2.2.2.2.2.2.2.2.2.2.2.2.2.2.2.2.2.2.1
def S_hire_Where (c_hire_read:Ctr×(Option Book→M Bool)→M (Option Book×Int)) (c_hire_truth_with:Option Tru×Int×Int→M (Ev×Bool)) (c_slices_Sorted_int:(List Int→Prop)→M (List Int)) (c_maps_Keys_map_int_int_int_int:List (Int×Int)→M (List Int→Prop)) (c_hire_Where_c1:Option Book×Option Int×Option Int→M Bool) (x:Ctr×Int×Int):M (List Int×Int):=
 M.bind (c_hire_read (x.1,fun x_1=>c_hire_Where_c1 (x_1,some x.2.1,some x.2.2))) fun y=>if decide (y.2≠0)=true then M.pure ([],y.2) else
 M.bind (M.req (Option.isSome y.1=true) (M.loop (fun (σ:List (Option Tru)×Int×Int×Int×Int×List (Int×Int)×Unit)=>if decide (σ.2.2.1
 < σ.2.1)=true then M.bind (M.req (0≤σ.2.2.1∧σ.2.2.1<Int.ofNat (List.length σ.1)) (M.bind (c_hire_truth_with (List.getD σ.1 (Int.toNat
 σ.2.2.1) none,σ.2.2.2.1,σ.2.2.2.2.1)) fun y=>if y.2=true then M.pure (Step.next (σ.1,σ.2.1,σ.2.2.1,σ.2.2.2.1,σ.2.2.2.2.1,msetI σ.q5
 y.1.1.2.2.2.2.2 (IntKind.wrap .i64 (Add.add (Option.getD (Option.map (fun x=>x.2) (List.find? (fun p=>decide (y.1.1.2.2.2.2.2=p.1)) σ.q5)) 0)
 1)),())) else M.pure (Step.next (σ.1,σ.2.1,σ.2.2.1,σ.2.2.2.1,σ.2.2.2.2.1,msetI σ.q5 (-1) (IntKind.wrap .i64 (Add.add (Option.getD (Option.map
 (fun x=>x.2) (List.find? (fun p=>decide (-1=p.1)) σ.q5)) 0) 1)),())))) (Step.go fun (σ:List (Option Tru)×Int×Int×Int×Int×List (Int
 ×Int)×Unit)=>M.pure (Step.next (σ.1,σ.2.1,IntKind.wrap .i64 (Add.add σ.2.2.1 1),σ.2.2.2.1,σ.2.2.2.2.1,σ.q5,()))) else M.bind (M.pure
 (Step.next (σ.q5,()))) fun r=>M.pure (Step.done r)) ((Option.getD y.1 (([],[],[],[],0,0,0,0,0,0,0),[],[])).2.2,Int.ofNat (List.length
 (Option.getD y.1 (([],[],[],[],0,0,0,0,0,0,0),[],[])).2.2),0,x.2.1,x.2.2,[],()))) (Step.go fun (σ:List (Int×Int)×Unit)=>
 M.bind (c_maps_Keys_map_int_int_int_int σ.1) fun y=>M.bind (c_slices_Sorted_int y) fun y=>M.pure (y,0))
def S_ref09_Copy (x:Ctr):M Ctr:=
 M.req (lenLe (Add.add 0 (List.length x.1))) (M.req (lenLe (Add.add 0 (List.length x.2.1))) (M.req (lenLe (Add.add 0 (List.length x.2.2.1))) (M.req
 (lenLe (Add.add 0 (List.length x.2.2.2.1))) (M.pure ([]++x.1,[]++x.2.1,[]++x.2.2.1,[]++x.2.2.2.1,x.2.2.2.2)))))
def S_hire_Fee (c_hire_lasts:Ctr×Int×(Int→M Int)→M ((Int×Int)×Int)) (c_hire_Fee_c1:Int×Option Ctr→M Int) (x:Ctr×Int):M ((Int×Int)×Int):=
 M.bind (c_hire_lasts (x.1,x.2,fun x_1=>c_hire_Fee_c1 (x_1,some x.1))) fun y=>M.pure y
def S_hire_Held (c_hire_read:Ctr×(Option Book→M Bool)→M (Option Book×Int)) (c_hire_book_span:Option Book×(Option Tru→M (Int×Bool))→M ((Int×Int)×Bool)) (c_hire_Held_c1:Option Book×Option Int→M Bool) (c_hire_Held_c2:Option Tru×Option Int×Option Ctr→M (Int×Bool)) (x:Ctr×Int):M ((Int×Int)×Int):=
 M.bind (c_hire_read (x.1,fun x_1=>c_hire_Held_c1 (x_1,some x.2))) fun y=>if decide (y.2≠0)=true then M.pure ((0,0),y.2) else M.bind
 (c_hire_book_span (y.1,fun x_1=>c_hire_Held_c2 (x_1,some x.2,some x.1))) fun y=>M.pure (y.1,0)
def S_ref09_Counts (c_ref09_once:List Slip→M (List Slip)) (c_ref09_in:List Int×Int→M Bool) (x:Ctr):M (List Slip):=
 M.bind (c_ref09_once x.2.1) fun y=>M.bind (M.loop (fun (σ:List Slip×Int×Ctr×List Slip×Unit)=>if decide (σ.2.1<Int.ofNat (List.length
 σ.1))=true then M.bind (M.req (0≤σ.2.1∧σ.2.1<Int.ofNat (List.length σ.1)) (M.req (c_ref09_in (σ.2.2.1.2.2.1,(List.getD σ.1 (Int.toNat σ.2.1)
 (0,0,0,0,0,0)).1)).safe (if (!M.val (c_ref09_in (σ.2.2.1.2.2.1,(List.getD σ.1 (Int.toNat σ.2.1) (0,0,0,0,0,0)).1)) false)=true then
 M.req (0≤σ.2.1∧σ.2.1<Int.ofNat (List.length σ.1)) (M.req (lenLe (Add.add (List.length σ.2.2.2.1) (Add.add 0 1))) (M.pure (Step.next (σ.1,
 σ.2.1,σ.2.2.1,σ.2.2.2.1++[List.getD σ.1 (Int.toNat σ.2.1) (0,0,0,0,0,0)],())))) else M.pure (Step.next (σ.1,σ.2.1,σ.2.2.1,σ.2.2.2.1,
 ()))))) (Step.go fun (σ:List Slip×Int×Ctr×List Slip×Unit)=>M.pure (Step.next (σ.1,IntKind.wrap .i64 (Add.add σ.2.1 1),σ.2.2.1,
 σ.2.2.2.1,()))) else M.bind (M.pure (Step.next (σ.2.2.2.1,()))) fun r=>M.pure (Step.done r)) (y,0,x,[],())) (Step.go fun (σ:List Slip×
 Unit)=>M.pure σ.1)
def S_hire_Check (c_hire_isCounter:Ctr→M Bool) (c_hire_once:List Slip→M (List Slip×Bool)) (x:Ctr):M Int:=
 M.bind (c_hire_isCounter x) fun y=>if (!y)=true then M.pure 90 else M.bind (c_hire_once x.2.1) fun y=>if (!y.2)=true then M.pure 91 else
 M.pure 0
def S_ref09_Check (c_ref09_isCounter:Ctr→M Bool) (c_ref09_clash:Slip×Int×Int×Int×Int×Int×Int→M Bool) (x:Ctr):M Int:=
 M.bind (c_ref09_isCounter x) fun y=>if (!y)=true then M.pure 90 else M.bind (M.loop (fun (σ:Int×Ctr×Unit)=>if decide (σ.1<Int.ofNat
 (List.length σ.2.1.2.1))=true then M.bind (M.loop (fun (σ:Int×Int×Ctr×Unit)=>if decide (σ.2.1<σ.1)=true then M.req (0≤σ.2.1∧σ.2.1
 < Int.ofNat (List.length σ.2.2.1.2.1)) (M.req (0≤σ.1∧σ.1<Int.ofNat (List.length σ.2.2.1.2.1)) (M.req (c_ref09_clash (List.getD σ.2.2.1.2.1
 (Int.toNat σ.2.1) (0,0,0,0,0,0),List.getD σ.2.2.1.2.1 (Int.toNat σ.1) (0,0,0,0,0,0))).safe (if M.val (c_ref09_clash (List.getD σ.2.2.1.2.1
 (Int.toNat σ.2.1) (0,0,0,0,0,0),List.getD σ.2.2.1.2.1 (Int.toNat σ.1) (0,0,0,0,0,0))) false=true then M.bind (M.bind (M.bind (M.bind
 (M.pure 91) fun r=>M.pure (Step.done r)) fun r=>M.pure (Step.done r)) fun r=>M.pure (Step.done r)) fun r=>M.pure (Step.done r) else M.pure
 (Step.next (σ.1,IntKind.wrap .i64 (Add.add σ.2.1 1),σ.2.2.1,()))))) else M.bind (M.pure (Step.next (σ.1,σ.2.2.1,()))) fun r=>M.pure (Step.done
 r)) (σ.1,0,σ.2.1,())) (Step.go fun (σ:Int×Ctr×Unit)=>M.pure (Step.next (IntKind.wrap .i64 (Add.add σ.1 1),σ.2.1,()))) else M.bind
 (M.pure (Step.next ())) fun r=>M.pure (Step.done r)) (0,x,())) (Step.go fun (σ:Unit)=>M.pure 0)
def S_hire_Watch (c_hire_read:Ctr×(Option Book→M Bool)→M (Option Book×Int)) (c_hire_book_span:Option Book×(Option Tru→M (Int×Bool))→M ((Int×Int)×Bool)) (c_hire_Watch_c1:Option Book×Option Int×Option Ctr→M Bool) (c_hire_Watch_c2:Option Tru×Option Int→M (Int×Bool)) (x:Ctr×Int):M ((Int×Int)×Int):=
 M.bind (c_hire_read (x.1,fun x_1=>c_hire_Watch_c1 (x_1,some x.2,some x.1))) fun y=>if decide (y.2≠0)=true then M.pure ((0,0),y.2) else
 M.bind (c_hire_book_span (y.1,fun x_1=>c_hire_Watch_c2 (x_1,some x.2))) fun y=>M.pure (y.1,0)
def S_ref09_Where (c_ref09_in:List Int×Int→M Bool) (c_ref09_known:Ctr×Bool→M (List (List Int)×Int)) (c_ref09_within:Int×Int×Int→M Bool) (c_ref09_With:Ctr×List Int×Int×Int→M (Int×Int)) (x:Ctr×Int×Int):M (List Int×Int):=
 M.req (c_ref09_within (x.2.1,0,9)).safe (M.req (M.val (c_ref09_within (x.2.1,0,9)) false=true→(M.val (c_ref09_within (x.2.1,0,9)) false=
 true∧True)∧(c_ref09_within (x.2.2,0,9999)).safe∧True) (M.req (True∧(M.val (c_ref09_within (x.2.1,0,9)) false=true→M.val
 (c_ref09_within (x.2.1,0,9)) false=true)) (M.req (c_ref09_known (x.1,M.val (c_ref09_within (x.2.1,0,9)) false&&M.val (c_ref09_within (x.2.2,
 0,9999)) false)).safe (M.bind (M.loop (fun (σ:Int×Int×List (List Int)×Int×Int×Ctr×List Int×List Int×Unit)=>if decide
 (σ.2.2.2.2.1<Int.ofNat (List.length σ.2.2.1))=true then M.req (0≤σ.2.2.2.2.1∧σ.2.2.2.2.1<Int.ofNat (List.length σ.2.2.1)) (M.req
 (c_ref09_With (σ.q5,List.getD σ.2.2.1 (Int.toNat σ.2.2.2.2.1) [],σ.1,σ.2.1)).safe (M.req (lenLe (Add.add (List.length σ.q6) (Add.add 0 1)))
 (M.pure (Step.next (σ.1,σ.2.1,σ.2.2.1,σ.2.2.2.1,IntKind.wrap .i64 (Add.add σ.2.2.2.2.1 1),σ.q5,σ.q6++[(M.val (c_ref09_With (σ.q5,List.getD
 σ.2.2.1 (Int.toNat σ.2.2.2.2.1) [],σ.1,σ.2.1)) (0,0)).1],σ.q7,()))))) else M.bind (M.pure (Step.next (σ.2.2.2.1,σ.q6,σ.q7,()))) fun r=>
 M.pure (Step.done r)) (x.2.1,x.2.2,(M.val (c_ref09_known (x.1,M.val (c_ref09_within (x.2.1,0,9)) false&&M.val (c_ref09_within (x.2.2,0,
 9999)) false)) ([],0)).1,(M.val (c_ref09_known (x.1,M.val (c_ref09_within (x.2.1,0,9)) false&&M.val (c_ref09_within (x.2.2,0,9999)) false))
 ([],0)).2,0,x.1,[],[],())) (Step.go fun (σ:Int×List Int×List Int×Unit)=>M.bind (M.loop (fun (σ:Int×Int×List Int×List Int×
 Unit)=>if decide (σ.2.1≤99)=true then M.bind (M.bind (c_ref09_in (σ.2.2.1,σ.2.1)) fun y=>if y=true then M.req (lenLe (Add.add (List.length
 σ.2.2.2.1) (Add.add 0 1))) (M.pure (Step.next (σ.1,σ.2.1,σ.2.2.1,σ.2.2.2.1++[σ.2.1],()))) else M.pure (Step.next (σ.1,σ.2.1,σ.2.2.1,
 σ.2.2.2.1,()))) (Step.go fun (σ:Int×Int×List Int×List Int×Unit)=>M.pure (Step.next (σ.1,IntKind.wrap .i64 (Add.add σ.2.1 1),σ.2.2.1,
 σ.2.2.2.1,()))) else M.bind (M.pure (Step.next (σ.1,σ.2.2.2.1,()))) fun r=>M.pure (Step.done r)) (σ.1,-1,σ.2.1,σ.2.2.1,())) (Step.go fun (σ
 : Int×List Int×Unit)=>M.pure (σ.2.1,σ.1)))))))
def S_ref09_Held (c_ref09_known:Ctr×Bool→M (List (List Int)×Int)) (c_ref09_within:Int×Int×Int→M Bool) (c_ref09_wider:(Int×Int)×Int×Bool→M (Int×Int)) (c_ref09_Out:Ctr×List Int×Int→M Int) (x:Ctr×Int):M ((Int×Int)×Int):=
 M.req (c_ref09_within (x.2,0,9999)).safe (M.req (c_ref09_known (x.1,M.val (c_ref09_within (x.2,0,9999)) false)).safe (M.bind (M.loop (fun (σ :
 Int×List (List Int)×Int×Int×Ctr×(Int×Int)×(Int×Int)×Unit)=>if decide (σ.2.2.2.1<Int.ofNat (List.length σ.2.1))=true then
 M.req (0≤σ.2.2.2.1∧σ.2.2.2.1<Int.ofNat (List.length σ.2.1)) (M.req (c_ref09_Out (σ.2.2.2.2.1,List.getD σ.2.1 (Int.toNat σ.2.2.2.1) [],
 σ.1)).safe (M.req (c_ref09_wider (σ.q6,IntKind.wrap .i64 (M.val (c_ref09_Out (σ.2.2.2.2.1,List.getD σ.2.1 (Int.toNat σ.2.2.2.1) [],σ.1)) 0 *
 σ.2.2.2.2.1.2.2.2.2.2.2.2.2.2.2),decide (σ.2.2.2.1=0))).safe (M.pure (Step.next (σ.1,σ.2.1,σ.2.2.1,IntKind.wrap .i64 (Add.add σ.2.2.2.1 1),
 σ.2.2.2.2.1,σ.q5,M.val (c_ref09_wider (σ.q6,IntKind.wrap .i64 (M.val (c_ref09_Out (σ.2.2.2.2.1,List.getD σ.2.1 (Int.toNat σ.2.2.2.1) [],σ.1)) 0
 * σ.2.2.2.2.1.2.2.2.2.2.2.2.2.2.2),decide (σ.2.2.2.1=0))) (0,0),()))))) else M.bind (M.pure (Step.next (σ.2.2.1,σ.q5,σ.q6,()))) fun r=>
 M.pure (Step.done r)) (x.2,(M.val (c_ref09_known (x.1,M.val (c_ref09_within (x.2,0,9999)) false)) ([],0)).1,(M.val (c_ref09_known (x.1,M.val
 (c_ref09_within (x.2,0,9999)) false)) ([],0)).2,0,x.1,(0,0),(0,0),())) (Step.go fun (σ:Int×(Int×Int)×(Int×Int)×Unit)=>M.pure
 (σ.2.2.1,σ.1))))
def S_hire_Missing (c_hire_read:Ctr×(Option Book→M Bool)→M (Option Book×Int)) (c_hire_truth_with:Option Tru×Int×Int→M (Ev×Bool)) (c_hire_open:Ctr×Int×Int→M Int) (c_hire_Missing_c1:Option Book×Option Int→M Bool) (x:Ctr×Int):M (List Int×List Int×Int):=
 M.bind (c_hire_read (x.1,fun x_1=>c_hire_Missing_c1 (x_1,some x.2))) fun y=>if decide (y.2≠0)=true then M.pure ([],[],y.2) else M.bind
 (M.loop (fun (σ:Option Book×Int×Ctr×Int×List Int×List Int×Unit)=>if decide (σ.2.1<10)=true then M.bind (M.bind (M.req
 (Option.isSome σ.1=true) (M.loop (fun (σ:Option Book×Int×Int×Int×List (Option Tru)×Int×Int×Ctr×Int×List Int×List Int×Unit)
 =>if decide (σ.q6<σ.q5)=true then M.bind (M.req (0≤σ.q6∧σ.q6<Int.ofNat (List.length σ.2.2.2.2.1)) (M.bind (c_hire_truth_with (List.getD
 σ.2.2.2.2.1 (Int.toNat σ.q6) none,σ.2.1,σ.q8)) fun y=>M.req (y.2=true→y.2=true∧True∧True) (M.req (y.2=true→(y.2=true∧y.2=true
 ∧y.2=true∧True)∧(c_hire_open (σ.q7,y.1.2,σ.q8)).safe∧True) (M.req (y.2=true→y.2=true∧True∧True) (M.req (y.2=true→y.2=true
 ∧True∧True) (M.req (y.2=true→(y.2=true∧y.2=true)∧True∧True) (M.req (True∧(y.2=true→y.2=true)) (if (y.2&&decide (M.val
 (c_hire_open (σ.q7,y.1.2,σ.q8)) 0≥σ.q7.q8))=true then M.pure (Step.next (σ.1,σ.2.1,IntKind.wrap .i64 (Add.add σ.2.2.1 1),σ.2.2.2.1,
 σ.2.2.2.2.1,σ.q5,σ.q6,σ.q7,σ.q8,σ.q9,σ.q10,())) else M.pure (Step.next (σ.1,σ.2.1,σ.2.2.1,σ.2.2.2.1,σ.2.2.2.2.1,σ.q5,σ.q6,σ.q7,σ.q8,
 σ.q9,σ.q10,())))))))))) (Step.go fun (σ:Option Book×Int×Int×Int×List (Option Tru)×Int×Int×Ctr×Int×List Int×List Int×Unit)
 =>M.pure (Step.next (σ.1,σ.2.1,σ.2.2.1,σ.2.2.2.1,σ.2.2.2.2.1,σ.q5,IntKind.wrap .i64 (Add.add σ.q6 1),σ.q7,σ.q8,σ.q9,σ.q10,()))) else
 M.bind (M.pure (Step.next (σ.1,σ.2.1,σ.2.2.1,σ.2.2.2.1,σ.q7,σ.q8,σ.q9,σ.q10,()))) fun r=>M.pure (Step.done r)) (σ.1,σ.2.1,0,σ.2.1,
 (Option.getD σ.1 (([],[],[],[],0,0,0,0,0,0,0),[],[])).2.2,Int.ofNat (List.length (Option.getD σ.1 (([],[],[],[],0,0,0,0,0,0,
 0),[],[])).2.2),0,σ.2.2.1,σ.2.2.2.1,σ.2.2.2.2.1,σ.q5,()))) (Step.go fun (σ:Option Book×Int×Int×Int×Ctr×Int×List Int×List Int
 ×Unit)=>M.bind (if decide (σ.2.2.1 > 0)=true then M.req (lenLe (Add.add (List.length σ.q7) (Add.add 0 1))) (M.pure (Step.next (σ.1,σ.2.1,
 σ.2.2.1,σ.2.2.2.1,σ.2.2.2.2.1,σ.q5,σ.q6,σ.q7++[σ.2.1],()))) else M.pure (Step.next (σ.1,σ.2.1,σ.2.2.1,σ.2.2.2.1,σ.2.2.2.2.1,σ.q5,σ.q6,
 σ.q7,()))) (Step.go fun (σ:Option Book×Int×Int×Int×Ctr×Int×List Int×List Int×Unit)=>M.req (Option.isSome σ.1=true) (if decide
 (σ.2.2.1=Int.ofNat (List.length (Option.getD σ.1 (([],[],[],[],0,0,0,0,0,0,0),[],[])).2.2))=true then M.req (lenLe (Add.add
 (List.length σ.q6) (Add.add 0 1))) (M.pure (Step.next (σ.1,σ.2.2.2.1,σ.2.2.2.2.1,σ.q5,σ.q6++[σ.2.1],σ.q7,()))) else M.pure (Step.next (σ.1,
 σ.2.2.2.1,σ.2.2.2.2.1,σ.q5,σ.q6,σ.q7,())))))) (Step.go fun (σ:Option Book×Int×Ctr×Int×List Int×List Int×Unit)=>M.pure (Step.next
 (σ.1,IntKind.wrap .i64 (Add.add σ.2.1 1),σ.2.2.1,σ.2.2.2.1,σ.2.2.2.2.1,σ.q5,()))) else M.bind (M.pure (Step.next (σ.2.2.2.2.1,σ.q5,()))) fun r
 =>M.pure (Step.done r)) (y.1,0,x.1,x.2,[],[],())) (Step.go fun (σ:List Int×List Int×Unit)=>M.pure (σ.1,σ.2.1,0))
def S_ref09_Missing (c_ref09_known:Ctr×Bool→M (List (List Int)×Int)) (c_ref09_within:Int×Int×Int→M Bool) (c_ref09_With:Ctr×List Int×Int×Int→M (Int×Int)) (c_ref09_Minutes:Ctr×Int×Int→M Int) (x:Ctr×Int):M (List Int×List Int×Int):=
 M.req (c_ref09_within (x.2,0,9999)).safe (M.req (c_ref09_known (x.1,M.val (c_ref09_within (x.2,0,9999)) false)).safe (if decide ((M.val
 (c_ref09_known (x.1,M.val (c_ref09_within (x.2,0,9999)) false)) ([],0)).2≠0)=true then M.pure ([],[],(M.val (c_ref09_known (x.1,M.val
 (c_ref09_within (x.2,0,9999)) false)) ([],0)).2) else M.bind (M.loop (fun (σ:Int×List (List Int)×Int×Ctr×List Int×List Int×Unit)=>
 if decide (σ.2.2.1≤9)=true then M.bind (M.bind (M.loop (fun (σ:Int×List (List Int)×Int×Int×Int×Ctr×List Int×List Int×Unit)=>
 if decide (σ.2.2.2.2.1<Int.ofNat (List.length σ.2.1))=true then M.bind (M.req (0≤σ.2.2.2.2.1∧σ.2.2.2.2.1<Int.ofNat (List.length σ.2.1))
 (M.req (c_ref09_With (σ.q5,List.getD σ.2.1 (Int.toNat σ.2.2.2.2.1) [],σ.2.2.1,σ.1)).safe (M.req (decide ((M.val (c_ref09_With (σ.q5,List.getD
 σ.2.1 (Int.toNat σ.2.2.2.2.1) [],σ.2.2.1,σ.1)) (0,0)).1≥0)=true→(decide ((M.val (c_ref09_With (σ.q5,List.getD σ.2.1 (Int.toNat σ.2.2.2.2.1)
 [],σ.2.2.1,σ.1)) (0,0)).1≥0)=true∧decide ((M.val (c_ref09_With (σ.q5,List.getD σ.2.1 (Int.toNat σ.2.2.2.2.1) [],σ.2.2.1,σ.1)) (0,0)).1≥
 0)=true∧decide ((M.val (c_ref09_With (σ.q5,List.getD σ.2.1 (Int.toNat σ.2.2.2.2.1) [],σ.2.2.1,σ.1)) (0,0)).1≥0)=true∧True)∧
 (c_ref09_Minutes (σ.q5,(M.val (c_ref09_With (σ.q5,List.getD σ.2.1 (Int.toNat σ.2.2.2.2.1) [],σ.2.2.1,σ.1)) (0,0)).2,σ.1)).safe∧True) (M.req
 (decide ((M.val (c_ref09_With (σ.q5,List.getD σ.2.1 (Int.toNat σ.2.2.2.2.1) [],σ.2.2.1,σ.1)) (0,0)).1≥0)=true→decide ((M.val (c_ref09_With
 (σ.q5,List.getD σ.2.1 (Int.toNat σ.2.2.2.2.1) [],σ.2.2.1,σ.1)) (0,0)).1≥0)=true∧True∧True) (M.req (decide ((M.val (c_ref09_With (σ.q5,
 List.getD σ.2.1 (Int.toNat σ.2.2.2.2.1) [],σ.2.2.1,σ.1)) (0,0)).1≥0)=true→decide ((M.val (c_ref09_With (σ.q5,List.getD σ.2.1 (Int.toNat
 σ.2.2.2.2.1) [],σ.2.2.1,σ.1)) (0,0)).1≥0)=true∧True∧True) (M.req (decide ((M.val (c_ref09_With (σ.q5,List.getD σ.2.1 (Int.toNat
 σ.2.2.2.2.1) [],σ.2.2.1,σ.1)) (0,0)).1≥0)=true→(decide ((M.val (c_ref09_With (σ.q5,List.getD σ.2.1 (Int.toNat σ.2.2.2.2.1) [],σ.2.2.1,
 σ.1)) (0,0)).1≥0)=true∧decide ((M.val (c_ref09_With (σ.q5,List.getD σ.2.1 (Int.toNat σ.2.2.2.2.1) [],σ.2.2.1,σ.1)) (0,0)).1≥0)=true)∧
 True∧True) (M.req (True∧(decide ((M.val (c_ref09_With (σ.q5,List.getD σ.2.1 (Int.toNat σ.2.2.2.2.1) [],σ.2.2.1,σ.1)) (0,0)).1≥0)=true→
 decide ((M.val (c_ref09_With (σ.q5,List.getD σ.2.1 (Int.toNat σ.2.2.2.2.1) [],σ.2.2.1,σ.1)) (0,0)).1≥0)=true)) (if (decide ((M.val
 (c_ref09_With (σ.q5,List.getD σ.2.1 (Int.toNat σ.2.2.2.2.1) [],σ.2.2.1,σ.1)) (0,0)).1≥0)&&decide (M.val (c_ref09_Minutes (σ.q5,(M.val
 (c_ref09_With (σ.q5,List.getD σ.2.1 (Int.toNat σ.2.2.2.2.1) [],σ.2.2.1,σ.1)) (0,0)).2,σ.1)) 0≥σ.q5.q8))=true then M.pure (Step.next (σ.1,
 σ.2.1,σ.2.2.1,IntKind.wrap .i64 (Add.add σ.2.2.2.1 1),σ.2.2.2.2.1,σ.q5,σ.q6,σ.q7,())) else M.pure (Step.next (σ.1,σ.2.1,σ.2.2.1,σ.2.2.2.1,
 σ.2.2.2.2.1,σ.q5,σ.q6,σ.q7,())))))))))) (Step.go fun (σ:Int×List (List Int)×Int×Int×Int×Ctr×List Int×List Int×Unit)=>M.pure
 (Step.next (σ.1,σ.2.1,σ.2.2.1,σ.2.2.2.1,IntKind.wrap .i64 (Add.add σ.2.2.2.2.1 1),σ.q5,σ.q6,σ.q7,()))) else M.bind (M.pure (Step.next (σ.1,
 σ.2.1,σ.2.2.1,σ.2.2.2.1,σ.q5,σ.q6,σ.q7,()))) fun r=>M.pure (Step.done r)) (σ.1,σ.2.1,σ.2.2.1,0,0,σ.2.2.2.1,σ.2.2.2.2.1,σ.q5,()))
 (Step.go fun (σ:Int×List (List Int)×Int×Int×Ctr×List Int×List Int×Unit)=>M.bind (if decide (σ.2.2.2.1 > 0)=true then M.req (lenLe
 (Add.add (List.length σ.q6) (Add.add 0 1))) (M.pure (Step.next (σ.1,σ.2.1,σ.2.2.1,σ.2.2.2.1,σ.2.2.2.2.1,σ.q5,σ.q6++[σ.2.2.1],()))) else
 M.pure (Step.next (σ.1,σ.2.1,σ.2.2.1,σ.2.2.2.1,σ.2.2.2.2.1,σ.q5,σ.q6,()))) (Step.go fun (σ:Int×List (List Int)×Int×Int×Ctr×List
 Int×List Int×Unit)=>if decide (σ.2.2.2.1=Int.ofNat (List.length σ.2.1))=true then M.req (lenLe (Add.add (List.length σ.q5) (Add.add 0 1)))
 (M.pure (Step.next (σ.1,σ.2.1,σ.2.2.1,σ.2.2.2.2.1,σ.q5++[σ.2.2.1],σ.q6,()))) else M.pure (Step.next (σ.1,σ.2.1,σ.2.2.1,σ.2.2.2.2.1,σ.q5,
 σ.q6,()))))) (Step.go fun (σ:Int×List (List Int)×Int×Ctr×List Int×List Int×Unit)=>M.pure (Step.next (σ.1,σ.2.1,IntKind.wrap .i64
 (Add.add σ.2.2.1 1),σ.2.2.2.1,σ.2.2.2.2.1,σ.q5,()))) else M.bind (M.pure (Step.next (σ.2.2.2.2.1,σ.q5,()))) fun r=>M.pure (Step.done r))
 (x.2,(M.val (c_ref09_known (x.1,M.val (c_ref09_within (x.2,0,9999)) false)) ([],0)).1,0,x.1,[],[],())) (Step.go fun (σ:List Int×List
 Int×Unit)=>M.pure (σ.1,σ.2.1,0))))
def S_hire_read (c_hire_Check:Ctr→M Int) (c_hire_onceIO:List Slip×Unit→M (Bool×List Slip×Unit)) (c_slices_DeleteFunc:(Int×Int×Int×Int×Int×Int→M Bool)×List Slip×Unit→M ((Nat×Nat)×List Slip×Unit)) (c_hire_book_search:List Int×Cells→M (Cells)) (c_hire_read_c1:Slip×Option Ctr→M Bool) (x:Ctr×(Option Book→M Bool)):M (Option Book×Int):=
 M.bind (c_hire_Check x.1) fun y=>if decide (y≠0)=true then M.pure (none,y) else M.bind (c_hire_onceIO (x.1.2.1,())) fun y=>M.req True
 (M.req True (M.bind (c_slices_DeleteFunc (fun x_1=>c_hire_read_c1 (x_1,some x.1),y.2.1,())) fun y=>M.req True (M.bind (M.bind (x.2 (some (x.1,
 List.drop y.1.1 (List.take y.1.2 y.2.1),[]))) fun y_1=>if (!y_1)=true then M.bind (M.pure (none,1)) fun r=>M.pure (Step.done r) else M.pure
 (Step.next (x.1.1,x.1.2.1,x.1.2.2.1,x.1.2.2.2.1,x.1.2.2.2.2.1,x.1.q5,x.1.q6,x.1.q7,x.1.q8,x.1.q9,x.1.2.2.2.2.2.2.2.2.2.2,y.1,y.2.1,[],
 ()))) (Step.go fun (σ:List (Int×Int)×List Slip×List Int×List (Int×Int)×Int×Int×Int×Int×Int×Int×Int×(Nat×Nat)×List
 Slip×List (Option Tru)×Unit)=>M.bind (c_hire_book_search ([],σ.1,σ.2.1,σ.2.2.1,σ.2.2.2.1,σ.2.2.2.2.1,σ.q5,σ.q6,σ.q7,σ.q8,σ.q9,σ.q10,
 List.drop σ.q11.1 (List.take σ.q11.2 σ.q12),σ.q13,())) fun y=>M.req True (if decide (Int.ofNat (List.length y.q12)=0)=true then M.pure (none,
 3) else M.pure (some ((y.1,y.2.1,y.2.2.1,y.2.2.2.1,y.2.2.2.2.1,y.q5,y.q6,y.q7,y.q8,y.q9,y.q10),y.q11,y.q12),0))))))
def S_hire_Where_c1 (c_hire_within:Int×Int×Int→M Bool) (c_hire_isMinute:Int→M Bool) (x:Option Book×Option Int×Option Int):M Bool:=
 (M.bind (c_hire_within (Option.getD x.2.1 0,0,9)) fun y=>M.bind (gdo y (c_hire_isMinute (Option.getD x.2.2 0)) false) fun y_1=>M.pure (y&&
 y_1))
def S_hire_within (x:Int×Int×Int):M Bool:=
 M.pure (decide (x.2.1≤x.1)&&decide (x.1≤x.2.2))
def S_hire_isMinute (c_hire_within:Int×Int×Int→M Bool) (x:Int):M Bool:=
 M.bind (c_hire_within (x,0,9999)) fun y=>M.pure y
def S_hire_truth_with (x:Option Tru×Int×Int):M (Ev×Bool):=
 M.bind (M.req (Option.isSome x.1=true) (M.req (0≤x.2.1∧x.2.1<Int.ofNat 10) (M.loop (fun (σ:Int×Bool×List Ev×Int×Int×Ev×Ev×
 Unit)=>if decide (σ.2.2.2.2.1<σ.2.2.2.1)=true then M.bind (M.req (0≤σ.2.2.2.2.1∧σ.2.2.2.2.1<Int.ofNat (List.length σ.2.2.1)) (if decide
 ((List.getD σ.2.2.1 (Int.toNat σ.2.2.2.2.1) ((0,0,0,0,0,0),0)).2≤σ.1)=true then M.pure (Step.next (σ.1,decide ((List.getD σ.2.2.1
 (Int.toNat σ.2.2.2.2.1) ((0,0,0,0,0,0),0)).1.2.2.2.1=1),σ.2.2.1,σ.2.2.2.1,σ.2.2.2.2.1,σ.q5,List.getD σ.2.2.1 (Int.toNat σ.2.2.2.2.1)
 ((0,0,0,0,0,0),0),())) else M.pure (Step.next (σ.1,σ.2.1,σ.2.2.1,σ.2.2.2.1,σ.2.2.2.2.1,σ.q5,σ.q6,())))) (Step.go fun (σ:Int×Bool×
 List Ev×Int×Int×Ev×Ev×Unit)=>M.pure (Step.next (σ.1,σ.2.1,σ.2.2.1,σ.2.2.2.1,IntKind.wrap .i64 (Add.add σ.2.2.2.2.1 1),σ.q5,σ.q6,
 ()))) else M.bind (M.pure (Step.next (σ.2.1,σ.q5,σ.q6,()))) fun r=>M.pure (Step.done r)) (x.2.2,false,List.getD (Option.getD x.1 ([],[[],[],
 [],[],[],[],[],[],[],[]])).2 (Int.toNat x.2.1) [],Int.ofNat (List.length (List.getD (Option.getD x.1 ([],[[],[],[],[],[],[],[],[],
 [],[]])).2 (Int.toNat x.2.1) [])),0,((0,0,0,0,0,0),0),((0,0,0,0,0,0),0),())))) (Step.go fun (σ:Bool×Ev×Ev×Unit)=>M.pure
 (σ.2.2.1,σ.1))
def S_slices_Sorted_int (c_slices_Sort:List Int×Unit→M (List Int×Unit)) (c_slices_Collect:(List Int→Prop)×Unit→M (List Int×Unit)) (x:List Int→Prop):M (List Int):=
 M.bind (c_slices_Collect (x,())) fun y=>M.bind (c_slices_Sort (y.1,())) fun y=>M.pure y.1
def S_maps_Keys_map_int_int_int_int (its_88:Option (List (Int×Int))→List Int→Prop) (x:List (Int×Int)):M (List Int→Prop):=
 M.pure (its_88 (some x))
def S_hire_lasts (c_hire_read:Ctr×(Option Book→M Bool)→M (Option Book×Int)) (c_hire_book_span:Option Book×(Option Tru→M (Int×Bool))→M ((Int×Int)×Bool)) (c_hire_lasts_c1:Option Book×Option Int→M Bool) (c_hire_lasts_c2:Option Tru×Option (Option Book)×Option Int×Option (Int→M Int)→M (Int×Bool)) (x:Ctr×Int×(Int→M Int)):M ((Int×Int)×Int):=
 M.bind (c_hire_read (x.1,fun x_1=>c_hire_lasts_c1 (x_1,some x.2.1))) fun y=>if decide (y.2≠0)=true then M.pure ((0,0),y.2) else M.bind
 (c_hire_book_span (y.1,fun x_1=>c_hire_lasts_c2 (x_1,some y.1,some x.2.1,some x.2.2))) fun y=>if (!y.2)=true then M.pure ((0,0),3) else
 M.pure (y.1,0)
def S_hire_Fee_c1 (c_hire_fee:Tar×Int→M Int) (x:Int×Option Ctr):M Int:=
 (M.bind (c_hire_fee ((Option.getD x.2 ([],[],[],[],0,0,0,0,0,0,0)).2.2.2.2,x.1)) fun y=>M.pure y)
def S_hire_fee (x:Tar×Int):M Int:=
 if decide (x.2≥x.1.2.2.2.2.1)=true then M.pure x.1.q5 else M.req (x.1.2.1≠0) (M.pure (if IntKind.wrap .i64 (x.1.2.2.1*IntKind.wrap .i64
 (Int.tdiv (IntKind.wrap .i64 (IntKind.wrap .i64 (Add.add (if IntKind.wrap .i64 (x.2 - x.1.1) > 0 then IntKind.wrap .i64 (x.2 - x.1.1) else 0)
 x.1.2.1) - 1)) x.1.2.1))<x.1.2.2.2.1 then IntKind.wrap .i64 (x.1.2.2.1*IntKind.wrap .i64 (Int.tdiv (IntKind.wrap .i64 (IntKind.wrap .i64 (Add.add
 (if IntKind.wrap .i64 (x.2 - x.1.1) > 0 then IntKind.wrap .i64 (x.2 - x.1.1) else 0) x.1.2.1) - 1)) x.1.2.1)) else x.1.2.2.2.1))
def S_hire_Held_c1 (c_hire_isMinute:Int→M Bool) (x:Option Book×Option Int):M Bool:=
 (M.bind (c_hire_isMinute (Option.getD x.2 0)) fun y=>M.pure y)
def S_hire_book_span (x:Option Book×(Option Tru→M (Int×Bool))):M ((Int×Int)×Bool):=
 M.bind (M.req (Option.isSome x.1=true) (M.loop (fun (σ:(Option Tru→M (Int×Bool))×Bool×List (Option Tru)×Int×Int×(Int×Int)×Unit)
 =>if decide (σ.2.2.2.2.1<σ.2.2.2.1)=true then M.bind (M.req (0≤σ.2.2.2.2.1∧σ.2.2.2.2.1<Int.ofNat (List.length σ.2.2.1)) (M.bind (σ.1
 (List.getD σ.2.2.1 (Int.toNat σ.2.2.2.2.1) none)) fun y=>if (!y.2)=true then M.pure (Step.next (σ.1,σ.2.1,σ.2.2.1,σ.2.2.2.1,σ.2.2.2.2.1,
 σ.q5,())) else if (!σ.2.1)=true then M.pure (Step.next (σ.1,true,σ.2.2.1,σ.2.2.2.1,σ.2.2.2.2.1,(y.1,y.1),())) else M.pure (Step.next (σ.1,
 σ.2.1,σ.2.2.1,σ.2.2.2.1,σ.2.2.2.2.1,(if y.1<σ.q5.1 then y.1 else σ.q5.1,if y.1 > σ.q5.2 then y.1 else σ.q5.2),())))) (Step.go fun (σ :
 (Option Tru→M (Int×Bool))×Bool×List (Option Tru)×Int×Int×(Int×Int)×Unit)=>M.pure (Step.next (σ.1,σ.2.1,σ.2.2.1,σ.2.2.2.1,
 IntKind.wrap .i64 (Add.add σ.2.2.2.2.1 1),σ.q5,()))) else M.bind (M.pure (Step.next (σ.2.1,σ.q5,()))) fun r=>M.pure (Step.done r)) (x.2,false,
 (Option.getD x.1 (([],[],[],[],0,0,0,0,0,0,0),[],[])).2.2,Int.ofNat (List.length (Option.getD x.1 (([],[],[],[],0,0,0,0,0,0,
 0),[],[])).2.2),0,(0,0),()))) (Step.go fun (σ:Bool×(Int×Int)×Unit)=>M.pure (σ.2.1,σ.1))
def S_hire_Held_c2 (c_hire_truth_with:Option Tru×Int×Int→M (Ev×Bool)) (x:Option Tru×Option Int×Option Ctr):M (Int×Bool):=
 (M.bind (M.loop (fun (σ:Option Tru×Int×Ctr×Int×Int×Unit)=>if decide (σ.2.2.2.2.1<10)=true then M.bind (M.bind (c_hire_truth_with
 (σ.1,σ.2.2.2.2.1,σ.2.1)) fun y=>if y.2=true then M.pure (Step.next (σ.1,σ.2.1,σ.2.2.1,IntKind.wrap .i64 (Add.add σ.2.2.2.1
 σ.2.2.1.2.2.2.2.2.2.2.2.2.2),σ.2.2.2.2.1,())) else M.pure (Step.next (σ.1,σ.2.1,σ.2.2.1,σ.2.2.2.1,σ.2.2.2.2.1,()))) (Step.go fun (σ:Option
 Tru×Int×Ctr×Int×Int×Unit)=>M.pure (Step.next (σ.1,σ.2.1,σ.2.2.1,σ.2.2.2.1,IntKind.wrap .i64 (Add.add σ.2.2.2.2.1 1),()))) else
 M.bind (M.pure (Step.next (σ.2.2.2.1,()))) fun r=>M.pure (Step.done r)) (x.1,Option.getD x.2.1 0,Option.getD x.2.2 ([],[],[],[],0,0,0,0,
 0,0,0),0,0,())) (Step.go fun (σ:Int×Unit)=>M.pure (σ.1,true)))
def S_ref09_once (x:List Slip):M (List Slip):=
 M.bind (M.loop (fun (σ:List Slip×Int×List Slip×Unit)=>if decide (σ.2.1≤99)=true then M.bind (M.loop (fun (σ:List Slip×Int×Int×
 List Slip×Unit)=>if decide (σ.2.2.1<Int.ofNat (List.length σ.1))=true then M.req (0≤σ.2.2.1∧σ.2.2.1<Int.ofNat (List.length σ.1)) (if
 decide ((List.getD σ.1 (Int.toNat σ.2.2.1) (0,0,0,0,0,0)).1=σ.2.1)=true then M.req (0≤σ.2.2.1∧σ.2.2.1<Int.ofNat (List.length σ.1))
 (M.req (lenLe (Add.add (List.length σ.2.2.2.1) (Add.add 0 1))) (M.bind (M.pure (Step.next (σ.1,σ.2.1,σ.2.2.2.1++[List.getD σ.1 (Int.toNat
 σ.2.2.1) (0,0,0,0,0,0)],()))) fun r=>M.pure (Step.done r))) else M.pure (Step.next (σ.1,σ.2.1,IntKind.wrap .i64 (Add.add σ.2.2.1 1),
 σ.2.2.2.1,()))) else M.bind (M.pure (Step.next (σ.1,σ.2.1,σ.2.2.2.1,()))) fun r=>M.pure (Step.done r)) (σ.1,σ.2.1,0,σ.2.2.1,())) (Step.go
 fun (σ:List Slip×Int×List Slip×Unit)=>M.pure (Step.next (σ.1,IntKind.wrap .i64 (Add.add σ.2.1 1),σ.2.2.1,()))) else M.bind (M.pure
 (Step.next (σ.2.2.1,()))) fun r=>M.pure (Step.done r)) (x,0,[],())) (Step.go fun (σ:List Slip×Unit)=>M.pure σ.1)
def S_ref09_in (c_ref07_In:List Int×Int→M Bool) (x:List Int×Int):M Bool:=
 M.bind (c_ref07_In x) fun y=>M.pure y
def S_hire_isId (c_hire_within:Int×Int×Int→M Bool) (x:Int):M Bool:=
 M.bind (c_hire_within (x,0,99)) fun y=>M.pure y
def S_hire_book_hires (its_94:Option (Option Tru)×Option (Option Book)→List Ev→Prop) (x:Option Book×Option Tru):M (List Ev→Prop):=
 M.pure (its_94 (some x.2,some x.1))
def S_hire_isCounter (c_hire_within:Int×Int×Int→M Bool) (c_slices_ContainsFunc_api_Slip_api_Slip:List Slip×(Int×Int×Int×Int×Int×Int→M Bool)→M Bool) (c_hire_isTariff:Int×Int×Int×Int×Int×Int×Int→M Bool) (c_slices_ContainsFunc_int_int:List Int×(Int→M Bool)→M Bool) (c_hire_isCounter_c1:Slip×Option Ctr→M Bool) (c_hire_isCounter_c2:Int→M Bool) (x:Ctr):M Bool:=
 M.bind (gdo (!(decide (Int.ofNat (List.length x.1) > 3)||decide (Int.ofNat (List.length x.2.1) > 12)||decide (Int.ofNat (List.length x.2.2.1) >
 12)||decide (Int.ofNat (List.length x.2.2.2.1) > 4))) (c_hire_isTariff x.2.2.2.2) false) fun y=>if (decide (Int.ofNat (List.length x.1) > 3)||
 decide (Int.ofNat (List.length x.2.1) > 12)||decide (Int.ofNat (List.length x.2.2.1) > 12)||decide (Int.ofNat (List.length x.2.2.2.1) > 4)||!y)
 =true then M.pure false else M.bind (M.loop (fun (σ:List (Int×Int)×Int×Int×Ctr×Unit)=>if decide (σ.2.2.1<σ.2.1)=true then M.req (0
 ≤σ.2.2.1∧σ.2.2.1<Int.ofNat (List.length σ.1)) (M.bind (c_hire_within ((List.getD σ.1 (Int.toNat σ.2.2.1) (0,0)).1,-30,(List.getD σ.1
 (Int.toNat σ.2.2.1) (0,0)).2)) fun y=>if (!y||decide ((List.getD σ.1 (Int.toNat σ.2.2.1) (0,0)).2 > 30))=true then M.bind (M.bind (M.pure
 false) fun r=>M.pure (Step.done r)) fun r=>M.pure (Step.done r) else M.pure (Step.next (σ.1,σ.2.1,IntKind.wrap .i64 (Add.add σ.2.2.1 1),
 σ.2.2.2.1,()))) else M.bind (M.pure (Step.next (σ.2.2.2.1,()))) fun r=>M.pure (Step.done r)) (x.1,Int.ofNat (List.length x.1),0,x,()))
 (Step.go fun (σ:Ctr×Unit)=>M.bind (M.loop (fun (σ:List (Int×Int)×Int×Int×Ctr×Unit)=>if decide (σ.2.2.1<σ.2.1)=true then M.req
 (0≤σ.2.2.1∧σ.2.2.1<Int.ofNat (List.length σ.1)) (M.req (c_hire_within ((List.getD σ.1 (Int.toNat σ.2.2.1) (0,0)).1,0,(List.getD σ.1
 (Int.toNat σ.2.2.1) (0,0)).2)).safe (M.req ((!!M.val (c_hire_within ((List.getD σ.1 (Int.toNat σ.2.2.1) (0,0)).1,0,(List.getD σ.1 (Int.toNat
 σ.2.2.1) (0,0)).2)) false)=true→(!!M.val (c_hire_within ((List.getD σ.1 (Int.toNat σ.2.2.1) (0,0)).1,0,(List.getD σ.1 (Int.toNat σ.2.2.1) (0,
 0)).2)) false)=true∧True∧True) (M.req ((!!M.val (c_hire_within ((List.getD σ.1 (Int.toNat σ.2.2.1) (0,0)).1,0,(List.getD σ.1 (Int.toNat
 σ.2.2.1) (0,0)).2)) false)=true→((!!M.val (c_hire_within ((List.getD σ.1 (Int.toNat σ.2.2.1) (0,0)).1,0,(List.getD σ.1 (Int.toNat σ.2.2.1)
 (0,0)).2)) false)=true∧True)∧True∧True) (M.req (True∧((!M.val (c_hire_within ((List.getD σ.1 (Int.toNat σ.2.2.1) (0,0)).1,0,(List.getD
 σ.1 (Int.toNat σ.2.2.1) (0,0)).2)) false)=false→(!!M.val (c_hire_within ((List.getD σ.1 (Int.toNat σ.2.2.1) (0,0)).1,0,(List.getD σ.1
 (Int.toNat σ.2.2.1) (0,0)).2)) false)=true)) (M.req ((!(!M.val (c_hire_within ((List.getD σ.1 (Int.toNat σ.2.2.1) (0,0)).1,0,(List.getD σ.1
 (Int.toNat σ.2.2.1) (0,0)).2)) false||decide ((List.getD σ.1 (Int.toNat σ.2.2.1) (0,0)).2 > 9999)))=true→((!(!M.val (c_hire_within
 ((List.getD σ.1 (Int.toNat σ.2.2.1) (0,0)).1,0,(List.getD σ.1 (Int.toNat σ.2.2.1) (0,0)).2)) false||decide ((List.getD σ.1 (Int.toNat σ.2.2.1)
 (0,0)).2 > 9999)))=true∧True)∧True∧True) (M.req ((!(!M.val (c_hire_within ((List.getD σ.1 (Int.toNat σ.2.2.1) (0,0)).1,0,(List.getD σ.1
 (Int.toNat σ.2.2.1) (0,0)).2)) false||decide ((List.getD σ.1 (Int.toNat σ.2.2.1) (0,0)).2 > 9999)))=true→True∧True∧(!(!M.val
 (c_hire_within ((List.getD σ.1 (Int.toNat σ.2.2.1) (0,0)).1,0,(List.getD σ.1 (Int.toNat σ.2.2.1) (0,0)).2)) false||decide ((List.getD σ.1
 (Int.toNat σ.2.2.1) (0,0)).2 > 9999)))=true) (M.req ((!(!M.val (c_hire_within ((List.getD σ.1 (Int.toNat σ.2.2.1) (0,0)).1,0,(List.getD σ.1
 (Int.toNat σ.2.2.1) (0,0)).2)) false||decide ((List.getD σ.1 (Int.toNat σ.2.2.1) (0,0)).2 > 9999))&&decide (σ.2.2.1 > 0))=true→(!(!M.val
 (c_hire_within ((List.getD σ.1 (Int.toNat σ.2.2.1) (0,0)).1,0,(List.getD σ.1 (Int.toNat σ.2.2.1) (0,0)).2)) false||decide ((List.getD σ.1
 (Int.toNat σ.2.2.1) (0,0)).2 > 9999))&&decide (σ.2.2.1 > 0))=true∧True∧True) (M.req ((!(!M.val (c_hire_within ((List.getD σ.1 (Int.toNat
 σ.2.2.1) (0,0)).1,0,(List.getD σ.1 (Int.toNat σ.2.2.1) (0,0)).2)) false||decide ((List.getD σ.1 (Int.toNat σ.2.2.1) (0,0)).2 > 9999))&&
 decide (σ.2.2.1 > 0))=true→(!(!M.val (c_hire_within ((List.getD σ.1 (Int.toNat σ.2.2.1) (0,0)).1,0,(List.getD σ.1 (Int.toNat σ.2.2.1) (0,
 0)).2)) false||decide ((List.getD σ.1 (Int.toNat σ.2.2.1) (0,0)).2 > 9999))&&decide (σ.2.2.1 > 0))=true∧True∧True) (M.req ((!(!M.val
 (c_hire_within ((List.getD σ.1 (Int.toNat σ.2.2.1) (0,0)).1,0,(List.getD σ.1 (Int.toNat σ.2.2.1) (0,0)).2)) false||decide ((List.getD σ.1
 (Int.toNat σ.2.2.1) (0,0)).2 > 9999))&&decide (σ.2.2.1 > 0))=true→((!(!M.val (c_hire_within ((List.getD σ.1 (Int.toNat σ.2.2.1) (0,0)).1,0,
 (List.getD σ.1 (Int.toNat σ.2.2.1) (0,0)).2)) false||decide ((List.getD σ.1 (Int.toNat σ.2.2.1) (0,0)).2 > 9999))&&decide (σ.2.2.1 > 0))=true
 ∧True)∧True∧True) (M.req ((!(!M.val (c_hire_within ((List.getD σ.1 (Int.toNat σ.2.2.1) (0,0)).1,0,(List.getD σ.1 (Int.toNat σ.2.2.1) (0,
 0)).2)) false||decide ((List.getD σ.1 (Int.toNat σ.2.2.1) (0,0)).2 > 9999))&&decide (σ.2.2.1 > 0))=true→((!(!M.val (c_hire_within
 ((List.getD σ.1 (Int.toNat σ.2.2.1) (0,0)).1,0,(List.getD σ.1 (Int.toNat σ.2.2.1) (0,0)).2)) false||decide ((List.getD σ.1 (Int.toNat σ.2.2.1)
 (0,0)).2 > 9999))&&decide (σ.2.2.1 > 0))=true∧(!(!M.val (c_hire_within ((List.getD σ.1 (Int.toNat σ.2.2.1) (0,0)).1,0,(List.getD σ.1
 (Int.toNat σ.2.2.1) (0,0)).2)) false||decide ((List.getD σ.1 (Int.toNat σ.2.2.1) (0,0)).2 > 9999))&&decide (σ.2.2.1 > 0))=true)∧(0≤
 IntKind.wrap .i64 (σ.2.2.1 - 1)∧IntKind.wrap .i64 (σ.2.2.1 - 1)<Int.ofNat (List.length σ.2.2.2.1.2.2.2.1))∧True) (M.req ((!(!M.val
 (c_hire_within ((List.getD σ.1 (Int.toNat σ.2.2.1) (0,0)).1,0,(List.getD σ.1 (Int.toNat σ.2.2.1) (0,0)).2)) false||decide ((List.getD σ.1
 (Int.toNat σ.2.2.1) (0,0)).2 > 9999))&&decide (σ.2.2.1 > 0))=true→(!(!M.val (c_hire_within ((List.getD σ.1 (Int.toNat σ.2.2.1) (0,0)).1,0,
 (List.getD σ.1 (Int.toNat σ.2.2.1) (0,0)).2)) false||decide ((List.getD σ.1 (Int.toNat σ.2.2.1) (0,0)).2 > 9999))&&decide (σ.2.2.1 > 0))=true
 ∧True∧True) (M.req ((!(!M.val (c_hire_within ((List.getD σ.1 (Int.toNat σ.2.2.1) (0,0)).1,0,(List.getD σ.1 (Int.toNat σ.2.2.1) (0,0)).2))
 false||decide ((List.getD σ.1 (Int.toNat σ.2.2.1) (0,0)).2 > 9999))&&decide (σ.2.2.1 > 0))=true→(!(!M.val (c_hire_within ((List.getD σ.1
 (Int.toNat σ.2.2.1) (0,0)).1,0,(List.getD σ.1 (Int.toNat σ.2.2.1) (0,0)).2)) false||decide ((List.getD σ.1 (Int.toNat σ.2.2.1) (0,0)).2 >
 9999))&&decide (σ.2.2.1 > 0))=true∧True∧True) (M.req ((!(!M.val (c_hire_within ((List.getD σ.1 (Int.toNat σ.2.2.1) (0,0)).1,0,(List.getD
 σ.1 (Int.toNat σ.2.2.1) (0,0)).2)) false||decide ((List.getD σ.1 (Int.toNat σ.2.2.1) (0,0)).2 > 9999))&&decide (σ.2.2.1 > 0))=true→
 ((!(!M.val (c_hire_within ((List.getD σ.1 (Int.toNat σ.2.2.1) (0,0)).1,0,(List.getD σ.1 (Int.toNat σ.2.2.1) (0,0)).2)) false||decide
 ((List.getD σ.1 (Int.toNat σ.2.2.1) (0,0)).2 > 9999))&&decide (σ.2.2.1 > 0))=true∧(!(!M.val (c_hire_within ((List.getD σ.1 (Int.toNat σ.2.2.1)
 (0,0)).1,0,(List.getD σ.1 (Int.toNat σ.2.2.1) (0,0)).2)) false||decide ((List.getD σ.1 (Int.toNat σ.2.2.1) (0,0)).2 > 9999))&&decide
 (σ.2.2.1 > 0))=true)∧True∧True) (M.req ((!(!M.val (c_hire_within ((List.getD σ.1 (Int.toNat σ.2.2.1) (0,0)).1,0,(List.getD σ.1 (Int.toNat
 σ.2.2.1) (0,0)).2)) false||decide ((List.getD σ.1 (Int.toNat σ.2.2.1) (0,0)).2 > 9999)))=true→((!(!M.val (c_hire_within ((List.getD σ.1
 (Int.toNat σ.2.2.1) (0,0)).1,0,(List.getD σ.1 (Int.toNat σ.2.2.1) (0,0)).2)) false||decide ((List.getD σ.1 (Int.toNat σ.2.2.1) (0,0)).2 >
 9999)))=true∧(decide (σ.2.2.1 > 0)=true→(!(!M.val (c_hire_within ((List.getD σ.1 (Int.toNat σ.2.2.1) (0,0)).1,0,(List.getD σ.1 (Int.toNat
 σ.2.2.1) (0,0)).2)) false||decide ((List.getD σ.1 (Int.toNat σ.2.2.1) (0,0)).2 > 9999))&&decide (σ.2.2.1 > 0))=true))∧True∧True) (M.req
 (True∧((!M.val (c_hire_within ((List.getD σ.1 (Int.toNat σ.2.2.1) (0,0)).1,0,(List.getD σ.1 (Int.toNat σ.2.2.1) (0,0)).2)) false||decide
 ((List.getD σ.1 (Int.toNat σ.2.2.1) (0,0)).2 > 9999))=false→(!(!M.val (c_hire_within ((List.getD σ.1 (Int.toNat σ.2.2.1) (0,0)).1,0,
 (List.getD σ.1 (Int.toNat σ.2.2.1) (0,0)).2)) false||decide ((List.getD σ.1 (Int.toNat σ.2.2.1) (0,0)).2 > 9999)))=true)) (if (!M.val
 (c_hire_within ((List.getD σ.1 (Int.toNat σ.2.2.1) (0,0)).1,0,(List.getD σ.1 (Int.toNat σ.2.2.1) (0,0)).2)) false||decide ((List.getD σ.1
 (Int.toNat σ.2.2.1) (0,0)).2 > 9999)||decide (σ.2.2.1 > 0)&&decide ((List.getD σ.1 (Int.toNat σ.2.2.1) (0,0)).1≤(List.getD σ.2.2.2.1.2.2.2.1
 (Int.toNat (IntKind.wrap .i64 (σ.2.2.1 - 1))) (0,0)).2))=true then M.bind (M.bind (M.pure false) fun r=>M.pure (Step.done r)) fun r=>M.pure
 (Step.done r) else M.pure (Step.next (σ.1,σ.2.1,IntKind.wrap .i64 (Add.add σ.2.2.1 1),σ.2.2.2.1,())))))))))))))))))) else M.bind (M.pure
 (Step.next (σ.2.2.2.1,()))) fun r=>M.pure (Step.done r)) (σ.1.2.2.2.1,Int.ofNat (List.length σ.1.2.2.2.1),0,σ.1,())) (Step.go fun (σ:Ctr×
 Unit)=>M.bind (c_slices_ContainsFunc_api_Slip_api_Slip (σ.1.2.1,fun x=>c_hire_isCounter_c1 (x,some σ.1))) fun y=>M.bind (gdo (!y)
 (c_slices_ContainsFunc_int_int (σ.1.2.2.1,c_hire_isCounter_c2)) false) fun y_1=>M.pure (!y&&!y_1)))
def S_hire_once (c_slices_Sorted_int:(List Int→Prop)→M (List Int)) (c_maps_Keys_map_int_api_Slip_int_api_Slip:List (Int×Slip)→M (List Int→Prop)) (x:List Slip):M (List Slip×Bool):=
 M.bind (M.loop (fun (σ:List Slip×Int×Int×List (Int×Slip)×Unit)=>if decide (σ.2.2.1<σ.2.1)=true then M.req (0≤σ.2.2.1∧σ.2.2.1 <
 Int.ofNat (List.length σ.1)) (if (Option.isSome (Option.map (fun x=>x.2) (List.find? (fun p=>decide ((List.getD σ.1 (Int.toNat σ.2.2.1) (0,0,0,
 0,0,0)).1=p.1)) σ.2.2.2.1))&&!(decide ((Option.getD (Option.map (fun x=>x.2) (List.find? (fun p=>decide ((List.getD σ.1 (Int.toNat σ.2.2.1)
 (0,0,0,0,0,0)).1=p.1)) σ.2.2.2.1)) (0,0,0,0,0,0)).1=(List.getD σ.1 (Int.toNat σ.2.2.1) (0,0,0,0,0,0)).1)&&(decide ((Option.getD
 (Option.map (fun x=>x.2) (List.find? (fun p=>decide ((List.getD σ.1 (Int.toNat σ.2.2.1) (0,0,0,0,0,0)).1=p.1)) σ.2.2.2.1)) (0,0,0,0,0,
 0)).2.1=(List.getD σ.1 (Int.toNat σ.2.2.1) (0,0,0,0,0,0)).2.1)&&(decide ((Option.getD (Option.map (fun x=>x.2) (List.find? (fun p=>
 decide ((List.getD σ.1 (Int.toNat σ.2.2.1) (0,0,0,0,0,0)).1=p.1)) σ.2.2.2.1)) (0,0,0,0,0,0)).2.2.1=(List.getD σ.1 (Int.toNat σ.2.2.1)
 (0,0,0,0,0,0)).2.2.1)&&(decide ((Option.getD (Option.map (fun x=>x.2) (List.find? (fun p=>decide ((List.getD σ.1 (Int.toNat σ.2.2.1) (0,
 0,0,0,0,0)).1=p.1)) σ.2.2.2.1)) (0,0,0,0,0,0)).2.2.2.1=(List.getD σ.1 (Int.toNat σ.2.2.1) (0,0,0,0,0,0)).2.2.2.1)&&(decide
 ((Option.getD (Option.map (fun x=>x.2) (List.find? (fun p=>decide ((List.getD σ.1 (Int.toNat σ.2.2.1) (0,0,0,0,0,0)).1=p.1)) σ.2.2.2.1))
 (0,0,0,0,0,0)).2.2.2.2.1=(List.getD σ.1 (Int.toNat σ.2.2.1) (0,0,0,0,0,0)).2.2.2.2.1)&&decide ((Option.getD (Option.map (fun x=>x.2)
 (List.find? (fun p=>decide ((List.getD σ.1 (Int.toNat σ.2.2.1) (0,0,0,0,0,0)).1=p.1)) σ.2.2.2.1)) (0,0,0,0,0,0)).2.2.2.2.2=(List.getD
 σ.1 (Int.toNat σ.2.2.1) (0,0,0,0,0,0)).2.2.2.2.2)))))))=true then M.bind (M.bind (M.pure ([],false)) fun r=>M.pure (Step.done r)) fun r=>
 M.pure (Step.done r) else M.pure (Step.next (σ.1,σ.2.1,IntKind.wrap .i64 (Add.add σ.2.2.1 1),msetS σ.2.2.2.1 (List.getD σ.1 (Int.toNat σ.2.2.1)
 (0,0,0,0,0,0)).1 (List.getD σ.1 (Int.toNat σ.2.2.1) (0,0,0,0,0,0)),()))) else M.bind (M.pure (Step.next (σ.2.2.2.1,()))) fun r=>M.pure
 (Step.done r)) (x,Int.ofNat (List.length x),0,[],())) (Step.go fun (σ:List (Int×Slip)×Unit)=>M.bind (M.bind
 (c_maps_Keys_map_int_api_Slip_int_api_Slip σ.1) fun y=>M.bind (c_slices_Sorted_int y) fun y=>M.loop (fun (σ:List Int×Int×Int×List Slip×
 List (Int×Slip)×Unit)=>if decide (σ.2.2.1<σ.2.1)=true then M.req (0≤σ.2.2.1∧σ.2.2.1<Int.ofNat (List.length σ.1)) (M.req (lenLe
 (Add.add (List.length σ.2.2.2.1) (Add.add 0 1))) (M.pure (Step.next (σ.1,σ.2.1,IntKind.wrap .i64 (Add.add σ.2.2.1 1),σ.2.2.2.1++[Option.getD
 (Option.map (fun x=>x.2) (List.find? (fun p=>decide (List.getD σ.1 (Int.toNat σ.2.2.1) 0=p.1)) σ.2.2.2.2.1)) (0,0,0,0,0,0)],σ.2.2.2.2.1,
 ())))) else M.bind (M.pure (Step.next (σ.2.2.2.1,()))) fun r=>M.pure (Step.done r)) (y,Int.ofNat (List.length y),0,[],σ.1,())) (Step.go fun (σ
 : List Slip×Unit)=>M.pure (σ.1,true)))
def S_ref09_isCounter (c_ref09_within:Int×Int×Int→M Bool) (c_ref09_isTariff:Int×Int×Int×Int×Int×Int×Int→M Bool) (c_ref09_isSlip:Ctr×Int×Int×Int×Int×Int×Int→M Bool) (x:Ctr):M Bool:=
 M.bind (gdo (!(decide (Int.ofNat (List.length x.1) > 3)||decide (Int.ofNat (List.length x.2.1) > 12)||decide (Int.ofNat (List.length x.2.2.1) >
 12)||decide (Int.ofNat (List.length x.2.2.2.1) > 4))) (c_ref09_isTariff x.2.2.2.2) false) fun y=>if (decide (Int.ofNat (List.length x.1) > 3)||
 decide (Int.ofNat (List.length x.2.1) > 12)||decide (Int.ofNat (List.length x.2.2.1) > 12)||decide (Int.ofNat (List.length x.2.2.2.1) > 4)||!y)
 =true then M.pure false else M.bind (M.loop (fun (σ:Int×Ctr×Unit)=>if decide (σ.1<Int.ofNat (List.length σ.2.1.1))=true then M.req (0≤
 σ.1∧σ.1<Int.ofNat (List.length σ.2.1.1)) (M.req (0≤σ.1∧σ.1<Int.ofNat (List.length σ.2.1.1)) (M.req (c_ref09_within ((List.getD σ.2.1.1
 (Int.toNat σ.1) (0,0)).1,-30,(List.getD σ.2.1.1 (Int.toNat σ.1) (0,0)).2)).safe (M.req ((!!M.val (c_ref09_within ((List.getD σ.2.1.1 (Int.toNat
 σ.1) (0,0)).1,-30,(List.getD σ.2.1.1 (Int.toNat σ.1) (0,0)).2)) false)=true→(!!M.val (c_ref09_within ((List.getD σ.2.1.1 (Int.toNat σ.1) (0,
 0)).1,-30,(List.getD σ.2.1.1 (Int.toNat σ.1) (0,0)).2)) false)=true∧True∧True) (M.req ((!!M.val (c_ref09_within ((List.getD σ.2.1.1
 (Int.toNat σ.1) (0,0)).1,-30,(List.getD σ.2.1.1 (Int.toNat σ.1) (0,0)).2)) false)=true→((!!M.val (c_ref09_within ((List.getD σ.2.1.1
 (Int.toNat σ.1) (0,0)).1,-30,(List.getD σ.2.1.1 (Int.toNat σ.1) (0,0)).2)) false)=true∧(!!M.val (c_ref09_within ((List.getD σ.2.1.1
 (Int.toNat σ.1) (0,0)).1,-30,(List.getD σ.2.1.1 (Int.toNat σ.1) (0,0)).2)) false)=true)∧(0≤σ.1∧σ.1<Int.ofNat (List.length σ.2.1.1))∧
 True) (M.req ((!!M.val (c_ref09_within ((List.getD σ.2.1.1 (Int.toNat σ.1) (0,0)).1,-30,(List.getD σ.2.1.1 (Int.toNat σ.1) (0,0)).2)) false)=
 true→(!!M.val (c_ref09_within ((List.getD σ.2.1.1 (Int.toNat σ.1) (0,0)).1,-30,(List.getD σ.2.1.1 (Int.toNat σ.1) (0,0)).2)) false)=true∧
 True∧True) (M.req ((!!M.val (c_ref09_within ((List.getD σ.2.1.1 (Int.toNat σ.1) (0,0)).1,-30,(List.getD σ.2.1.1 (Int.toNat σ.1) (0,0)).2))
 false)=true→(!!M.val (c_ref09_within ((List.getD σ.2.1.1 (Int.toNat σ.1) (0,0)).1,-30,(List.getD σ.2.1.1 (Int.toNat σ.1) (0,0)).2)) false)=
 true∧True∧True) (M.req ((!!M.val (c_ref09_within ((List.getD σ.2.1.1 (Int.toNat σ.1) (0,0)).1,-30,(List.getD σ.2.1.1 (Int.toNat σ.1) (0,
 0)).2)) false)=true→((!!M.val (c_ref09_within ((List.getD σ.2.1.1 (Int.toNat σ.1) (0,0)).1,-30,(List.getD σ.2.1.1 (Int.toNat σ.1) (0,0)).2))
 false)=true∧True)∧True∧True) (M.req (True∧((!M.val (c_ref09_within ((List.getD σ.2.1.1 (Int.toNat σ.1) (0,0)).1,-30,(List.getD σ.2.1.1
 (Int.toNat σ.1) (0,0)).2)) false)=false→(!!M.val (c_ref09_within ((List.getD σ.2.1.1 (Int.toNat σ.1) (0,0)).1,-30,(List.getD σ.2.1.1
 (Int.toNat σ.1) (0,0)).2)) false)=true)) (if (!M.val (c_ref09_within ((List.getD σ.2.1.1 (Int.toNat σ.1) (0,0)).1,-30,(List.getD σ.2.1.1
 (Int.toNat σ.1) (0,0)).2)) false||decide ((List.getD σ.2.1.1 (Int.toNat σ.1) (0,0)).2 > 30))=true then M.bind (M.bind (M.pure false) fun r=>
 M.pure (Step.done r)) fun r=>M.pure (Step.done r) else M.pure (Step.next (IntKind.wrap .i64 (Add.add σ.1 1),σ.2.1,()))))))))))) else M.bind
 (M.pure (Step.next (σ.2.1,()))) fun r=>M.pure (Step.done r)) (0,x,())) (Step.go fun (σ:Ctr×Unit)=>M.bind (M.loop (fun (σ:Int×Ctr×
 Unit)=>if decide (σ.1<Int.ofNat (List.length σ.2.1.2.1))=true then M.req (0≤σ.1∧σ.1<Int.ofNat (List.length σ.2.1.2.1)) (M.req
 (c_ref09_isSlip (σ.2.1,List.getD σ.2.1.2.1 (Int.toNat σ.1) (0,0,0,0,0,0))).safe (if (!M.val (c_ref09_isSlip (σ.2.1,List.getD σ.2.1.2.1
 (Int.toNat σ.1) (0,0,0,0,0,0))) false)=true then M.bind (M.bind (M.pure false) fun r=>M.pure (Step.done r)) fun r=>M.pure (Step.done r)
 else M.pure (Step.next (IntKind.wrap .i64 (Add.add σ.1 1),σ.2.1,())))) else M.bind (M.pure (Step.next (σ.2.1,()))) fun r=>M.pure (Step.done r))
 (0,σ.1,())) (Step.go fun (σ:Ctr×Unit)=>M.bind (M.loop (fun (σ:Int×Ctr×Unit)=>if decide (σ.1<Int.ofNat (List.length σ.2.1.2.2.1))=
 true then M.req (0≤σ.1∧σ.1<Int.ofNat (List.length σ.2.1.2.2.1)) (M.bind (c_ref09_within (List.getD σ.2.1.2.2.1 (Int.toNat σ.1) 0,0,99)) fun y
 =>if (!y)=true then M.bind (M.bind (M.pure false) fun r=>M.pure (Step.done r)) fun r=>M.pure (Step.done r) else M.pure (Step.next
 (IntKind.wrap .i64 (Add.add σ.1 1),σ.2.1,()))) else M.bind (M.pure (Step.next (σ.2.1,()))) fun r=>M.pure (Step.done r)) (0,σ.1,())) (Step.go
 fun (σ:Ctr×Unit)=>M.bind (M.loop (fun (σ:Int×Ctr×Unit)=>if decide (σ.1<Int.ofNat (List.length σ.2.1.2.2.2.1))=true then M.req (0≤
 σ.1∧σ.1<Int.ofNat (List.length σ.2.1.2.2.2.1)) (M.req (c_ref09_within ((List.getD σ.2.1.2.2.2.1 (Int.toNat σ.1) (0,0)).1,0,(List.getD
 σ.2.1.2.2.2.1 (Int.toNat σ.1) (0,0)).2)).safe (M.req ((!!M.val (c_ref09_within ((List.getD σ.2.1.2.2.2.1 (Int.toNat σ.1) (0,0)).1,0,(List.getD
 σ.2.1.2.2.2.1 (Int.toNat σ.1) (0,0)).2)) false)=true→(!!M.val (c_ref09_within ((List.getD σ.2.1.2.2.2.1 (Int.toNat σ.1) (0,0)).1,0,(List.getD
 σ.2.1.2.2.2.1 (Int.toNat σ.1) (0,0)).2)) false)=true∧True∧True) (M.req ((!!M.val (c_ref09_within ((List.getD σ.2.1.2.2.2.1 (Int.toNat σ.1) (0,
 0)).1,0,(List.getD σ.2.1.2.2.2.1 (Int.toNat σ.1) (0,0)).2)) false)=true→((!!M.val (c_ref09_within ((List.getD σ.2.1.2.2.2.1 (Int.toNat σ.1)
 (0,0)).1,0,(List.getD σ.2.1.2.2.2.1 (Int.toNat σ.1) (0,0)).2)) false)=true∧True)∧True∧True) (M.req (True∧((!M.val (c_ref09_within
 ((List.getD σ.2.1.2.2.2.1 (Int.toNat σ.1) (0,0)).1,0,(List.getD σ.2.1.2.2.2.1 (Int.toNat σ.1) (0,0)).2)) false)=false→(!!M.val
 (c_ref09_within ((List.getD σ.2.1.2.2.2.1 (Int.toNat σ.1) (0,0)).1,0,(List.getD σ.2.1.2.2.2.1 (Int.toNat σ.1) (0,0)).2)) false)=true)) (M.req
 ((!(!M.val (c_ref09_within ((List.getD σ.2.1.2.2.2.1 (Int.toNat σ.1) (0,0)).1,0,(List.getD σ.2.1.2.2.2.1 (Int.toNat σ.1) (0,0)).2)) false||
 decide ((List.getD σ.2.1.2.2.2.1 (Int.toNat σ.1) (0,0)).2 > 9999)))=true→((!(!M.val (c_ref09_within ((List.getD σ.2.1.2.2.2.1 (Int.toNat σ.1)
 (0,0)).1,0,(List.getD σ.2.1.2.2.2.1 (Int.toNat σ.1) (0,0)).2)) false||decide ((List.getD σ.2.1.2.2.2.1 (Int.toNat σ.1) (0,0)).2 > 9999)))=
 true∧True)∧True∧True) (M.req ((!(!M.val (c_ref09_within ((List.getD σ.2.1.2.2.2.1 (Int.toNat σ.1) (0,0)).1,0,(List.getD σ.2.1.2.2.2.1
 (Int.toNat σ.1) (0,0)).2)) false||decide ((List.getD σ.2.1.2.2.2.1 (Int.toNat σ.1) (0,0)).2 > 9999)))=true→True∧True∧(!(!M.val
 (c_ref09_within ((List.getD σ.2.1.2.2.2.1 (Int.toNat σ.1) (0,0)).1,0,(List.getD σ.2.1.2.2.2.1 (Int.toNat σ.1) (0,0)).2)) false||decide
 ((List.getD σ.2.1.2.2.2.1 (Int.toNat σ.1) (0,0)).2 > 9999)))=true) (M.req ((!(!M.val (c_ref09_within ((List.getD σ.2.1.2.2.2.1 (Int.toNat σ.1) (0,
 0)).1,0,(List.getD σ.2.1.2.2.2.1 (Int.toNat σ.1) (0,0)).2)) false||decide ((List.getD σ.2.1.2.2.2.1 (Int.toNat σ.1) (0,0)).2 > 9999))&&decide
 (σ.1 > 0))=true→(!(!M.val (c_ref09_within ((List.getD σ.2.1.2.2.2.1 (Int.toNat σ.1) (0,0)).1,0,(List.getD σ.2.1.2.2.2.1 (Int.toNat σ.1) (0,
 0)).2)) false||decide ((List.getD σ.2.1.2.2.2.1 (Int.toNat σ.1) (0,0)).2 > 9999))&&decide (σ.1 > 0))=true∧True∧True) (M.req ((!(!M.val
 (c_ref09_within ((List.getD σ.2.1.2.2.2.1 (Int.toNat σ.1) (0,0)).1,0,(List.getD σ.2.1.2.2.2.1 (Int.toNat σ.1) (0,0)).2)) false||decide
 ((List.getD σ.2.1.2.2.2.1 (Int.toNat σ.1) (0,0)).2 > 9999))&&decide (σ.1 > 0))=true→(!(!M.val (c_ref09_within ((List.getD σ.2.1.2.2.2.1
 (Int.toNat σ.1) (0,0)).1,0,(List.getD σ.2.1.2.2.2.1 (Int.toNat σ.1) (0,0)).2)) false||decide ((List.getD σ.2.1.2.2.2.1 (Int.toNat σ.1) (0,
 0)).2 > 9999))&&decide (σ.1 > 0))=true∧True∧True) (M.req ((!(!M.val (c_ref09_within ((List.getD σ.2.1.2.2.2.1 (Int.toNat σ.1) (0,0)).1,0,
 (List.getD σ.2.1.2.2.2.1 (Int.toNat σ.1) (0,0)).2)) false||decide ((List.getD σ.2.1.2.2.2.1 (Int.toNat σ.1) (0,0)).2 > 9999))&&decide (σ.1 >
 0))=true→((!(!M.val (c_ref09_within ((List.getD σ.2.1.2.2.2.1 (Int.toNat σ.1) (0,0)).1,0,(List.getD σ.2.1.2.2.2.1 (Int.toNat σ.1) (0,0)).2))
 false||decide ((List.getD σ.2.1.2.2.2.1 (Int.toNat σ.1) (0,0)).2 > 9999))&&decide (σ.1 > 0))=true∧True)∧True∧True) (M.req ((!(!M.val
 (c_ref09_within ((List.getD σ.2.1.2.2.2.1 (Int.toNat σ.1) (0,0)).1,0,(List.getD σ.2.1.2.2.2.1 (Int.toNat σ.1) (0,0)).2)) false||decide
 ((List.getD σ.2.1.2.2.2.1 (Int.toNat σ.1) (0,0)).2 > 9999))&&decide (σ.1 > 0))=true→((!(!M.val (c_ref09_within ((List.getD σ.2.1.2.2.2.1
 (Int.toNat σ.1) (0,0)).1,0,(List.getD σ.2.1.2.2.2.1 (Int.toNat σ.1) (0,0)).2)) false||decide ((List.getD σ.2.1.2.2.2.1 (Int.toNat σ.1) (0,
 0)).2 > 9999))&&decide (σ.1 > 0))=true∧(!(!M.val (c_ref09_within ((List.getD σ.2.1.2.2.2.1 (Int.toNat σ.1) (0,0)).1,0,(List.getD
 σ.2.1.2.2.2.1 (Int.toNat σ.1) (0,0)).2)) false||decide ((List.getD σ.2.1.2.2.2.1 (Int.toNat σ.1) (0,0)).2 > 9999))&&decide (σ.1 > 0))=true)∧
 (0≤IntKind.wrap .i64 (σ.1 - 1)∧IntKind.wrap .i64 (σ.1 - 1)<Int.ofNat (List.length σ.2.1.2.2.2.1))∧True) (M.req ((!(!M.val (c_ref09_within
 ((List.getD σ.2.1.2.2.2.1 (Int.toNat σ.1) (0,0)).1,0,(List.getD σ.2.1.2.2.2.1 (Int.toNat σ.1) (0,0)).2)) false||decide ((List.getD
 σ.2.1.2.2.2.1 (Int.toNat σ.1) (0,0)).2 > 9999))&&decide (σ.1 > 0))=true→(!(!M.val (c_ref09_within ((List.getD σ.2.1.2.2.2.1 (Int.toNat σ.1)
 (0,0)).1,0,(List.getD σ.2.1.2.2.2.1 (Int.toNat σ.1) (0,0)).2)) false||decide ((List.getD σ.2.1.2.2.2.1 (Int.toNat σ.1) (0,0)).2 > 9999))&&
 decide (σ.1 > 0))=true∧True∧True) (M.req ((!(!M.val (c_ref09_within ((List.getD σ.2.1.2.2.2.1 (Int.toNat σ.1) (0,0)).1,0,(List.getD
 σ.2.1.2.2.2.1 (Int.toNat σ.1) (0,0)).2)) false||decide ((List.getD σ.2.1.2.2.2.1 (Int.toNat σ.1) (0,0)).2 > 9999))&&decide (σ.1 > 0))=true→
 (!(!M.val (c_ref09_within ((List.getD σ.2.1.2.2.2.1 (Int.toNat σ.1) (0,0)).1,0,(List.getD σ.2.1.2.2.2.1 (Int.toNat σ.1) (0,0)).2)) false||
 decide ((List.getD σ.2.1.2.2.2.1 (Int.toNat σ.1) (0,0)).2 > 9999))&&decide (σ.1 > 0))=true∧True∧True) (M.req ((!(!M.val (c_ref09_within
 ((List.getD σ.2.1.2.2.2.1 (Int.toNat σ.1) (0,0)).1,0,(List.getD σ.2.1.2.2.2.1 (Int.toNat σ.1) (0,0)).2)) false||decide ((List.getD
 σ.2.1.2.2.2.1 (Int.toNat σ.1) (0,0)).2 > 9999))&&decide (σ.1 > 0))=true→((!(!M.val (c_ref09_within ((List.getD σ.2.1.2.2.2.1 (Int.toNat σ.1)
 (0,0)).1,0,(List.getD σ.2.1.2.2.2.1 (Int.toNat σ.1) (0,0)).2)) false||decide ((List.getD σ.2.1.2.2.2.1 (Int.toNat σ.1) (0,0)).2 > 9999))&&
 decide (σ.1 > 0))=true∧(!(!M.val (c_ref09_within ((List.getD σ.2.1.2.2.2.1 (Int.toNat σ.1) (0,0)).1,0,(List.getD σ.2.1.2.2.2.1 (Int.toNat σ.1)
 (0,0)).2)) false||decide ((List.getD σ.2.1.2.2.2.1 (Int.toNat σ.1) (0,0)).2 > 9999))&&decide (σ.1 > 0))=true)∧True∧True) (M.req
 ((!(!M.val (c_ref09_within ((List.getD σ.2.1.2.2.2.1 (Int.toNat σ.1) (0,0)).1,0,(List.getD σ.2.1.2.2.2.1 (Int.toNat σ.1) (0,0)).2)) false||
 decide ((List.getD σ.2.1.2.2.2.1 (Int.toNat σ.1) (0,0)).2 > 9999)))=true→((!(!M.val (c_ref09_within ((List.getD σ.2.1.2.2.2.1 (Int.toNat σ.1)
 (0,0)).1,0,(List.getD σ.2.1.2.2.2.1 (Int.toNat σ.1) (0,0)).2)) false||decide ((List.getD σ.2.1.2.2.2.1 (Int.toNat σ.1) (0,0)).2 > 9999)))=
 true∧(decide (σ.1 > 0)=true→(!(!M.val (c_ref09_within ((List.getD σ.2.1.2.2.2.1 (Int.toNat σ.1) (0,0)).1,0,(List.getD σ.2.1.2.2.2.1
 (Int.toNat σ.1) (0,0)).2)) false||decide ((List.getD σ.2.1.2.2.2.1 (Int.toNat σ.1) (0,0)).2 > 9999))&&decide (σ.1 > 0))=true))∧True∧True)
 (M.req (True∧((!M.val (c_ref09_within ((List.getD σ.2.1.2.2.2.1 (Int.toNat σ.1) (0,0)).1,0,(List.getD σ.2.1.2.2.2.1 (Int.toNat σ.1) (0,0)).2))
 false||decide ((List.getD σ.2.1.2.2.2.1 (Int.toNat σ.1) (0,0)).2 > 9999))=false→(!(!M.val (c_ref09_within ((List.getD σ.2.1.2.2.2.1 (Int.toNat
 σ.1) (0,0)).1,0,(List.getD σ.2.1.2.2.2.1 (Int.toNat σ.1) (0,0)).2)) false||decide ((List.getD σ.2.1.2.2.2.1 (Int.toNat σ.1) (0,0)).2 > 9999)))
 =true)) (if (!M.val (c_ref09_within ((List.getD σ.2.1.2.2.2.1 (Int.toNat σ.1) (0,0)).1,0,(List.getD σ.2.1.2.2.2.1 (Int.toNat σ.1) (0,0)).2))
 false||decide ((List.getD σ.2.1.2.2.2.1 (Int.toNat σ.1) (0,0)).2 > 9999)||decide (σ.1 > 0)&&decide ((List.getD σ.2.1.2.2.2.1 (Int.toNat σ.1)
 (0,0)).1≤(List.getD σ.2.1.2.2.2.1 (Int.toNat (IntKind.wrap .i64 (σ.1 - 1))) (0,0)).2))=true then M.bind (M.bind (M.pure false) fun r=>M.pure
 (Step.done r)) fun r=>M.pure (Step.done r) else M.pure (Step.next (IntKind.wrap .i64 (Add.add σ.1 1),σ.2.1,())))))))))))))))))) else M.bind
 (M.pure (Step.next ())) fun r=>M.pure (Step.done r)) (0,σ.1,())) (Step.go fun (σ:Unit)=>M.pure true))))
def S_ref09_clash (x:Slip×Int×Int×Int×Int×Int×Int):M Bool:=
 M.pure (decide (x.1.1=x.2.1)&&!(decide (x.1.1=x.2.1)&&(decide (x.1.2.1=x.2.2.1)&&(decide (x.1.2.2.1=x.2.2.2.1)&&(decide (x.1.2.2.2.1
 =x.2.2.2.2.1)&&(decide (x.1.2.2.2.2.1=x.q5)&&decide (x.1.2.2.2.2.2=x.2.2.2.2.2.2)))))))
def S_hire_Watch_c1 (c_hire_within:Int×Int×Int→M Bool) (x:Option Book×Option Int×Option Ctr):M Bool:=
 (M.bind (c_hire_within (Option.getD x.2.1 0,0,IntKind.wrap .i64 (Int.ofNat (List.length (Option.getD x.2.2 ([],[],[],[],0,0,0,0,0,0,
 0)).1) - 1))) fun y=>M.pure y)
def S_hire_Watch_c2 (x:Option Tru×Option Int):M (Int×Bool):=
 (M.req (Option.isSome x.1=true) (M.req (0≤Option.getD x.2 0∧Option.getD x.2 0<Int.ofNat (List.length (Option.getD x.1 ([],[[],[],[],[],
 [],[],[],[],[],[]])).1)) (M.pure (List.getD (Option.getD x.1 ([],[[],[],[],[],[],[],[],[],[],[]])).1 (Int.toNat (Option.getD x.2 0))
 0,true))))
def S_ref09_known (c_ref09_Check:Ctr→M Int) (c_ref09_truths:Ctr×List Int→M (List (List Int))) (x:Ctr×Bool):M (List (List Int)×Int):=
 M.bind (c_ref09_Check x.1) fun y=>if decide (y≠0)=true then M.pure ([],y) else if (!x.2)=true then M.pure ([],1) else M.bind
 (c_ref09_truths (x.1,[])) fun y=>if decide (Int.ofNat (List.length y)=0)=true then M.pure ([],3) else M.pure (y,0)
def S_ref09_within (c_ref07_Within:Int×Int×Int→M Bool) (x:Int×Int×Int):M Bool:=
 M.bind (c_ref07_Within x) fun y=>M.pure y
def S_ref09_wider (x:(Int×Int)×Int×Bool):M (Int×Int):=
 if x.2.2=true then M.pure (x.2.1,x.2.1) else M.pure (if x.2.1<x.1.1 then x.2.1 else x.1.1,if x.2.1 > x.1.2 then x.2.1 else x.1.2)
def S_ref09_With (c_ref09_Of:Ctr×List Int×Int→M (List Ev×Bool)) (x:Ctr×List Int×Int×Int):M (Int×Int):=
 M.bind (c_ref09_Of (x.1,x.2.1,x.2.2.1)) fun y=>M.bind (M.loop (fun (σ:Int×Int×Int×List Ev×Int×Unit)=>if decide (σ.2.2.2.2.1 <
 Int.ofNat (List.length σ.2.2.2.1))=true then M.bind (M.req (0≤σ.2.2.2.2.1∧σ.2.2.2.2.1<Int.ofNat (List.length σ.2.2.2.1)) (if decide
 ((List.getD σ.2.2.2.1 (Int.toNat σ.2.2.2.2.1) ((0,0,0,0,0,0),0)).2≤σ.1)=true then M.req (0≤σ.2.2.2.2.1∧σ.2.2.2.2.1<Int.ofNat
 (List.length σ.2.2.2.1)) (M.req (0≤σ.2.2.2.2.1∧σ.2.2.2.2.1<Int.ofNat (List.length σ.2.2.2.1)) (M.req (0≤σ.2.2.2.2.1∧σ.2.2.2.2.1<Int.ofNat
 (List.length σ.2.2.2.1)) (if decide ((List.getD σ.2.2.2.1 (Int.toNat σ.2.2.2.2.1) ((0,0,0,0,0,0),0)).1.2.2.2.1=2)=true then M.pure
 (Step.next (σ.1,-1,(List.getD σ.2.2.2.1 (Int.toNat σ.2.2.2.2.1) ((0,0,0,0,0,0),0)).2,σ.2.2.2.1,σ.2.2.2.2.1,())) else M.pure (Step.next
 (σ.1,(List.getD σ.2.2.2.1 (Int.toNat σ.2.2.2.2.1) ((0,0,0,0,0,0),0)).1.2.2.2.2.2,(List.getD σ.2.2.2.1 (Int.toNat σ.2.2.2.2.1) ((0,0,0,0,
 0,0),0)).2,σ.2.2.2.1,σ.2.2.2.2.1,()))))) else M.pure (Step.next (σ.1,σ.2.1,σ.2.2.1,σ.2.2.2.1,σ.2.2.2.2.1,())))) (Step.go fun (σ:Int×Int
 ×Int×List Ev×Int×Unit)=>M.pure (Step.next (σ.1,σ.2.1,σ.2.2.1,σ.2.2.2.1,IntKind.wrap .i64 (Add.add σ.2.2.2.2.1 1),()))) else M.bind
 (M.pure (Step.next (σ.2.1,σ.2.2.1,()))) fun r=>M.pure (Step.done r)) (x.2.2.2,-1,0,y.1,0,())) (Step.go fun (σ:Int×Int×Unit)=>M.pure
 (σ.1,σ.2.1))
def S_ref09_Out (c_ref09_With:Ctr×List Int×Int×Int→M (Int×Int)) (x:Ctr×List Int×Int):M Int:=
 M.bind (M.loop (fun (σ:List Int×Int×Int×Int×Ctr×Unit)=>if decide (σ.2.2.2.1≤9)=true then M.bind (M.bind (c_ref09_With (σ.2.2.2.2.1,
 σ.1,σ.2.2.2.1,σ.2.1)) fun y=>if decide (y.1≥0)=true then M.pure (Step.next (σ.1,σ.2.1,IntKind.wrap .i64 (Add.add σ.2.2.1 1),σ.2.2.2.1,
 σ.2.2.2.2.1,())) else M.pure (Step.next (σ.1,σ.2.1,σ.2.2.1,σ.2.2.2.1,σ.2.2.2.2.1,()))) (Step.go fun (σ:List Int×Int×Int×Int×Ctr×
 Unit)=>M.pure (Step.next (σ.1,σ.2.1,σ.2.2.1,IntKind.wrap .i64 (Add.add σ.2.2.2.1 1),σ.2.2.2.2.1,()))) else M.bind (M.pure (Step.next (σ.2.2.1,
 ()))) fun r=>M.pure (Step.done r)) (x.2.1,x.2.2,0,0,x.1,())) (Step.go fun (σ:Int×Unit)=>M.pure σ.1)
def S_hire_Missing_c1 (c_hire_isMinute:Int→M Bool) (x:Option Book×Option Int):M Bool:=
 (M.bind (c_hire_isMinute (Option.getD x.2 0)) fun y=>M.pure y)
def S_hire_open (x:Ctr×Int×Int):M Int:=
 M.bind (M.loop (fun (σ:Int×Int×Int×List (Int×Int)×Int×Int×Unit)=>if decide (σ.q5<σ.2.2.2.2.1)=true then M.req (0≤σ.q5∧σ.q5
 < Int.ofNat (List.length σ.2.2.2.1)) (M.pure (Step.next (σ.1,σ.2.1,IntKind.wrap .i64 (σ.2.2.1 - if IntKind.wrap .i64 (Add.add (IntKind.wrap .i64
 ((if IntKind.wrap .i64 (σ.2.1 - 1)<(List.getD σ.2.2.2.1 (Int.toNat σ.q5) (0,0)).2 then IntKind.wrap .i64 (σ.2.1 - 1) else (List.getD σ.2.2.2.1
 (Int.toNat σ.q5) (0,0)).2) - if σ.1 > (List.getD σ.2.2.2.1 (Int.toNat σ.q5) (0,0)).1 then σ.1 else (List.getD σ.2.2.2.1 (Int.toNat σ.q5) (0,
 0)).1)) 1) > 0 then IntKind.wrap .i64 (Add.add (IntKind.wrap .i64 ((if IntKind.wrap .i64 (σ.2.1 - 1)<(List.getD σ.2.2.2.1 (Int.toNat σ.q5) (0,
 0)).2 then IntKind.wrap .i64 (σ.2.1 - 1) else (List.getD σ.2.2.2.1 (Int.toNat σ.q5) (0,0)).2) - if σ.1 > (List.getD σ.2.2.2.1 (Int.toNat σ.q5) (0,
 0)).1 then σ.1 else (List.getD σ.2.2.2.1 (Int.toNat σ.q5) (0,0)).1)) 1) else 0),σ.2.2.2.1,σ.2.2.2.2.1,IntKind.wrap .i64 (Add.add σ.q5 1),())))
 else M.bind (M.pure (Step.next (σ.2.2.1,()))) fun r=>M.pure (Step.done r)) (x.2.1,x.2.2,IntKind.wrap .i64 (x.2.2 - x.2.1),x.1.2.2.2.1,
 Int.ofNat (List.length x.1.2.2.2.1),0,())) (Step.go fun (σ:Int×Unit)=>M.pure σ.1)
def S_ref09_Minutes (x:Ctr×Int×Int):M Int:=
 M.bind (M.loop (fun (σ:Int×Int×Int×Int×Ctr×Unit)=>if decide (σ.2.2.2.1<Int.ofNat (List.length σ.2.2.2.2.1.2.2.2.1))=true then M.req
 (0≤σ.2.2.2.1∧σ.2.2.2.1<Int.ofNat (List.length σ.2.2.2.2.1.2.2.2.1)) (M.req (0≤σ.2.2.2.1∧σ.2.2.2.1<Int.ofNat (List.length
 σ.2.2.2.2.1.2.2.2.1)) (M.pure (Step.next (σ.1,σ.2.1,IntKind.wrap .i64 (σ.2.2.1 - if IntKind.wrap .i64 (Add.add (IntKind.wrap .i64 ((if (List.getD
 σ.2.2.2.2.1.2.2.2.1 (Int.toNat σ.2.2.2.1) (0,0)).2<IntKind.wrap .i64 (σ.2.1 - 1) then (List.getD σ.2.2.2.2.1.2.2.2.1 (Int.toNat σ.2.2.2.1) (0,
 0)).2 else IntKind.wrap .i64 (σ.2.1 - 1)) - if (List.getD σ.2.2.2.2.1.2.2.2.1 (Int.toNat σ.2.2.2.1) (0,0)).1 > σ.1 then (List.getD
 σ.2.2.2.2.1.2.2.2.1 (Int.toNat σ.2.2.2.1) (0,0)).1 else σ.1)) 1) > 0 then IntKind.wrap .i64 (Add.add (IntKind.wrap .i64 ((if (List.getD
 σ.2.2.2.2.1.2.2.2.1 (Int.toNat σ.2.2.2.1) (0,0)).2<IntKind.wrap .i64 (σ.2.1 - 1) then (List.getD σ.2.2.2.2.1.2.2.2.1 (Int.toNat σ.2.2.2.1) (0,
 0)).2 else IntKind.wrap .i64 (σ.2.1 - 1)) - if (List.getD σ.2.2.2.2.1.2.2.2.1 (Int.toNat σ.2.2.2.1) (0,0)).1 > σ.1 then (List.getD
 σ.2.2.2.2.1.2.2.2.1 (Int.toNat σ.2.2.2.1) (0,0)).1 else σ.1)) 1) else 0),IntKind.wrap .i64 (Add.add σ.2.2.2.1 1),σ.2.2.2.2.1,())))) else M.bind
 (M.pure (Step.next (σ.2.2.1,()))) fun r=>M.pure (Step.done r)) (x.2.1,x.2.2,if IntKind.wrap .i64 (x.2.2 - x.2.1) > 0 then IntKind.wrap .i64
 (x.2.2 - x.2.1) else 0,0,x.1,())) (Step.go fun (σ:Int×Unit)=>M.pure σ.1)
def S_hire_read_c1 (c_slices_Contains_int_int:List Int×Int→M Bool) (x:Slip×Option Ctr):M Bool:=
 (M.bind (c_slices_Contains_int_int ((Option.getD x.2 ([],[],[],[],0,0,0,0,0,0,0)).2.2.1,x.1.1)) fun y=>M.pure y)
def S_slices_Contains_int_int (c_slices_Index_int_int:List Int×Int→M Int) (x:List Int×Int):M Bool:=
 M.bind (c_slices_Index_int_int x) fun y=>M.pure (decide (y≥0))
def S_hire_lasts_c1 (c_slices_ContainsFunc_api_Slip_api_Slip:List Slip×(Int×Int×Int×Int×Int×Int→M Bool)→M Bool) (c_hire_lasts_c1_c1:Slip×Option Int→M Bool) (x:Option Book×Option Int):M Bool:=
 (M.req (Option.isSome x.1=true) (M.bind (c_slices_ContainsFunc_api_Slip_api_Slip ((Option.getD x.1 (([],[],[],[],0,0,0,0,0,0,0),[],
 [])).2.1,fun x_1=>c_hire_lasts_c1_c1 (x_1,some (Option.getD x.2 0)))) fun y=>M.pure y))
def S_slices_ContainsFunc_api_Slip_api_Slip (c_slices_IndexFunc_api_Slip_api_Slip:List Slip×(Int×Int×Int×Int×Int×Int→M Bool)→M Int) (x:List Slip×(Int×Int×Int×Int×Int×Int→M Bool)):M Bool:=
 M.bind (c_slices_IndexFunc_api_Slip_api_Slip x) fun y=>M.pure (decide (y≥0))
def S_hire_lasts_c1_c1 (x:Slip×Option Int):M Bool:=
 (M.pure (decide (x.1.1=Option.getD x.2 0)&&decide (x.1.2.2.2.1=1)))
def S_hire_lasts_c2 (c_hire_book_hires:Option Book×Option Tru→M (List Ev→Prop)) (x:Option Tru×Option (Option Book)×Option Int×Option (Int→M Int)):M (Int×Bool):=
  (M.bind (c_hire_book_hires (Option.getD x.2.1 none,x.1)) fun y=>M.bind (M.any y) fun L=>M.bind (rounds (fun (σ:Int×(Int→M Int)×Int×
  Bool×Unit) (y:Slip×Int)=>M.bind (if decide (y.1.1=σ.1)=true then M.bind (σ.2.1 y.2) fun y=>M.pure (Ex.ret,y,true,()) else M.pure
  (Ex.normal, σ.2.2.1, σ.2.2.2.1, ())) fun p => M.pure (p.1, σ.1, σ.2.1, p.2.1, p.2.2.1, ())) L (Option.getD x.2.2.1 0, Option.getD x.2.2.2 fun x => {
  safe:=False,out:=fun x=>False },0,false,())) fun p=>exC (M.pure (0,false)) (fun id=>if id=0 then M.pure (0,false) else M.fail)
  (M.pure (p.2.2.2.1,p.2.2.2.2.1)) p.1)
def S_ref07_In (x:List Int×Int):M Bool:=
 M.bind (M.loop (fun (σ:List Int×Int×Int×Unit)=>if decide (σ.2.2.1<Int.ofNat (List.length σ.1))=true then M.req (0≤σ.2.2.1∧σ.2.2.1 <
 Int.ofNat (List.length σ.1)) (if decide (List.getD σ.1 (Int.toNat σ.2.2.1) 0=σ.2.1)=true then M.bind (M.bind (M.pure true) fun r=>M.pure
 (Step.done r)) fun r=>M.pure (Step.done r) else M.pure (Step.next (σ.1,σ.2.1,IntKind.wrap .i64 (Add.add σ.2.2.1 1),()))) else M.bind (M.pure
 (Step.next ())) fun r=>M.pure (Step.done r)) (x.1,x.2,0,())) (Step.go fun (σ:Unit)=>M.pure false)
def S_hire_isTariff (c_hire_within:Int×Int×Int→M Bool) (x:Int×Int×Int×Int×Int×Int×Int):M Bool:=
 M.bind (M.loop (fun (σ:Int×Int×Tar×List Int×Unit)=>if decide (σ.2.1<σ.1)=true then M.req (0≤σ.2.1∧σ.2.1<Int.ofNat (List.length
 σ.2.2.2.1)) (M.bind (c_hire_within (List.getD σ.2.2.2.1 (Int.toNat σ.2.1) 0,0,100000)) fun y=>if (!y)=true then M.bind (M.bind (M.pure false)
 fun r=>M.pure (Step.done r)) fun r=>M.pure (Step.done r) else M.pure (Step.next (σ.1,IntKind.wrap .i64 (Add.add σ.2.1 1),σ.2.2.1,σ.2.2.2.1,
 ()))) else M.bind (M.pure (Step.next (σ.2.2.1,()))) fun r=>M.pure (Step.done r)) (Int.ofNat (Add.add (Add.add (Add.add (Add.add 0 1) 1) 1) 1),0,
 x,[x.2.2.1,x.2.2.2.1,x.q5,x.2.2.2.2.2.2],())) (Step.go fun (σ:Tar×Unit)=>M.bind (c_hire_within (σ.1.1,0,9999)) fun y=>M.bind (gdo y
 (c_hire_within (σ.1.2.1,1,9999)) false) fun y_1=>M.bind (gdo (y&&y_1) (c_hire_within (σ.1.2.2.2.2.1,1,9999)) false) fun y_2=>M.pure (y&&
 y_1&&y_2))
def S_hire_isCounter_c1 (c_hire_isSlip:Ctr×Int×Int×Int×Int×Int×Int→M Bool) (x:Slip×Option Ctr):M Bool:=
 (M.bind (c_hire_isSlip (Option.getD x.2 ([],[],[],[],0,0,0,0,0,0,0),x.1)) fun y=>M.pure !y)
def S_hire_isSlip (c_hire_within:Int×Int×Int→M Bool) (c_hire_isId:Int→M Bool) (x:Ctr×Int×Int×Int×Int×Int×Int):M Bool:=
 M.bind (gdo (decide (x.2.2.2.2.1=1)||decide (x.2.2.2.2.1=2)&&decide (x.2.2.2.2.2.2=0)) (c_hire_isId x.2.1) false) fun y=>M.bind (gdo
 ((decide (x.2.2.2.2.1=1)||decide (x.2.2.2.2.1=2)&&decide (x.2.2.2.2.2.2=0))&&y) (c_hire_isId x.2.2.2.2.2.2) false) fun y_1=>M.bind (gdo
 ((decide (x.2.2.2.2.1=1)||decide (x.2.2.2.2.1=2)&&decide (x.2.2.2.2.2.2=0))&&y&&y_1) (c_hire_within (x.2.2.1,0,IntKind.wrap .i64
 (Int.ofNat (List.length x.1.1) - 1))) false) fun y_2=>M.bind (gdo ((decide (x.2.2.2.2.1=1)||decide (x.2.2.2.2.1=2)&&decide (x.2.2.2.2.2.2=
 0))&&y&&y_1&&y_2) (c_hire_within (x.2.2.2.1,0,9999)) false) fun y_3=>M.bind (gdo ((decide (x.2.2.2.2.1=1)||decide (x.2.2.2.2.1=2)&&
 decide (x.2.2.2.2.2.2=0))&&y&&y_1&&y_2&&y_3) (c_hire_within (x.q5,0,9)) false) fun y_4=>M.pure ((decide (x.2.2.2.2.1=1)||decide
 (x.2.2.2.2.1=2)&&decide (x.2.2.2.2.2.2=0))&&y&&y_1&&y_2&&y_3&&y_4)
def S_hire_isCounter_c2 (c_hire_isId:Int→M Bool) (x:Int):M Bool:=
 M.bind (c_hire_isId x) fun y=>M.pure !y
def S_slices_ContainsFunc_int_int (c_slices_IndexFunc_int_int:List Int×(Int→M Bool)→M Int) (x:List Int×(Int→M Bool)):M Bool:=
 M.bind (c_slices_IndexFunc_int_int x) fun y=>M.pure (decide (y≥0))
def S_maps_Keys_map_int_api_Slip_int_api_Slip (its_117:Option (List (Int×Slip))→List Int→Prop) (x:List (Int×Slip)):M (List Int→Prop):=
 M.pure (its_117 (some x))
def S_ref09_isTariff (c_ref09_within:Int×Int×Int→M Bool) (x:Int×Int×Int×Int×Int×Int×Int):M Bool:=
 M.bind (c_ref09_within (x.1,0,9999)) fun y=>M.bind (gdo y (c_ref09_within (x.2.1,1,9999)) false) fun y_1=>M.bind (gdo (y&&y_1)
 (c_ref09_within (x.2.2.2.2.1,1,9999)) false) fun y_2=>M.bind (gdo (y&&y_1&&y_2) (c_ref09_within (x.2.2.1,0,100000)) false) fun y_3=>
 M.bind (gdo (y&&y_1&&y_2&&y_3) (c_ref09_within (x.2.2.2.1,0,100000)) false) fun y_4=>M.bind (gdo (y&&y_1&&y_2&&y_3&&y_4)
 (c_ref09_within (x.q5,0,100000)) false) fun y_5=>M.bind (gdo (y&&y_1&&y_2&&y_3&&y_4&&y_5) (c_ref09_within (x.2.2.2.2.2.2,0,100000))
 false) fun y_6=>M.pure (y&&y_1&&y_2&&y_3&&y_4&&y_5&&y_6)
def S_ref09_isSlip (c_ref09_within:Int×Int×Int→M Bool) (x:Ctr×Int×Int×Int×Int×Int×Int):M Bool:=
 M.bind (c_ref09_within (x.2.1,0,99)) fun y=>M.bind (gdo (!!y) (c_ref09_within (x.2.2.1,0,IntKind.wrap .i64 (Int.ofNat (List.length x.1.1) -
 1))) false) fun y_1=>M.bind (gdo (!(!y||!y_1)) (c_ref09_within (x.2.2.2.1,0,9999)) false) fun y_2=>M.bind (gdo (!(!y||!y_1||!y_2))
 (c_ref09_within (x.q5,0,9)) false) fun y_3=>M.bind (gdo (!(!y||!y_1||!y_2||!y_3)) (c_ref09_within (x.2.2.2.2.2.2,0,99)) false) fun y_4=>
 if (!y||!y_1||!y_2||!y_3||!y_4)=true then M.pure false else M.pure (decide (x.2.2.2.2.1=1)||decide (x.2.2.2.2.1=2)&&decide
 (x.2.2.2.2.2.2=0))
def S_ref09_truths (c_ref09_truths:Ctr×List Int→M (List (List Int))) (c_ref09_IsTruth:Ctr×List Int→M Bool) (x:Ctr×List Int):M (List (List Int)):=
 if decide (Int.ofNat (List.length x.2)=Int.ofNat (List.length x.1.1))=true then M.bind (c_ref09_IsTruth x) fun y=>if y=true then M.pure [x.2]
 else M.pure [] else M.req (0≤Int.ofNat (List.length x.2)∧Int.ofNat (List.length x.2)<Int.ofNat (List.length x.1.1)) (M.bind (M.loop (fun (σ :
 List Int×Int×Ctr×List (List Int)×(Int×Int)×Unit)=>if decide (σ.2.1≤σ.2.2.2.2.1.2)=true then M.req (lenLe (Add.add 0 (List.length
 σ.1))) (M.req (lenLe (Add.add (List.length ([]++σ.1)) (Add.add 0 1))) (M.req (c_ref09_truths (σ.2.2.1,[]++σ.1++[σ.2.1])).safe (M.req (lenLe
 (Add.add (List.length σ.2.2.2.1) (List.length (M.val (c_ref09_truths (σ.2.2.1,[]++σ.1++[σ.2.1])) [])))) (M.pure (Step.next (σ.1,IntKind.wrap
 .i64 (Add.add σ.2.1 1),σ.2.2.1,σ.2.2.2.1++M.val (c_ref09_truths (σ.2.2.1,[]++σ.1++[σ.2.1])) [],σ.2.2.2.2.1,())))))) else M.bind (M.pure
 (Step.next (σ.2.2.2.1,()))) fun r=>M.pure (Step.done r)) (x.2,(List.getD x.1.1 (Int.toNat (Int.ofNat (List.length x.2))) (0,0)).1,x.1,[],
 List.getD x.1.1 (Int.toNat (Int.ofNat (List.length x.2))) (0,0),())) (Step.go fun (σ:List (List Int)×Unit)=>M.pure σ.1))
def S_ref07_Within (x:Int×Int×Int):M Bool:=
 M.pure (decide (x.1≥x.2.1)&&decide (x.1≤x.2.2))
def S_ref09_Of (c_ref09_Counts:Ctr→M (List Slip)) (x:Ctr×List Int×Int):M (List Ev×Bool):=
 M.bind (c_ref09_Counts x.1) fun y=>M.bind (M.loop (fun (σ:List Int×Int×List Slip×Int×List Ev×Unit)=>if decide (σ.2.2.2.1<Int.ofNat
 (List.length σ.2.2.1))=true then M.bind (M.req (0≤σ.2.2.2.1∧σ.2.2.2.1<Int.ofNat (List.length σ.2.2.1)) (if decide ((List.getD σ.2.2.1
 (Int.toNat σ.2.2.2.1) (0,0,0,0,0,0)).2.2.2.2.1≠σ.2.1)=true then M.pure (Step.next (σ.1,σ.2.1,σ.2.2.1,σ.2.2.2.1,σ.2.2.2.2.1,())) else
 M.req (0≤σ.2.2.2.1∧σ.2.2.2.1<Int.ofNat (List.length σ.2.2.1)) (M.req (0≤σ.2.2.2.1∧σ.2.2.2.1<Int.ofNat (List.length σ.2.2.1)) (M.req (0≤
 σ.2.2.2.1∧σ.2.2.2.1<Int.ofNat (List.length σ.2.2.1)) (M.req (0≤(List.getD σ.2.2.1 (Int.toNat σ.2.2.2.1) (0,0,0,0,0,0)).2.1∧(List.getD
 σ.2.2.1 (Int.toNat σ.2.2.2.1) (0,0,0,0,0,0)).2.1<Int.ofNat (List.length σ.1)) (M.req (lenLe (Add.add (List.length σ.2.2.2.2.1) (Add.add 0 1)))
 (M.loop (fun (σ:List Int×Int×List Slip×Int×Int×List Ev×Unit)=>M.req (decide (σ.2.2.2.2.1 > 0)=true→(decide (σ.2.2.2.2.1 > 0)=
 true∧decide (σ.2.2.2.2.1 > 0)=true)∧(0≤σ.2.2.2.2.1∧σ.2.2.2.2.1<Int.ofNat (List.length σ.q5))∧True) (M.req (decide (σ.2.2.2.2.1 > 0)=
 true→decide (σ.2.2.2.2.1 > 0)=true∧True∧True) (M.req (decide (σ.2.2.2.2.1 > 0)=true→decide (σ.2.2.2.2.1 > 0)=true∧True∧True) (M.req
 (decide (σ.2.2.2.2.1 > 0)=true→(decide (σ.2.2.2.2.1 > 0)=true∧True)∧True∧True) (M.req (decide (σ.2.2.2.2.1 > 0)=true→(decide
 (σ.2.2.2.2.1 > 0)=true∧decide (σ.2.2.2.2.1 > 0)=true)∧(0≤IntKind.wrap .i64 (σ.2.2.2.2.1 - 1)∧IntKind.wrap .i64 (σ.2.2.2.2.1 - 1) <
 Int.ofNat (List.length σ.q5))∧True) (M.req (decide (σ.2.2.2.2.1 > 0)=true→decide (σ.2.2.2.2.1 > 0)=true∧True∧True) (M.req (decide
 (σ.2.2.2.2.1 > 0)=true→decide (σ.2.2.2.2.1 > 0)=true∧True∧True) (M.req (decide (σ.2.2.2.2.1 > 0)=true→(decide (σ.2.2.2.2.1 > 0)=true
 ∧decide (σ.2.2.2.2.1 > 0)=true)∧True∧True) (M.req (True∧(decide (σ.2.2.2.2.1 > 0)=true→decide (σ.2.2.2.2.1 > 0)=true)) (if (decide
 (σ.2.2.2.2.1 > 0)&&decide ((List.getD σ.q5 (Int.toNat σ.2.2.2.2.1) ((0,0,0,0,0,0),0)).2<(List.getD σ.q5 (Int.toNat (IntKind.wrap .i64
 (σ.2.2.2.2.1 - 1))) ((0,0,0,0,0,0),0)).2))=true then M.req (0≤IntKind.wrap .i64 (σ.2.2.2.2.1 - 1)∧IntKind.wrap .i64 (σ.2.2.2.2.1 - 1) <
 Int.ofNat (List.length σ.q5)) (M.req (0≤σ.2.2.2.2.1∧σ.2.2.2.2.1<Int.ofNat (List.length σ.q5)) (M.req (0≤σ.2.2.2.2.1∧σ.2.2.2.2.1<Int.ofNat
 (List.length σ.q5)) (M.req (0≤IntKind.wrap .i64 (σ.2.2.2.2.1 - 1)∧IntKind.wrap .i64 (σ.2.2.2.2.1 - 1)<Int.ofNat (List.length (List.set σ.q5
 (Int.toNat σ.2.2.2.2.1) (List.getD σ.q5 (Int.toNat (IntKind.wrap .i64 (σ.2.2.2.2.1 - 1))) ((0,0,0,0,0,0),0))))) (M.pure (Step.next (σ.1,σ.2.1,
 σ.2.2.1,σ.2.2.2.1,IntKind.wrap .i64 (σ.2.2.2.2.1 - 1),List.set (List.set σ.q5 (Int.toNat σ.2.2.2.2.1) (List.getD σ.q5 (Int.toNat (IntKind.wrap
 .i64 (σ.2.2.2.2.1 - 1))) ((0,0,0,0,0,0),0))) (Int.toNat (IntKind.wrap .i64 (σ.2.2.2.2.1 - 1))) (List.getD σ.q5 (Int.toNat σ.2.2.2.2.1) ((0,0,
 0,0,0,0),0)),())))))) else M.bind (M.pure (Step.next (σ.1,σ.2.1,σ.2.2.1,σ.2.2.2.1,σ.q5,()))) fun r=>M.pure (Step.done r))))))))))) (σ.1,
 σ.2.1,σ.2.2.1,σ.2.2.2.1,IntKind.wrap .i64 (Int.ofNat (List.length (σ.2.2.2.2.1++[(List.getD σ.2.2.1 (Int.toNat σ.2.2.2.1) (0,0,0,0,0,0),
 IntKind.wrap .i64 (Add.add (List.getD σ.2.2.1 (Int.toNat σ.2.2.2.1) (0,0,0,0,0,0)).2.2.1 (List.getD σ.1 (Int.toNat (List.getD σ.2.2.1 (Int.toNat
 σ.2.2.2.1) (0,0,0,0,0,0)).2.1) 0)))])) - 1),σ.2.2.2.2.1++[(List.getD σ.2.2.1 (Int.toNat σ.2.2.2.1) (0,0,0,0,0,0),IntKind.wrap .i64
 (Add.add (List.getD σ.2.2.1 (Int.toNat σ.2.2.2.1) (0,0,0,0,0,0)).2.2.1 (List.getD σ.1 (Int.toNat (List.getD σ.2.2.1 (Int.toNat σ.2.2.2.1) (0,0,
 0,0,0,0)).2.1) 0)))],())))))))) (Step.go fun (σ:List Int×Int×List Slip×Int×List Ev×Unit)=>M.pure (Step.next (σ.1,σ.2.1,σ.2.2.1,
 IntKind.wrap .i64 (Add.add σ.2.2.2.1 1),σ.2.2.2.2.1,()))) else M.bind (M.pure (Step.next (σ.2.2.2.2.1,()))) fun r=>M.pure (Step.done r)) (x.2.1,
 x.2.2,y,0,[],())) (Step.go fun (σ:List Ev×Unit)=>M.bind (M.loop (fun (σ:Int×List Ev×Unit)=>if decide (σ.1<Int.ofNat (List.length
 σ.2.1))=true then M.req (decide (σ.1 > 0)=true→(decide (σ.1 > 0)=true∧decide (σ.1 > 0)=true)∧(0≤σ.1∧σ.1<Int.ofNat (List.length
 σ.2.1))∧True) (M.req (decide (σ.1 > 0)=true→decide (σ.1 > 0)=true∧True∧True) (M.req (decide (σ.1 > 0)=true→decide (σ.1 > 0)=true∧
 True∧True) (M.req (decide (σ.1 > 0)=true→(decide (σ.1 > 0)=true∧True)∧True∧True) (M.req (decide (σ.1 > 0)=true→(decide (σ.1 > 0)=
 true∧decide (σ.1 > 0)=true)∧(0≤IntKind.wrap .i64 (σ.1 - 1)∧IntKind.wrap .i64 (σ.1 - 1)<Int.ofNat (List.length σ.2.1))∧True) (M.req
 (decide (σ.1 > 0)=true→decide (σ.1 > 0)=true∧True∧True) (M.req (decide (σ.1 > 0)=true→decide (σ.1 > 0)=true∧True∧True) (M.req
 (decide (σ.1 > 0)=true→(decide (σ.1 > 0)=true∧decide (σ.1 > 0)=true)∧True∧True) (M.req (True∧(decide (σ.1 > 0)=true→decide (σ.1 >
 0)=true)) (M.req ((!(decide (σ.1 > 0)&&decide ((List.getD σ.2.1 (Int.toNat σ.1) ((0,0,0,0,0,0),0)).2=(List.getD σ.2.1 (Int.toNat
 (IntKind.wrap .i64 (σ.1 - 1))) ((0,0,0,0,0,0),0)).2)))=true→((!(decide (σ.1 > 0)&&decide ((List.getD σ.2.1 (Int.toNat σ.1) ((0,0,0,0,
 0,0),0)).2=(List.getD σ.2.1 (Int.toNat (IntKind.wrap .i64 (σ.1 - 1))) ((0,0,0,0,0,0),0)).2)))=true∧(!(decide (σ.1 > 0)&&decide
 ((List.getD σ.2.1 (Int.toNat σ.1) ((0,0,0,0,0,0),0)).2=(List.getD σ.2.1 (Int.toNat (IntKind.wrap .i64 (σ.1 - 1))) ((0,0,0,0,0,0),
 0)).2)))=true)∧(0≤σ.1∧σ.1<Int.ofNat (List.length σ.2.1))∧True) (M.req ((!(decide (σ.1 > 0)&&decide ((List.getD σ.2.1 (Int.toNat σ.1)
 ((0,0,0,0,0,0),0)).2=(List.getD σ.2.1 (Int.toNat (IntKind.wrap .i64 (σ.1 - 1))) ((0,0,0,0,0,0),0)).2)))=true→(!(decide (σ.1 > 0)&&
 decide ((List.getD σ.2.1 (Int.toNat σ.1) ((0,0,0,0,0,0),0)).2=(List.getD σ.2.1 (Int.toNat (IntKind.wrap .i64 (σ.1 - 1))) ((0,0,0,0,0,0),
 0)).2)))=true∧True∧True) (M.req ((!(decide (σ.1 > 0)&&decide ((List.getD σ.2.1 (Int.toNat σ.1) ((0,0,0,0,0,0),0)).2=(List.getD σ.2.1
 (Int.toNat (IntKind.wrap .i64 (σ.1 - 1))) ((0,0,0,0,0,0),0)).2)))=true→(!(decide (σ.1 > 0)&&decide ((List.getD σ.2.1 (Int.toNat σ.1) ((0,
 0,0,0,0,0),0)).2=(List.getD σ.2.1 (Int.toNat (IntKind.wrap .i64 (σ.1 - 1))) ((0,0,0,0,0,0),0)).2)))=true∧True∧True) (M.req
 ((!(decide (σ.1 > 0)&&decide ((List.getD σ.2.1 (Int.toNat σ.1) ((0,0,0,0,0,0),0)).2=(List.getD σ.2.1 (Int.toNat (IntKind.wrap .i64 (σ.1 -
 1))) ((0,0,0,0,0,0),0)).2)))=true→(!(decide (σ.1 > 0)&&decide ((List.getD σ.2.1 (Int.toNat σ.1) ((0,0,0,0,0,0),0)).2=(List.getD
 σ.2.1 (Int.toNat (IntKind.wrap .i64 (σ.1 - 1))) ((0,0,0,0,0,0),0)).2)))=true∧True∧True) (M.req ((!(decide (σ.1 > 0)&&decide ((List.getD
 σ.2.1 (Int.toNat σ.1) ((0,0,0,0,0,0),0)).2=(List.getD σ.2.1 (Int.toNat (IntKind.wrap .i64 (σ.1 - 1))) ((0,0,0,0,0,0),0)).2)))=true→
 ((!(decide (σ.1 > 0)&&decide ((List.getD σ.2.1 (Int.toNat σ.1) ((0,0,0,0,0,0),0)).2=(List.getD σ.2.1 (Int.toNat (IntKind.wrap .i64 (σ.1 -
 1))) ((0,0,0,0,0,0),0)).2)))=true∧True)∧(2:Int)≠0∧True) (M.req ((!(decide (σ.1 > 0)&&decide ((List.getD σ.2.1 (Int.toNat σ.1)
 ((0,0,0,0,0,0),0)).2=(List.getD σ.2.1 (Int.toNat (IntKind.wrap .i64 (σ.1 - 1))) ((0,0,0,0,0,0),0)).2)))=true→(True∧(!(decide (σ.1
 > 0)&&decide ((List.getD σ.2.1 (Int.toNat σ.1) ((0,0,0,0,0,0),0)).2=(List.getD σ.2.1 (Int.toNat (IntKind.wrap .i64 (σ.1 - 1))) ((0,0,0,
 0,0,0),0)).2)))=true)∧True∧True) (M.req ((!(decide (σ.1 > 0)&&decide ((List.getD σ.2.1 (Int.toNat σ.1) ((0,0,0,0,0,0),0)).2=
 (List.getD σ.2.1 (Int.toNat (IntKind.wrap .i64 (σ.1 - 1))) ((0,0,0,0,0,0),0)).2)))=true→((!(decide (σ.1 > 0)&&decide ((List.getD σ.2.1
 (Int.toNat σ.1) ((0,0,0,0,0,0),0)).2=(List.getD σ.2.1 (Int.toNat (IntKind.wrap .i64 (σ.1 - 1))) ((0,0,0,0,0,0),0)).2)))=true∧
 (!(decide (σ.1 > 0)&&decide ((List.getD σ.2.1 (Int.toNat σ.1) ((0,0,0,0,0,0),0)).2=(List.getD σ.2.1 (Int.toNat (IntKind.wrap .i64 (σ.1 -
 1))) ((0,0,0,0,0,0),0)).2)))=true)∧True∧True) (M.req (True∧((decide (σ.1 > 0)&&decide ((List.getD σ.2.1 (Int.toNat σ.1) ((0,0,0,0,
 0,0),0)).2=(List.getD σ.2.1 (Int.toNat (IntKind.wrap .i64 (σ.1 - 1))) ((0,0,0,0,0,0),0)).2))=false→(!(decide (σ.1 > 0)&&decide
 ((List.getD σ.2.1 (Int.toNat σ.1) ((0,0,0,0,0,0),0)).2=(List.getD σ.2.1 (Int.toNat (IntKind.wrap .i64 (σ.1 - 1))) ((0,0,0,0,0,0),
 0)).2)))=true)) (if (decide (σ.1 > 0)&&decide ((List.getD σ.2.1 (Int.toNat σ.1) ((0,0,0,0,0,0),0)).2=(List.getD σ.2.1 (Int.toNat
 (IntKind.wrap .i64 (σ.1 - 1))) ((0,0,0,0,0,0),0)).2)||decide ((List.getD σ.2.1 (Int.toNat σ.1) ((0,0,0,0,0,0),0)).1.2.2.2.1≠
 IntKind.wrap .i64 (Add.add 1 (Int.tmod σ.1 2))))=true then M.bind (M.bind (M.pure ([],false)) fun r=>M.pure (Step.done r)) fun r=>M.pure
 (Step.done r) else M.pure (Step.next (IntKind.wrap .i64 (Add.add σ.1 1),σ.2.1,()))))))))))))))))))) else M.bind (M.pure (Step.next (σ.2.1,())))
 fun r=>M.pure (Step.done r)) (0,σ.1,())) (Step.go fun (σ:List Ev×Unit)=>M.pure (σ.1,true)))
def S_math_bits_Len (c_f128:Int→M Int) (c_math_bits_Len64:Int→M Int) (x:Int):M Int:=
 M.bind (c_math_bits_Len64 x) fun y=>M.pure y
def S_slices_IndexFunc_api_Slip_api_Slip (x:List Slip×(Int×Int×Int×Int×Int×Int→M Bool)):M Int:=
 M.bind (M.loop (fun (σ:List Slip×(Int×Int×Int×Int×Int×Int→M Bool)×Int×Int×Unit)=>if decide (σ.2.2.2.1<σ.2.2.1)=true then
 M.req (0≤σ.2.2.2.1∧σ.2.2.2.1<Int.ofNat (List.length σ.1)) (M.bind (σ.2.1 (List.getD σ.1 (Int.toNat σ.2.2.2.1) (0,0,0,0,0,0))) fun y=>if
 y=true then M.bind (M.bind (M.pure σ.2.2.2.1) fun r=>M.pure (Step.done r)) fun r=>M.pure (Step.done r) else M.pure (Step.next (σ.1,σ.2.1,
 σ.2.2.1,IntKind.wrap .i64 (Add.add σ.2.2.2.1 1),()))) else M.bind (M.pure (Step.next ())) fun r=>M.pure (Step.done r)) (x.1,x.2,Int.ofNat
 (List.length x.1),0,())) (Step.go fun (σ:Unit)=>M.pure (-1))
def S_slices_Index_int_int (x:List Int×Int):M Int:=
 M.bind (M.loop (fun (σ:List Int×Int×Int×Int×Unit)=>if decide (σ.2.2.2.1<σ.2.2.1)=true then M.req (0≤σ.2.2.2.1∧σ.2.2.2.1 <
 Int.ofNat (List.length σ.1)) (if decide (σ.2.1=List.getD σ.1 (Int.toNat σ.2.2.2.1) 0)=true then M.bind (M.bind (M.pure σ.2.2.2.1) fun r=>M.pure
 (Step.done r)) fun r=>M.pure (Step.done r) else M.pure (Step.next (σ.1,σ.2.1,σ.2.2.1,IntKind.wrap .i64 (Add.add σ.2.2.2.1 1),()))) else M.bind
 (M.pure (Step.next ())) fun r=>M.pure (Step.done r)) (x.1,x.2,Int.ofNat (List.length x.1),0,())) (Step.go fun (σ:Unit)=>M.pure (-1))
def S_slices_IndexFunc_int_int (x:List Int×(Int→M Bool)):M Int:=
 M.bind (M.loop (fun (σ:List Int×(Int→M Bool)×Int×Int×Unit)=>if decide (σ.2.2.2.1<σ.2.2.1)=true then M.req (0≤σ.2.2.2.1∧
 σ.2.2.2.1<Int.ofNat (List.length σ.1)) (M.bind (σ.2.1 (List.getD σ.1 (Int.toNat σ.2.2.2.1) 0)) fun y=>if y=true then M.bind (M.bind (M.pure
 σ.2.2.2.1) fun r=>M.pure (Step.done r)) fun r=>M.pure (Step.done r) else M.pure (Step.next (σ.1,σ.2.1,σ.2.2.1,IntKind.wrap .i64 (Add.add
 σ.2.2.2.1 1),()))) else M.bind (M.pure (Step.next ())) fun r=>M.pure (Step.done r)) (x.1,x.2,Int.ofNat (List.length x.1),0,())) (Step.go fun (σ
 : Unit)=>M.pure (-1))
def S_ref09_IsTruth (c_ref09_within:Int×Int×Int→M Bool) (c_ref09_Of:Ctr×List Int×Int→M (List Ev×Bool)) (x:Ctr×List Int):M Bool:=
 if decide (Int.ofNat (List.length x.2)≠Int.ofNat (List.length x.1.1))=true then M.pure false else M.bind (M.loop (fun (σ:List Int×Int×Ctr×
 Unit)=>if decide (σ.2.1<Int.ofNat (List.length σ.1))=true then M.req (0≤σ.2.1∧σ.2.1<Int.ofNat (List.length σ.1)) (M.req (0≤σ.2.1∧
 σ.2.1<Int.ofNat (List.length σ.2.2.1.1)) (M.req (0≤σ.2.1∧σ.2.1<Int.ofNat (List.length σ.2.2.1.1)) (M.req (c_ref09_within (List.getD σ.1
 (Int.toNat σ.2.1) 0,List.getD σ.2.2.1.1 (Int.toNat σ.2.1) (0,0))).safe (if (!M.val (c_ref09_within (List.getD σ.1 (Int.toNat σ.2.1) 0,List.getD
 σ.2.2.1.1 (Int.toNat σ.2.1) (0,0))) false)=true then M.bind (M.bind (M.pure false) fun r=>M.pure (Step.done r)) fun r=>M.pure (Step.done r)
 else M.pure (Step.next (σ.1,IntKind.wrap .i64 (Add.add σ.2.1 1),σ.2.2.1,())))))) else M.bind (M.pure (Step.next (σ.1,σ.2.2.1,()))) fun r=>
 M.pure (Step.done r)) (x.2,0,x.1,())) (Step.go fun (σ:List Int×Ctr×Unit)=>M.bind (M.loop (fun (σ:List Int×Int×Ctr×Unit)=>if
 decide (σ.2.1≤9)=true then M.bind (c_ref09_Of (σ.2.2.1,σ.1,σ.2.1)) fun y=>if (!y.2)=true then M.bind (M.bind (M.pure false) fun r=>M.pure
 (Step.done r)) fun r=>M.pure (Step.done r) else M.pure (Step.next (σ.1,IntKind.wrap .i64 (Add.add σ.2.1 1),σ.2.2.1,())) else M.bind (M.pure
 (Step.next ())) fun r=>M.pure (Step.done r)) (σ.1,0,σ.2.1,())) (Step.go fun (σ:Unit)=>M.pure true))
def S_cmp_Less_int (c_cmp_isNaN_int:Int→M Bool) (x:Int×Int):M Bool:=
 M.bind (c_cmp_isNaN_int x.1) fun y=>M.bind (gdo y (c_cmp_isNaN_int x.2) false) fun y_1=>M.pure (y&&!y_1||decide (x.1<x.2))
def S_math_bits_Len64 (x:Int):M Int:=
 M.bind (if decide (x≥4294967296)=true then M.req ((0:Int)≤32) (M.pure (Step.next (ishr .u64 x 32,32,()))) else M.pure (Step.next (x,0,
 ()))) (Step.go fun (σ:Int×Int×Unit)=>M.bind (if decide (σ.1≥65536)=true then M.req ((0:Int)≤16) (M.pure (Step.next (ishr .u64 σ.1 16,
 IntKind.wrap .i64 (Add.add σ.2.1 16),()))) else M.pure (Step.next (σ.1,σ.2.1,()))) (Step.go fun (σ:Int×Int×Unit)=>M.bind (if decide (σ.1≥
 256)=true then M.req ((0:Int)≤8) (M.pure (Step.next (ishr .u64 σ.1 8,IntKind.wrap .i64 (Add.add σ.2.1 8),()))) else M.pure (Step.next (σ.1,
 σ.2.1,()))) (Step.go fun (σ:Int×Int×Unit)=>M.req (0≤IntKind.wrap .u8 σ.1∧IntKind.wrap .u8 σ.1<Int.ofNat 256) (M.pure (IntKind.wrap
 .i64 (Add.add σ.2.1 (IntKind.wrap .i64 (Int.ofNat (List.getD len8 (Int.toNat (IntKind.wrap .u8 σ.1)) 0).1.1.1))))))))
def S_slices_Clone_int_int (x:List Int):M (List Int):=
 M.bind (M.any fun b=>b=true→x=[]) fun y=>if y=true then M.pure [] else M.req (lenLe (Add.add 0 (List.length x))) (M.pure ([]++x))
def S_hire_book_open_c1 (c_cmp_Compare_int:Int×Int→M Int) (x:Ev×Slip×Int):M Int:=
 M.bind (c_cmp_Compare_int (x.1.2,x.2.2)) fun y=>M.pure y
def S_cmp_Compare_int (c_cmp_isNaN_int:Int→M Bool) (x:Int×Int):M Int:=
 M.bind (c_cmp_isNaN_int x.1) fun y=>M.bind (c_cmp_isNaN_int x.2) fun y_1=>if y=true then if y_1=true then M.pure 0 else M.pure (-1) else if
 y_1=true then M.pure 1 else if decide (x.1<x.2)=true then M.pure (-1) else if decide (x.1 > x.2)=true then M.pure 1 else M.pure 0
def S_cmp_isNaN_int (x:Int):M Bool:=
 M.pure (decide (x≠x))
def S_slices_AppendSeq (x:(List Int→Prop)×Unit):M (List Int×Unit):=
 M.bind (M.any x.1) fun L=>M.bind (rounds (fun (σ:List Int×Unit) (y:Int)=>M.bind (M.req (lenLe (Add.add (List.length σ.1) (Add.add 0 1)))
 (M.pure (Ex.normal,σ.1++[y],()))) fun p=>M.pure (p.1,p.2.1,())) L ([],())) fun p=>exC (M.pure (p.2.1,())) (fun id=>if id=0 then
 M.pure (p.2.1,()) else M.fail) M.fail p.1
def S_slices_Collect (c_slices_AppendSeq:(List Int→Prop)×Unit→M (List Int×Unit)) (x:(List Int→Prop)×Unit):M (List Int×Unit):=
 M.bind (c_slices_AppendSeq (x.1,())) fun y=>M.pure (y.1,())
def S_slices_DeleteFunc (c_slices_IndexFunc_api_Slip_api_Slip:List Slip×(Int×Int×Int×Int×Int×Int→M Bool)→M Int) (x:(Int×Int×Int×Int×Int×Int→M Bool)×List Slip×Unit):M ((Nat×Nat)×List Slip×Unit):=
 M.bind (c_slices_IndexFunc_api_Slip_api_Slip (x.2.1,x.1)) fun y=>if decide (y=-1)=true then M.pure ((0,List.length x.2.1),x.2.1,()) else
 M.bind (M.loop (fun (σ:(Int×Int×Int×Int×Int×Int→M Bool)×Int×Int×List Slip×Unit)=>if decide (σ.2.2.1<Int.ofNat (List.length
 σ.2.2.2.1))=true then M.bind (M.req (0≤σ.2.2.1∧σ.2.2.1<Int.ofNat (List.length σ.2.2.2.1)) (M.bind (σ.1 (List.getD σ.2.2.2.1 (Int.toNat
 σ.2.2.1) (0,0,0,0,0,0))) fun y=>if (!y)=true then M.req (0≤σ.2.1∧σ.2.1<Int.ofNat (List.length σ.2.2.2.1)) (M.pure (Step.next (σ.1,
 IntKind.wrap .i64 (Add.add σ.2.1 1),σ.2.2.1,List.set σ.2.2.2.1 (Int.toNat σ.2.1) (List.getD σ.2.2.2.1 (Int.toNat σ.2.2.1) (0,0,0,0,0,0)),
 ()))) else M.pure (Step.next (σ.1,σ.2.1,σ.2.2.1,σ.2.2.2.1,())))) (Step.go fun (σ:(Int×Int×Int×Int×Int×Int→M Bool)×Int×Int×
 List Slip×Unit)=>M.pure (Step.next (σ.1,σ.2.1,IntKind.wrap .i64 (Add.add σ.2.2.1 1),σ.2.2.2.1,()))) else M.bind (M.pure (Step.next (σ.2.1,
 σ.2.2.2.1,()))) fun r=>M.pure (Step.done r)) (x.1,y,IntKind.wrap .i64 (Add.add y 1),x.2.1,())) (Step.go fun (σ:Int×List Slip×Unit)=>
 M.req (0≤σ.1∧σ.1≤Int.ofNat (List.length σ.2.1)∧Int.ofNat (List.length σ.2.1)≤Int.ofNat (List.length σ.2.1)) (M.req True (M.req ((0:Int)≤
 0∧0≤σ.1∧σ.1≤Int.ofNat (List.length (List.take (Int.toNat σ.1) σ.2.1++List.replicate (Int.toNat (Int.ofNat (List.length σ.2.1)) - Int.toNat
 σ.1) (0,0,0,0,0,0)++List.drop (Add.add (Int.toNat σ.1) (List.length (List.replicate (Int.toNat (Int.ofNat (List.length σ.2.1)) - Int.toNat
 σ.1) ((0,0,0,0,0,0):Slip)))) σ.2.1))) (M.pure ((Int.toNat 0,Int.toNat σ.1),List.take (Int.toNat σ.1) σ.2.1++List.replicate (Int.toNat
 (Int.ofNat (List.length σ.2.1)) - Int.toNat σ.1) (0,0,0,0,0,0)++List.drop (Add.add (Int.toNat σ.1) (List.length (List.replicate (Int.toNat
 (Int.ofNat (List.length σ.2.1)) - Int.toNat σ.1) ((0,0,0,0,0,0):Slip)))) σ.2.1,())))))
def S_hire_hires_c1 (c_hire_open:Ctr×Int×Int→M Int) (x:Nat×Option Tru×Option Book×(Nat×(List Ev→Prop)×List Ev×Bool)×Unit):M ((Nat×(List Ev→Prop)×List Ev×Bool)×Unit):=
 M.req (Option.isSome x.2.1=true) (M.loop (fun (σ:Nat×Option Book×List (List Ev)×Int×(Nat×(List Ev→Prop)×List Ev×Bool)×Unit)=>
 if decide (σ.2.2.2.1<10)=true then M.bind (M.req (0≤σ.2.2.2.1∧σ.2.2.2.1<Int.ofNat 10) (M.loop (fun (σ:Nat×Option Book×List Ev×Int×
 List (List Ev)×Int×(Nat×(List Ev→Prop)×List Ev×Bool)×Unit)=>if decide (IntKind.wrap .i64 (Add.add σ.2.2.2.1 1)<Int.ofNat
 (List.length σ.2.2.1))=true then M.req (0≤σ.2.2.2.1∧σ.2.2.2.1<Int.ofNat (List.length σ.2.2.1)) (M.req (Option.isSome σ.2.1=true) (M.req (0
 ≤σ.2.2.2.1∧σ.2.2.2.1<Int.ofNat (List.length σ.2.2.1)) (M.req (0≤IntKind.wrap .i64 (Add.add σ.2.2.2.1 1)∧IntKind.wrap .i64 (Add.add σ.2.2.2.1
 1)<Int.ofNat (List.length σ.2.2.1)) (M.req (c_hire_open ((Option.getD σ.2.1 (([],[],[],[],0,0,0,0,0,0,0),[],[])).1,(List.getD σ.2.2.1
 (Int.toNat σ.2.2.2.1) ((0,0,0,0,0,0),0)).2,(List.getD σ.2.2.1 (Int.toNat (IntKind.wrap .i64 (Add.add σ.2.2.2.1 1))) ((0,0,0,0,0,0),
 0)).2)).safe (M.bind (M.req (σ.1=σ.q6.1∧σ.q6.2.2.2=false∧∃ (T:List Ev),σ.q6.2.1 (σ.q6.2.2.1++((List.getD σ.2.2.1 (Int.toNat σ.2.2.2.1)
 ((0,0,0,0,0,0),0)).1,M.val (c_hire_open ((Option.getD σ.2.1 (([],[],[],[],0,0,0,0,0,0,0),[],[])).1,(List.getD σ.2.2.1 (Int.toNat
 σ.2.2.2.1) ((0,0,0,0,0,0),0)).2,(List.getD σ.2.2.1 (Int.toNat (IntKind.wrap .i64 (Add.add σ.2.2.2.1 1))) ((0,0,0,0,0,0),0)).2)) 0) ::
 T)) (M.any fun x=>True)) fun y=>if (!y)=true then M.bind (M.bind (M.bind (M.pure ((σ.q6.1,σ.q6.2.1,σ.q6.2.2.1++[((List.getD σ.2.2.1
 (Int.toNat σ.2.2.2.1) ((0,0,0,0,0,0),0)).1,M.val (c_hire_open ((Option.getD σ.2.1 (([],[],[],[],0,0,0,0,0,0,0),[],[])).1,
 (List.getD σ.2.2.1 (Int.toNat σ.2.2.2.1) ((0,0,0,0,0,0),0)).2,(List.getD σ.2.2.1 (Int.toNat (IntKind.wrap .i64 (Add.add σ.2.2.2.1 1))) ((0,0,
 0,0,0,0),0)).2)) 0)],!y),())) fun r=>M.pure (Step.done r)) fun r=>M.pure (Step.done r)) fun r=>M.pure (Step.done r) else M.pure
 (Step.next (σ.1,σ.2.1,σ.2.2.1,IntKind.wrap .i64 (Add.add σ.2.2.2.1 2),σ.2.2.2.2.1,σ.q5,(σ.q6.1,σ.q6.2.1,σ.q6.2.2.1++[((List.getD σ.2.2.1
 (Int.toNat σ.2.2.2.1) ((0,0,0,0,0,0),0)).1,M.val (c_hire_open ((Option.getD σ.2.1 (([],[],[],[],0,0,0,0,0,0,0),[],[])).1,
 (List.getD σ.2.2.1 (Int.toNat σ.2.2.2.1) ((0,0,0,0,0,0),0)).2,(List.getD σ.2.2.1 (Int.toNat (IntKind.wrap .i64 (Add.add σ.2.2.2.1 1))) ((0,0,
 0,0,0,0),0)).2)) 0)],!y),()))))))) else M.bind (M.pure (Step.next (σ.1,σ.2.1,σ.2.2.2.2.1,σ.q5,σ.q6,()))) fun r=>M.pure (Step.done r))
 (σ.1,σ.2.1,List.getD σ.2.2.1 (Int.toNat σ.2.2.2.1) [],0,σ.2.2.1,σ.2.2.2.1,σ.2.2.2.2.1,()))) (Step.go fun (σ:Nat×Option Book×List (List
 Ev)×Int×(Nat×(List Ev→Prop)×List Ev×Bool)×Unit)=>M.pure (Step.next (σ.1,σ.2.1,σ.2.2.1,IntKind.wrap .i64 (Add.add σ.2.2.2.1 1),
 σ.2.2.2.2.1,()))) else M.bind (M.pure (σ.2.2.2.2.1,())) fun r=>M.pure (Step.done r)) (x.1,x.2.2.1,(Option.getD x.2.1 ([],[[],[],[],[],[],
 [],[],[],[],[]])).2,0,x.2.2.2.1,()))
def S_slices_insSort (c_cmp_Less_int:Int×Int→M Bool) (x:Int×Int×List Int×Unit):M (List Int×Unit):=
 M.loop (fun (σ:Int×Int×Int×List Int×Unit)=>if decide (σ.2.2.1<σ.2.1)=true then M.bind (M.loop (fun (σ:Int×Int×Int×Int×List
 Int×Unit)=>M.req (decide (σ.2.2.2.1 > σ.1)=true→(decide (σ.2.2.2.1 > σ.1)=true∧decide (σ.2.2.2.1 > σ.1)=true)∧(0≤σ.2.2.2.1∧
 σ.2.2.2.1<Int.ofNat (List.length σ.2.2.2.2.1))∧True) (M.req (decide (σ.2.2.2.1 > σ.1)=true→decide (σ.2.2.2.1 > σ.1)=true∧True∧True)
 (M.req (decide (σ.2.2.2.1 > σ.1)=true→(decide (σ.2.2.2.1 > σ.1)=true∧True)∧True∧True) (M.req (decide (σ.2.2.2.1 > σ.1)=true→(decide
 (σ.2.2.2.1 > σ.1)=true∧decide (σ.2.2.2.1 > σ.1)=true)∧(0≤IntKind.wrap .i64 (σ.2.2.2.1 - 1)∧IntKind.wrap .i64 (σ.2.2.2.1 - 1)<Int.ofNat
 (List.length σ.2.2.2.2.1))∧True) (M.req (decide (σ.2.2.2.1 > σ.1)=true→decide (σ.2.2.2.1 > σ.1)=true∧True∧True) (M.req (decide (σ.2.2.2.1
 > σ.1)=true→(decide (σ.2.2.2.1 > σ.1)=true∧decide (σ.2.2.2.1 > σ.1)=true∧True)∧(c_cmp_Less_int (List.getD σ.2.2.2.2.1 (Int.toNat
 σ.2.2.2.1) 0,List.getD σ.2.2.2.2.1 (Int.toNat (IntKind.wrap .i64 (σ.2.2.2.1 - 1))) 0)).safe∧True) (M.req (True∧(decide (σ.2.2.2.1 > σ.1)=true
 →decide (σ.2.2.2.1 > σ.1)=true)) (if (decide (σ.2.2.2.1 > σ.1)&&M.val (c_cmp_Less_int (List.getD σ.2.2.2.2.1 (Int.toNat σ.2.2.2.1) 0,List.getD
 σ.2.2.2.2.1 (Int.toNat (IntKind.wrap .i64 (σ.2.2.2.1 - 1))) 0)) false)=true then M.req (0≤IntKind.wrap .i64 (σ.2.2.2.1 - 1)∧IntKind.wrap .i64
 (σ.2.2.2.1 - 1)<Int.ofNat (List.length σ.2.2.2.2.1)) (M.req (0≤σ.2.2.2.1∧σ.2.2.2.1<Int.ofNat (List.length σ.2.2.2.2.1)) (M.req (0≤σ.2.2.2.1
 ∧σ.2.2.2.1<Int.ofNat (List.length σ.2.2.2.2.1)) (M.req (0≤IntKind.wrap .i64 (σ.2.2.2.1 - 1)∧IntKind.wrap .i64 (σ.2.2.2.1 - 1)<Int.ofNat
 (List.length (List.set σ.2.2.2.2.1 (Int.toNat σ.2.2.2.1) (List.getD σ.2.2.2.2.1 (Int.toNat (IntKind.wrap .i64 (σ.2.2.2.1 - 1))) 0)))) (M.pure
 (Step.next (σ.1,σ.2.1,σ.2.2.1,IntKind.wrap .i64 (σ.2.2.2.1 - 1),List.set (List.set σ.2.2.2.2.1 (Int.toNat σ.2.2.2.1) (List.getD σ.2.2.2.2.1
 (Int.toNat (IntKind.wrap .i64 (σ.2.2.2.1 - 1))) 0)) (Int.toNat (IntKind.wrap .i64 (σ.2.2.2.1 - 1))) (List.getD σ.2.2.2.2.1 (Int.toNat σ.2.2.2.1) 0),
 ())))))) else M.bind (M.pure (Step.next (σ.1,σ.2.1,σ.2.2.1,σ.2.2.2.2.1,()))) fun r=>M.pure (Step.done r))))))))) (σ.1,σ.2.1,σ.2.2.1,σ.2.2.1,
 σ.2.2.2.1,())) (Step.go fun (σ:Int×Int×Int×List Int×Unit)=>M.pure (Step.next (σ.1,σ.2.1,IntKind.wrap .i64 (Add.add σ.2.2.1 1),
 σ.2.2.2.1,()))) else M.bind (M.pure (σ.2.2.2.1,())) fun r=>M.pure (Step.done r)) (x.1,x.2.1,IntKind.wrap .i64 (Add.add x.1 1),x.2.2.1,())
def S_slices_insSortF (x:Int×Int×(Ev×Slip×Int→M Int)×List Ev×Unit):M (List Ev×Unit):=
 M.loop (fun (σ:Int×Int×(Ev×Slip×Int→M Int)×Int×List Ev×Unit)=>if decide (σ.2.2.2.1<σ.2.1)=true then M.bind (M.loop (fun (σ :
 Int×Int×(Ev×Slip×Int→M Int)×Int×Int×List Ev×Unit)=>M.req (decide (σ.2.2.2.2.1 > σ.1)=true→(decide (σ.2.2.2.2.1 > σ.1)=true
 ∧decide (σ.2.2.2.2.1 > σ.1)=true)∧(0≤σ.2.2.2.2.1∧σ.2.2.2.2.1<Int.ofNat (List.length σ.q5))∧True) (M.req (decide (σ.2.2.2.2.1 > σ.1)=
 true→decide (σ.2.2.2.2.1 > σ.1)=true∧True∧True) (M.req (decide (σ.2.2.2.2.1 > σ.1)=true→(decide (σ.2.2.2.2.1 > σ.1)=true∧True)∧True
 ∧True) (M.req (decide (σ.2.2.2.2.1 > σ.1)=true→(decide (σ.2.2.2.2.1 > σ.1)=true∧decide (σ.2.2.2.2.1 > σ.1)=true)∧(0≤IntKind.wrap .i64
 (σ.2.2.2.2.1 - 1)∧IntKind.wrap .i64 (σ.2.2.2.2.1 - 1)<Int.ofNat (List.length σ.q5))∧True) (M.req (decide (σ.2.2.2.2.1 > σ.1)=true→decide
 (σ.2.2.2.2.1 > σ.1)=true∧True∧True) (M.req (decide (σ.2.2.2.2.1 > σ.1)=true→decide (σ.2.2.2.2.1 > σ.1)=true∧decide (σ.2.2.2.2.1 > σ.1)
 =true∧decide (σ.2.2.2.2.1 > σ.1)=true∧True) (M.bind (gdo (decide (σ.2.2.2.2.1 > σ.1)) (σ.2.2.1 (List.getD σ.q5 (Int.toNat σ.2.2.2.2.1) ((0,0,
 0,0,0,0),0),List.getD σ.q5 (Int.toNat (IntKind.wrap .i64 (σ.2.2.2.2.1 - 1))) ((0,0,0,0,0,0),0))) 0) fun y=>if (decide (σ.2.2.2.2.1 >
 σ.1)&&decide (y<0))=true then M.req (0≤IntKind.wrap .i64 (σ.2.2.2.2.1 - 1)∧IntKind.wrap .i64 (σ.2.2.2.2.1 - 1)<Int.ofNat (List.length
 σ.q5)) (M.req (0≤σ.2.2.2.2.1∧σ.2.2.2.2.1<Int.ofNat (List.length σ.q5)) (M.req (0≤σ.2.2.2.2.1∧σ.2.2.2.2.1<Int.ofNat (List.length σ.q5))
 (M.req (0≤IntKind.wrap .i64 (σ.2.2.2.2.1 - 1)∧IntKind.wrap .i64 (σ.2.2.2.2.1 - 1)<Int.ofNat (List.length (List.set σ.q5 (Int.toNat σ.2.2.2.2.1)
 (List.getD σ.q5 (Int.toNat (IntKind.wrap .i64 (σ.2.2.2.2.1 - 1))) ((0,0,0,0,0,0),0))))) (M.pure (Step.next (σ.1,σ.2.1,σ.2.2.1,σ.2.2.2.1,
 IntKind.wrap .i64 (σ.2.2.2.2.1 - 1),List.set (List.set σ.q5 (Int.toNat σ.2.2.2.2.1) (List.getD σ.q5 (Int.toNat (IntKind.wrap .i64 (σ.2.2.2.2.1 -
 1))) ((0,0,0,0,0,0),0))) (Int.toNat (IntKind.wrap .i64 (σ.2.2.2.2.1 - 1))) (List.getD σ.q5 (Int.toNat σ.2.2.2.2.1) ((0,0,0,0,0,0),0)),
 ())))))) else M.bind (M.pure (Step.next (σ.1,σ.2.1,σ.2.2.1,σ.2.2.2.1,σ.q5,()))) fun r=>M.pure (Step.done r)))))))) (σ.1,σ.2.1,σ.2.2.1,
 σ.2.2.2.1,σ.2.2.2.1,σ.2.2.2.2.1,())) (Step.go fun (σ:Int×Int×(Ev×Slip×Int→M Int)×Int×List Ev×Unit)=>M.pure (Step.next (σ.1,
 σ.2.1,σ.2.2.1,IntKind.wrap .i64 (Add.add σ.2.2.2.1 1),σ.2.2.2.2.1,()))) else M.bind (M.pure (σ.2.2.2.2.1,())) fun r=>M.pure (Step.done r))
 (x.1,x.2.1,x.2.2.1,IntKind.wrap .i64 (Add.add x.1 1),x.2.2.2.1,())
def S_maps_KeysI (x:Nat×List (Int×Int)×(Nat×(List Int→Prop)×List Int×Bool)×Unit):M ((Nat×(List Int→Prop)×List Int×Bool)×Unit):=
 M.bind (M.pure ()) fun y=>M.loop (fun (σ:Nat×(Nat×(List Int→Prop)×List Int×Bool)×(Option (Int×Int)×List (Int×Int))×Unit)=>
 M.bind (pickI σ.2.2.1.2) fun y=>if Option.isSome y=true then M.bind (M.req (Option.isSome (nxtC σ.2.2.1.1 σ.2.2.1.2 y)=true) (M.pure ())) fun y_1
 =>M.bind (M.req (σ.1=σ.2.1.1∧σ.2.1.2.2.2=false∧∃ (T:List Int),σ.2.1.2.1 (σ.2.1.2.2.1++Option.getD (Option.map (fun x=>x.1) (nxtC
 σ.2.2.1.1 σ.2.2.1.2 y)) 0::T)) (M.any fun x=>True)) fun y_2=>if (!y_2)=true then M.bind (M.pure ((σ.2.1.1,σ.2.1.2.1,σ.2.1.2.2.1++
 [Option.getD (Option.map (fun x=>x.1) (nxtC σ.2.2.1.1 σ.2.2.1.2 y)) 0],!y_2),())) fun r=>M.pure (Step.done r) else M.pure (Step.next (σ.1,
 (σ.2.1.1,σ.2.1.2.1,σ.2.1.2.2.1++[Option.getD (Option.map (fun x=>x.1) (nxtC σ.2.2.1.1 σ.2.2.1.2 y)) 0],!y_2),(nxtC σ.2.2.1.1 σ.2.2.1.2 y,
 nxtR σ.2.2.1.2 y),())) else M.bind (M.pure (σ.2.1,())) fun r=>M.pure (Step.done r)) (x.1,x.2.2.1,(none,x.2.1),())
def S_maps_KeysS (x:Nat×List (Int×Slip)×(Nat×(List Int→Prop)×List Int×Bool)×Unit):M ((Nat×(List Int→Prop)×List Int×Bool)×Unit):=
 M.bind (M.pure ()) fun y=>M.loop (fun (σ:Nat×(Nat×(List Int→Prop)×List Int×Bool)×(Option Tar×List (Int×Slip))×Unit)=>M.bind
 (pickI σ.2.2.1.2) fun y=>if Option.isSome y=true then M.bind (M.req (Option.isSome (nxtC σ.2.2.1.1 σ.2.2.1.2 y)=true) (M.pure ())) fun y_1=>
 M.bind (M.req (σ.1=σ.2.1.1∧σ.2.1.2.2.2=false∧∃ (T:List Int),σ.2.1.2.1 (σ.2.1.2.2.1++Option.getD (Option.map (fun x=>x.1) (nxtC
 σ.2.2.1.1 σ.2.2.1.2 y)) 0::T)) (M.any fun x=>True)) fun y_2=>if (!y_2)=true then M.bind (M.pure ((σ.2.1.1,σ.2.1.2.1,σ.2.1.2.2.1++
 [Option.getD (Option.map (fun x=>x.1) (nxtC σ.2.2.1.1 σ.2.2.1.2 y)) 0],!y_2),())) fun r=>M.pure (Step.done r) else M.pure (Step.next (σ.1,
 (σ.2.1.1,σ.2.1.2.1,σ.2.1.2.2.1++[Option.getD (Option.map (fun x=>x.1) (nxtC σ.2.2.1.1 σ.2.2.1.2 y)) 0],!y_2),(nxtC σ.2.2.1.1 σ.2.2.1.2 y,
 nxtR σ.2.2.1.2 y),())) else M.bind (M.pure (σ.2.1,())) fun r=>M.pure (Step.done r)) (x.1,x.2.2.1,(none,x.2.1),())
def S_hire_onceIO (c_slices_Sorted_int:(List Int→Prop)→M (List Int)) (c_maps_Keys_map_int_api_Slip_int_api_Slip:List (Int×Slip)→M (List Int→Prop)) (x:List Slip×Unit):M (Bool×List Slip×Unit):=
 M.bind (M.loop (fun (σ:List Slip×Int×Int×List (Int×Slip)×Unit)=>if decide (σ.2.2.1<σ.2.1)=true then M.req (0≤σ.2.2.1∧σ.2.2.1 <
 Int.ofNat (List.length σ.1)) (if (Option.isSome (Option.map (fun x=>x.2) (List.find? (fun p=>decide ((List.getD σ.1 (Int.toNat σ.2.2.1) (0,0,0,
 0,0,0)).1=p.1)) σ.2.2.2.1))&&!(decide ((Option.getD (Option.map (fun x=>x.2) (List.find? (fun p=>decide ((List.getD σ.1 (Int.toNat σ.2.2.1)
 (0,0,0,0,0,0)).1=p.1)) σ.2.2.2.1)) (0,0,0,0,0,0)).1=(List.getD σ.1 (Int.toNat σ.2.2.1) (0,0,0,0,0,0)).1)&&(decide ((Option.getD
 (Option.map (fun x=>x.2) (List.find? (fun p=>decide ((List.getD σ.1 (Int.toNat σ.2.2.1) (0,0,0,0,0,0)).1=p.1)) σ.2.2.2.1)) (0,0,0,0,0,
 0)).2.1=(List.getD σ.1 (Int.toNat σ.2.2.1) (0,0,0,0,0,0)).2.1)&&(decide ((Option.getD (Option.map (fun x=>x.2) (List.find? (fun p=>
 decide ((List.getD σ.1 (Int.toNat σ.2.2.1) (0,0,0,0,0,0)).1=p.1)) σ.2.2.2.1)) (0,0,0,0,0,0)).2.2.1=(List.getD σ.1 (Int.toNat σ.2.2.1)
 (0,0,0,0,0,0)).2.2.1)&&(decide ((Option.getD (Option.map (fun x=>x.2) (List.find? (fun p=>decide ((List.getD σ.1 (Int.toNat σ.2.2.1) (0,
 0,0,0,0,0)).1=p.1)) σ.2.2.2.1)) (0,0,0,0,0,0)).2.2.2.1=(List.getD σ.1 (Int.toNat σ.2.2.1) (0,0,0,0,0,0)).2.2.2.1)&&(decide
 ((Option.getD (Option.map (fun x=>x.2) (List.find? (fun p=>decide ((List.getD σ.1 (Int.toNat σ.2.2.1) (0,0,0,0,0,0)).1=p.1)) σ.2.2.2.1))
 (0,0,0,0,0,0)).2.2.2.2.1=(List.getD σ.1 (Int.toNat σ.2.2.1) (0,0,0,0,0,0)).2.2.2.2.1)&&decide ((Option.getD (Option.map (fun x=>x.2)
 (List.find? (fun p=>decide ((List.getD σ.1 (Int.toNat σ.2.2.1) (0,0,0,0,0,0)).1=p.1)) σ.2.2.2.1)) (0,0,0,0,0,0)).2.2.2.2.2=(List.getD
 σ.1 (Int.toNat σ.2.2.1) (0,0,0,0,0,0)).2.2.2.2.2)))))))=true then M.bind (M.bind M.fail fun r=>M.pure (Step.done r)) fun r=>M.pure
 (Step.done r) else M.pure (Step.next (σ.1,σ.2.1,IntKind.wrap .i64 (Add.add σ.2.2.1 1),msetS σ.2.2.2.1 (List.getD σ.1 (Int.toNat σ.2.2.1) (0,0,0,
 0,0,0)).1 (List.getD σ.1 (Int.toNat σ.2.2.1) (0,0,0,0,0,0)),()))) else M.bind (M.pure (Step.next (σ.2.2.2.1,()))) fun r=>M.pure (Step.done
 r)) (x.1,Int.ofNat (List.length x.1),0,[],())) (Step.go fun (σ:List (Int×Slip)×Unit)=>M.bind (M.bind
 (c_maps_Keys_map_int_api_Slip_int_api_Slip σ.1) fun y=>M.bind (c_slices_Sorted_int y) fun y=>M.loop (fun (σ:List Int×Int×Int×List Slip×
 List (Int×Slip)×Unit)=>if decide (σ.2.2.1<σ.2.1)=true then M.req (0≤σ.2.2.1∧σ.2.2.1<Int.ofNat (List.length σ.1)) (M.req (lenLe
 (Add.add (List.length σ.2.2.2.1) (Add.add 0 1))) (M.pure (Step.next (σ.1,σ.2.1,IntKind.wrap .i64 (Add.add σ.2.2.1 1),σ.2.2.2.1++[Option.getD
 (Option.map (fun x=>x.2) (List.find? (fun p=>decide (List.getD σ.1 (Int.toNat σ.2.2.1) 0=p.1)) σ.2.2.2.2.1)) (0,0,0,0,0,0)],σ.2.2.2.2.1,
 ())))) else M.bind (M.pure (Step.next (σ.2.2.2.1,()))) fun r=>M.pure (Step.done r)) (y,Int.ofNat (List.length y),0,[],σ.1,())) (Step.go fun (σ
 : List Slip×Unit)=>M.pure (true,σ.1,())))
def S_hire_book_open (c_slices_Clone_int_int:List Int→M (List Int)) (c_slices_SortFunc:(Ev×Slip×Int→M Int)×List Ev×Unit→M (List Ev×Unit)) (c_hire_book_open_c1:Ev×Slip×Int→M Int) (x:List Int×Cells):M (Option Tru×Bool×Cells):=
 M.bind (M.bind (c_slices_Clone_int_int x.1) fun y=>M.pure (Step.next (x.1,y,x.2.1,x.2.2.1,x.2.2.2.1,x.2.2.2.2.1,x.q5,x.q6,x.q7,x.q8,x.q9,
 x.q10,x.q11,x.q12,x.q13,[],[],[],[],[],[],[],[],[],[],()))) (Step.go fun (σ:List Int×List Int×List (Int×Int)×List Slip×List
 Int×List (Int×Int)×Int×Int×Int×Int×Int×Int×Int×List Slip×List (Option Tru)×List Ev×List Ev×List Ev×List Ev×List Ev×
 List Ev×List Ev×List Ev×List Ev×List Ev×Unit)=>M.bind (M.req True (M.loop (fun (σ:List Int×List Slip×Int×Int×List Int×List Ev
 ×List Ev×List Ev×List Ev×List Ev×List Ev×List Ev×List Ev×List Ev×List Ev×Cells)=>if decide (σ.2.2.2.1<σ.2.2.1)=true then
 M.bind (M.req (0≤σ.2.2.2.1∧σ.2.2.2.1<Int.ofNat (List.length σ.2.1)) (M.req (0≤(List.getD σ.2.1 (Int.toNat σ.2.2.2.1) (0,0,0,0,0,
 0)).2.2.2.2.1∧(List.getD σ.2.1 (Int.toNat σ.2.2.2.1) (0,0,0,0,0,0)).2.2.2.2.1<Int.ofNat 10) (if (List.getD σ.2.1 (Int.toNat σ.2.2.2.1) (0,
 0,0,0,0,0)).2.2.2.2.1=Int.ofNat (Add.add 8 1) then M.req True (M.req (0≤Int.ofNat (Add.add 8 1)∧Int.ofNat (Add.add 8 1)<Int.ofNat 10)
 (M.req (0≤(List.getD σ.2.1 (Int.toNat σ.2.2.2.1) (0,0,0,0,0,0)).2.1∧(List.getD σ.2.1 (Int.toNat σ.2.2.2.1) (0,0,0,0,0,0)).2.1 <
 Int.ofNat (List.length σ.1)) (M.req (lenLe (Add.add (List.length σ.q14) (Add.add 0 1))) (M.req True (M.req (0≤Int.ofNat (Add.add 8 1)∧Int.ofNat
 (Add.add 8 1)<Int.ofNat 10) (M.pure (Step.next (σ.1,σ.2.1,σ.2.2.1,σ.2.2.2.1,σ.2.2.2.2.1,σ.q5,σ.q6,σ.q7,σ.q8,σ.q9,σ.q10,σ.q11,σ.q12,
 σ.q13,σ.q14++[(((List.getD σ.2.1 (Int.toNat σ.2.2.2.1) (0,0,0,0,0,0)).1,(List.getD σ.2.1 (Int.toNat σ.2.2.2.1) (0,0,0,0,0,0)).2.1,
 (List.getD σ.2.1 (Int.toNat σ.2.2.2.1) (0,0,0,0,0,0)).2.2.1,(List.getD σ.2.1 (Int.toNat σ.2.2.2.1) (0,0,0,0,0,0)).2.2.2.1,Int.ofNat
 (Add.add 8 1),(List.getD σ.2.1 (Int.toNat σ.2.2.2.1) (0,0,0,0,0,0)).2.2.2.2.2),IntKind.wrap .i64 (Add.add (List.getD σ.2.1 (Int.toNat
 σ.2.2.2.1) (0,0,0,0,0,0)).2.2.1 (List.getD σ.1 (Int.toNat (List.getD σ.2.1 (Int.toNat σ.2.2.2.1) (0,0,0,0,0,0)).2.1) 0)))],σ.q15,σ.q16,
 σ.q17,σ.q18,σ.q19,σ.q20,σ.q21,σ.q22,σ.q23,σ.q24,σ.q25,σ.q26,σ.q27,())))))))) else if (List.getD σ.2.1 (Int.toNat σ.2.2.2.1) (0,0,0,0,
 0,0)).2.2.2.2.1=Int.ofNat (Add.add 7 1) then M.req True (M.req (0≤Int.ofNat (Add.add 7 1)∧Int.ofNat (Add.add 7 1)<Int.ofNat 10) (M.req (0≤
 (List.getD σ.2.1 (Int.toNat σ.2.2.2.1) (0,0,0,0,0,0)).2.1∧(List.getD σ.2.1 (Int.toNat σ.2.2.2.1) (0,0,0,0,0,0)).2.1<Int.ofNat
 (List.length σ.1)) (M.req (lenLe (Add.add (List.length σ.q13) (Add.add 0 1))) (M.req True (M.req (0≤Int.ofNat (Add.add 7 1)∧Int.ofNat (Add.add 7
 1)<Int.ofNat 10) (M.pure (Step.next (σ.1,σ.2.1,σ.2.2.1,σ.2.2.2.1,σ.2.2.2.2.1,σ.q5,σ.q6,σ.q7,σ.q8,σ.q9,σ.q10,σ.q11,σ.q12,σ.q13++
 [(((List.getD σ.2.1 (Int.toNat σ.2.2.2.1) (0,0,0,0,0,0)).1,(List.getD σ.2.1 (Int.toNat σ.2.2.2.1) (0,0,0,0,0,0)).2.1,(List.getD σ.2.1
 (Int.toNat σ.2.2.2.1) (0,0,0,0,0,0)).2.2.1,(List.getD σ.2.1 (Int.toNat σ.2.2.2.1) (0,0,0,0,0,0)).2.2.2.1,Int.ofNat (Add.add 7 1),
 (List.getD σ.2.1 (Int.toNat σ.2.2.2.1) (0,0,0,0,0,0)).2.2.2.2.2),IntKind.wrap .i64 (Add.add (List.getD σ.2.1 (Int.toNat σ.2.2.2.1) (0,0,0,0,
 0,0)).2.2.1 (List.getD σ.1 (Int.toNat (List.getD σ.2.1 (Int.toNat σ.2.2.2.1) (0,0,0,0,0,0)).2.1) 0)))],σ.q14,σ.q15,σ.q16,σ.q17,σ.q18,
 σ.q19,σ.q20,σ.q21,σ.q22,σ.q23,σ.q24,σ.q25,σ.q26,σ.q27,())))))))) else if (List.getD σ.2.1 (Int.toNat σ.2.2.2.1) (0,0,0,0,0,
 0)).2.2.2.2.1=Int.ofNat (Add.add 6 1) then M.req True (M.req (0≤Int.ofNat (Add.add 6 1)∧Int.ofNat (Add.add 6 1)<Int.ofNat 10) (M.req (0≤
 (List.getD σ.2.1 (Int.toNat σ.2.2.2.1) (0,0,0,0,0,0)).2.1∧(List.getD σ.2.1 (Int.toNat σ.2.2.2.1) (0,0,0,0,0,0)).2.1<Int.ofNat
 (List.length σ.1)) (M.req (lenLe (Add.add (List.length σ.q12) (Add.add 0 1))) (M.req True (M.req (0≤Int.ofNat (Add.add 6 1)∧Int.ofNat (Add.add 6
 1)<Int.ofNat 10) (M.pure (Step.next (σ.1,σ.2.1,σ.2.2.1,σ.2.2.2.1,σ.2.2.2.2.1,σ.q5,σ.q6,σ.q7,σ.q8,σ.q9,σ.q10,σ.q11,σ.q12++
 [(((List.getD σ.2.1 (Int.toNat σ.2.2.2.1) (0,0,0,0,0,0)).1,(List.getD σ.2.1 (Int.toNat σ.2.2.2.1) (0,0,0,0,0,0)).2.1,(List.getD σ.2.1
 (Int.toNat σ.2.2.2.1) (0,0,0,0,0,0)).2.2.1,(List.getD σ.2.1 (Int.toNat σ.2.2.2.1) (0,0,0,0,0,0)).2.2.2.1,Int.ofNat (Add.add 6 1),
 (List.getD σ.2.1 (Int.toNat σ.2.2.2.1) (0,0,0,0,0,0)).2.2.2.2.2),IntKind.wrap .i64 (Add.add (List.getD σ.2.1 (Int.toNat σ.2.2.2.1) (0,0,0,0,
 0,0)).2.2.1 (List.getD σ.1 (Int.toNat (List.getD σ.2.1 (Int.toNat σ.2.2.2.1) (0,0,0,0,0,0)).2.1) 0)))],σ.q13,σ.q14,σ.q15,σ.q16,σ.q17,
 σ.q18,σ.q19,σ.q20,σ.q21,σ.q22,σ.q23,σ.q24,σ.q25,σ.q26,σ.q27,())))))))) else if (List.getD σ.2.1 (Int.toNat σ.2.2.2.1) (0,0,0,0,0,
 0)).2.2.2.2.1=Int.ofNat (Add.add 5 1) then M.req True (M.req (0≤Int.ofNat (Add.add 5 1)∧Int.ofNat (Add.add 5 1)<Int.ofNat 10) (M.req (0≤
 (List.getD σ.2.1 (Int.toNat σ.2.2.2.1) (0,0,0,0,0,0)).2.1∧(List.getD σ.2.1 (Int.toNat σ.2.2.2.1) (0,0,0,0,0,0)).2.1<Int.ofNat
 (List.length σ.1)) (M.req (lenLe (Add.add (List.length σ.q11) (Add.add 0 1))) (M.req True (M.req (0≤Int.ofNat (Add.add 5 1)∧Int.ofNat (Add.add 5
 1)<Int.ofNat 10) (M.pure (Step.next (σ.1,σ.2.1,σ.2.2.1,σ.2.2.2.1,σ.2.2.2.2.1,σ.q5,σ.q6,σ.q7,σ.q8,σ.q9,σ.q10,σ.q11++[(((List.getD σ.2.1
 (Int.toNat σ.2.2.2.1) (0,0,0,0,0,0)).1,(List.getD σ.2.1 (Int.toNat σ.2.2.2.1) (0,0,0,0,0,0)).2.1,(List.getD σ.2.1 (Int.toNat σ.2.2.2.1)
 (0,0,0,0,0,0)).2.2.1,(List.getD σ.2.1 (Int.toNat σ.2.2.2.1) (0,0,0,0,0,0)).2.2.2.1,Int.ofNat (Add.add 5 1),(List.getD σ.2.1 (Int.toNat
 σ.2.2.2.1) (0,0,0,0,0,0)).2.2.2.2.2),IntKind.wrap .i64 (Add.add (List.getD σ.2.1 (Int.toNat σ.2.2.2.1) (0,0,0,0,0,0)).2.2.1 (List.getD σ.1
 (Int.toNat (List.getD σ.2.1 (Int.toNat σ.2.2.2.1) (0,0,0,0,0,0)).2.1) 0)))],σ.q12,σ.q13,σ.q14,σ.q15,σ.q16,σ.q17,σ.q18,σ.q19,σ.q20,
 σ.q21,σ.q22,σ.q23,σ.q24,σ.q25,σ.q26,σ.q27,())))))))) else if (List.getD σ.2.1 (Int.toNat σ.2.2.2.1) (0,0,0,0,0,0)).2.2.2.2.1=Int.ofNat
 (Add.add 4 1) then M.req True (M.req (0≤Int.ofNat (Add.add 4 1)∧Int.ofNat (Add.add 4 1)<Int.ofNat 10) (M.req (0≤(List.getD σ.2.1 (Int.toNat
 σ.2.2.2.1) (0,0,0,0,0,0)).2.1∧(List.getD σ.2.1 (Int.toNat σ.2.2.2.1) (0,0,0,0,0,0)).2.1<Int.ofNat (List.length σ.1)) (M.req (lenLe
 (Add.add (List.length σ.q10) (Add.add 0 1))) (M.req True (M.req (0≤Int.ofNat (Add.add 4 1)∧Int.ofNat (Add.add 4 1)<Int.ofNat 10) (M.pure
 (Step.next (σ.1,σ.2.1,σ.2.2.1,σ.2.2.2.1,σ.2.2.2.2.1,σ.q5,σ.q6,σ.q7,σ.q8,σ.q9,σ.q10++[(((List.getD σ.2.1 (Int.toNat σ.2.2.2.1) (0,0,0,
 0,0,0)).1,(List.getD σ.2.1 (Int.toNat σ.2.2.2.1) (0,0,0,0,0,0)).2.1,(List.getD σ.2.1 (Int.toNat σ.2.2.2.1) (0,0,0,0,0,0)).2.2.1,
 (List.getD σ.2.1 (Int.toNat σ.2.2.2.1) (0,0,0,0,0,0)).2.2.2.1,Int.ofNat (Add.add 4 1),(List.getD σ.2.1 (Int.toNat σ.2.2.2.1) (0,0,0,0,0,
 0)).2.2.2.2.2),IntKind.wrap .i64 (Add.add (List.getD σ.2.1 (Int.toNat σ.2.2.2.1) (0,0,0,0,0,0)).2.2.1 (List.getD σ.1 (Int.toNat (List.getD
 σ.2.1 (Int.toNat σ.2.2.2.1) (0,0,0,0,0,0)).2.1) 0)))],σ.q11,σ.q12,σ.q13,σ.q14,σ.q15,σ.q16,σ.q17,σ.q18,σ.q19,σ.q20,σ.q21,σ.q22,
 σ.q23,σ.q24,σ.q25,σ.q26,σ.q27,())))))))) else if (List.getD σ.2.1 (Int.toNat σ.2.2.2.1) (0,0,0,0,0,0)).2.2.2.2.1=Int.ofNat (Add.add 3 1)
 then M.req True (M.req (0≤Int.ofNat (Add.add 3 1)∧Int.ofNat (Add.add 3 1)<Int.ofNat 10) (M.req (0≤(List.getD σ.2.1 (Int.toNat σ.2.2.2.1) (0,
 0,0,0,0,0)).2.1∧(List.getD σ.2.1 (Int.toNat σ.2.2.2.1) (0,0,0,0,0,0)).2.1<Int.ofNat (List.length σ.1)) (M.req (lenLe (Add.add
 (List.length σ.q9) (Add.add 0 1))) (M.req True (M.req (0≤Int.ofNat (Add.add 3 1)∧Int.ofNat (Add.add 3 1)<Int.ofNat 10) (M.pure (Step.next (σ.1,
 σ.2.1,σ.2.2.1,σ.2.2.2.1,σ.2.2.2.2.1,σ.q5,σ.q6,σ.q7,σ.q8,σ.q9++[(((List.getD σ.2.1 (Int.toNat σ.2.2.2.1) (0,0,0,0,0,0)).1,(List.getD
 σ.2.1 (Int.toNat σ.2.2.2.1) (0,0,0,0,0,0)).2.1,(List.getD σ.2.1 (Int.toNat σ.2.2.2.1) (0,0,0,0,0,0)).2.2.1,(List.getD σ.2.1 (Int.toNat
 σ.2.2.2.1) (0,0,0,0,0,0)).2.2.2.1,Int.ofNat (Add.add 3 1),(List.getD σ.2.1 (Int.toNat σ.2.2.2.1) (0,0,0,0,0,0)).2.2.2.2.2),IntKind.wrap
 .i64 (Add.add (List.getD σ.2.1 (Int.toNat σ.2.2.2.1) (0,0,0,0,0,0)).2.2.1 (List.getD σ.1 (Int.toNat (List.getD σ.2.1 (Int.toNat σ.2.2.2.1) (0,
 0,0,0,0,0)).2.1) 0)))],σ.q10,σ.q11,σ.q12,σ.q13,σ.q14,σ.q15,σ.q16,σ.q17,σ.q18,σ.q19,σ.q20,σ.q21,σ.q22,σ.q23,σ.q24,σ.q25,σ.q26,
 σ.q27,())))))))) else if (List.getD σ.2.1 (Int.toNat σ.2.2.2.1) (0,0,0,0,0,0)).2.2.2.2.1=Int.ofNat (Add.add 2 1) then M.req True (M.req (0≤
 Int.ofNat (Add.add 2 1)∧Int.ofNat (Add.add 2 1)<Int.ofNat 10) (M.req (0≤(List.getD σ.2.1 (Int.toNat σ.2.2.2.1) (0,0,0,0,0,0)).2.1∧
 (List.getD σ.2.1 (Int.toNat σ.2.2.2.1) (0,0,0,0,0,0)).2.1<Int.ofNat (List.length σ.1)) (M.req (lenLe (Add.add (List.length σ.q8) (Add.add 0
 1))) (M.req True (M.req (0≤Int.ofNat (Add.add 2 1)∧Int.ofNat (Add.add 2 1)<Int.ofNat 10) (M.pure (Step.next (σ.1,σ.2.1,σ.2.2.1,σ.2.2.2.1,
 σ.2.2.2.2.1,σ.q5,σ.q6,σ.q7,σ.q8++[(((List.getD σ.2.1 (Int.toNat σ.2.2.2.1) (0,0,0,0,0,0)).1,(List.getD σ.2.1 (Int.toNat σ.2.2.2.1) (0,0,
 0,0,0,0)).2.1,(List.getD σ.2.1 (Int.toNat σ.2.2.2.1) (0,0,0,0,0,0)).2.2.1,(List.getD σ.2.1 (Int.toNat σ.2.2.2.1) (0,0,0,0,0,
 0)).2.2.2.1,Int.ofNat (Add.add 2 1),(List.getD σ.2.1 (Int.toNat σ.2.2.2.1) (0,0,0,0,0,0)).2.2.2.2.2),IntKind.wrap .i64 (Add.add (List.getD
 σ.2.1 (Int.toNat σ.2.2.2.1) (0,0,0,0,0,0)).2.2.1 (List.getD σ.1 (Int.toNat (List.getD σ.2.1 (Int.toNat σ.2.2.2.1) (0,0,0,0,0,0)).2.1)
 0)))],σ.q9,σ.q10,σ.q11,σ.q12,σ.q13,σ.q14,σ.q15,σ.q16,σ.q17,σ.q18,σ.q19,σ.q20,σ.q21,σ.q22,σ.q23,σ.q24,σ.q25,σ.q26,σ.q27,()))))))))
 else if (List.getD σ.2.1 (Int.toNat σ.2.2.2.1) (0,0,0,0,0,0)).2.2.2.2.1=Int.ofNat (Add.add 1 1) then M.req True (M.req (0≤Int.ofNat (Add.add
 1 1)∧Int.ofNat (Add.add 1 1)<Int.ofNat 10) (M.req (0≤(List.getD σ.2.1 (Int.toNat σ.2.2.2.1) (0,0,0,0,0,0)).2.1∧(List.getD σ.2.1
 (Int.toNat σ.2.2.2.1) (0,0,0,0,0,0)).2.1<Int.ofNat (List.length σ.1)) (M.req (lenLe (Add.add (List.length σ.q7) (Add.add 0 1))) (M.req True
 (M.req (0≤Int.ofNat (Add.add 1 1)∧Int.ofNat (Add.add 1 1)<Int.ofNat 10) (M.pure (Step.next (σ.1,σ.2.1,σ.2.2.1,σ.2.2.2.1,σ.2.2.2.2.1,σ.q5,
 σ.q6,σ.q7++[(((List.getD σ.2.1 (Int.toNat σ.2.2.2.1) (0,0,0,0,0,0)).1,(List.getD σ.2.1 (Int.toNat σ.2.2.2.1) (0,0,0,0,0,0)).2.1,
 (List.getD σ.2.1 (Int.toNat σ.2.2.2.1) (0,0,0,0,0,0)).2.2.1,(List.getD σ.2.1 (Int.toNat σ.2.2.2.1) (0,0,0,0,0,0)).2.2.2.1,Int.ofNat
 (Add.add 1 1),(List.getD σ.2.1 (Int.toNat σ.2.2.2.1) (0,0,0,0,0,0)).2.2.2.2.2),IntKind.wrap .i64 (Add.add (List.getD σ.2.1 (Int.toNat
 σ.2.2.2.1) (0,0,0,0,0,0)).2.2.1 (List.getD σ.1 (Int.toNat (List.getD σ.2.1 (Int.toNat σ.2.2.2.1) (0,0,0,0,0,0)).2.1) 0)))],σ.q8,σ.q9,
 σ.q10,σ.q11,σ.q12,σ.q13,σ.q14,σ.q15,σ.q16,σ.q17,σ.q18,σ.q19,σ.q20,σ.q21,σ.q22,σ.q23,σ.q24,σ.q25,σ.q26,σ.q27,())))))))) else if
 (List.getD σ.2.1 (Int.toNat σ.2.2.2.1) (0,0,0,0,0,0)).2.2.2.2.1=Int.ofNat (Add.add 0 1) then M.req True (M.req (0≤Int.ofNat (Add.add 0 1)∧
 Int.ofNat (Add.add 0 1)<Int.ofNat 10) (M.req (0≤(List.getD σ.2.1 (Int.toNat σ.2.2.2.1) (0,0,0,0,0,0)).2.1∧(List.getD σ.2.1 (Int.toNat
 σ.2.2.2.1) (0,0,0,0,0,0)).2.1<Int.ofNat (List.length σ.1)) (M.req (lenLe (Add.add (List.length σ.q6) (Add.add 0 1))) (M.req True (M.req (0≤
 Int.ofNat (Add.add 0 1)∧Int.ofNat (Add.add 0 1)<Int.ofNat 10) (M.pure (Step.next (σ.1,σ.2.1,σ.2.2.1,σ.2.2.2.1,σ.2.2.2.2.1,σ.q5,σ.q6++
 [(((List.getD σ.2.1 (Int.toNat σ.2.2.2.1) (0,0,0,0,0,0)).1,(List.getD σ.2.1 (Int.toNat σ.2.2.2.1) (0,0,0,0,0,0)).2.1,(List.getD σ.2.1
 (Int.toNat σ.2.2.2.1) (0,0,0,0,0,0)).2.2.1,(List.getD σ.2.1 (Int.toNat σ.2.2.2.1) (0,0,0,0,0,0)).2.2.2.1,Int.ofNat (Add.add 0 1),
 (List.getD σ.2.1 (Int.toNat σ.2.2.2.1) (0,0,0,0,0,0)).2.2.2.2.2),IntKind.wrap .i64 (Add.add (List.getD σ.2.1 (Int.toNat σ.2.2.2.1) (0,0,0,0,
 0,0)).2.2.1 (List.getD σ.1 (Int.toNat (List.getD σ.2.1 (Int.toNat σ.2.2.2.1) (0,0,0,0,0,0)).2.1) 0)))],σ.q7,σ.q8,σ.q9,σ.q10,σ.q11,σ.q12,
 σ.q13,σ.q14,σ.q15,σ.q16,σ.q17,σ.q18,σ.q19,σ.q20,σ.q21,σ.q22,σ.q23,σ.q24,σ.q25,σ.q26,σ.q27,())))))))) else M.req True (M.req (0≤
 Int.ofNat 0∧Int.ofNat 0<Int.ofNat 10) (M.req (0≤(List.getD σ.2.1 (Int.toNat σ.2.2.2.1) (0,0,0,0,0,0)).2.1∧(List.getD σ.2.1 (Int.toNat
 σ.2.2.2.1) (0,0,0,0,0,0)).2.1<Int.ofNat (List.length σ.1)) (M.req (lenLe (Add.add (List.length σ.q5) (Add.add 0 1))) (M.req True (M.req (0≤
 Int.ofNat 0∧Int.ofNat 0<Int.ofNat 10) (M.pure (Step.next (σ.1,σ.2.1,σ.2.2.1,σ.2.2.2.1,σ.2.2.2.2.1,σ.q5++[(((List.getD σ.2.1 (Int.toNat
 σ.2.2.2.1) (0,0,0,0,0,0)).1,(List.getD σ.2.1 (Int.toNat σ.2.2.2.1) (0,0,0,0,0,0)).2.1,(List.getD σ.2.1 (Int.toNat σ.2.2.2.1) (0,0,0,0,
 0,0)).2.2.1,(List.getD σ.2.1 (Int.toNat σ.2.2.2.1) (0,0,0,0,0,0)).2.2.2.1,Int.ofNat 0,(List.getD σ.2.1 (Int.toNat σ.2.2.2.1) (0,0,0,0,0,
 0)).2.2.2.2.2),IntKind.wrap .i64 (Add.add (List.getD σ.2.1 (Int.toNat σ.2.2.2.1) (0,0,0,0,0,0)).2.2.1 (List.getD σ.1 (Int.toNat (List.getD
 σ.2.1 (Int.toNat σ.2.2.2.1) (0,0,0,0,0,0)).2.1) 0)))],σ.q6,σ.q7,σ.q8,σ.q9,σ.q10,σ.q11,σ.q12,σ.q13,σ.q14,σ.q15,σ.q16,σ.q17,σ.q18,
 σ.q19,σ.q20,σ.q21,σ.q22,σ.q23,σ.q24,σ.q25,σ.q26,σ.q27,()))))))))))) (Step.go fun (σ:List Int×List Slip×Int×Int×List Int×List Ev
 ×List Ev×List Ev×List Ev×List Ev×List Ev×List Ev×List Ev×List Ev×List Ev×Cells)=>M.pure (Step.next (σ.1,σ.2.1,σ.2.2.1,
 IntKind.wrap .i64 (Add.add σ.2.2.2.1 1),σ.2.2.2.2.1,σ.q5,σ.q6,σ.q7,σ.q8,σ.q9,σ.q10,σ.q11,σ.q12,σ.q13,σ.q14,σ.q15,σ.q16,σ.q17,σ.q18,
 σ.q19,σ.q20,σ.q21,σ.q22,σ.q23,σ.q24,σ.q25,σ.q26,σ.q27,()))) else M.bind (M.pure (Step.next (σ.2.2.2.2.1,σ.q5,σ.q6,σ.q7,σ.q8,σ.q9,
 σ.q10,σ.q11,σ.q12,σ.q13,σ.q14,σ.q15,σ.q16,σ.q17,σ.q18,σ.q19,σ.q20,σ.q21,σ.q22,σ.q23,σ.q24,σ.q25,σ.q26,σ.q27,()))) fun r=>M.pure
 (Step.done r)) (σ.1,σ.q13,Int.ofNat (List.length σ.q13),0,σ.2.1,σ.q15,σ.q16,σ.q17,σ.q18,σ.q19,σ.q20,σ.q21,σ.q22,σ.q23,σ.q24,σ.2.2.1,
 σ.2.2.2.1,σ.2.2.2.2.1,σ.q5,σ.q6,σ.q7,σ.q8,σ.q9,σ.q10,σ.q11,σ.q12,σ.q13,σ.q14,()))) (Step.go fun (σ:List Int×List Ev×List Ev×List
 Ev×List Ev×List Ev×List Ev×List Ev×List Ev×List Ev×List Ev×Cells)=>M.bind (M.req True (M.req (0=Int.ofNat 0) (M.bind (M.req (0≤
 Int.ofNat 0∧Int.ofNat 0<Int.ofNat 10) (M.bind (c_slices_SortFunc (c_hire_book_open_c1,σ.2.1,())) fun y=>M.loop (fun (σ:Int×Int×Int×
 List Int×List Ev×List Ev×List Ev×List Ev×List Ev×List Ev×List Ev×List Ev×List Ev×List Ev×Cells)=>if decide (σ.2.2.1<σ.2.1)
 =true then M.req (0≤σ.2.2.1∧σ.2.2.1<Int.ofNat (List.length σ.2.2.2.2.1)) (M.bind (M.req ((2:Int)≠0) (if decide (Int.tmod σ.2.2.1 (2:Int)
 =1)=true then M.pure (Step.next (σ.2.2.1,2,σ.1,σ.2.1,σ.2.2.1,List.getD σ.2.2.2.2.1 (Int.toNat σ.2.2.1) ((0,0,0,0,0,0),0),σ.2.2.2.1,
 σ.2.2.2.2.1,σ.q5,σ.q6,σ.q7,σ.q8,σ.q9,σ.q10,σ.q11,σ.q12,σ.q13,σ.q14,σ.q15,σ.q16,σ.q17,σ.q18,σ.q19,σ.q20,σ.q21,σ.q22,σ.q23,σ.q24,
 σ.q25,σ.q26,())) else M.pure (Step.next (σ.2.2.1,1,σ.1,σ.2.1,σ.2.2.1,List.getD σ.2.2.2.2.1 (Int.toNat σ.2.2.1) ((0,0,0,0,0,0),0),
 σ.2.2.2.1,σ.2.2.2.2.1,σ.q5,σ.q6,σ.q7,σ.q8,σ.q9,σ.q10,σ.q11,σ.q12,σ.q13,σ.q14,σ.q15,σ.q16,σ.q17,σ.q18,σ.q19,σ.q20,σ.q21,σ.q22,
 σ.q23,σ.q24,σ.q25,σ.q26,())))) (Step.go fun (σ:Int×Int×Int×Int×Int×Ev×List Int×List Ev×List Ev×List Ev×List Ev×List Ev×
 List Ev×List Ev×List Ev×List Ev×List Ev×Cells)=>M.req ((!decide (σ.q5.1.2.2.2.1≠σ.2.1))=true→((!decide (σ.q5.1.2.2.2.1≠σ.2.1))=
 true∧True)∧True∧True) (M.req ((!decide (σ.q5.1.2.2.2.1≠σ.2.1))=true→True∧True∧(!decide (σ.q5.1.2.2.2.1≠σ.2.1))=true) (M.req
 ((!decide (σ.q5.1.2.2.2.1≠σ.2.1)&&decide (σ.1 > 0))=true→(!decide (σ.q5.1.2.2.2.1≠σ.2.1)&&decide (σ.1 > 0))=true∧True∧True) (M.req
 ((!decide (σ.q5.1.2.2.2.1≠σ.2.1)&&decide (σ.1 > 0))=true→((!decide (σ.q5.1.2.2.2.1≠σ.2.1)&&decide (σ.1 > 0))=true∧True)∧True∧
 True) (M.req ((!decide (σ.q5.1.2.2.2.1≠σ.2.1)&&decide (σ.1 > 0))=true→((!decide (σ.q5.1.2.2.2.1≠σ.2.1)&&decide (σ.1 > 0))=true∧
 (!decide (σ.q5.1.2.2.2.1≠σ.2.1)&&decide (σ.1 > 0))=true)∧(0≤IntKind.wrap .i64 (σ.1 - 1)∧IntKind.wrap .i64 (σ.1 - 1)<Int.ofNat
 (List.length σ.q7))∧True) (M.req ((!decide (σ.q5.1.2.2.2.1≠σ.2.1)&&decide (σ.1 > 0))=true→(!decide (σ.q5.1.2.2.2.1≠σ.2.1)&&decide (σ.1
 > 0))=true∧True∧True) (M.req ((!decide (σ.q5.1.2.2.2.1≠σ.2.1)&&decide (σ.1 > 0))=true→(!decide (σ.q5.1.2.2.2.1≠σ.2.1)&&decide (σ.1
 > 0))=true∧True∧True) (M.req ((!decide (σ.q5.1.2.2.2.1≠σ.2.1)&&decide (σ.1 > 0))=true→((!decide (σ.q5.1.2.2.2.1≠σ.2.1)&&decide (σ.1
 > 0))=true∧(!decide (σ.q5.1.2.2.2.1≠σ.2.1)&&decide (σ.1 > 0))=true)∧True∧True) (M.req ((!decide (σ.q5.1.2.2.2.1≠σ.2.1))=true→
 ((!decide (σ.q5.1.2.2.2.1≠σ.2.1))=true∧(decide (σ.1 > 0)=true→(!decide (σ.q5.1.2.2.2.1≠σ.2.1)&&decide (σ.1 > 0))=true))∧True∧
 True) (M.req (True∧(decide (σ.q5.1.2.2.2.1≠σ.2.1)=false→(!decide (σ.q5.1.2.2.2.1≠σ.2.1))=true)) (if (decide (σ.q5.1.2.2.2.1≠σ.2.1)||
 decide (σ.1 > 0)&&decide (σ.q5.2=(List.getD σ.q7 (Int.toNat (IntKind.wrap .i64 (σ.1 - 1))) ((0,0,0,0,0,0),0)).2))=true then M.bind
 (M.bind (M.bind (M.pure (none,false,σ.q17,σ.q18,σ.q19,σ.q20,σ.q21,σ.q22,σ.q23,σ.q24,σ.q25,σ.q26,σ.q27,σ.q28,σ.q29,())) fun r=>M.pure
 (Step.done r)) fun r=>M.pure (Step.done r)) fun r=>M.pure (Step.done r) else M.pure (Step.next (σ.2.2.1,σ.2.2.2.1,IntKind.wrap .i64 (Add.add
 σ.2.2.2.2.1 1),σ.q6,σ.q7,σ.q8,σ.q9,σ.q10,σ.q11,σ.q12,σ.q13,σ.q14,σ.q15,σ.q16,σ.q17,σ.q18,σ.q19,σ.q20,σ.q21,σ.q22,σ.q23,σ.q24,
 σ.q25,σ.q26,σ.q27,σ.q28,σ.q29,())))))))))))))) else M.bind (M.pure (Step.next (σ.1,σ.2.2.2.1,σ.2.2.2.2.1,σ.q5,σ.q6,σ.q7,σ.q8,σ.q9,σ.q10,
 σ.q11,σ.q12,σ.q13,σ.q14,σ.q15,σ.q16,σ.q17,σ.q18,σ.q19,σ.q20,σ.q21,σ.q22,σ.q23,σ.q24,σ.q25,σ.q26,()))) fun r=>M.pure (Step.done r))
 (Int.ofNat 0,Int.ofNat (List.length y.1),0,σ.1,y.1,σ.2.2.1,σ.2.2.2.1,σ.2.2.2.2.1,σ.q5,σ.q6,σ.q7,σ.q8,σ.q9,σ.q10,σ.q11,σ.q12,σ.q13,
 σ.q14,σ.q15,σ.q16,σ.q17,σ.q18,σ.q19,σ.q20,σ.q21,σ.q22,σ.q23,()))) (Step.go fun (σ:Int×List Int×List Ev×List Ev×List Ev×List Ev
 ×List Ev×List Ev×List Ev×List Ev×List Ev×List Ev×Cells)=>M.req (IntKind.wrap .i64 (Add.add σ.1 1)=Int.ofNat 1) (M.bind (M.req (0≤
 Int.ofNat 1∧Int.ofNat 1<Int.ofNat 10) (M.bind (c_slices_SortFunc (c_hire_book_open_c1,σ.2.2.2.1,())) fun y=>M.loop (fun (σ:Int×Int×Int
 ×List Int×List Ev×List Ev×List Ev×List Ev×List Ev×List Ev×List Ev×List Ev×List Ev×List Ev×Cells)=>if decide (σ.2.2.1 <
 σ.2.1)=true then M.req (0≤σ.2.2.1∧σ.2.2.1<Int.ofNat (List.length σ.q5)) (M.bind (M.req ((2:Int)≠0) (if decide (Int.tmod σ.2.2.1 (2:Int)
 =1)=true then M.pure (Step.next (σ.2.2.1,2,σ.1,σ.2.1,σ.2.2.1,List.getD σ.q5 (Int.toNat σ.2.2.1) ((0,0,0,0,0,0),0),σ.2.2.2.1,
 σ.2.2.2.2.1,σ.q5,σ.q6,σ.q7,σ.q8,σ.q9,σ.q10,σ.q11,σ.q12,σ.q13,σ.q14,σ.q15,σ.q16,σ.q17,σ.q18,σ.q19,σ.q20,σ.q21,σ.q22,σ.q23,σ.q24,
 σ.q25,σ.q26,())) else M.pure (Step.next (σ.2.2.1,1,σ.1,σ.2.1,σ.2.2.1,List.getD σ.q5 (Int.toNat σ.2.2.1) ((0,0,0,0,0,0),0),σ.2.2.2.1,
 σ.2.2.2.2.1,σ.q5,σ.q6,σ.q7,σ.q8,σ.q9,σ.q10,σ.q11,σ.q12,σ.q13,σ.q14,σ.q15,σ.q16,σ.q17,σ.q18,σ.q19,σ.q20,σ.q21,σ.q22,σ.q23,σ.q24,
 σ.q25,σ.q26,())))) (Step.go fun (σ:Int×Int×Int×Int×Int×Ev×List Int×List Ev×List Ev×List Ev×List Ev×List Ev×List Ev×List
 Ev×List Ev×List Ev×List Ev×Cells)=>M.req ((!decide (σ.q5.1.2.2.2.1≠σ.2.1))=true→((!decide (σ.q5.1.2.2.2.1≠σ.2.1))=true∧True)∧
 True∧True) (M.req ((!decide (σ.q5.1.2.2.2.1≠σ.2.1))=true→True∧True∧(!decide (σ.q5.1.2.2.2.1≠σ.2.1))=true) (M.req ((!decide
 (σ.q5.1.2.2.2.1≠σ.2.1)&&decide (σ.1 > 0))=true→(!decide (σ.q5.1.2.2.2.1≠σ.2.1)&&decide (σ.1 > 0))=true∧True∧True) (M.req ((!decide
 (σ.q5.1.2.2.2.1≠σ.2.1)&&decide (σ.1 > 0))=true→((!decide (σ.q5.1.2.2.2.1≠σ.2.1)&&decide (σ.1 > 0))=true∧True)∧True∧True) (M.req
 ((!decide (σ.q5.1.2.2.2.1≠σ.2.1)&&decide (σ.1 > 0))=true→((!decide (σ.q5.1.2.2.2.1≠σ.2.1)&&decide (σ.1 > 0))=true∧(!decide
 (σ.q5.1.2.2.2.1≠σ.2.1)&&decide (σ.1 > 0))=true)∧(0≤IntKind.wrap .i64 (σ.1 - 1)∧IntKind.wrap .i64 (σ.1 - 1)<Int.ofNat (List.length
 σ.q8))∧True) (M.req ((!decide (σ.q5.1.2.2.2.1≠σ.2.1)&&decide (σ.1 > 0))=true→(!decide (σ.q5.1.2.2.2.1≠σ.2.1)&&decide (σ.1 > 0))=true
 ∧True∧True) (M.req ((!decide (σ.q5.1.2.2.2.1≠σ.2.1)&&decide (σ.1 > 0))=true→(!decide (σ.q5.1.2.2.2.1≠σ.2.1)&&decide (σ.1 > 0))=true
 ∧True∧True) (M.req ((!decide (σ.q5.1.2.2.2.1≠σ.2.1)&&decide (σ.1 > 0))=true→((!decide (σ.q5.1.2.2.2.1≠σ.2.1)&&decide (σ.1 > 0))=true
 ∧(!decide (σ.q5.1.2.2.2.1≠σ.2.1)&&decide (σ.1 > 0))=true)∧True∧True) (M.req ((!decide (σ.q5.1.2.2.2.1≠σ.2.1))=true→((!decide
 (σ.q5.1.2.2.2.1≠σ.2.1))=true∧(decide (σ.1 > 0)=true→(!decide (σ.q5.1.2.2.2.1≠σ.2.1)&&decide (σ.1 > 0))=true))∧True∧True) (M.req
 (True∧(decide (σ.q5.1.2.2.2.1≠σ.2.1)=false→(!decide (σ.q5.1.2.2.2.1≠σ.2.1))=true)) (if (decide (σ.q5.1.2.2.2.1≠σ.2.1)||decide (σ.1 >
 0)&&decide (σ.q5.2=(List.getD σ.q8 (Int.toNat (IntKind.wrap .i64 (σ.1 - 1))) ((0,0,0,0,0,0),0)).2))=true then M.bind (M.bind (M.bind
 (M.pure (none,false,σ.q17,σ.q18,σ.q19,σ.q20,σ.q21,σ.q22,σ.q23,σ.q24,σ.q25,σ.q26,σ.q27,σ.q28,σ.q29,())) fun r=>M.pure (Step.done r))
 fun r=>M.pure (Step.done r)) fun r=>M.pure (Step.done r) else M.pure (Step.next (σ.2.2.1,σ.2.2.2.1,IntKind.wrap .i64 (Add.add σ.2.2.2.2.1 1),
 σ.q6,σ.q7,σ.q8,σ.q9,σ.q10,σ.q11,σ.q12,σ.q13,σ.q14,σ.q15,σ.q16,σ.q17,σ.q18,σ.q19,σ.q20,σ.q21,σ.q22,σ.q23,σ.q24,σ.q25,σ.q26,σ.q27,
 σ.q28,σ.q29,())))))))))))))) else M.bind (M.pure (Step.next (σ.1,σ.2.2.2.1,σ.2.2.2.2.1,σ.q5,σ.q6,σ.q7,σ.q8,σ.q9,σ.q10,σ.q11,σ.q12,σ.q13,
 σ.q14,σ.q15,σ.q16,σ.q17,σ.q18,σ.q19,σ.q20,σ.q21,σ.q22,σ.q23,σ.q24,σ.q25,σ.q26,()))) fun r=>M.pure (Step.done r)) (Int.ofNat 1,
 Int.ofNat (List.length y.1),0,σ.2.1,σ.2.2.1,y.1,σ.2.2.2.2.1,σ.q5,σ.q6,σ.q7,σ.q8,σ.q9,σ.q10,σ.q11,σ.q12,σ.q13,σ.q14,σ.q15,σ.q16,
 σ.q17,σ.q18,σ.q19,σ.q20,σ.q21,σ.q22,σ.q23,σ.q24,()))) (Step.go fun (σ:Int×List Int×List Ev×List Ev×List Ev×List Ev×List Ev×
 List Ev×List Ev×List Ev×List Ev×List Ev×Cells)=>M.req (IntKind.wrap .i64 (Add.add σ.1 1)=Int.ofNat 2) (M.bind (M.req (0≤Int.ofNat 2∧
 Int.ofNat 2<Int.ofNat 10) (M.bind (c_slices_SortFunc (c_hire_book_open_c1,σ.2.2.2.2.1,())) fun y=>M.loop (fun (σ:Int×Int×Int×List Int×
 List Ev×List Ev×List Ev×List Ev×List Ev×List Ev×List Ev×List Ev×List Ev×List Ev×Cells)=>if decide (σ.2.2.1<σ.2.1)=true then
 M.req (0≤σ.2.2.1∧σ.2.2.1<Int.ofNat (List.length σ.q6)) (M.bind (M.req ((2:Int)≠0) (if decide (Int.tmod σ.2.2.1 (2:Int)=1)=true then
 M.pure (Step.next (σ.2.2.1,2,σ.1,σ.2.1,σ.2.2.1,List.getD σ.q6 (Int.toNat σ.2.2.1) ((0,0,0,0,0,0),0),σ.2.2.2.1,σ.2.2.2.2.1,σ.q5,σ.q6,
 σ.q7,σ.q8,σ.q9,σ.q10,σ.q11,σ.q12,σ.q13,σ.q14,σ.q15,σ.q16,σ.q17,σ.q18,σ.q19,σ.q20,σ.q21,σ.q22,σ.q23,σ.q24,σ.q25,σ.q26,())) else
 M.pure (Step.next (σ.2.2.1,1,σ.1,σ.2.1,σ.2.2.1,List.getD σ.q6 (Int.toNat σ.2.2.1) ((0,0,0,0,0,0),0),σ.2.2.2.1,σ.2.2.2.2.1,σ.q5,σ.q6,
 σ.q7,σ.q8,σ.q9,σ.q10,σ.q11,σ.q12,σ.q13,σ.q14,σ.q15,σ.q16,σ.q17,σ.q18,σ.q19,σ.q20,σ.q21,σ.q22,σ.q23,σ.q24,σ.q25,σ.q26,()))))
 (Step.go fun (σ:Int×Int×Int×Int×Int×Ev×List Int×List Ev×List Ev×List Ev×List Ev×List Ev×List Ev×List Ev×List Ev×List
 Ev×List Ev×Cells)=>M.req ((!decide (σ.q5.1.2.2.2.1≠σ.2.1))=true→((!decide (σ.q5.1.2.2.2.1≠σ.2.1))=true∧True)∧True∧True) (M.req
 ((!decide (σ.q5.1.2.2.2.1≠σ.2.1))=true→True∧True∧(!decide (σ.q5.1.2.2.2.1≠σ.2.1))=true) (M.req ((!decide (σ.q5.1.2.2.2.1≠σ.2.1)&&
 decide (σ.1 > 0))=true→(!decide (σ.q5.1.2.2.2.1≠σ.2.1)&&decide (σ.1 > 0))=true∧True∧True) (M.req ((!decide (σ.q5.1.2.2.2.1≠σ.2.1)&&
 decide (σ.1 > 0))=true→((!decide (σ.q5.1.2.2.2.1≠σ.2.1)&&decide (σ.1 > 0))=true∧True)∧True∧True) (M.req ((!decide (σ.q5.1.2.2.2.1≠
 σ.2.1)&&decide (σ.1 > 0))=true→((!decide (σ.q5.1.2.2.2.1≠σ.2.1)&&decide (σ.1 > 0))=true∧(!decide (σ.q5.1.2.2.2.1≠σ.2.1)&&decide
 (σ.1 > 0))=true)∧(0≤IntKind.wrap .i64 (σ.1 - 1)∧IntKind.wrap .i64 (σ.1 - 1)<Int.ofNat (List.length σ.q9))∧True) (M.req ((!decide
 (σ.q5.1.2.2.2.1≠σ.2.1)&&decide (σ.1 > 0))=true→(!decide (σ.q5.1.2.2.2.1≠σ.2.1)&&decide (σ.1 > 0))=true∧True∧True) (M.req ((!decide
 (σ.q5.1.2.2.2.1≠σ.2.1)&&decide (σ.1 > 0))=true→(!decide (σ.q5.1.2.2.2.1≠σ.2.1)&&decide (σ.1 > 0))=true∧True∧True) (M.req ((!decide
 (σ.q5.1.2.2.2.1≠σ.2.1)&&decide (σ.1 > 0))=true→((!decide (σ.q5.1.2.2.2.1≠σ.2.1)&&decide (σ.1 > 0))=true∧(!decide (σ.q5.1.2.2.2.1≠
 σ.2.1)&&decide (σ.1 > 0))=true)∧True∧True) (M.req ((!decide (σ.q5.1.2.2.2.1≠σ.2.1))=true→((!decide (σ.q5.1.2.2.2.1≠σ.2.1))=true∧
 (decide (σ.1 > 0)=true→(!decide (σ.q5.1.2.2.2.1≠σ.2.1)&&decide (σ.1 > 0))=true))∧True∧True) (M.req (True∧(decide (σ.q5.1.2.2.2.1≠
 σ.2.1)=false→(!decide (σ.q5.1.2.2.2.1≠σ.2.1))=true)) (if (decide (σ.q5.1.2.2.2.1≠σ.2.1)||decide (σ.1 > 0)&&decide (σ.q5.2=(List.getD
 σ.q9 (Int.toNat (IntKind.wrap .i64 (σ.1 - 1))) ((0,0,0,0,0,0),0)).2))=true then M.bind (M.bind (M.bind (M.pure (none,false,σ.q17,σ.q18,
 σ.q19,σ.q20,σ.q21,σ.q22,σ.q23,σ.q24,σ.q25,σ.q26,σ.q27,σ.q28,σ.q29,())) fun r=>M.pure (Step.done r)) fun r=>M.pure (Step.done r)) fun r
 =>M.pure (Step.done r) else M.pure (Step.next (σ.2.2.1,σ.2.2.2.1,IntKind.wrap .i64 (Add.add σ.2.2.2.2.1 1),σ.q6,σ.q7,σ.q8,σ.q9,σ.q10,σ.q11,
 σ.q12,σ.q13,σ.q14,σ.q15,σ.q16,σ.q17,σ.q18,σ.q19,σ.q20,σ.q21,σ.q22,σ.q23,σ.q24,σ.q25,σ.q26,σ.q27,σ.q28,σ.q29,())))))))))))))) else
 M.bind (M.pure (Step.next (σ.1,σ.2.2.2.1,σ.2.2.2.2.1,σ.q5,σ.q6,σ.q7,σ.q8,σ.q9,σ.q10,σ.q11,σ.q12,σ.q13,σ.q14,σ.q15,σ.q16,σ.q17,σ.q18,
 σ.q19,σ.q20,σ.q21,σ.q22,σ.q23,σ.q24,σ.q25,σ.q26,()))) fun r=>M.pure (Step.done r)) (Int.ofNat 2,Int.ofNat (List.length y.1),0,σ.2.1,
 σ.2.2.1,σ.2.2.2.1,y.1,σ.q5,σ.q6,σ.q7,σ.q8,σ.q9,σ.q10,σ.q11,σ.q12,σ.q13,σ.q14,σ.q15,σ.q16,σ.q17,σ.q18,σ.q19,σ.q20,σ.q21,σ.q22,
 σ.q23,σ.q24,()))) (Step.go fun (σ:Int×List Int×List Ev×List Ev×List Ev×List Ev×List Ev×List Ev×List Ev×List Ev×List Ev×List
 Ev×Cells)=>M.req (IntKind.wrap .i64 (Add.add σ.1 1)=Int.ofNat 3) (M.bind (M.req (0≤Int.ofNat 3∧Int.ofNat 3<Int.ofNat 10) (M.bind
 (c_slices_SortFunc (c_hire_book_open_c1,σ.q5,())) fun y=>M.loop (fun (σ:Int×Int×Int×List Int×List Ev×List Ev×List Ev×List Ev×
 List Ev×List Ev×List Ev×List Ev×List Ev×List Ev×Cells)=>if decide (σ.2.2.1<σ.2.1)=true then M.req (0≤σ.2.2.1∧σ.2.2.1 <
 Int.ofNat (List.length σ.q7)) (M.bind (M.req ((2:Int)≠0) (if decide (Int.tmod σ.2.2.1 (2:Int)=1)=true then M.pure (Step.next (σ.2.2.1,2,
 σ.1,σ.2.1,σ.2.2.1,List.getD σ.q7 (Int.toNat σ.2.2.1) ((0,0,0,0,0,0),0),σ.2.2.2.1,σ.2.2.2.2.1,σ.q5,σ.q6,σ.q7,σ.q8,σ.q9,σ.q10,σ.q11,
 σ.q12,σ.q13,σ.q14,σ.q15,σ.q16,σ.q17,σ.q18,σ.q19,σ.q20,σ.q21,σ.q22,σ.q23,σ.q24,σ.q25,σ.q26,())) else M.pure (Step.next (σ.2.2.1,1,
 σ.1,σ.2.1,σ.2.2.1,List.getD σ.q7 (Int.toNat σ.2.2.1) ((0,0,0,0,0,0),0),σ.2.2.2.1,σ.2.2.2.2.1,σ.q5,σ.q6,σ.q7,σ.q8,σ.q9,σ.q10,σ.q11,
 σ.q12,σ.q13,σ.q14,σ.q15,σ.q16,σ.q17,σ.q18,σ.q19,σ.q20,σ.q21,σ.q22,σ.q23,σ.q24,σ.q25,σ.q26,())))) (Step.go fun (σ:Int×Int×Int×
 Int×Int×Ev×List Int×List Ev×List Ev×List Ev×List Ev×List Ev×List Ev×List Ev×List Ev×List Ev×List Ev×Cells)=>M.req
 ((!decide (σ.q5.1.2.2.2.1≠σ.2.1))=true→((!decide (σ.q5.1.2.2.2.1≠σ.2.1))=true∧True)∧True∧True) (M.req ((!decide (σ.q5.1.2.2.2.1≠
 σ.2.1))=true→True∧True∧(!decide (σ.q5.1.2.2.2.1≠σ.2.1))=true) (M.req ((!decide (σ.q5.1.2.2.2.1≠σ.2.1)&&decide (σ.1 > 0))=true→
 (!decide (σ.q5.1.2.2.2.1≠σ.2.1)&&decide (σ.1 > 0))=true∧True∧True) (M.req ((!decide (σ.q5.1.2.2.2.1≠σ.2.1)&&decide (σ.1 > 0))=true→
 ((!decide (σ.q5.1.2.2.2.1≠σ.2.1)&&decide (σ.1 > 0))=true∧True)∧True∧True) (M.req ((!decide (σ.q5.1.2.2.2.1≠σ.2.1)&&decide (σ.1 > 0))
 =true→((!decide (σ.q5.1.2.2.2.1≠σ.2.1)&&decide (σ.1 > 0))=true∧(!decide (σ.q5.1.2.2.2.1≠σ.2.1)&&decide (σ.1 > 0))=true)∧(0≤
 IntKind.wrap .i64 (σ.1 - 1)∧IntKind.wrap .i64 (σ.1 - 1)<Int.ofNat (List.length σ.q10))∧True) (M.req ((!decide (σ.q5.1.2.2.2.1≠σ.2.1)&&
 decide (σ.1 > 0))=true→(!decide (σ.q5.1.2.2.2.1≠σ.2.1)&&decide (σ.1 > 0))=true∧True∧True) (M.req ((!decide (σ.q5.1.2.2.2.1≠σ.2.1)&&
 decide (σ.1 > 0))=true→(!decide (σ.q5.1.2.2.2.1≠σ.2.1)&&decide (σ.1 > 0))=true∧True∧True) (M.req ((!decide (σ.q5.1.2.2.2.1≠σ.2.1)&&
 decide (σ.1 > 0))=true→((!decide (σ.q5.1.2.2.2.1≠σ.2.1)&&decide (σ.1 > 0))=true∧(!decide (σ.q5.1.2.2.2.1≠σ.2.1)&&decide (σ.1 > 0))=
 true)∧True∧True) (M.req ((!decide (σ.q5.1.2.2.2.1≠σ.2.1))=true→((!decide (σ.q5.1.2.2.2.1≠σ.2.1))=true∧(decide (σ.1 > 0)=true→
 (!decide (σ.q5.1.2.2.2.1≠σ.2.1)&&decide (σ.1 > 0))=true))∧True∧True) (M.req (True∧(decide (σ.q5.1.2.2.2.1≠σ.2.1)=false→(!decide
 (σ.q5.1.2.2.2.1≠σ.2.1))=true)) (if (decide (σ.q5.1.2.2.2.1≠σ.2.1)||decide (σ.1 > 0)&&decide (σ.q5.2=(List.getD σ.q10 (Int.toNat
 (IntKind.wrap .i64 (σ.1 - 1))) ((0,0,0,0,0,0),0)).2))=true then M.bind (M.bind (M.bind (M.pure (none,false,σ.q17,σ.q18,σ.q19,σ.q20,
 σ.q21,σ.q22,σ.q23,σ.q24,σ.q25,σ.q26,σ.q27,σ.q28,σ.q29,())) fun r=>M.pure (Step.done r)) fun r=>M.pure (Step.done r)) fun r=>M.pure
 (Step.done r) else M.pure (Step.next (σ.2.2.1,σ.2.2.2.1,IntKind.wrap .i64 (Add.add σ.2.2.2.2.1 1),σ.q6,σ.q7,σ.q8,σ.q9,σ.q10,σ.q11,σ.q12,
 σ.q13,σ.q14,σ.q15,σ.q16,σ.q17,σ.q18,σ.q19,σ.q20,σ.q21,σ.q22,σ.q23,σ.q24,σ.q25,σ.q26,σ.q27,σ.q28,σ.q29,())))))))))))))) else M.bind
 (M.pure (Step.next (σ.1,σ.2.2.2.1,σ.2.2.2.2.1,σ.q5,σ.q6,σ.q7,σ.q8,σ.q9,σ.q10,σ.q11,σ.q12,σ.q13,σ.q14,σ.q15,σ.q16,σ.q17,σ.q18,σ.q19,
 σ.q20,σ.q21,σ.q22,σ.q23,σ.q24,σ.q25,σ.q26,()))) fun r=>M.pure (Step.done r)) (Int.ofNat 3,Int.ofNat (List.length y.1),0,σ.2.1,σ.2.2.1,
 σ.2.2.2.1,σ.2.2.2.2.1,y.1,σ.q6,σ.q7,σ.q8,σ.q9,σ.q10,σ.q11,σ.q12,σ.q13,σ.q14,σ.q15,σ.q16,σ.q17,σ.q18,σ.q19,σ.q20,σ.q21,σ.q22,
 σ.q23,σ.q24,()))) (Step.go fun (σ:Int×List Int×List Ev×List Ev×List Ev×List Ev×List Ev×List Ev×List Ev×List Ev×List Ev×List
 Ev×Cells)=>M.req (IntKind.wrap .i64 (Add.add σ.1 1)=Int.ofNat 4) (M.bind (M.req (0≤Int.ofNat 4∧Int.ofNat 4<Int.ofNat 10) (M.bind
 (c_slices_SortFunc (c_hire_book_open_c1,σ.q6,())) fun y=>M.loop (fun (σ:Int×Int×Int×List Int×List Ev×List Ev×List Ev×List Ev×
 List Ev×List Ev×List Ev×List Ev×List Ev×List Ev×Cells)=>if decide (σ.2.2.1<σ.2.1)=true then M.req (0≤σ.2.2.1∧σ.2.2.1 <
 Int.ofNat (List.length σ.q8)) (M.bind (M.req ((2:Int)≠0) (if decide (Int.tmod σ.2.2.1 (2:Int)=1)=true then M.pure (Step.next (σ.2.2.1,2,
 σ.1,σ.2.1,σ.2.2.1,List.getD σ.q8 (Int.toNat σ.2.2.1) ((0,0,0,0,0,0),0),σ.2.2.2.1,σ.2.2.2.2.1,σ.q5,σ.q6,σ.q7,σ.q8,σ.q9,σ.q10,σ.q11,
 σ.q12,σ.q13,σ.q14,σ.q15,σ.q16,σ.q17,σ.q18,σ.q19,σ.q20,σ.q21,σ.q22,σ.q23,σ.q24,σ.q25,σ.q26,())) else M.pure (Step.next (σ.2.2.1,1,
 σ.1,σ.2.1,σ.2.2.1,List.getD σ.q8 (Int.toNat σ.2.2.1) ((0,0,0,0,0,0),0),σ.2.2.2.1,σ.2.2.2.2.1,σ.q5,σ.q6,σ.q7,σ.q8,σ.q9,σ.q10,σ.q11,
 σ.q12,σ.q13,σ.q14,σ.q15,σ.q16,σ.q17,σ.q18,σ.q19,σ.q20,σ.q21,σ.q22,σ.q23,σ.q24,σ.q25,σ.q26,())))) (Step.go fun (σ:Int×Int×Int×
 Int×Int×Ev×List Int×List Ev×List Ev×List Ev×List Ev×List Ev×List Ev×List Ev×List Ev×List Ev×List Ev×Cells)=>M.req
 ((!decide (σ.q5.1.2.2.2.1≠σ.2.1))=true→((!decide (σ.q5.1.2.2.2.1≠σ.2.1))=true∧True)∧True∧True) (M.req ((!decide (σ.q5.1.2.2.2.1≠
 σ.2.1))=true→True∧True∧(!decide (σ.q5.1.2.2.2.1≠σ.2.1))=true) (M.req ((!decide (σ.q5.1.2.2.2.1≠σ.2.1)&&decide (σ.1 > 0))=true→
 (!decide (σ.q5.1.2.2.2.1≠σ.2.1)&&decide (σ.1 > 0))=true∧True∧True) (M.req ((!decide (σ.q5.1.2.2.2.1≠σ.2.1)&&decide (σ.1 > 0))=true→
 ((!decide (σ.q5.1.2.2.2.1≠σ.2.1)&&decide (σ.1 > 0))=true∧True)∧True∧True) (M.req ((!decide (σ.q5.1.2.2.2.1≠σ.2.1)&&decide (σ.1 > 0))
 =true→((!decide (σ.q5.1.2.2.2.1≠σ.2.1)&&decide (σ.1 > 0))=true∧(!decide (σ.q5.1.2.2.2.1≠σ.2.1)&&decide (σ.1 > 0))=true)∧(0≤
 IntKind.wrap .i64 (σ.1 - 1)∧IntKind.wrap .i64 (σ.1 - 1)<Int.ofNat (List.length σ.q11))∧True) (M.req ((!decide (σ.q5.1.2.2.2.1≠σ.2.1)&&
 decide (σ.1 > 0))=true→(!decide (σ.q5.1.2.2.2.1≠σ.2.1)&&decide (σ.1 > 0))=true∧True∧True) (M.req ((!decide (σ.q5.1.2.2.2.1≠σ.2.1)&&
 decide (σ.1 > 0))=true→(!decide (σ.q5.1.2.2.2.1≠σ.2.1)&&decide (σ.1 > 0))=true∧True∧True) (M.req ((!decide (σ.q5.1.2.2.2.1≠σ.2.1)&&
 decide (σ.1 > 0))=true→((!decide (σ.q5.1.2.2.2.1≠σ.2.1)&&decide (σ.1 > 0))=true∧(!decide (σ.q5.1.2.2.2.1≠σ.2.1)&&decide (σ.1 > 0))=
 true)∧True∧True) (M.req ((!decide (σ.q5.1.2.2.2.1≠σ.2.1))=true→((!decide (σ.q5.1.2.2.2.1≠σ.2.1))=true∧(decide (σ.1 > 0)=true→
 (!decide (σ.q5.1.2.2.2.1≠σ.2.1)&&decide (σ.1 > 0))=true))∧True∧True) (M.req (True∧(decide (σ.q5.1.2.2.2.1≠σ.2.1)=false→(!decide
 (σ.q5.1.2.2.2.1≠σ.2.1))=true)) (if (decide (σ.q5.1.2.2.2.1≠σ.2.1)||decide (σ.1 > 0)&&decide (σ.q5.2=(List.getD σ.q11 (Int.toNat
 (IntKind.wrap .i64 (σ.1 - 1))) ((0,0,0,0,0,0),0)).2))=true then M.bind (M.bind (M.bind (M.pure (none,false,σ.q17,σ.q18,σ.q19,σ.q20,
 σ.q21,σ.q22,σ.q23,σ.q24,σ.q25,σ.q26,σ.q27,σ.q28,σ.q29,())) fun r=>M.pure (Step.done r)) fun r=>M.pure (Step.done r)) fun r=>M.pure
 (Step.done r) else M.pure (Step.next (σ.2.2.1,σ.2.2.2.1,IntKind.wrap .i64 (Add.add σ.2.2.2.2.1 1),σ.q6,σ.q7,σ.q8,σ.q9,σ.q10,σ.q11,σ.q12,
 σ.q13,σ.q14,σ.q15,σ.q16,σ.q17,σ.q18,σ.q19,σ.q20,σ.q21,σ.q22,σ.q23,σ.q24,σ.q25,σ.q26,σ.q27,σ.q28,σ.q29,())))))))))))))) else M.bind
 (M.pure (Step.next (σ.1,σ.2.2.2.1,σ.2.2.2.2.1,σ.q5,σ.q6,σ.q7,σ.q8,σ.q9,σ.q10,σ.q11,σ.q12,σ.q13,σ.q14,σ.q15,σ.q16,σ.q17,σ.q18,σ.q19,
 σ.q20,σ.q21,σ.q22,σ.q23,σ.q24,σ.q25,σ.q26,()))) fun r=>M.pure (Step.done r)) (Int.ofNat 4,Int.ofNat (List.length y.1),0,σ.2.1,σ.2.2.1,
 σ.2.2.2.1,σ.2.2.2.2.1,σ.q5,y.1,σ.q7,σ.q8,σ.q9,σ.q10,σ.q11,σ.q12,σ.q13,σ.q14,σ.q15,σ.q16,σ.q17,σ.q18,σ.q19,σ.q20,σ.q21,σ.q22,
 σ.q23,σ.q24,()))) (Step.go fun (σ:Int×List Int×List Ev×List Ev×List Ev×List Ev×List Ev×List Ev×List Ev×List Ev×List Ev×List
 Ev×Cells)=>M.req (IntKind.wrap .i64 (Add.add σ.1 1)=Int.ofNat 5) (M.bind (M.req (0≤Int.ofNat 5∧Int.ofNat 5<Int.ofNat 10) (M.bind
 (c_slices_SortFunc (c_hire_book_open_c1,σ.q7,())) fun y=>M.loop (fun (σ:Int×Int×Int×List Int×List Ev×List Ev×List Ev×List Ev×
 List Ev×List Ev×List Ev×List Ev×List Ev×List Ev×Cells)=>if decide (σ.2.2.1<σ.2.1)=true then M.req (0≤σ.2.2.1∧σ.2.2.1 <
 Int.ofNat (List.length σ.q9)) (M.bind (M.req ((2:Int)≠0) (if decide (Int.tmod σ.2.2.1 (2:Int)=1)=true then M.pure (Step.next (σ.2.2.1,2,
 σ.1,σ.2.1,σ.2.2.1,List.getD σ.q9 (Int.toNat σ.2.2.1) ((0,0,0,0,0,0),0),σ.2.2.2.1,σ.2.2.2.2.1,σ.q5,σ.q6,σ.q7,σ.q8,σ.q9,σ.q10,σ.q11,
 σ.q12,σ.q13,σ.q14,σ.q15,σ.q16,σ.q17,σ.q18,σ.q19,σ.q20,σ.q21,σ.q22,σ.q23,σ.q24,σ.q25,σ.q26,())) else M.pure (Step.next (σ.2.2.1,1,
 σ.1,σ.2.1,σ.2.2.1,List.getD σ.q9 (Int.toNat σ.2.2.1) ((0,0,0,0,0,0),0),σ.2.2.2.1,σ.2.2.2.2.1,σ.q5,σ.q6,σ.q7,σ.q8,σ.q9,σ.q10,σ.q11,
 σ.q12,σ.q13,σ.q14,σ.q15,σ.q16,σ.q17,σ.q18,σ.q19,σ.q20,σ.q21,σ.q22,σ.q23,σ.q24,σ.q25,σ.q26,())))) (Step.go fun (σ:Int×Int×Int×
 Int×Int×Ev×List Int×List Ev×List Ev×List Ev×List Ev×List Ev×List Ev×List Ev×List Ev×List Ev×List Ev×Cells)=>M.req
 ((!decide (σ.q5.1.2.2.2.1≠σ.2.1))=true→((!decide (σ.q5.1.2.2.2.1≠σ.2.1))=true∧True)∧True∧True) (M.req ((!decide (σ.q5.1.2.2.2.1≠
 σ.2.1))=true→True∧True∧(!decide (σ.q5.1.2.2.2.1≠σ.2.1))=true) (M.req ((!decide (σ.q5.1.2.2.2.1≠σ.2.1)&&decide (σ.1 > 0))=true→
 (!decide (σ.q5.1.2.2.2.1≠σ.2.1)&&decide (σ.1 > 0))=true∧True∧True) (M.req ((!decide (σ.q5.1.2.2.2.1≠σ.2.1)&&decide (σ.1 > 0))=true→
 ((!decide (σ.q5.1.2.2.2.1≠σ.2.1)&&decide (σ.1 > 0))=true∧True)∧True∧True) (M.req ((!decide (σ.q5.1.2.2.2.1≠σ.2.1)&&decide (σ.1 > 0))
 =true→((!decide (σ.q5.1.2.2.2.1≠σ.2.1)&&decide (σ.1 > 0))=true∧(!decide (σ.q5.1.2.2.2.1≠σ.2.1)&&decide (σ.1 > 0))=true)∧(0≤
 IntKind.wrap .i64 (σ.1 - 1)∧IntKind.wrap .i64 (σ.1 - 1)<Int.ofNat (List.length σ.q12))∧True) (M.req ((!decide (σ.q5.1.2.2.2.1≠σ.2.1)&&
 decide (σ.1 > 0))=true→(!decide (σ.q5.1.2.2.2.1≠σ.2.1)&&decide (σ.1 > 0))=true∧True∧True) (M.req ((!decide (σ.q5.1.2.2.2.1≠σ.2.1)&&
 decide (σ.1 > 0))=true→(!decide (σ.q5.1.2.2.2.1≠σ.2.1)&&decide (σ.1 > 0))=true∧True∧True) (M.req ((!decide (σ.q5.1.2.2.2.1≠σ.2.1)&&
 decide (σ.1 > 0))=true→((!decide (σ.q5.1.2.2.2.1≠σ.2.1)&&decide (σ.1 > 0))=true∧(!decide (σ.q5.1.2.2.2.1≠σ.2.1)&&decide (σ.1 > 0))=
 true)∧True∧True) (M.req ((!decide (σ.q5.1.2.2.2.1≠σ.2.1))=true→((!decide (σ.q5.1.2.2.2.1≠σ.2.1))=true∧(decide (σ.1 > 0)=true→
 (!decide (σ.q5.1.2.2.2.1≠σ.2.1)&&decide (σ.1 > 0))=true))∧True∧True) (M.req (True∧(decide (σ.q5.1.2.2.2.1≠σ.2.1)=false→(!decide
 (σ.q5.1.2.2.2.1≠σ.2.1))=true)) (if (decide (σ.q5.1.2.2.2.1≠σ.2.1)||decide (σ.1 > 0)&&decide (σ.q5.2=(List.getD σ.q12 (Int.toNat
 (IntKind.wrap .i64 (σ.1 - 1))) ((0,0,0,0,0,0),0)).2))=true then M.bind (M.bind (M.bind (M.pure (none,false,σ.q17,σ.q18,σ.q19,σ.q20,
 σ.q21,σ.q22,σ.q23,σ.q24,σ.q25,σ.q26,σ.q27,σ.q28,σ.q29,())) fun r=>M.pure (Step.done r)) fun r=>M.pure (Step.done r)) fun r=>M.pure
 (Step.done r) else M.pure (Step.next (σ.2.2.1,σ.2.2.2.1,IntKind.wrap .i64 (Add.add σ.2.2.2.2.1 1),σ.q6,σ.q7,σ.q8,σ.q9,σ.q10,σ.q11,σ.q12,
 σ.q13,σ.q14,σ.q15,σ.q16,σ.q17,σ.q18,σ.q19,σ.q20,σ.q21,σ.q22,σ.q23,σ.q24,σ.q25,σ.q26,σ.q27,σ.q28,σ.q29,())))))))))))))) else M.bind
 (M.pure (Step.next (σ.1,σ.2.2.2.1,σ.2.2.2.2.1,σ.q5,σ.q6,σ.q7,σ.q8,σ.q9,σ.q10,σ.q11,σ.q12,σ.q13,σ.q14,σ.q15,σ.q16,σ.q17,σ.q18,σ.q19,
 σ.q20,σ.q21,σ.q22,σ.q23,σ.q24,σ.q25,σ.q26,()))) fun r=>M.pure (Step.done r)) (Int.ofNat 5,Int.ofNat (List.length y.1),0,σ.2.1,σ.2.2.1,
 σ.2.2.2.1,σ.2.2.2.2.1,σ.q5,σ.q6,y.1,σ.q8,σ.q9,σ.q10,σ.q11,σ.q12,σ.q13,σ.q14,σ.q15,σ.q16,σ.q17,σ.q18,σ.q19,σ.q20,σ.q21,σ.q22,
 σ.q23,σ.q24,()))) (Step.go fun (σ:Int×List Int×List Ev×List Ev×List Ev×List Ev×List Ev×List Ev×List Ev×List Ev×List Ev×List
 Ev×Cells)=>M.req (IntKind.wrap .i64 (Add.add σ.1 1)=Int.ofNat 6) (M.bind (M.req (0≤Int.ofNat 6∧Int.ofNat 6<Int.ofNat 10) (M.bind
 (c_slices_SortFunc (c_hire_book_open_c1,σ.q8,())) fun y=>M.loop (fun (σ:Int×Int×Int×List Int×List Ev×List Ev×List Ev×List Ev×
 List Ev×List Ev×List Ev×List Ev×List Ev×List Ev×Cells)=>if decide (σ.2.2.1<σ.2.1)=true then M.req (0≤σ.2.2.1∧σ.2.2.1 <
 Int.ofNat (List.length σ.q10)) (M.bind (M.req ((2:Int)≠0) (if decide (Int.tmod σ.2.2.1 (2:Int)=1)=true then M.pure (Step.next (σ.2.2.1,2,
 σ.1,σ.2.1,σ.2.2.1,List.getD σ.q10 (Int.toNat σ.2.2.1) ((0,0,0,0,0,0),0),σ.2.2.2.1,σ.2.2.2.2.1,σ.q5,σ.q6,σ.q7,σ.q8,σ.q9,σ.q10,σ.q11,
 σ.q12,σ.q13,σ.q14,σ.q15,σ.q16,σ.q17,σ.q18,σ.q19,σ.q20,σ.q21,σ.q22,σ.q23,σ.q24,σ.q25,σ.q26,())) else M.pure (Step.next (σ.2.2.1,1,
 σ.1,σ.2.1,σ.2.2.1,List.getD σ.q10 (Int.toNat σ.2.2.1) ((0,0,0,0,0,0),0),σ.2.2.2.1,σ.2.2.2.2.1,σ.q5,σ.q6,σ.q7,σ.q8,σ.q9,σ.q10,σ.q11,
 σ.q12,σ.q13,σ.q14,σ.q15,σ.q16,σ.q17,σ.q18,σ.q19,σ.q20,σ.q21,σ.q22,σ.q23,σ.q24,σ.q25,σ.q26,())))) (Step.go fun (σ:Int×Int×Int×
 Int×Int×Ev×List Int×List Ev×List Ev×List Ev×List Ev×List Ev×List Ev×List Ev×List Ev×List Ev×List Ev×Cells)=>M.req
 ((!decide (σ.q5.1.2.2.2.1≠σ.2.1))=true→((!decide (σ.q5.1.2.2.2.1≠σ.2.1))=true∧True)∧True∧True) (M.req ((!decide (σ.q5.1.2.2.2.1≠
 σ.2.1))=true→True∧True∧(!decide (σ.q5.1.2.2.2.1≠σ.2.1))=true) (M.req ((!decide (σ.q5.1.2.2.2.1≠σ.2.1)&&decide (σ.1 > 0))=true→
 (!decide (σ.q5.1.2.2.2.1≠σ.2.1)&&decide (σ.1 > 0))=true∧True∧True) (M.req ((!decide (σ.q5.1.2.2.2.1≠σ.2.1)&&decide (σ.1 > 0))=true→
 ((!decide (σ.q5.1.2.2.2.1≠σ.2.1)&&decide (σ.1 > 0))=true∧True)∧True∧True) (M.req ((!decide (σ.q5.1.2.2.2.1≠σ.2.1)&&decide (σ.1 > 0))
 =true→((!decide (σ.q5.1.2.2.2.1≠σ.2.1)&&decide (σ.1 > 0))=true∧(!decide (σ.q5.1.2.2.2.1≠σ.2.1)&&decide (σ.1 > 0))=true)∧(0≤
 IntKind.wrap .i64 (σ.1 - 1)∧IntKind.wrap .i64 (σ.1 - 1)<Int.ofNat (List.length σ.q13))∧True) (M.req ((!decide (σ.q5.1.2.2.2.1≠σ.2.1)&&
 decide (σ.1 > 0))=true→(!decide (σ.q5.1.2.2.2.1≠σ.2.1)&&decide (σ.1 > 0))=true∧True∧True) (M.req ((!decide (σ.q5.1.2.2.2.1≠σ.2.1)&&
 decide (σ.1 > 0))=true→(!decide (σ.q5.1.2.2.2.1≠σ.2.1)&&decide (σ.1 > 0))=true∧True∧True) (M.req ((!decide (σ.q5.1.2.2.2.1≠σ.2.1)&&
 decide (σ.1 > 0))=true→((!decide (σ.q5.1.2.2.2.1≠σ.2.1)&&decide (σ.1 > 0))=true∧(!decide (σ.q5.1.2.2.2.1≠σ.2.1)&&decide (σ.1 > 0))=
 true)∧True∧True) (M.req ((!decide (σ.q5.1.2.2.2.1≠σ.2.1))=true→((!decide (σ.q5.1.2.2.2.1≠σ.2.1))=true∧(decide (σ.1 > 0)=true→
 (!decide (σ.q5.1.2.2.2.1≠σ.2.1)&&decide (σ.1 > 0))=true))∧True∧True) (M.req (True∧(decide (σ.q5.1.2.2.2.1≠σ.2.1)=false→(!decide
 (σ.q5.1.2.2.2.1≠σ.2.1))=true)) (if (decide (σ.q5.1.2.2.2.1≠σ.2.1)||decide (σ.1 > 0)&&decide (σ.q5.2=(List.getD σ.q13 (Int.toNat
 (IntKind.wrap .i64 (σ.1 - 1))) ((0,0,0,0,0,0),0)).2))=true then M.bind (M.bind (M.bind (M.pure (none,false,σ.q17,σ.q18,σ.q19,σ.q20,
 σ.q21,σ.q22,σ.q23,σ.q24,σ.q25,σ.q26,σ.q27,σ.q28,σ.q29,())) fun r=>M.pure (Step.done r)) fun r=>M.pure (Step.done r)) fun r=>M.pure
 (Step.done r) else M.pure (Step.next (σ.2.2.1,σ.2.2.2.1,IntKind.wrap .i64 (Add.add σ.2.2.2.2.1 1),σ.q6,σ.q7,σ.q8,σ.q9,σ.q10,σ.q11,σ.q12,
 σ.q13,σ.q14,σ.q15,σ.q16,σ.q17,σ.q18,σ.q19,σ.q20,σ.q21,σ.q22,σ.q23,σ.q24,σ.q25,σ.q26,σ.q27,σ.q28,σ.q29,())))))))))))))) else M.bind
 (M.pure (Step.next (σ.1,σ.2.2.2.1,σ.2.2.2.2.1,σ.q5,σ.q6,σ.q7,σ.q8,σ.q9,σ.q10,σ.q11,σ.q12,σ.q13,σ.q14,σ.q15,σ.q16,σ.q17,σ.q18,σ.q19,
 σ.q20,σ.q21,σ.q22,σ.q23,σ.q24,σ.q25,σ.q26,()))) fun r=>M.pure (Step.done r)) (Int.ofNat 6,Int.ofNat (List.length y.1),0,σ.2.1,σ.2.2.1,
 σ.2.2.2.1,σ.2.2.2.2.1,σ.q5,σ.q6,σ.q7,y.1,σ.q9,σ.q10,σ.q11,σ.q12,σ.q13,σ.q14,σ.q15,σ.q16,σ.q17,σ.q18,σ.q19,σ.q20,σ.q21,σ.q22,
 σ.q23,σ.q24,()))) (Step.go fun (σ:Int×List Int×List Ev×List Ev×List Ev×List Ev×List Ev×List Ev×List Ev×List Ev×List Ev×List
 Ev×Cells)=>M.req (IntKind.wrap .i64 (Add.add σ.1 1)=Int.ofNat 7) (M.bind (M.req (0≤Int.ofNat 7∧Int.ofNat 7<Int.ofNat 10) (M.bind
 (c_slices_SortFunc (c_hire_book_open_c1,σ.q9,())) fun y=>M.loop (fun (σ:Int×Int×Int×List Int×List Ev×List Ev×List Ev×List Ev×
 List Ev×List Ev×List Ev×List Ev×List Ev×List Ev×Cells)=>if decide (σ.2.2.1<σ.2.1)=true then M.req (0≤σ.2.2.1∧σ.2.2.1 <
 Int.ofNat (List.length σ.q11)) (M.bind (M.req ((2:Int)≠0) (if decide (Int.tmod σ.2.2.1 (2:Int)=1)=true then M.pure (Step.next (σ.2.2.1,2,
 σ.1,σ.2.1,σ.2.2.1,List.getD σ.q11 (Int.toNat σ.2.2.1) ((0,0,0,0,0,0),0),σ.2.2.2.1,σ.2.2.2.2.1,σ.q5,σ.q6,σ.q7,σ.q8,σ.q9,σ.q10,σ.q11,
 σ.q12,σ.q13,σ.q14,σ.q15,σ.q16,σ.q17,σ.q18,σ.q19,σ.q20,σ.q21,σ.q22,σ.q23,σ.q24,σ.q25,σ.q26,())) else M.pure (Step.next (σ.2.2.1,1,
 σ.1,σ.2.1,σ.2.2.1,List.getD σ.q11 (Int.toNat σ.2.2.1) ((0,0,0,0,0,0),0),σ.2.2.2.1,σ.2.2.2.2.1,σ.q5,σ.q6,σ.q7,σ.q8,σ.q9,σ.q10,σ.q11,
 σ.q12,σ.q13,σ.q14,σ.q15,σ.q16,σ.q17,σ.q18,σ.q19,σ.q20,σ.q21,σ.q22,σ.q23,σ.q24,σ.q25,σ.q26,())))) (Step.go fun (σ:Int×Int×Int×
 Int×Int×Ev×List Int×List Ev×List Ev×List Ev×List Ev×List Ev×List Ev×List Ev×List Ev×List Ev×List Ev×Cells)=>M.req
 ((!decide (σ.q5.1.2.2.2.1≠σ.2.1))=true→((!decide (σ.q5.1.2.2.2.1≠σ.2.1))=true∧True)∧True∧True) (M.req ((!decide (σ.q5.1.2.2.2.1≠
 σ.2.1))=true→True∧True∧(!decide (σ.q5.1.2.2.2.1≠σ.2.1))=true) (M.req ((!decide (σ.q5.1.2.2.2.1≠σ.2.1)&&decide (σ.1 > 0))=true→
 (!decide (σ.q5.1.2.2.2.1≠σ.2.1)&&decide (σ.1 > 0))=true∧True∧True) (M.req ((!decide (σ.q5.1.2.2.2.1≠σ.2.1)&&decide (σ.1 > 0))=true→
 ((!decide (σ.q5.1.2.2.2.1≠σ.2.1)&&decide (σ.1 > 0))=true∧True)∧True∧True) (M.req ((!decide (σ.q5.1.2.2.2.1≠σ.2.1)&&decide (σ.1 > 0))
 =true→((!decide (σ.q5.1.2.2.2.1≠σ.2.1)&&decide (σ.1 > 0))=true∧(!decide (σ.q5.1.2.2.2.1≠σ.2.1)&&decide (σ.1 > 0))=true)∧(0≤
 IntKind.wrap .i64 (σ.1 - 1)∧IntKind.wrap .i64 (σ.1 - 1)<Int.ofNat (List.length σ.q14))∧True) (M.req ((!decide (σ.q5.1.2.2.2.1≠σ.2.1)&&
 decide (σ.1 > 0))=true→(!decide (σ.q5.1.2.2.2.1≠σ.2.1)&&decide (σ.1 > 0))=true∧True∧True) (M.req ((!decide (σ.q5.1.2.2.2.1≠σ.2.1)&&
 decide (σ.1 > 0))=true→(!decide (σ.q5.1.2.2.2.1≠σ.2.1)&&decide (σ.1 > 0))=true∧True∧True) (M.req ((!decide (σ.q5.1.2.2.2.1≠σ.2.1)&&
 decide (σ.1 > 0))=true→((!decide (σ.q5.1.2.2.2.1≠σ.2.1)&&decide (σ.1 > 0))=true∧(!decide (σ.q5.1.2.2.2.1≠σ.2.1)&&decide (σ.1 > 0))=
 true)∧True∧True) (M.req ((!decide (σ.q5.1.2.2.2.1≠σ.2.1))=true→((!decide (σ.q5.1.2.2.2.1≠σ.2.1))=true∧(decide (σ.1 > 0)=true→
 (!decide (σ.q5.1.2.2.2.1≠σ.2.1)&&decide (σ.1 > 0))=true))∧True∧True) (M.req (True∧(decide (σ.q5.1.2.2.2.1≠σ.2.1)=false→(!decide
 (σ.q5.1.2.2.2.1≠σ.2.1))=true)) (if (decide (σ.q5.1.2.2.2.1≠σ.2.1)||decide (σ.1 > 0)&&decide (σ.q5.2=(List.getD σ.q14 (Int.toNat
 (IntKind.wrap .i64 (σ.1 - 1))) ((0,0,0,0,0,0),0)).2))=true then M.bind (M.bind (M.bind (M.pure (none,false,σ.q17,σ.q18,σ.q19,σ.q20,
 σ.q21,σ.q22,σ.q23,σ.q24,σ.q25,σ.q26,σ.q27,σ.q28,σ.q29,())) fun r=>M.pure (Step.done r)) fun r=>M.pure (Step.done r)) fun r=>M.pure
 (Step.done r) else M.pure (Step.next (σ.2.2.1,σ.2.2.2.1,IntKind.wrap .i64 (Add.add σ.2.2.2.2.1 1),σ.q6,σ.q7,σ.q8,σ.q9,σ.q10,σ.q11,σ.q12,
 σ.q13,σ.q14,σ.q15,σ.q16,σ.q17,σ.q18,σ.q19,σ.q20,σ.q21,σ.q22,σ.q23,σ.q24,σ.q25,σ.q26,σ.q27,σ.q28,σ.q29,())))))))))))))) else M.bind
 (M.pure (Step.next (σ.1,σ.2.2.2.1,σ.2.2.2.2.1,σ.q5,σ.q6,σ.q7,σ.q8,σ.q9,σ.q10,σ.q11,σ.q12,σ.q13,σ.q14,σ.q15,σ.q16,σ.q17,σ.q18,σ.q19,
 σ.q20,σ.q21,σ.q22,σ.q23,σ.q24,σ.q25,σ.q26,()))) fun r=>M.pure (Step.done r)) (Int.ofNat 7,Int.ofNat (List.length y.1),0,σ.2.1,σ.2.2.1,
 σ.2.2.2.1,σ.2.2.2.2.1,σ.q5,σ.q6,σ.q7,σ.q8,y.1,σ.q10,σ.q11,σ.q12,σ.q13,σ.q14,σ.q15,σ.q16,σ.q17,σ.q18,σ.q19,σ.q20,σ.q21,σ.q22,
 σ.q23,σ.q24,()))) (Step.go fun (σ:Int×List Int×List Ev×List Ev×List Ev×List Ev×List Ev×List Ev×List Ev×List Ev×List Ev×List
 Ev×Cells)=>M.req (IntKind.wrap .i64 (Add.add σ.1 1)=Int.ofNat 8) (M.bind (M.req (0≤Int.ofNat 8∧Int.ofNat 8<Int.ofNat 10) (M.bind
 (c_slices_SortFunc (c_hire_book_open_c1,σ.q10,())) fun y=>M.loop (fun (σ:Int×Int×Int×List Int×List Ev×List Ev×List Ev×List Ev×
 List Ev×List Ev×List Ev×List Ev×List Ev×List Ev×Cells)=>if decide (σ.2.2.1<σ.2.1)=true then M.req (0≤σ.2.2.1∧σ.2.2.1 <
 Int.ofNat (List.length σ.q12)) (M.bind (M.req ((2:Int)≠0) (if decide (Int.tmod σ.2.2.1 (2:Int)=1)=true then M.pure (Step.next (σ.2.2.1,2,
 σ.1,σ.2.1,σ.2.2.1,List.getD σ.q12 (Int.toNat σ.2.2.1) ((0,0,0,0,0,0),0),σ.2.2.2.1,σ.2.2.2.2.1,σ.q5,σ.q6,σ.q7,σ.q8,σ.q9,σ.q10,σ.q11,
 σ.q12,σ.q13,σ.q14,σ.q15,σ.q16,σ.q17,σ.q18,σ.q19,σ.q20,σ.q21,σ.q22,σ.q23,σ.q24,σ.q25,σ.q26,())) else M.pure (Step.next (σ.2.2.1,1,
 σ.1,σ.2.1,σ.2.2.1,List.getD σ.q12 (Int.toNat σ.2.2.1) ((0,0,0,0,0,0),0),σ.2.2.2.1,σ.2.2.2.2.1,σ.q5,σ.q6,σ.q7,σ.q8,σ.q9,σ.q10,σ.q11,
 σ.q12,σ.q13,σ.q14,σ.q15,σ.q16,σ.q17,σ.q18,σ.q19,σ.q20,σ.q21,σ.q22,σ.q23,σ.q24,σ.q25,σ.q26,())))) (Step.go fun (σ:Int×Int×Int×
 Int×Int×Ev×List Int×List Ev×List Ev×List Ev×List Ev×List Ev×List Ev×List Ev×List Ev×List Ev×List Ev×Cells)=>M.req
 ((!decide (σ.q5.1.2.2.2.1≠σ.2.1))=true→((!decide (σ.q5.1.2.2.2.1≠σ.2.1))=true∧True)∧True∧True) (M.req ((!decide (σ.q5.1.2.2.2.1≠
 σ.2.1))=true→True∧True∧(!decide (σ.q5.1.2.2.2.1≠σ.2.1))=true) (M.req ((!decide (σ.q5.1.2.2.2.1≠σ.2.1)&&decide (σ.1 > 0))=true→
 (!decide (σ.q5.1.2.2.2.1≠σ.2.1)&&decide (σ.1 > 0))=true∧True∧True) (M.req ((!decide (σ.q5.1.2.2.2.1≠σ.2.1)&&decide (σ.1 > 0))=true→
 ((!decide (σ.q5.1.2.2.2.1≠σ.2.1)&&decide (σ.1 > 0))=true∧True)∧True∧True) (M.req ((!decide (σ.q5.1.2.2.2.1≠σ.2.1)&&decide (σ.1 > 0))
 =true→((!decide (σ.q5.1.2.2.2.1≠σ.2.1)&&decide (σ.1 > 0))=true∧(!decide (σ.q5.1.2.2.2.1≠σ.2.1)&&decide (σ.1 > 0))=true)∧(0≤
 IntKind.wrap .i64 (σ.1 - 1)∧IntKind.wrap .i64 (σ.1 - 1)<Int.ofNat (List.length σ.q15))∧True) (M.req ((!decide (σ.q5.1.2.2.2.1≠σ.2.1)&&
 decide (σ.1 > 0))=true→(!decide (σ.q5.1.2.2.2.1≠σ.2.1)&&decide (σ.1 > 0))=true∧True∧True) (M.req ((!decide (σ.q5.1.2.2.2.1≠σ.2.1)&&
 decide (σ.1 > 0))=true→(!decide (σ.q5.1.2.2.2.1≠σ.2.1)&&decide (σ.1 > 0))=true∧True∧True) (M.req ((!decide (σ.q5.1.2.2.2.1≠σ.2.1)&&
 decide (σ.1 > 0))=true→((!decide (σ.q5.1.2.2.2.1≠σ.2.1)&&decide (σ.1 > 0))=true∧(!decide (σ.q5.1.2.2.2.1≠σ.2.1)&&decide (σ.1 > 0))=
 true)∧True∧True) (M.req ((!decide (σ.q5.1.2.2.2.1≠σ.2.1))=true→((!decide (σ.q5.1.2.2.2.1≠σ.2.1))=true∧(decide (σ.1 > 0)=true→
 (!decide (σ.q5.1.2.2.2.1≠σ.2.1)&&decide (σ.1 > 0))=true))∧True∧True) (M.req (True∧(decide (σ.q5.1.2.2.2.1≠σ.2.1)=false→(!decide
 (σ.q5.1.2.2.2.1≠σ.2.1))=true)) (if (decide (σ.q5.1.2.2.2.1≠σ.2.1)||decide (σ.1 > 0)&&decide (σ.q5.2=(List.getD σ.q15 (Int.toNat
 (IntKind.wrap .i64 (σ.1 - 1))) ((0,0,0,0,0,0),0)).2))=true then M.bind (M.bind (M.bind (M.pure (none,false,σ.q17,σ.q18,σ.q19,σ.q20,
 σ.q21,σ.q22,σ.q23,σ.q24,σ.q25,σ.q26,σ.q27,σ.q28,σ.q29,())) fun r=>M.pure (Step.done r)) fun r=>M.pure (Step.done r)) fun r=>M.pure
 (Step.done r) else M.pure (Step.next (σ.2.2.1,σ.2.2.2.1,IntKind.wrap .i64 (Add.add σ.2.2.2.2.1 1),σ.q6,σ.q7,σ.q8,σ.q9,σ.q10,σ.q11,σ.q12,
 σ.q13,σ.q14,σ.q15,σ.q16,σ.q17,σ.q18,σ.q19,σ.q20,σ.q21,σ.q22,σ.q23,σ.q24,σ.q25,σ.q26,σ.q27,σ.q28,σ.q29,())))))))))))))) else M.bind
 (M.pure (Step.next (σ.1,σ.2.2.2.1,σ.2.2.2.2.1,σ.q5,σ.q6,σ.q7,σ.q8,σ.q9,σ.q10,σ.q11,σ.q12,σ.q13,σ.q14,σ.q15,σ.q16,σ.q17,σ.q18,σ.q19,
 σ.q20,σ.q21,σ.q22,σ.q23,σ.q24,σ.q25,σ.q26,()))) fun r=>M.pure (Step.done r)) (Int.ofNat 8,Int.ofNat (List.length y.1),0,σ.2.1,σ.2.2.1,
 σ.2.2.2.1,σ.2.2.2.2.1,σ.q5,σ.q6,σ.q7,σ.q8,σ.q9,y.1,σ.q11,σ.q12,σ.q13,σ.q14,σ.q15,σ.q16,σ.q17,σ.q18,σ.q19,σ.q20,σ.q21,σ.q22,σ.q23,
 σ.q24,()))) (Step.go fun (σ:Int×List Int×List Ev×List Ev×List Ev×List Ev×List Ev×List Ev×List Ev×List Ev×List Ev×List Ev×
 Cells)=>M.req (IntKind.wrap .i64 (Add.add σ.1 1)=Int.ofNat 9) (M.bind (M.req (0≤Int.ofNat 9∧Int.ofNat 9<Int.ofNat 10) (M.bind
 (c_slices_SortFunc (c_hire_book_open_c1,σ.q11,())) fun y=>M.loop (fun (σ:Int×Int×Int×List Int×List Ev×List Ev×List Ev×List Ev×
 List Ev×List Ev×List Ev×List Ev×List Ev×List Ev×Cells)=>if decide (σ.2.2.1<σ.2.1)=true then M.req (0≤σ.2.2.1∧σ.2.2.1 <
 Int.ofNat (List.length σ.q13)) (M.bind (M.req ((2:Int)≠0) (if decide (Int.tmod σ.2.2.1 (2:Int)=1)=true then M.pure (Step.next (σ.2.2.1,2,
 σ.1,σ.2.1,σ.2.2.1,List.getD σ.q13 (Int.toNat σ.2.2.1) ((0,0,0,0,0,0),0),σ.2.2.2.1,σ.2.2.2.2.1,σ.q5,σ.q6,σ.q7,σ.q8,σ.q9,σ.q10,σ.q11,
 σ.q12,σ.q13,σ.q14,σ.q15,σ.q16,σ.q17,σ.q18,σ.q19,σ.q20,σ.q21,σ.q22,σ.q23,σ.q24,σ.q25,σ.q26,())) else M.pure (Step.next (σ.2.2.1,1,
 σ.1,σ.2.1,σ.2.2.1,List.getD σ.q13 (Int.toNat σ.2.2.1) ((0,0,0,0,0,0),0),σ.2.2.2.1,σ.2.2.2.2.1,σ.q5,σ.q6,σ.q7,σ.q8,σ.q9,σ.q10,σ.q11,
 σ.q12,σ.q13,σ.q14,σ.q15,σ.q16,σ.q17,σ.q18,σ.q19,σ.q20,σ.q21,σ.q22,σ.q23,σ.q24,σ.q25,σ.q26,())))) (Step.go fun (σ:Int×Int×Int×
 Int×Int×Ev×List Int×List Ev×List Ev×List Ev×List Ev×List Ev×List Ev×List Ev×List Ev×List Ev×List Ev×Cells)=>M.req
 ((!decide (σ.q5.1.2.2.2.1≠σ.2.1))=true→((!decide (σ.q5.1.2.2.2.1≠σ.2.1))=true∧True)∧True∧True) (M.req ((!decide (σ.q5.1.2.2.2.1≠
 σ.2.1))=true→True∧True∧(!decide (σ.q5.1.2.2.2.1≠σ.2.1))=true) (M.req ((!decide (σ.q5.1.2.2.2.1≠σ.2.1)&&decide (σ.1 > 0))=true→
 (!decide (σ.q5.1.2.2.2.1≠σ.2.1)&&decide (σ.1 > 0))=true∧True∧True) (M.req ((!decide (σ.q5.1.2.2.2.1≠σ.2.1)&&decide (σ.1 > 0))=true→
 ((!decide (σ.q5.1.2.2.2.1≠σ.2.1)&&decide (σ.1 > 0))=true∧True)∧True∧True) (M.req ((!decide (σ.q5.1.2.2.2.1≠σ.2.1)&&decide (σ.1 > 0))
 =true→((!decide (σ.q5.1.2.2.2.1≠σ.2.1)&&decide (σ.1 > 0))=true∧(!decide (σ.q5.1.2.2.2.1≠σ.2.1)&&decide (σ.1 > 0))=true)∧(0≤
 IntKind.wrap .i64 (σ.1 - 1)∧IntKind.wrap .i64 (σ.1 - 1)<Int.ofNat (List.length σ.q16))∧True) (M.req ((!decide (σ.q5.1.2.2.2.1≠σ.2.1)&&
 decide (σ.1 > 0))=true→(!decide (σ.q5.1.2.2.2.1≠σ.2.1)&&decide (σ.1 > 0))=true∧True∧True) (M.req ((!decide (σ.q5.1.2.2.2.1≠σ.2.1)&&
 decide (σ.1 > 0))=true→(!decide (σ.q5.1.2.2.2.1≠σ.2.1)&&decide (σ.1 > 0))=true∧True∧True) (M.req ((!decide (σ.q5.1.2.2.2.1≠σ.2.1)&&
 decide (σ.1 > 0))=true→((!decide (σ.q5.1.2.2.2.1≠σ.2.1)&&decide (σ.1 > 0))=true∧(!decide (σ.q5.1.2.2.2.1≠σ.2.1)&&decide (σ.1 > 0))=
 true)∧True∧True) (M.req ((!decide (σ.q5.1.2.2.2.1≠σ.2.1))=true→((!decide (σ.q5.1.2.2.2.1≠σ.2.1))=true∧(decide (σ.1 > 0)=true→
 (!decide (σ.q5.1.2.2.2.1≠σ.2.1)&&decide (σ.1 > 0))=true))∧True∧True) (M.req (True∧(decide (σ.q5.1.2.2.2.1≠σ.2.1)=false→(!decide
 (σ.q5.1.2.2.2.1≠σ.2.1))=true)) (if (decide (σ.q5.1.2.2.2.1≠σ.2.1)||decide (σ.1 > 0)&&decide (σ.q5.2=(List.getD σ.q16 (Int.toNat
 (IntKind.wrap .i64 (σ.1 - 1))) ((0,0,0,0,0,0),0)).2))=true then M.bind (M.bind (M.bind (M.pure (none,false,σ.q17,σ.q18,σ.q19,σ.q20,
 σ.q21,σ.q22,σ.q23,σ.q24,σ.q25,σ.q26,σ.q27,σ.q28,σ.q29,())) fun r=>M.pure (Step.done r)) fun r=>M.pure (Step.done r)) fun r=>M.pure
 (Step.done r) else M.pure (Step.next (σ.2.2.1,σ.2.2.2.1,IntKind.wrap .i64 (Add.add σ.2.2.2.2.1 1),σ.q6,σ.q7,σ.q8,σ.q9,σ.q10,σ.q11,σ.q12,
 σ.q13,σ.q14,σ.q15,σ.q16,σ.q17,σ.q18,σ.q19,σ.q20,σ.q21,σ.q22,σ.q23,σ.q24,σ.q25,σ.q26,σ.q27,σ.q28,σ.q29,())))))))))))))) else M.bind
 (M.pure (Step.next (σ.1,σ.2.2.2.1,σ.2.2.2.2.1,σ.q5,σ.q6,σ.q7,σ.q8,σ.q9,σ.q10,σ.q11,σ.q12,σ.q13,σ.q14,σ.q15,σ.q16,σ.q17,σ.q18,σ.q19,
 σ.q20,σ.q21,σ.q22,σ.q23,σ.q24,σ.q25,σ.q26,()))) fun r=>M.pure (Step.done r)) (Int.ofNat 9,Int.ofNat (List.length y.1),0,σ.2.1,σ.2.2.1,
 σ.2.2.2.1,σ.2.2.2.2.1,σ.q5,σ.q6,σ.q7,σ.q8,σ.q9,σ.q10,y.1,σ.q12,σ.q13,σ.q14,σ.q15,σ.q16,σ.q17,σ.q18,σ.q19,σ.q20,σ.q21,σ.q22,σ.q23,
 σ.q24,()))) (Step.go fun (σ:Int×List Int×List Ev×List Ev×List Ev×List Ev×List Ev×List Ev×List Ev×List Ev×List Ev×List Ev×
 Cells)=>M.req (IntKind.wrap .i64 (Add.add σ.1 1)=Int.ofNat 10) (M.pure (Step.next (σ.2.1,σ.2.2.1,σ.2.2.2.1,σ.2.2.2.2.1,σ.q5,σ.q6,σ.q7,
 σ.q8,σ.q9,σ.q10,σ.q11,σ.q12,σ.q13,σ.q14,σ.q15,σ.q16,σ.q17,σ.q18,σ.q19,σ.q20,σ.q21,σ.q22,σ.q23,σ.q24,())))))))))))))))))))))))))
 (Step.go fun (σ:List Int×List Ev×List Ev×List Ev×List Ev×List Ev×List Ev×List Ev×List Ev×List Ev×List Ev×Cells)=>M.pure
 (some (σ.1,[σ.2.1,σ.2.2.1,σ.2.2.2.1,σ.2.2.2.2.1,σ.q5,σ.q6,σ.q7,σ.q8,σ.q9,σ.q10]),true,σ.q11,σ.q12,σ.q13,σ.q14,σ.q15,σ.q16,σ.q17,
 σ.q18,σ.q19,σ.q20,σ.q21,σ.q22,σ.q23,()))))
def S_slices_pdqsort (c_slices_insSort:Int×Int×List Int×Unit→M (List Int×Unit)) (x:Int×Int×Int×List Int×Unit):M (List Int×Unit):=
 M.loop (fun (σ:Int×Int×Int×Bool×Bool×List Int×Unit)=>if decide (IntKind.wrap .i64 (σ.2.1 - σ.1)≤12)=true then M.bind
 (c_slices_insSort (σ.1,σ.2.1,σ.q5,())) fun y=>M.bind (M.pure (y.1,())) fun r=>M.pure (Step.done r) else M.fail) (x.1,x.2.1,x.2.2.1,true,
 true,x.2.2.2.1,())
def S_slices_pdqsortF (c_slices_insSortF:Int×Int×(Ev×Slip×Int→M Int)×List Ev×Unit→M (List Ev×Unit)) (x:Int×Int×Int×(Ev×Slip×Int→M Int)×List Ev×Unit):M (List Ev×Unit):=
 M.loop (fun (σ:Int×Int×Int×(Ev×Slip×Int→M Int)×Bool×Bool×List Ev×Unit)=>if decide (IntKind.wrap .i64 (σ.2.1 - σ.1)≤12)=
 true then M.bind (c_slices_insSortF (σ.1,σ.2.1,σ.2.2.2.1,σ.q6,())) fun y=>M.bind (M.pure (y.1,())) fun r=>M.pure (Step.done r) else M.fail)
 (x.1,x.2.1,x.2.2.1,x.2.2.2.1,true,true,x.2.2.2.2.1,())
def S_hire_book_search (c_hire_book_search:List Int×Cells→M (Cells)) (c_hire_book_open:List Int×Cells→M (Option Tru×Bool×Cells)) (x:List Int×Cells):M (Cells):=
 M.req True (if decide (Int.ofNat (List.length x.1)=Int.ofNat (List.length x.2.1))=true then M.bind (M.bind (c_hire_book_open (x.1,x.2.1,
 x.2.2.1,x.2.2.2.1,x.2.2.2.2.1,x.q5,x.q6,x.q7,x.q8,x.q9,x.q10,x.q11,x.q12,x.q13,())) fun y=>if y.2.1=true then M.req True (M.req
 (lenLe (Add.add (List.length y.q14) (Add.add 0 1))) (M.req True (M.pure (Step.next (y.2.2.1,y.2.2.2.1,y.2.2.2.2.1,y.q5,y.q6,y.q7,y.q8,y.q9,
 y.q10,y.q11,y.q12,y.q13,y.q14++[y.1],()))))) else M.pure (Step.next (y.2.2.1,y.2.2.2.1,y.2.2.2.2.1,y.q5,y.q6,y.q7,y.q8,y.q9,y.q10,
 y.q11,y.q12,y.q13,y.q14,()))) (Step.go fun (σ:Cells)=>M.pure (σ.1,σ.2.1,σ.2.2.1,σ.2.2.2.1,σ.2.2.2.2.1,σ.q5,σ.q6,σ.q7,σ.q8,σ.q9,
 σ.q10,σ.q11,σ.q12,())) else M.req True (M.req (0≤Int.ofNat (List.length x.1)∧Int.ofNat (List.length x.1)<Int.ofNat (List.length x.2.1))
 (M.loop (fun (σ:List Int×Int×Int×Cells)=>M.req True (M.req (0≤σ.2.1∧σ.2.1<Int.ofNat (List.length σ.2.2.2.1)) (if decide (σ.2.2.1≤
 (List.getD σ.2.2.2.1 (Int.toNat σ.2.1) (0,0)).2)=true then M.req ((0:Int)≤0∧0≤σ.2.1∧σ.2.1=σ.2.1∧σ.2.1≤Int.ofNat (List.length σ.1))
 (M.req (0<Add.add 0 1∧lenLe (Add.add (List.length (List.take (Int.toNat σ.2.1) σ.1)) (Add.add 0 1))) (M.bind (c_hire_book_search (List.take
 (Int.toNat σ.2.1) σ.1++[σ.2.2.1],σ.2.2.2.1,σ.2.2.2.2.1,σ.q5,σ.q6,σ.q7,σ.q8,σ.q9,σ.q10,σ.q11,σ.q12,σ.q13,σ.q14,σ.q15,())) fun y=>
 M.pure (Step.next (σ.1,σ.2.1,IntKind.wrap .i64 (Add.add σ.2.2.1 1),y.1,y.2.1,y.2.2.1,y.2.2.2.1,y.2.2.2.2.1,y.q5,y.q6,y.q7,y.q8,y.q9,
 y.q10,y.q11,y.q12,())))) else M.bind (M.pure (σ.2.2.2.1,σ.2.2.2.2.1,σ.q5,σ.q6,σ.q7,σ.q8,σ.q9,σ.q10,σ.q11,σ.q12,σ.q13,σ.q14,σ.q15,()))
 fun r=>M.pure (Step.done r)))) (x.1,Int.ofNat (List.length x.1),(List.getD x.2.1 (Int.toNat (Int.ofNat (List.length x.1))) (0,0)).1,x.2.1,
 x.2.2.1,x.2.2.2.1,x.2.2.2.2.1,x.q5,x.q6,x.q7,x.q8,x.q9,x.q10,x.q11,x.q12,x.q13,()))))
def S_slices_Sort (c_slices_pdqsort:Int×Int×Int×List Int×Unit→M (List Int×Unit)) (c_math_bits_Len:Int→M Int) (x:List Int×Unit):M (List Int×Unit):=
 M.bind (c_math_bits_Len (IntKind.wrap .u64 (Int.ofNat (List.length x.1)))) fun y=>M.bind (c_slices_pdqsort (0,Int.ofNat (List.length x.1),y,x.1,
 ())) fun y=>M.pure (y.1,())
def S_slices_SortFunc (c_math_bits_Len:Int→M Int) (c_slices_pdqsortF:Int×Int×Int×(Ev×Slip×Int→M Int)×List Ev×Unit→M (List Ev×Unit)) (x:(Ev×Slip×Int→M Int)×List Ev×Unit):M (List Ev×Unit):=
 M.bind (c_math_bits_Len (IntKind.wrap .u64 (Int.ofNat (List.length x.2.1)))) fun y=>M.bind (c_slices_pdqsortF (0,Int.ofNat (List.length x.2.1),y,
 x.1,x.2.1,())) fun y=>M.pure (y.1,())
end Go.Fer
namespace Go.Fer
open M (Step)
set_option linter.unusedVariables false
set_option linter.unusedSimpArgs false
abbrev tI:Ty:=.int .i64
abbrev tB:Ty:=.bool
abbrev tInts:Ty:=.slice tI
abbrev tSpan:Ty:=.st (.prod tI tI)
abbrev tTar:Ty:=.st (.prod tI (.prod tI (.prod tI (.prod tI (.prod tI (.prod tI tI))))))
abbrev tC:Ty:=.st (.prod (.slice tSpan) (.prod (.slice tSlip) (.prod tInts (.prod (.slice tSpan) tTar))))
abbrev tEv:Ty:=.st (.prod tSlip tI)
abbrev tTru:Ty:=.st (.prod tInts (.array 10 (.slice tEv)))
abbrev tBook:Ty:=.st (.prod tC (.prod (.slice tSlip) (.slice (.ptr tTru))))
attribute [simp] or_gdo or_gdo2 and_gdo M.bind_det M.bind_req M.bind_ite M.val_det M.val_pure M.safe_det M.gdo_det M.gdo_pure M.go_next M.go_done add_def add_defN append_def Step.mapN
section
variable {α:Type}
def G_IndexFunc (d:α) (x:List α×(α→M Bool)):M Int:=
 M.bind (M.loop (fun (σ:List α×(α→M Bool)×Int×Int×Unit)=>if decide (σ.2.2.2.1<σ.2.2.1)=true then M.req (0≤σ.2.2.2.1∧
 σ.2.2.2.1<Int.ofNat (List.length σ.1)) (M.bind (σ.2.1 (List.getD σ.1 (Int.toNat σ.2.2.2.1) d)) fun y=>if y=true then M.bind (M.bind (M.pure
 σ.2.2.2.1) fun r=>M.pure (Step.done r)) fun r=>M.pure (Step.done r) else M.pure (Step.next (σ.1,σ.2.1,σ.2.2.1,IntKind.wrap .i64 (Add.add
 σ.2.2.2.1 1),()))) else M.bind (M.pure (Step.next ())) fun r=>M.pure (Step.done r)) (x.1,x.2,Int.ofNat (List.length x.1),0,())) (Step.go fun (σ
 : Unit)=>M.pure (-1))
def G_ContainsFunc (c:List α×(α→M Bool)→M Int) (x:List α×(α→M Bool)):M Bool:=M.bind (c x) fun y=>M.pure (decide (y≥0))
def idxV (p:α→Bool):List α→Int→Int
 | [],_=>-1
 | x::l,i=>if p x=true then i else idxV p l (i+1)
theorem idxV_ge (p:α→Bool):∀ (l:List α) (i:Int),0≤i→(decide (idxV p l i≥0))=l.any p
 | [],i,_=>by simp [idxV]
 | x::l,i,h=>by
  simp only [idxV,List.any_cons]
  by_cases hx:p x=true
  ·simp [hx];omega
  ·have:=idxV_ge p l (i+1) (by omega)
   simpa [hx] using this
theorem foldS_idx (p:α→Bool):∀ (l:List α) (i:Int),foldS (fun x (i:Int)=>if p x=true then (.done (.done i):Step Int (Step Unit Int)) else .next (i+1)) (fun _=>.next ()) l i=if l.any p=true then .done (idxV p l i) else .next ()
 | [],i=>by simp [foldS]
 | x::l,i=>by
  simp only [foldS,List.any_cons,idxV]
  by_cases hx:p x=true
  ·simp [hx]
  ·have:=foldS_idx p l (i+1)
   simpa [hx] using this
theorem idxV_none {p:α→Bool}:∀ (l:List α) (i:Int),¬l.any p=true→idxV p l i=-1
 | [],_,_=>rfl
 | x::l,i,hn=>by
  simp only [List.any_cons,Bool.or_eq_true,not_or] at hn
  simp only [idxV,hn.1,Bool.false_eq_true,if_false]
  exact idxV_none l _ hn.2
theorem gIndexFunc (d:α) (l:List α) (f:α→M Bool) (h:l.length<2 ^ 63) (hf:∀ y∈l,∃ b,f y=M.pure b):G_IndexFunc d (l,f)=M.pure (idxV (fun y=>(f y).val false) l 0):=by
 unfold G_IndexFunc
 rw [M.loop_list l (fun i (b:Int)=>(l,f,(l.length:Int),b,())) (fun y (i:Int)=>if (f y).val false=true then (.done (.done i):Step Int (Step Unit Int)) else .next (i+1)) (fun _=>.next ()) (fun i b=>b=(i:Int)) 0 ?_ ?_ ?_ ?_]
 ·rw [foldS_idx (fun y=>(f y).val false)]
  by_cases ha:(l.any fun y=>(f y).val false)=true
  ·simp [ha]
  ·have:idxV (fun y=>(f y).val false) l 0=-1:=by
    have:∀ (l:List α) (i:Int),¬(l.any fun y=>(f y).val false)=true→idxV (fun y=>(f y).val false) l i=-1:=by
     intro l
     induction l with
     | nil=>intro i _;rfl
     | cons x l ih=>
      intro i hn
      simp only [List.any_cons,Bool.or_eq_true,not_or] at hn
      simp only [idxV,hn.1,Bool.false_eq_true,if_false]
      exact ih _ hn.2
    exact this l 0 ha
   simp [ha,this]
 ·rfl
 ·rfl
 ·intro i hi b hb
  subst hb
  have hw:=wrap64 (n:=(i:Int)+1) (by omega) (by omega)
  refine ⟨?_,fun b' hb'=>?_⟩
  ·obtain ⟨b,hb⟩:=hf _ (List.getElem_mem hi)
   simp only [ofNat_def,lt_len hi,if_true,getD_nat hi,in_len hi,M.req_True,hb,M.val_pure,M.bind_pure,add_def,hw]
   split<;>rfl
  ·split at hb'
   ·cases hb'
   ·cases hb';omega
 ·intro b hb
  subst hb
  simp
end
abbrev fcIndexFunc (e:Ty):FC:=⟨.prod (.slice e) (.fn e .bool),tI,fun x=>x.1.length<2 ^ 63∧∀ y∈x.1,∃ b,x.2 y=M.pure b,fun x=>idxV (fun y=>(x.2 y).val false) x.1 0⟩
theorem sIndexFunc (e:Ty) (x):M.le (G_IndexFunc e.dflt x) ((fcIndexFunc e).sh x):=M.le_det fun h=>gIndexFunc e.dflt x.1 x.2 h.1 h.2
abbrev fcContainsFunc (e:Ty):FC:=⟨.prod (.slice e) (.fn e .bool),tB,fun x=>x.1.length<2 ^ 63∧∀ y∈x.1,∃ b,x.2 y=M.pure b,fun x=>x.1.any fun y=>(x.2 y).val false⟩
theorem sContainsFunc (e:Ty) (x):M.le (G_ContainsFunc (fcIndexFunc e).sh x) ((fcContainsFunc e).sh x):=M.le_det fun h=>by
 unfold G_ContainsFunc
 simp only [FC.sh,fcIndexFunc,M.bind_det]
 rw [M.req_true (by exact h)]
 exact congrArg M.pure (idxV_ge (fun y=>(x.2 y).val false) x.1 0 (by omega))
abbrev sId (s:Slip):Int:=s.1
abbrev sClk (s:Slip):Int:=s.2.1
abbrev sAt (s:Slip):Int:=s.2.2.1
abbrev sKnd (s:Slip):Int:=s.2.2.2.1
abbrev sUmb (s:Slip):Int:=s.2.2.2.2.1
abbrev sGst (s:Slip):Int:=s.2.2.2.2.2
def smallC (c:Ctr):Prop:=c.1.length<2 ^ 63∧c.2.1.length<2 ^ 63∧c.2.2.1.length<2 ^ 63∧c.2.2.2.1.length<2 ^ 63
def inR (n lo hi:Int):Bool:=decide (lo≤n)&&decide (n≤hi)
theorem inR_iff {n lo hi:Int}:inR n lo hi=true↔lo≤n∧n≤hi:=by simp [inR]
def tarV (t:Tar):Bool:=inR t.1 0 9999&&inR t.2.1 1 9999&&inR t.2.2.2.2.1 1 9999&&inR t.2.2.1 0 100000&&inR t.2.2.2.1 0 100000&&inR t.2.2.2.2.2.1 0 100000&&inR t.2.2.2.2.2.2 0 100000
def slipV (n:Nat) (s:Slip):Bool:=inR (sId s) 0 99&&inR (sClk s) 0 ((n:Int) - 1)&&inR (sAt s) 0 9999&&inR (sUmb s) 0 9&&inR (sGst s) 0 99&&(decide (sKnd s=1)||decide (sKnd s=2)&&decide (sGst s=0))
abbrev fcWithin:FC:=⟨.prod tI (.prod tI tI),tB,fun _=>True,fun x=>inR x.1 x.2.1 x.2.2⟩
theorem sWithin7 (x):M.le (S_ref07_Within x) (fcWithin.sh x):=M.le_det fun _=>rfl
theorem sRWithin (x):M.le (S_ref09_within fcWithin.sh x) (fcWithin.sh x):=M.le_det fun _=>by
 unfold S_ref09_within;simp [FC.sh,fcWithin]
theorem sHWithin (x):M.le (S_hire_within x) (fcWithin.sh x):=M.le_det fun _=>rfl
abbrev fcMinute:FC:=⟨tI,tB,fun _=>True,fun x=>inR x 0 9999⟩
theorem sHMinute (x):M.le (S_hire_isMinute fcWithin.sh x) (fcMinute.sh x):=M.le_det fun _=>by
 unfold S_hire_isMinute;simp [FC.sh,fcWithin]
abbrev fcId:FC:=⟨tI,tB,fun _=>True,fun x=>inR x 0 99⟩
theorem sHId (x):M.le (S_hire_isId fcWithin.sh x) (fcId.sh x):=M.le_det fun _=>by
 unfold S_hire_isId;simp [FC.sh,fcWithin]
abbrev fcTar:FC:=⟨tTar,tB,fun _=>True,fun x=>tarV x⟩
theorem sRTar (x):M.le (S_ref09_isTariff fcWithin.sh x) (fcTar.sh x):=M.le_det fun _=>by
 unfold S_ref09_isTariff
 show _=M.pure (tarV x)
 unfold tarV
 simp only [FC.sh,fcWithin,M.det_True,M.bind_pure,M.gdo_pure]
 refine congrArg M.pure ?_
 cases inR x.1 0 9999<;>cases inR x.2.1 1 9999<;>cases inR x.2.2.2.2.1 1 9999<;>cases inR x.2.2.1 0 100000<;>cases inR x.2.2.2.1 0 100000<;>cases inR x.2.2.2.2.2.1 0 100000<;>cases inR x.2.2.2.2.2.2 0 100000<;>rfl
theorem sHTar (x):M.le (S_hire_isTariff fcWithin.sh x) (fcTar.sh x):=M.le_det fun _=>by
 unfold S_hire_isTariff
 rw [M.loop_listT [x.2.2.1,x.2.2.2.1,x.2.2.2.2.2.1,x.2.2.2.2.2.2] (fun i (_:Unit)=>(4,(i:Int),x,[x.2.2.1,x.2.2.2.1,x.2.2.2.2.2.1,x.2.2.2.2.2.2],())) (fun y b=>if (!inR y 0 100000)=true then .done (.done false) else .next b) (fun _=>.next (x,())) () ?_ ?_ ?_]
 ·rw [foldS_anyN (q:=fun y=>inR y 0 100000) _ _ (fun _=>rfl)]
  show _=M.pure (tarV x)
  unfold tarV
  simp only [List.all_cons,List.all_nil,Bool.and_true,FC.sh,fcWithin,M.det_True,M.bind_pure,M.gdo_pure]
  cases h1:inR x.1 0 9999<;>cases h2:inR x.2.1 1 9999<;>cases h3:inR x.2.2.2.2.1 1 9999<;>cases inR x.2.2.1 0 100000<;>cases inR x.2.2.2.1 0 100000<;>cases inR x.2.2.2.2.2.1 0 100000<;>cases inR x.2.2.2.2.2.2 0 100000<;>simp [h1,h2,h3]
 ·rfl
 ·intro i hi b
  have hi':i<4:=by simpa using hi
  have hw:=wrap64 (n:=(i:Int)+1) (by omega) (by omega)
  have h1:decide ((i:Int)<4)=true:=by simpa using (by omega:(i:Int)<4)
  simp only [h1,if_true,ofNat_def,getD_nat hi,in_len hi,M.req_True,FC.sh,fcWithin,M.det_True,M.bind_pure,add_def,hw]
  exact fin_step (mk:=fun (_:Unit)=>((4:Int),((i+1:Nat):Int),x,[x.2.2.1,x.2.2.2.1,x.2.2.2.2.2.1,x.2.2.2.2.2.2],()))
 ·intro b
  simp
abbrev fcSlip:FC:=⟨.prod tC tSlip,tB,fun x=>x.1.1.length<2 ^ 63,fun x=>slipV x.1.1.length x.2⟩
theorem sRSlip (x):M.le (S_ref09_isSlip fcWithin.sh x) (fcSlip.sh x):=M.le_det fun h=>by
 have hw:=wrap64 (n:=(x.1.1.length:Int) - 1) (by omega) (by omega)
 unfold S_ref09_isSlip
 show _=M.pure (slipV x.1.1.length x.2)
 unfold slipV
 simp only [FC.sh,fcWithin,M.det_True,M.bind_pure,M.gdo_pure,ofNat_def,hw]
 cases inR x.2.1 0 99<;>cases inR x.2.2.1 0 ((x.1.1.length:Int) - 1)<;>cases inR x.2.2.2.1 0 9999<;>cases inR x.2.2.2.2.2.1 0 9<;>cases inR x.2.2.2.2.2.2 0 99<;>simp
theorem sHSlip (x):M.le (S_hire_isSlip fcWithin.sh fcId.sh x) (fcSlip.sh x):=M.le_det fun h=>by
 have hw:=wrap64 (n:=(x.1.1.length:Int) - 1) (by omega) (by omega)
 unfold S_hire_isSlip
 show _=M.pure (slipV x.1.1.length x.2)
 unfold slipV
 simp only [FC.sh,fcWithin,fcId,M.det_True,M.bind_pure,M.gdo_pure,ofNat_def,hw]
 refine congrArg M.pure ?_
 cases inR x.2.1 0 99<;>cases inR x.2.2.1 0 ((x.1.1.length:Int) - 1)<;>cases inR x.2.2.2.1 0 9999<;>cases inR x.2.2.2.2.2.1 0 9<;>cases inR x.2.2.2.2.2.2 0 99<;>cases (decide (x.2.2.2.2.1=1)||decide (x.2.2.2.2.1=2)&&decide (x.2.2.2.2.2.2=0))<;>simp
abbrev fcSlipC:FC:=⟨.prod tSlip (.ptr tC),tB,fun x=>∃ c:Ctr,x.2=some c∧c.1.length<2 ^ 63,fun x=>!slipV (x.2.getD ([],[],[],[],0,0,0,0,0,0,0)).1.length x.1⟩
theorem sHWrong (x):M.le (S_hire_isCounter_c1 fcSlip.sh x) (fcSlipC.sh x):=M.le_det fun h=>by
 obtain ⟨s,o⟩:=x
 obtain ⟨c,hc,h⟩:=h
 change o=some c at hc
 subst hc
 unfold S_hire_isCounter_c1
 simp only [Option.getD_some,FC.sh,fcSlip,M.bind_det]
 exact M.req_true h _
abbrev fcIdN:FC:=⟨tI,tB,fun _=>True,fun x=>!inR x 0 99⟩
theorem sHStrange (x):M.le (S_hire_isCounter_c2 fcId.sh x) (fcIdN.sh x):=M.le_det fun _=>by
 unfold S_hire_isCounter_c2;simp [FC.sh,fcId]
theorem slip_eq (a b:Slip):(decide (a.1=b.1)&&(decide (a.2.1=b.2.1)&&(decide (a.2.2.1=b.2.2.1)&&(decide (a.2.2.2.1=b.2.2.2.1)&&(decide (a.2.2.2.2.1=b.2.2.2.2.1)&&decide (a.2.2.2.2.2=b.2.2.2.2.2))))))=decide (a=b):=by
 rw [Bool.eq_iff_iff]
 simp only [Bool.and_eq_true,decide_eq_true_eq]
 constructor
 ·rintro ⟨h1,h2,h3,h4,h5,h6⟩
  exact Prod.ext h1 (Prod.ext h2 (Prod.ext h3 (Prod.ext h4 (Prod.ext h5 h6))))
 ·rintro rfl;exact ⟨rfl,rfl,rfl,rfl,rfl,rfl⟩
def clashV (a b:Slip):Bool:=decide (sId a=sId b)&&!decide (a=b)
abbrev fcClash:FC:=⟨.prod tSlip tSlip,tB,fun _=>True,fun x=>clashV x.1 x.2⟩
theorem sRClash (x):M.le (S_ref09_clash x) (fcClash.sh x):=M.le_det fun _=>by
 have h:=slip_eq x.1 x.2
 unfold S_ref09_clash
 show _=M.pure (clashV x.1 x.2)
 unfold clashV
 rw [←h]
abbrev fcWider:FC:=⟨.prod tSpan (.prod tI tB),tSpan,fun _=>True,fun x=>if x.2.2=true then (x.2.1,x.2.1) else (min x.1.1 x.2.1,max x.1.2 x.2.1)⟩
theorem sRWider (x):M.le (S_ref09_wider x) (fcWider.sh x):=M.le_det fun _=>by
 unfold S_ref09_wider
 show _=M.pure (if x.2.2=true then (x.2.1,x.2.1) else (min x.1.1 x.2.1,max x.1.2 x.2.1))
 split
 ·rfl
 ·refine congrArg M.pure (Prod.ext ?_ ?_)
  ·show (if x.2.1<x.1.1 then x.2.1 else x.1.1)=min x.1.1 x.2.1
   split<;>omega
  ·show (if x.2.1 > x.1.2 then x.2.1 else x.1.2)=max x.1.2 x.2.1
   split<;>omega
abbrev fcIn:FC:=⟨.prod tInts tI,tB,fun x=>x.1.length<2 ^ 63,fun x=>x.1.contains x.2⟩
theorem any_contains (l:List Int) (n:Int):(l.any fun y=>y == n)=l.contains n:=by rw [Bool.eq_iff_iff];simp
theorem sIn7 (x):M.le (S_ref07_In x) (fcIn.sh x):=M.le_det fun h=>by
 obtain ⟨l,n⟩:=x
 change l.length<2 ^ 63 at h
 unfold S_ref07_In
 rw [M.loop_listT l (fun i (_:Unit)=>(l,n,(i:Int),())) (fun y b=>if (y == n)=true then .done (.done true) else .next b) (fun _=>.next ()) () ?_ ?_ ?_]
 ·rw [foldS_any,any_contains]
  show _=M.pure (l.contains n)
  cases l.contains n<;>simp
 ·rfl
 ·intro i hi b
  have hw:=wrap64 (n:=(i:Int)+1) (by omega) (by omega)
  simp [hi,hw]
  split<;>simp_all
 ·intro b
  simp
theorem sRIn (x):M.le (S_ref09_in fcIn.sh x) (fcIn.sh x):=M.le_det fun h=>by
 unfold S_ref09_in
 simp only [FC.sh,M.bind_det]
 exact M.req_true h _
theorem eIndex (l:List Int) (n:Int) (h:l.length<2 ^ 63):S_slices_Index_int_int (l,n)=M.pure (idxV (fun y=>decide (n=y)) l 0):=by
 unfold S_slices_Index_int_int
 rw [M.loop_list l (fun i (b:Int)=>(l,n,(l.length:Int),b,())) (fun y (i:Int)=>if decide (n=y)=true then (.done (.done i):Step Int (Step Unit Int)) else .next (i+1)) (fun _=>.next ()) (fun i b=>b=(i:Int)) 0 ?_ ?_ ?_ ?_]
 ·rw [foldS_idx (fun y=>decide (n=y))]
  by_cases ha:(l.any fun y=>decide (n=y))=true
  ·rw [if_pos ha];simp
  ·rw [if_neg ha,idxV_none l 0 ha];simp
 ·rfl
 ·rfl
 ·intro i hi b hb
  subst hb
  have hw:=wrap64 (n:=(i:Int)+1) (by omega) (by omega)
  refine ⟨?_,fun b' hb'=>?_⟩
  ·simp only [ofNat_def,lt_len hi,if_true,getD_nat hi,in_len hi,M.req_True,M.bind_pure,add_def,hw]
   split<;>rfl
  ·split at hb'
   ·cases hb'
   ·cases hb';omega
 ·intro b hb
  subst hb
  simp
abbrev fcIndex:FC:=⟨.prod tInts tI,tI,fun x=>x.1.length<2 ^ 63,fun x=>idxV (fun y=>decide (x.2=y)) x.1 0⟩
theorem sIndex (x):M.le (S_slices_Index_int_int x) (fcIndex.sh x):=M.le_det fun h=>eIndex x.1 x.2 h
theorem sContains (x):M.le (S_slices_Contains_int_int fcIndex.sh x) (fcIn.sh x):=M.le_det fun h=>by
 unfold S_slices_Contains_int_int
 simp only [FC.sh,fcIndex,M.bind_det]
 rw [M.req_true (by exact h),idxV_ge _ _ _ (by omega)]
 have e:(fun y=>decide (x.2=y))=fun y=>y == x.2:=by funext y;rw [Bool.eq_iff_iff];simp only [decide_eq_true_eq,beq_iff_eq];exact ⟨fun h=>h.symm,fun h=>h.symm⟩
 rw [e,any_contains]
theorem sIndexFuncI (x):M.le (S_slices_IndexFunc_int_int x) ((fcIndexFunc tI).sh x):=sIndexFunc tI x
theorem sIndexFuncS (x):M.le (S_slices_IndexFunc_api_Slip_api_Slip x) ((fcIndexFunc tSlip).sh x):=sIndexFunc tSlip x
theorem sContainsFuncI (x):M.le (S_slices_ContainsFunc_int_int (fcIndexFunc tI).sh x) ((fcContainsFunc tI).sh x):=sContainsFunc tI x
theorem sContainsFuncS (x):M.le (S_slices_ContainsFunc_api_Slip_api_Slip (fcIndexFunc tSlip).sh x) ((fcContainsFunc tSlip).sh x):=sContainsFunc tSlip x
abbrev fcClone:FC:=⟨tInts,tInts,fun x=>x.length<65536,fun x=>x⟩
theorem lenLe_of {n:Nat} (h:n<65536):lenLe n:=by unfold lenLe;omega
theorem sClone (x):M.le (S_slices_Clone_int_int x) (fcClone.sh x):=M.le_detR fun h=>by
 unfold S_slices_Clone_int_int
 rw [M.ret_bind]
 refine ⟨⟨false,by simp⟩,fun b hb=>?_⟩
 change b=true→x=[] at hb
 cases b with
 | true=>rw [hb rfl];exact M.ret_pure.2 rfl
 | false=>
  simp only [Bool.false_eq_true,if_false]
  exact M.ret_req.2 ⟨lenLe_of (by simpa using h),M.ret_pure.2 (by simp)⟩
abbrev smallC' (c:Ctr):Prop:=c.1.length≤20∧c.2.1.length≤40∧c.2.2.1.length≤60∧c.2.2.2.1.length≤40
abbrev fcCopy:FC:=⟨tC,tC,smallC',fun x=>x⟩
theorem sCopy (x):M.le (S_ref09_Copy x) (fcCopy.sh x):=M.le_det fun h=>by
 obtain ⟨h1,h2,h3,h4⟩:=h
 unfold S_ref09_Copy
 rw [M.req_true (lenLe_of (by simp;omega)),M.req_true (lenLe_of (by simp;omega)),M.req_true (lenLe_of (by simp;omega)),M.req_true (lenLe_of (by simp;omega))]
 simp
abbrev fcNaN:FC:=⟨tI,tB,fun _=>True,fun _=>false⟩
theorem sNaN (x):M.le (S_cmp_isNaN_int x) (fcNaN.sh x):=M.le_det fun _=>by simp [S_cmp_isNaN_int]
abbrev fcCmp:FC:=⟨.prod tI tI,tI,fun _=>True,fun x=>if x.1<x.2 then -1 else if x.1 > x.2 then 1 else 0⟩
theorem sCmp (x):M.le (S_cmp_Compare_int fcNaN.sh x) (fcCmp.sh x):=M.le_det fun _=>by
 unfold S_cmp_Compare_int
 simp only [FC.sh,fcNaN,M.det_True,M.bind_pure,Bool.false_eq_true,if_false,decide_eq_true_eq]
 show _=M.pure (if x.1<x.2 then -1 else if x.1 > x.2 then 1 else 0)
 split
 ·rfl
 ·split<;>rfl
abbrev fcCmpE:FC:=⟨.prod tEv tEv,tI,fun _=>True,fun x=>if x.1.2<x.2.2 then -1 else if x.1.2 > x.2.2 then 1 else 0⟩
theorem sCmpE (x):M.le (S_hire_book_open_c1 fcCmp.sh x) (fcCmpE.sh x):=M.le_det fun _=>by
 unfold S_hire_book_open_c1
 simp only [FC.sh,fcCmp,M.det_True,M.bind_pure]
abbrev fcLess:FC:=⟨.prod tI tI,tB,fun _=>True,fun x=>decide (x.1<x.2)⟩
theorem sLess (x):M.le (S_cmp_Less_int fcNaN.sh x) (fcLess.sh x):=M.le_det fun _=>by
 unfold S_cmp_Less_int
 simp [FC.sh,fcNaN]
abbrev fcLen64:FC:=⟨.int .u64,tI,fun x=>0≤x∧x≤12,fun x=>(S_math_bits_Len64 x).val 0⟩
theorem sLen64 (x):M.le (S_math_bits_Len64 x) (fcLen64.sh x):=M.le_det fun h=>by
 have key:∃ v,S_math_bits_Len64 x=M.pure v:=by
  change Int at x
  change (0:Int)≤x∧x≤12 at h
  unfold S_math_bits_Len64
  have e1:¬(x≥4294967296):=by omega
  have e2:¬(x≥65536):=by omega
  have e3:¬(x≥256):=by omega
  have e4:IntKind.wrap .u8 x=x:=by
   show (if (false&&decide (x % 2 ^ 8≥(2 ^ (8 - 1):Int)))=true then x % 2 ^ 8 - 2 ^ 8 else x % 2 ^ 8)=x
   have e5:(2:Int) ^ 8=256:=by decide
   simp only [Bool.false_and,Bool.false_eq_true,if_false,e5]
   omega
  have e6:0≤x∧x<Int.ofNat 256:=⟨h.1,by simp;omega⟩
  simp only [decide_eq_true_eq,e1,e2,e3,if_false,M.bind_pure,M.go_next,e4,M.req_true e6]
  exact ⟨_,rfl⟩
 obtain ⟨v,hv⟩:=key
 show _=M.pure ((S_math_bits_Len64 x).val 0)
 rw [hv,M.val_pure]
abbrev fcLen:FC:=⟨.int .u64,tI,fun x=>0≤x∧x≤12,fun x=>(S_math_bits_Len64 x).val 0⟩
theorem sLen (f) (x):M.le (S_math_bits_Len f fcLen64.sh x) (fcLen.sh x):=M.le_det fun h=>by
 unfold S_math_bits_Len
 simp only [FC.sh,M.bind_det]
 exact M.req_true h _
end Go.Fer
namespace Go.Fer
open M (Step)
set_option linter.unusedVariables false
set_option linter.unusedSimpArgs false
section
variable {α:Type} (d:α) (lt:α→α→Bool)
def bub (l:List α):Nat→List α
 | 0=>l
 | k+1=>if lt (l.getD (k+1) d) (l.getD k d)=true then bub ((l.set (k+1) (l.getD k d)).set k (l.getD (k+1) d)) k else l
def ir (e:α):List α→List α
 | []=>[e]
 | a::r=>if lt e a=true then a::ir e r else e::a::r
def rsort (l:List α):List α:=l.foldl (fun r e=>ir lt e r) []
def isort (l:List α):List α:=(rsort lt l).reverse
theorem bub_length:∀ (k:Nat) (l:List α),(bub d lt l k).length=l.length
 | 0,l=>rfl
 | k+1,l=>by
  unfold bub
  split
  ·rw [bub_length k];simp
  ·rfl
theorem bub_ir:∀ (r:List α) (e:α) (R:List α),bub d lt (r.reverse++e::R) r.length=(ir lt e r).reverse++R
 | [],e,R=>rfl
 | a::r,e,R=>by
  have e1:((a::r).reverse++e::R).getD (r.length+1) d=e:=by
   simp [List.getD_eq_getElem?_getD,List.getElem?_append_right]
  have e2:((a::r).reverse++e::R).getD r.length d=a:=by
   simp [List.getD_eq_getElem?_getD,List.getElem?_append_right]
  show bub d lt ((a::r).reverse++e::R) (r.length+1)=_
  unfold bub
  rw [e1,e2]
  unfold ir
  split
  ·have e3:(((a::r).reverse++e::R).set (r.length+1) a).set r.length e=r.reverse++e::(a::R):=by
    rw [List.reverse_cons,List.append_assoc]
    rw [show ([a]++e::R:List α)=a::e::R from rfl]
    rw [List.set_append_right _ _ (by simp),List.length_reverse,show r.length+1 - r.length=1 from by omega]
    rw [List.set_append_right _ _ (by simp),List.length_reverse,show r.length - r.length=0 from by omega]
    rfl
   rw [e3,bub_ir r e (a::R)]
   simp
  ·simp
theorem ir_perm (e:α):∀ r:List α,(ir lt e r).Perm (e::r)
 | []=>.refl _
 | a::r=>by
  unfold ir
  split
  ·exact ((ir_perm e r).cons a).trans (List.Perm.swap e a r)
  ·exact .refl _
theorem foldl_ir_perm:∀ (l r:List α),(l.foldl (fun r e=>ir lt e r) r).Perm (l++r)
 | [],r=>.refl _
 | x::l,r=>by
  simp only [List.foldl_cons]
  refine (foldl_ir_perm l _).trans ?_
  refine ((ir_perm lt x r).append_left l).trans ?_
  rw [List.cons_append]
  exact List.perm_middle
theorem rsort_perm (l:List α):(rsort lt l).Perm l:=by
 have:=foldl_ir_perm lt l []
 rwa [List.append_nil] at this
theorem isort_perm (l:List α):(isort lt l).Perm l:=(List.reverse_perm _).trans (rsort_perm lt l)
theorem rsort_length (l:List α):(rsort lt l).length=l.length:=(rsort_perm lt l).length_eq
theorem isort_length (l:List α):(isort lt l).length=l.length:=(isort_perm lt l).length_eq
theorem mem_isort {l:List α} {x:α}:x∈isort lt l↔x∈l:=(isort_perm lt l).mem_iff
theorem rsort_snoc (l:List α) (e:α):rsort lt (l++[e])=ir lt e (rsort lt l):=by simp [rsort]
def srtAt (l:List α) (n:Nat):List α:=(rsort lt (l.take n)).reverse++l.drop n
theorem srtAt_one (l:List α):srtAt lt l 1=l:=by
 cases l with
 | nil=>rfl
 | cons x l=>rfl
theorem srtAt_all (l:List α):srtAt lt l l.length=isort lt l:=by simp [srtAt,isort]
theorem srtAt_length (l:List α) (n:Nat) (h:n≤l.length):(srtAt lt l n).length=l.length:=by
 simp [srtAt,rsort_length,Nat.min_eq_left h]
 omega
theorem srtAt_succ {l:List α} {n:Nat} (h:n<l.length):bub d lt (srtAt lt l n) n=srtAt lt l (n+1):=by
 have e1:(rsort lt (l.take n)).length=n:=by rw [rsort_length];simp;omega
 have:=bub_ir d lt (rsort lt (l.take n)) l[n] (l.drop (n+1))
 rw [e1] at this
 unfold srtAt
 rw [List.drop_eq_getElem_cons h,this,List.take_add_one,List.getElem?_eq_getElem h,Option.toList_some,rsort_snoc]
theorem ir_pair (hlt:∀ a b,lt a b=false→lt b a=true∨lt b a=false) (tr:∀ a b c:α,lt a b=false→lt b c=false→lt a c=false) (tot:∀ a b,lt a b=true→lt b a=false) (e:α):∀ r:List α,r.Pairwise (fun a b=>lt a b=false)→(ir lt e r).Pairwise (fun a b=>lt a b=false)
 | [],_=>by simp [ir]
 | a::r,h=>by
  rw [List.pairwise_cons] at h
  unfold ir
  split
  ·rename_i he
   refine List.pairwise_cons.2 ⟨fun x hx=>?_,ir_pair hlt tr tot e r h.2⟩
   rcases List.mem_cons.1 ((ir_perm lt e r).mem_iff.1 hx) with rfl | hx
   ·exact tot _ _ he
   ·exact h.1 x hx
  ·rename_i he
   have he:lt e a=false:=by simpa using he
   refine List.pairwise_cons.2 ⟨fun x hx=>?_,List.pairwise_cons.2 h⟩
   rcases List.mem_cons.1 hx with rfl | hx
   ·exact he
   ·exact tr _ _ _ he (h.1 x hx)
end
def ltI (a b:Int):Bool:=decide (a<b)
def ltE (a b:Ev):Bool:=decide (a.2<b.2)
theorem foldl_pairI:∀ (l r:List Int),r.Pairwise (fun a b=>ltI a b=false)→(l.foldl (fun r e=>ir ltI e r) r).Pairwise (fun a b=>ltI a b=false)
 | [],r,h=>h
 | x::l,r,h=>foldl_pairI l _ (ir_pair ltI (fun a b _=>by cases ltI b a<;>simp) (fun a b c h1 h2=>by simp [ltI] at *;omega) (fun a b h=>by simp [ltI] at *;omega) x r h)
theorem isortI_pair (l:List Int):(isort ltI l).Pairwise (·≤·):=by
 have:=foldl_pairI l [] .nil
 unfold isort
 rw [List.pairwise_reverse]
 exact this.imp fun h=>by simp [ltI] at h;exact h
theorem foldl_pairE:∀ (l r:List Ev),r.Pairwise (fun a b=>ltE a b=false)→(l.foldl (fun r e=>ir ltE e r) r).Pairwise (fun a b=>ltE a b=false)
 | [],r,h=>h
 | x::l,r,h=>foldl_pairE l _ (ir_pair ltE (fun a b _=>by cases ltE b a<;>simp) (fun a b c h1 h2=>by simp [ltE] at *;omega) (fun a b h=>by simp [ltE] at *;omega) x r h)
theorem isortE_pair (l:List Ev):(isort ltE l).Pairwise fun a b=>a.2≤b.2:=by
 have:=foldl_pairE l [] .nil
 unfold isort
 rw [List.pairwise_reverse]
 exact this.imp fun h=>by simp [ltE] at h;exact h
theorem isortI_eq {l m:List Int} (h:m.Pairwise (·≤·)) (hp:l.Perm m):isort ltI l=m:=
 List.Perm.eq_of_pairwise (fun a b _ _ h1 h2=>by omega) (isortI_pair l) h ((isort_perm ltI l).trans hp)
theorem isortI_congr {l m:List Int} (hp:l.Perm m):isort ltI l=isort ltI m:=isortI_eq (isortI_pair m) (hp.trans (isort_perm ltI m).symm)
theorem loop_bub {α:Type} {d:α} {lt:α→α→Bool} {σ ρ:Type} {body:σ→M (Step σ ρ)} {s0:σ} (mk:Nat→List α→σ) (fin:List α→ρ) (k0:Nat) (l0:List α) (hs0:s0=mk k0 l0) (hk0:k0<l0.length)
  (hs:∀ k l,l.length=l0.length→k<l0.length→body (mk k l)=M.pure (if 0<k∧lt (l.getD k d) (l.getD (k - 1) d)=true then .next (mk (k - 1) ((l.set k (l.getD (k - 1) d)).set (k - 1) (l.getD k d))) else .done (fin l))) :
  M.loop body s0=M.pure (fin (bub d lt l0 k0)):=by
 subst hs0
 have key:∀ k l,l.length=l0.length→k<l0.length→M.loop body (mk k l)=M.pure (fin (bub d lt l k)):=by
  intro k
  induction k with
  | zero=>
   intro l hl hk
   exact M.loop_done (by rw [hs 0 l hl hk,if_neg (by simp)];rfl)
  | succ k ih=>
   intro l hl hk
   unfold bub
   by_cases h:lt (l.getD (k+1) d) (l.getD k d)=true
   ·rw [if_pos h,M.loop_next (s':=mk k ((l.set (k+1) (l.getD k d)).set k (l.getD (k+1) d)))]
    ·exact ih _ (by simpa using hl) (by omega)
    ·rw [hs (k+1) l hl hk,if_pos ⟨by omega,h⟩];rfl
   ·rw [if_neg h]
    exact M.loop_done (by rw [hs (k+1) l hl hk,if_neg (by simpa using h)])
 exact key k0 l0 rfl hk0
theorem getD_pred {α:Type} {l:List α} {d:α} {k:Nat}:l.getD ((k:Int) - 1).toNat d=l.getD (k - 1) d:=by
 rw [show ((k:Int) - 1).toNat=k - 1 from by omega]
theorem getD_kN {α:Type} {l:List α} {d:α} {k:Nat}:l.getD ((k:Int)).toNat d=l.getD k d:=by rw [Int.toNat_natCast]
theorem ite_step {σ ρ:Type} {c:Bool} {p:Prop} [Decidable p] (h:c=decide p) {x y:M (Step σ ρ)} {a b:Step σ ρ} (h1:p→x=M.pure a) (h2:¬p→y=M.pure b):(if c=true then x else y)=M.pure (if p then a else b):=by
 subst h
 by_cases hp:p
 ·simp [hp,h1 hp]
 ·simp [hp,h2 hp]
def shInsI (x:Int×Int×List Int×Unit):M (List Int×Unit):=M.det (x.1=0∧x.2.1=(x.2.2.1.length:Int)∧x.2.2.1.length≤12) (isort ltI x.2.2.1,())
theorem sInsI (x):M.le (S_slices_insSort fcLess.sh x) (shInsI x):=M.le_det fun h=>by
 obtain ⟨a,b,l,u⟩:=x
 obtain ⟨h1,h2,h3⟩:=h
 change a=0 at h1
 change b=(l.length:Int) at h2
 change l.length≤12 at h3
 subst h1;subst h2
 unfold S_slices_insSort
 rw [M.loop_listT (List.range (l.length - 1)) (fun i (_:Unit)=>(0,(l.length:Int),((i+1:Nat):Int),srtAt ltI l (i+1),())) (fun _ _=>.next ()) (fun _=>(isort ltI l,())) () ?_ ?_ ?_]
 ·rw [foldS_next]
 ·show (0,(l.length:Int),IntKind.wrap .i64 (Add.add 0 1),l,())=(0,(l.length:Int),((0+1:Nat):Int),srtAt ltI l (0+1),())
  rw [srtAt_one];rfl
 ·intro i hi _
  have hi:i+1<l.length:=by simp at hi;omega
  have hl:=srtAt_length ltI l (i+1) (by omega)
  have hw:=wrap64 (n:=((i+1:Nat):Int)+1) (by omega) (by omega)
  have hd:decide (((i+1:Nat):Int)<(l.length:Int))=true:=by simpa using (by omega:((i+1:Nat):Int)<(l.length:Int))
  simp only [hd,if_true]
  rw [loop_bub (d:=0) (lt:=ltI) (fun k m=>(0,(l.length:Int),((i+1:Nat):Int),(k:Int),m,())) (fun m=>.next (0,(l.length:Int),((i+1:Nat):Int),m,())) (i+1) (srtAt ltI l (i+1)) rfl (by omega) ?_]
  ·simp only [M.bind_pure,M.go_next,add_def,hw,srtAt_succ (0:Int) ltI hi]
   rfl
  ·intro k m hm hk
   have hw2:0<k→IntKind.wrap .i64 ((k:Int) - 1)=(k:Int) - 1:=fun _=>wrap64 (by omega) (by omega)
   by_cases hk0:0<k
   ·have hp:decide ((k:Int) > 0)=true:=by simpa using (by omega:(k:Int) > 0)
    have r1:(0:Int)≤(k:Int)∧(k:Int)<Int.ofNat m.length:=⟨by omega,by simp;omega⟩
    have r2:(0:Int)≤(k:Int) - 1∧(k:Int) - 1<Int.ofNat m.length:=⟨by omega,by simp;omega⟩
    have r3:(0:Int)≤(k:Int) - 1∧(k:Int) - 1<Int.ofNat (m.set k (m.getD (k - 1) 0)).length:=⟨by omega,by simp;omega⟩
    have ek:((k:Int) - 1)=((k - 1:Nat):Int):=by omega
    simp only [hp,hw2 hk0,r1,r2,forall_const,and_self,true_and,M.req_True,FC.sh,fcLess,M.safe_det,M.val_det,Bool.true_and,getD_pred,getD_kN,Int.toNat_natCast,r3,M.bind_pure]
    rw [show ((k:Int) - 1).toNat=k - 1 from by omega]
    refine ite_step (p:=0<k∧ltI (m.getD k 0) (m.getD (k - 1) 0)=true) ?_ (fun _=>?_) (fun _=>rfl)
    ·simp [ltI,hk0]
    rw [ek]
   ·have hk1:k=0:=by omega
    subst hk1
    simp
 ·intro _
  have e:srtAt ltI l (l.length - 1+1)=isort ltI l:=by
   cases l with
   | nil=>rfl
   | cons x r=>exact srtAt_all ltI (x::r)
  have hd:decide (((l.length - 1+1:Nat):Int)<(l.length:Int))=false:=by simp;omega
  simp only [List.length_range,hd,Bool.false_eq_true,if_false,e,M.bind_pure]
def shInsE (x:Int×Int×(Ev×Slip×Int→M Int)×List Ev×Unit):M (List Ev×Unit):=M.det (x.1=0∧x.2.1=(x.2.2.2.1.length:Int)∧x.2.2.2.1.length≤12∧x.2.2.1=fcCmpE.sh) (isort ltE x.2.2.2.1,())
theorem sInsE (x):M.le (S_slices_insSortF x) (shInsE x):=M.le_det fun h=>by
 obtain ⟨a,b,f,l,u⟩:=x
 obtain ⟨h1,h2,h3,h4⟩:=h
 change a=0 at h1
 change b=(l.length:Int) at h2
 change l.length≤12 at h3
 change f=fcCmpE.sh at h4
 subst h1;subst h2;subst h4
 unfold S_slices_insSortF
 rw [M.loop_listT (List.range (l.length - 1)) (fun i (_:Unit)=>(0,(l.length:Int),fcCmpE.sh,((i+1:Nat):Int),srtAt ltE l (i+1),())) (fun _ _=>.next ()) (fun _=>(isort ltE l,())) () ?_ ?_ ?_]
 ·rw [foldS_next]
 ·show (0,(l.length:Int),fcCmpE.sh,IntKind.wrap .i64 (Add.add 0 1),l,())=(0,(l.length:Int),fcCmpE.sh,((0+1:Nat):Int),srtAt ltE l (0+1),())
  rw [srtAt_one];rfl
 ·intro i hi _
  have hi:i+1<l.length:=by simp at hi;omega
  have hl:=srtAt_length ltE l (i+1) (by omega)
  have hw:=wrap64 (n:=((i+1:Nat):Int)+1) (by omega) (by omega)
  have hd:decide (((i+1:Nat):Int)<(l.length:Int))=true:=by simpa using (by omega:((i+1:Nat):Int)<(l.length:Int))
  simp only [hd,if_true]
  rw [loop_bub (d:=((0,0,0,0,0,0),0)) (lt:=ltE) (fun k m=>(0,(l.length:Int),fcCmpE.sh,((i+1:Nat):Int),(k:Int),m,())) (fun m=>.next (0,(l.length:Int),fcCmpE.sh,((i+1:Nat):Int),m,())) (i+1) (srtAt ltE l (i+1)) rfl (by omega) ?_]
  ·simp only [M.bind_pure,M.go_next,add_def,hw,srtAt_succ ((0,0,0,0,0,0),0) ltE hi]
   rfl
  ·intro k m hm hk
   have hw2:0<k→IntKind.wrap .i64 ((k:Int) - 1)=(k:Int) - 1:=fun _=>wrap64 (by omega) (by omega)
   by_cases hk0:0<k
   ·have hp:decide ((k:Int) > 0)=true:=by simpa using (by omega:(k:Int) > 0)
    have r1:(0:Int)≤(k:Int)∧(k:Int)<Int.ofNat m.length:=⟨by omega,by simp;omega⟩
    have r2:(0:Int)≤(k:Int) - 1∧(k:Int) - 1<Int.ofNat m.length:=⟨by omega,by simp;omega⟩
    have r3:(0:Int)≤(k:Int) - 1∧(k:Int) - 1<Int.ofNat (m.set k (m.getD (k - 1) ((0,0,0,0,0,0),0))).length:=⟨by omega,by simp;omega⟩
    have ek:((k:Int) - 1)=((k - 1:Nat):Int):=by omega
    simp only [hp,hw2 hk0,r1,r2,forall_const,and_self,true_and,M.req_True,FC.sh,fcCmpE,M.det_True,M.gdo_pure,M.bind_pure,if_true,Bool.true_and,getD_pred,getD_kN,Int.toNat_natCast,r3]
    rw [show ((k:Int) - 1).toNat=k - 1 from by omega]
    refine ite_step (p:=0<k∧ltE (m.getD k ((0,0,0,0,0,0),0)) (m.getD (k - 1) ((0,0,0,0,0,0),0))=true) ?_ (fun _=>?_) (fun _=>rfl)
    ·rw [Bool.eq_iff_iff]
     simp only [ltE,hk0,true_and,decide_eq_true_eq]
     split
     ·simp_all
     ·split<;>simp_all
    rw [ek]
   ·have hk1:k=0:=by omega
    subst hk1
    simp [gdo]
 ·intro _
  have e:srtAt ltE l (l.length - 1+1)=isort ltE l:=by
   cases l with
   | nil=>rfl
   | cons x r=>exact srtAt_all ltE (x::r)
  have hd:decide (((l.length - 1+1:Nat):Int)<(l.length:Int))=false:=by simp;omega
  simp only [List.length_range,hd,Bool.false_eq_true,if_false,e,M.bind_pure]
def shPdqI (x:Int×Int×Int×List Int×Unit):M (List Int×Unit):=M.det (x.1=0∧x.2.1=(x.2.2.2.1.length:Int)∧x.2.2.2.1.length≤12) (isort ltI x.2.2.2.1,())
theorem sPdqI (x):M.le (S_slices_pdqsort shInsI x) (shPdqI x):=M.le_det fun h=>by
 obtain ⟨a,b,c,l,u⟩:=x
 obtain ⟨h1,h2,h3⟩:=h
 change a=0 at h1
 change b=(l.length:Int) at h2
 change l.length≤12 at h3
 subst h1;subst h2
 unfold S_slices_pdqsort
 refine M.loop_done ?_
 have hw:=wrap64 (n:=(l.length:Int) - 0) (by omega) (by omega)
 have hd:decide ((l.length:Int) - 0≤12)=true:=by simpa using (by omega:(l.length:Int)≤12)
 simp only [hw,hd,if_true]
 unfold shInsI
 rw [M.bind_det,M.req_true ⟨rfl,rfl,h3⟩,M.bind_pure]
def shPdqE (x:Int×Int×Int×(Ev×Slip×Int→M Int)×List Ev×Unit):M (List Ev×Unit):=M.det (x.1=0∧x.2.1=(x.2.2.2.2.1.length:Int)∧x.2.2.2.2.1.length≤12∧x.2.2.2.1=fcCmpE.sh) (isort ltE x.2.2.2.2.1,())
theorem sPdqE (x):M.le (S_slices_pdqsortF shInsE x) (shPdqE x):=M.le_det fun h=>by
 obtain ⟨a,b,c,f,l,u⟩:=x
 obtain ⟨h1,h2,h3,h4⟩:=h
 change a=0 at h1
 change b=(l.length:Int) at h2
 change l.length≤12 at h3
 change f=fcCmpE.sh at h4
 subst h1;subst h2;subst h4
 unfold S_slices_pdqsortF
 refine M.loop_done ?_
 have hw:=wrap64 (n:=(l.length:Int) - 0) (by omega) (by omega)
 have hd:decide ((l.length:Int) - 0≤12)=true:=by simpa using (by omega:(l.length:Int)≤12)
 simp only [hw,hd,if_true]
 unfold shInsE
 rw [M.bind_det,M.req_true ⟨rfl,rfl,h3,rfl⟩,M.bind_pure]
theorem wrapU {n:Int} (h:0≤n) (h2:n≤12):IntKind.wrap .u64 n=n:=by
 show (if (false&&decide (n % 2 ^ 64≥(2 ^ (64 - 1):Int)))=true then n % 2 ^ 64 - 2 ^ 64 else n % 2 ^ 64)=n
 have e5:(2:Int) ^ 64=18446744073709551616:=by decide
 simp only [Bool.false_and,Bool.false_eq_true,if_false,e5]
 omega
def shSortI (x:List Int×Unit):M (List Int×Unit):=M.det (x.1.length≤12) (isort ltI x.1,())
theorem sSortI (x):M.le (S_slices_Sort shPdqI fcLen.sh x) (shSortI x):=M.le_det fun h=>by
 obtain ⟨l,u⟩:=x
 change l.length≤12 at h
 unfold S_slices_Sort
 have hw:=wrapU (n:=(l.length:Int)) (by omega) (by omega)
 show M.bind (M.det (0≤IntKind.wrap .u64 (l.length:Int)∧IntKind.wrap .u64 (l.length:Int)≤12) _) _=_
 rw [M.bind_det,M.req_true (by rw [hw];omega)]
 unfold shPdqI
 rw [M.bind_det,M.req_true ⟨rfl,rfl,h⟩]
def shSortE (x:(Ev×Slip×Int→M Int)×List Ev×Unit):M (List Ev×Unit):=M.det (x.2.1.length≤12∧x.1=fcCmpE.sh) (isort ltE x.2.1,())
theorem sSortE (x):M.le (S_slices_SortFunc fcLen.sh shPdqE x) (shSortE x):=M.le_det fun h=>by
 obtain ⟨f,l,u⟩:=x
 obtain ⟨h,h4⟩:=h
 change l.length≤12 at h
 change f=fcCmpE.sh at h4
 subst h4
 unfold S_slices_SortFunc
 have hw:=wrapU (n:=(l.length:Int)) (by omega) (by omega)
 show M.bind (M.det (0≤IntKind.wrap .u64 (l.length:Int)∧IntKind.wrap .u64 (l.length:Int)≤12) _) _=_
 rw [M.bind_det,M.req_true (by rw [hw];omega)]
 unfold shPdqE
 rw [M.bind_det,M.req_true ⟨rfl,rfl,h,rfl⟩]
def shSeq (x:(List Int→Prop)×Unit):M (List Int×Unit):=⟨(∃ L,x.1 L)∧∀ L,x.1 L→L.length<60000,fun y=>x.1 y.1⟩
theorem rounds_app:∀ (L acc:List Int),L.length+acc.length<60000→rounds (fun (σ:List Int×Unit) (y:Int)=>M.bind (M.req (lenLe (Add.add (List.length σ.1) (Add.add 0 1))) (M.pure (Ex.normal,σ.1++[y],()))) fun p=>M.pure (p.1,p.2.1,())) L (acc,())=M.pure (.normal,acc++L,())
 | [],acc,_=>by simp [rounds]
 | x::L,acc,h=>by
  simp only [List.length_cons] at h
  unfold rounds
  rw [M.req_true (lenLe_of (by simp only [add_defN];omega))]
  simp only [M.bind_pure]
  rw [rounds_app L (acc++[x]) (by simp;omega)]
  simp
theorem sAppSeq (x):M.le (S_slices_AppendSeq x) (shSeq x):=fun h=>by
 obtain ⟨S,u⟩:=x
 obtain ⟨h1,h2⟩:=h
 show M.Ret _ _
 unfold S_slices_AppendSeq
 rw [M.ret_bind]
 refine ⟨h1,fun L hL=>?_⟩
 have hL:S L:=hL
 show M.Ret (M.bind (rounds _ L ([],())) _) _
 rw [rounds_app L [] (by have:=h2 L hL;simp;omega)]
 simp only [M.bind_pure,exC,List.nil_append]
 exact M.ret_pure.2 hL
theorem sCollect (x):M.le (S_slices_Collect shSeq x) (shSeq x):=fun h=>by
 obtain ⟨S,u⟩:=x
 show M.Ret _ _
 unfold S_slices_Collect
 rw [M.ret_bind]
 exact ⟨h,fun y hy=>M.ret_pure.2 hy⟩
open Classical in
def sortedV (S:List Int→Prop):List Int:=if h:∃ L,S L then isort ltI h.choose else []
abbrev fcSorted:FC:=⟨.it tI,tInts,fun S=>(∃ L,S L)∧(∀ L L',S L→S L'→L.Perm L')∧∀ L,S L→L.length≤12,fun S=>sortedV S⟩
theorem sSorted (x):M.le (S_slices_Sorted_int shSortI shSeq x) (fcSorted.sh x):=M.le_detR fun h=>by
 obtain ⟨h1,h2,h3⟩:=h
 unfold S_slices_Sorted_int
 rw [M.ret_bind]
 refine ⟨⟨h1,fun L hL=>by have:=h3 L hL;omega⟩,fun y hy=>?_⟩
 have hy:x y.1:=hy
 unfold shSortI
 show M.Ret (M.bind (M.det _ _) _) _
 rw [M.bind_det,M.ret_req]
 refine ⟨h3 _ hy,M.ret_pure.2 ?_⟩
 show isort ltI y.1=sortedV x
 unfold sortedV
 rw [dif_pos h1]
 exact isortI_congr (h2 _ _ hy h1.choose_spec)
theorem sortedV_eq {S:List Int→Prop} {L:List Int} (h:S L) (h2:∀ L L',S L→S L'→L.Perm L'):sortedV S=isort ltI L:=by
 have h1:∃ L,S L:=⟨L,h⟩
 unfold sortedV
 rw [dif_pos h1]
 exact isortI_congr (h2 _ _ h1.choose_spec h)
def keysS {α:Type} (x:Option (List (Int×α))) (L:List Int):Prop:=∃ m,x=some m∧(m.map (·.1)).Perm L
abbrev fcKeysI:FC:=⟨.map tI tI,.it tI,fun _=>True,fun x=>keysS (some x)⟩
theorem sKeysI (x):M.le (S_maps_Keys_map_int_int_int_int keysS x) (fcKeysI.sh x):=M.le_det fun _=>rfl
abbrev fcKeysS:FC:=⟨.map tI tSlip,.it tI,fun _=>True,fun x=>keysS (some x)⟩
theorem sKeysS (x):M.le (S_maps_Keys_map_int_api_Slip_int_api_Slip keysS x) (fcKeysS.sh x):=M.le_det fun _=>rfl
theorem keys_one {α:Type} {m:List (Int×α)} {L:List Int}:keysS (some m) L↔(m.map (·.1)).Perm L:=⟨fun ⟨m',h,k⟩=>by cases h;exact k,fun h=>⟨m,rfl,h⟩⟩
theorem keys_pre {α:Type} {m:List (Int×α)} (h:m.length≤12):fcSorted.pre (keysS (some m)):=
 ⟨⟨_,keys_one.2 (.refl _)⟩,fun L L' h1 h2=>(keys_one.1 h1).symm.trans (keys_one.1 h2),fun L hL=>by rw [←(keys_one.1 hL).length_eq];simpa using h⟩
theorem keys_sorted {α:Type} {m:List (Int×α)}:sortedV (keysS (some m))=isort ltI (m.map (·.1)):=
 sortedV_eq (keys_one.2 (.refl _)) fun L L' h1 h2=>(keys_one.1 h1).symm.trans (keys_one.1 h2)
end Go.Fer
namespace Go.Fer
open M (Step)
set_option linter.unusedVariables false
set_option linter.unusedSimpArgs false
def clkV (s:Int×Int):Bool:=inR s.1 (-30) s.2&&!decide (s.2 > 30)
def cloV (l:List (Int×Int)) (i:Nat):Bool:=inR (l.getD i (0,0)).1 0 (l.getD i (0,0)).2&&!decide ((l.getD i (0,0)).2 > 9999)&&!(decide (0<i)&&decide ((l.getD i (0,0)).1≤(l.getD (i - 1) (0,0)).2))
def closedV (l:List (Int×Int)):Bool:=(List.range l.length).all (cloV l)
def sizeV (c:Ctr):Bool:=!(decide ((c.1.length:Int) > 3)||decide ((c.2.1.length:Int) > 12)||decide ((c.2.2.1.length:Int) > 12)||decide ((c.2.2.2.1.length:Int) > 4))&&tarV c.2.2.2.2
def counterV (c:Ctr):Bool:=sizeV c&&c.1.all clkV&&c.2.1.all (slipV c.1.length)&&c.2.2.1.all (fun n=>inR n 0 99)&&closedV c.2.2.2.1
abbrev fcCounter:FC:=⟨tC,tB,smallC,fun c=>counterV c⟩
theorem step_all {σ ρ β:Type} {mk:β→σ} {b:β} {q:Bool} {r:ρ} {m:M (Step σ ρ)} (h1:q=true→m=M.pure (.next (mk b))) (h2:q=false→m=M.pure (.done r)):m=M.pure (Step.mapN mk (if (!q)=true then .done r else .next b)):=by
 cases q
 ·exact h2 rfl
 ·exact h1 rfl
theorem size_if {α:Type} {a t:Bool} {m n:α}:(if (a||!(if (!a)=true then t else false))=true then m else n)=if (!a&&t)=true then n else m:=by cases a<;>cases t<;>rfl
theorem sRCounter (x):M.le (S_ref09_isCounter fcWithin.sh fcTar.sh fcSlip.sh x) (fcCounter.sh x):=M.le_det fun h=>by
 obtain ⟨k1,k2,k3,k4⟩:=h
 unfold S_ref09_isCounter
 show _=M.pure (counterV x)
 simp only [FC.sh,fcTar,M.det_True,M.gdo_pure,M.bind_pure,ofNat_def,size_if]
 unfold counterV
 rw [show (!(decide ((x.1.length:Int) > 3)||decide ((x.2.1.length:Int) > 12)||decide ((x.2.2.1.length:Int) > 12)||decide ((x.2.2.2.1.length:Int) > 4))&&tarV x.2.2.2.2)=sizeV x from rfl]
 cases hb:sizeV x with
 | false=>rfl
 | true=>
  rw [if_pos rfl]
  rw [M.loop_listT x.1 (fun i (_:Unit)=>((i:Int),x,())) (fun y b=>if (!clkV y)=true then .done (.done false) else .next b) (fun _=>.next (x,())) () ?_ ?_ ?_]
  ·rw [foldS_anyN (q:=clkV) _ _ (fun _=>rfl)]
   cases hc:x.1.all clkV with
   | false=>simp
   | true=>
    simp only [if_true,M.bind_pure,M.go_next]
    rw [M.loop_listT x.2.1 (fun i (_:Unit)=>((i:Int),x,())) (fun y b=>if (!slipV x.1.length y)=true then .done (.done false) else .next b) (fun _=>.next (x,())) () ?_ ?_ ?_]
    ·rw [foldS_anyN (q:=slipV x.1.length) _ _ (fun _=>rfl)]
     cases hd:x.2.1.all (slipV x.1.length) with
     | false=>simp
     | true=>
      simp only [if_true,M.bind_pure,M.go_next]
      rw [M.loop_listT x.2.2.1 (fun i (_:Unit)=>((i:Int),x,())) (fun y b=>if (!inR y 0 99)=true then .done (.done false) else .next b) (fun _=>.next (x,())) () ?_ ?_ ?_]
      ·rw [foldS_anyN (q:=fun n=>inR n 0 99) _ _ (fun _=>rfl)]
       cases he:x.2.2.1.all (fun n=>inR n 0 99) with
       | false=>simp
       | true=>
        simp only [if_true,M.bind_pure,M.go_next]
        rw [M.loop_listT (List.range x.2.2.2.1.length) (fun i (_:Unit)=>((i:Int),x,())) (fun y b=>if (!cloV x.2.2.2.1 y)=true then .done (.done false) else .next b) (fun _=>.next ()) () ?_ ?_ ?_]
        ·rw [foldS_anyN (q:=cloV x.2.2.2.1) _ _ (fun _=>rfl)]
         unfold closedV
         cases (List.range x.2.2.2.1.length).all (cloV x.2.2.2.1)<;>simp
        ·rfl
        ·intro i hi b
         have hi:i<x.2.2.2.1.length:=by simpa using hi
         have hw:=wrap64 (n:=(i:Int)+1) (by omega) (by omega)
         have hw2:=wrap64 (n:=(i:Int) - 1) (by omega) (by omega)
         have eg:x.2.2.2.1.getD i (0,0)=x.2.2.2.1[i]:=by simp [List.getD_eq_getElem?_getD,hi]
         have ep:(decide ((i:Int) > 0))=decide (0<i):=by rw [decide_eq_decide];omega
         have hr:decide (0<i)=true→((0:Int)≤(i:Int) - 1∧(i:Int) - 1<(x.2.2.2.1.length:Int)):=fun h=>by have:=of_decide_eq_true h;omega
         refine step_all (mk:=fun (_:Unit)=>(((i+1:Nat):Int),x,())) (b:=b) ?_ ?_<;>intro hq<;>
         ·simp only [List.getElem_range,cloV,eg] at hq
          simp only [ofNat_def,lt_len hi,if_true,getD_nat hi,in_len hi,M.req_True,FC.sh,fcWithin,M.det_True,M.pure_safe,M.val_pure,add_def,hw,hw2,ep,getD_pred,List.getElem_range]
          revert hq
          generalize inR x.2.2.2.1[i].1 0 x.2.2.2.1[i].2=b1
          generalize decide (x.2.2.2.1[i].2 > 9999)=b2
          generalize decide (x.2.2.2.1[i].1≤(x.2.2.2.1.getD (i - 1) (0,0)).2)=b3
          revert hr
          generalize decide (0<i)=b4
          intro hr
          cases b4
          ·cases b1<;>cases b2<;>cases b3<;>simp
          ·have hr:=hr rfl
           cases b1<;>cases b2<;>cases b3<;>simp [hr,(by omega:(1:Int)≤(i:Int))]
        ·intro b
         simp
      ·rfl
      ·intro i hi b
       have hw:=wrap64 (n:=(i:Int)+1) (by omega) (by omega)
       simp only [ofNat_def,lt_len hi,if_true,getD_nat hi,in_len hi,M.req_True,FC.sh,fcWithin,M.det_True,M.bind_pure,add_def,hw]
       exact fin_step (mk:=fun (_:Unit)=>(((i+1:Nat):Int),x,()))
      ·intro b
       simp
    ·rfl
    ·intro i hi b
     have hw:=wrap64 (n:=(i:Int)+1) (by omega) (by omega)
     simp only [ofNat_def,lt_len hi,if_true,getD_nat hi,in_len hi,M.req_True,FC.sh,fcSlip,M.safe_det,M.val_det,M.bind_pure,add_def,hw]
     rw [M.req_true k1]
     exact fin_step (mk:=fun (_:Unit)=>(((i+1:Nat):Int),x,()))
    ·intro b
     simp
  ·rfl
  ·intro i hi b
   have hw:=wrap64 (n:=(i:Int)+1) (by omega) (by omega)
   refine step_all (mk:=fun (_:Unit)=>(((i+1:Nat):Int),x,())) (b:=b) ?_ ?_<;>intro hq<;>
   ·simp only [clkV] at hq
    simp only [ofNat_def,lt_len hi,if_true,getD_nat hi,in_len hi,M.req_True,FC.sh,fcWithin,M.det_True,M.pure_safe,M.val_pure,add_def,hw]
    revert hq
    generalize inR x.1[i].1 (-30) x.1[i].2=b1
    generalize decide (x.1[i].2 > 30)=b2
    cases b1<;>cases b2<;>simp
  ·intro b
   simp
theorem any_notL {α:Type} {p:α→Bool} (l:List α):(l.any fun y=>!p y)=!l.all p:=by rw [List.not_all_eq_any_not]
theorem sHCounter (x):M.le (S_hire_isCounter fcWithin.sh (fcContainsFunc tSlip).sh fcTar.sh (fcContainsFunc tI).sh fcSlipC.sh fcIdN.sh x) (fcCounter.sh x):=M.le_det fun h=>by
 obtain ⟨k1,k2,k3,k4⟩:=h
 unfold S_hire_isCounter
 show _=M.pure (counterV x)
 simp only [show fcTar.sh x.2.2.2.2=M.pure (tarV x.2.2.2.2) from rfl,M.gdo_pure,M.bind_pure,ofNat_def,size_if]
 unfold counterV
 rw [show (!(decide ((x.1.length:Int) > 3)||decide ((x.2.1.length:Int) > 12)||decide ((x.2.2.1.length:Int) > 12)||decide ((x.2.2.2.1.length:Int) > 4))&&tarV x.2.2.2.2)=sizeV x from rfl]
 cases hb:sizeV x with
 | false=>rfl
 | true=>
  rw [if_pos rfl]
  rw [M.loop_listT x.1 (fun i (_:Unit)=>(x.1,(x.1.length:Int),(i:Int),x,())) (fun y b=>if (!clkV y)=true then .done (.done false) else .next b) (fun _=>.next (x,())) () ?_ ?_ ?_]
  ·rw [foldS_anyN (q:=clkV) _ _ (fun _=>rfl)]
   cases hc:x.1.all clkV with
   | false=>simp
   | true=>
    simp only [if_true,M.bind_pure,M.go_next]
    rw [M.loop_listT (List.range x.2.2.2.1.length) (fun i (_:Unit)=>(x.2.2.2.1,(x.2.2.2.1.length:Int),(i:Int),x,())) (fun y b=>if (!cloV x.2.2.2.1 y)=true then .done (.done false) else .next b) (fun _=>.next (x,())) () ?_ ?_ ?_]
    ·rw [foldS_anyN (q:=cloV x.2.2.2.1) _ _ (fun _=>rfl)]
     unfold closedV
     cases hd:(List.range x.2.2.2.1.length).all (cloV x.2.2.2.1) with
     | false=>simp
     | true=>
      simp only [if_true,M.bind_pure,M.go_next]
      have e1:(fcContainsFunc tSlip).sh (x.2.1,fun y=>fcSlipC.sh (y,some x))=M.pure (!x.2.1.all (slipV x.1.length)):=by
       have hf:∀ y,fcSlipC.sh (y,some x)=M.pure (!slipV x.1.length y):=fun y=>M.det_true ⟨x,rfl,k1⟩ _
       refine (M.det_true ⟨k2,fun y _=>⟨_,hf y⟩⟩ _).trans ?_
       refine congrArg M.pure ?_
       rw [←any_notL]
       show (x.2.1.any fun y=>(fcSlipC.sh (y,some x)).val false)=_
       simp only [hf,M.val_pure]
      have e2:(fcContainsFunc tI).sh (x.2.2.1,fcIdN.sh)=M.pure (!x.2.2.1.all (fun n=>inR n 0 99)):=by
       refine (M.det_true ⟨k3,fun y _=>⟨_,rfl⟩⟩ _).trans ?_
       refine congrArg M.pure ?_
       rw [←any_notL]
       show (x.2.2.1.any fun y=>(fcIdN.sh y).val false)=_
       simp only [show ∀ y,fcIdN.sh y=M.pure (!inR y 0 99) from fun _=>rfl,M.val_pure]
      rw [e1,e2]
      simp only [M.bind_pure,M.gdo_pure]
      refine congrArg M.pure ?_
      cases x.2.1.all (slipV x.1.length)<;>cases x.2.2.1.all (fun n=>inR n 0 99)<;>rfl
    ·rfl
    ·intro i hi b
     have hi:i<x.2.2.2.1.length:=by simpa using hi
     have hw:=wrap64 (n:=(i:Int)+1) (by omega) (by omega)
     have hw2:=wrap64 (n:=(i:Int) - 1) (by omega) (by omega)
     have eg:x.2.2.2.1.getD i (0,0)=x.2.2.2.1[i]:=by simp [List.getD_eq_getElem?_getD,hi]
     have ep:(decide ((i:Int) > 0))=decide (0<i):=by rw [decide_eq_decide];omega
     have hr:decide (0<i)=true→((0:Int)≤(i:Int) - 1∧(i:Int) - 1<(x.2.2.2.1.length:Int)):=fun h=>by have:=of_decide_eq_true h;omega
     refine step_all (mk:=fun (_:Unit)=>(x.2.2.2.1,(x.2.2.2.1.length:Int),((i+1:Nat):Int),x,())) (b:=b) ?_ ?_<;>intro hq<;>
     ·simp only [List.getElem_range,cloV,eg] at hq
      simp only [ofNat_def,lt_len hi,if_true,getD_nat hi,in_len hi,M.req_True,FC.sh,fcWithin,M.det_True,M.pure_safe,M.val_pure,add_def,hw,hw2,ep,getD_pred,List.getElem_range]
      revert hq
      generalize inR x.2.2.2.1[i].1 0 x.2.2.2.1[i].2=b1
      generalize decide (x.2.2.2.1[i].2 > 9999)=b2
      generalize decide (x.2.2.2.1[i].1≤(x.2.2.2.1.getD (i - 1) (0,0)).2)=b3
      revert hr
      generalize decide (0<i)=b4
      intro hr
      cases b4
      ·cases b1<;>cases b2<;>cases b3<;>simp
      ·have hr:=hr rfl
       cases b1<;>cases b2<;>cases b3<;>simp [hr,(by omega:(1:Int)≤(i:Int))]
    ·intro b
     simp
  ·rfl
  ·intro i hi b
   have hw:=wrap64 (n:=(i:Int)+1) (by omega) (by omega)
   refine step_all (mk:=fun (_:Unit)=>(x.1,(x.1.length:Int),((i+1:Nat):Int),x,())) (b:=b) ?_ ?_<;>intro hq<;>
   ·simp only [clkV] at hq
    simp only [ofNat_def,lt_len hi,if_true,getD_nat hi,in_len hi,M.req_True,FC.sh,fcWithin,M.det_True,M.bind_pure,add_def,hw]
    revert hq
    generalize inR x.1[i].1 (-30) x.1[i].2=b1
    generalize decide (x.1[i].2 > 30)=b2
    cases b1<;>cases b2<;>simp
  ·intro b
   simp
end Go.Fer
namespace Go.Fer
open M (Step)
set_option linter.unusedVariables false
set_option linter.unusedSimpArgs false
abbrev z6:Slip:=(0,0,0,0,0,0)
def clashB (l:List Slip):Bool:=(List.range l.length).any fun i=>(List.range i).any fun k=>clashV (l.getD k z6) (l.getD i z6)
def checkV (c:Ctr):Int:=if counterV c=true then (if clashB c.2.1=true then 91 else 0) else 90
abbrev fcCheck:FC:=⟨tC,tI,smallC,fun c=>checkV c⟩
theorem getD_lt {α:Type} {l:List α} {i:Nat} {d:α} (h:i<l.length):l.getD i d=l[i]:=by simp [List.getD_eq_getElem?_getD,h]
theorem sRCheck (x):M.le (S_ref09_Check fcCounter.sh fcClash.sh x) (fcCheck.sh x):=M.le_det fun h=>by
 obtain ⟨k1,k2,k3,k4⟩:=id h
 unfold S_ref09_Check
 show _=M.pure (checkV x)
 rw [show fcCounter.sh x=M.pure (counterV x) from M.det_true h _]
 unfold checkV
 cases counterV x with
 | false=>simp only [M.bind_pure];rfl
 | true=>
  simp only [M.bind_pure,Bool.not_true,Bool.false_eq_true,if_false,if_true]
  rw [M.loop_listT (List.range x.2.1.length) (fun i (_:Unit)=>((i:Int),x,())) (fun i b=>if ((List.range i).any fun k=>clashV (x.2.1.getD k z6) (x.2.1.getD i z6))=true then .done (.done 91) else .next b) (fun _=>.next ()) () ?_ ?_ ?_]
  ·rw [foldS_any]
   unfold clashB
   cases (List.range x.2.1.length).any fun i=>(List.range i).any fun k=>clashV (x.2.1.getD k z6) (x.2.1.getD i z6)<;>simp
  ·rfl
  ·intro i hi b
   have hi:i<x.2.1.length:=by simpa using hi
   have hw:=wrap64 (n:=(i:Int)+1) (by omega) (by omega)
   have hd:decide ((i:Int)<Int.ofNat x.2.1.length)=true:=lt_len hi
   simp only [hd,if_true,List.getElem_range]
   rw [M.loop_listT (List.range i) (fun k (_:Unit)=>((i:Int),(k:Int),x,())) (fun k b=>if clashV (x.2.1.getD k z6) (x.2.1.getD i z6)=true then .done (.done (.done (.done 91))) else .next b) (fun _=>(.next ((i:Int),x,()):Step (Int×Ctr×Unit) (Step (Int×Ctr×Unit) (Step Unit Int)))) () ?_ ?_ ?_]
   ·rw [foldS_any]
    cases (List.range i).any fun k=>clashV (x.2.1.getD k z6) (x.2.1.getD i z6)<;>simp [hw]
   ·rfl
   ·intro k hk b
    have hk:k<i:=by simpa using hk
    have hk2:k<x.2.1.length:=by omega
    have hw:=wrap64 (n:=(k:Int)+1) (by omega) (by omega)
    have hd:decide ((k:Int)<(i:Int))=true:=by simpa using (by omega:(k:Int)<(i:Int))
    simp only [hd,if_true,ofNat_def,in_len hk2,in_len hi,M.req_True,FC.sh,fcClash,M.det_True,M.pure_safe,M.val_pure,M.bind_pure,add_def,hw,List.getElem_range,getD_kN]
    exact fin_step (mk:=fun (_:Unit)=>((i:Int),((k+1:Nat):Int),x,()))
   ·intro b
    simp
  ·intro b
   simp
def onceV (l:List Slip):List Slip:=(intR 0 99).filterMap fun id=>l.find? fun s=>s.1 == id
abbrev fcOnce:FC:=⟨.slice tSlip,.slice tSlip,fun l=>l.length<2 ^ 63,fun l=>onceV l⟩
theorem foldl_fm {α β:Type} {g:α→Option β}:∀ (l:List α) (b:List β),l.foldl (fun b x=>(g x).elim b fun y=>b++[y]) b=b++l.filterMap g
 | [],b=>by simp
 | x::l,b=>by
  simp only [List.foldl_cons,List.filterMap_cons]
  rw [foldl_fm l]
  cases g x<;>simp
theorem foldS_find {α β ρ:Type} {p:α→Bool} {d:α→ρ} {fin:β→ρ}:∀ (l:List α) (b:β),foldS (fun x b=>if p x=true then .done (d x) else .next b) fin l b=match l.find? p with | some y=>d y | none=>fin b
 | [],b=>rfl
 | x::l,b=>by
  simp only [foldS,List.find?_cons]
  cases p x with
  | true=>rfl
  | false=>exact foldS_find l b
theorem sROnce (x):M.le (S_ref09_once x) (fcOnce.sh x):=M.le_det fun h=>by
 change x.length<2 ^ 63 at h
 unfold S_ref09_once
 show _=M.pure (onceV x)
 rw [M.loop_list (intR 0 99) (fun i (b:List Slip)=>(x,(i:Int),b,())) (fun id b=>.next ((x.find? fun s=>s.1 == id).elim b fun y=>b++[y])) (fun b=>.next (b,())) (fun i b=>b.length≤i) [] ?_ ?_ ?_ ?_]
 ·rw [foldS_next,foldl_fm (g:=fun id=>x.find? fun s=>s.1 == id)]
  simp [onceV]
 ·rfl
 ·exact Nat.le_refl _
 ·intro i hi b hb
  have hi:i<100:=by simpa [intR] using hi
  have hw:=wrap64 (n:=(i:Int)+1) (by omega) (by omega)
  have hd:decide ((i:Int)≤99)=true:=by simpa using (by omega:(i:Int)≤99)
  refine ⟨?_,fun b' hb'=>?_⟩
  ·simp only [hd,if_true,intR_get,Int.zero_add]
   rw [M.loop_listT x (fun k (_:Unit)=>(x,(i:Int),(k:Int),b,())) (fun s u=>if (s.1 == (i:Int))=true then .done (.next (x,(i:Int),b++[s],())) else .next u) (fun _=>.next (x,(i:Int),b,())) () ?_ ?_ ?_]
   ·rw [foldS_find]
    cases x.find? (fun s=>s.1 == (i:Int))<;>simp [hw]
   ·rfl
   ·intro k hk u
    have hw:=wrap64 (n:=(k:Int)+1) (by omega) (by omega)
    simp only [ofNat_def,lt_len hk,if_true,getD_nat hk,in_len hk,M.req_True,add_def,hw]
    rw [M.req_true (lenLe_of (by simp only [add_defN];omega))]
    simp only [M.bind_pure]
    by_cases he:x[k].1=(i:Int)
    ·simp [he]
    ·simp [he]
   ·intro u
    simp
  ·simp only [Step.next.injEq] at hb'
   subst hb'
   cases x.find? fun s=>s.1 == (intR 0 99)[i] with
   | none=>exact Nat.le_succ_of_le hb
   | some y=>simp;omega
 ·intro b hb
  have:(intR 0 99).length=100:=by decide
  simp [this]
def countsV (c:Ctr):List Slip:=(onceV c.2.1).filter fun s=>!c.2.2.1.contains s.1
theorem onceV_length (l:List Slip):(onceV l).length≤100:=by
 refine Nat.le_trans (List.length_filterMap_le _ _) ?_
 rw [show (intR 0 99).length=100 from by decide]
 exact Nat.le_refl _
abbrev fcCounts:FC:=⟨tC,.slice tSlip,smallC,fun c=>countsV c⟩
theorem sRCounts (x):M.le (S_ref09_Counts fcOnce.sh fcIn.sh x) (fcCounts.sh x):=M.le_det fun h=>by
 obtain ⟨k1,k2,k3,k4⟩:=id h
 unfold S_ref09_Counts
 show _=M.pure (countsV x)
 rw [show fcOnce.sh x.2.1=M.pure (onceV x.2.1) from M.det_true k2 _]
 simp only [M.bind_pure]
 have hl:=onceV_length x.2.1
 rw [M.loop_list (onceV x.2.1) (fun i (b:List Slip)=>(onceV x.2.1,(i:Int),x,b,())) (fun s b=>.next (if (!x.2.2.1.contains s.1)=true then b++[s] else b)) (fun b=>.next (b,())) (fun i b=>b.length≤i) [] ?_ ?_ ?_ ?_]
 ·rw [foldS_next,foldl_filter_app]
  simp [countsV]
 ·rfl
 ·exact Nat.le_refl _
 ·intro i hi b hb
  have hw:=wrap64 (n:=(i:Int)+1) (by omega) (by omega)
  refine ⟨?_,fun b' hb'=>?_⟩
  ·simp only [ofNat_def,lt_len hi,if_true,getD_nat hi,in_len hi,M.req_True,FC.sh,fcIn,M.safe_det,M.val_det,add_def,hw]
   rw [M.req_true k3,M.req_true (lenLe_of (by simp only [add_defN];omega))]
   cases x.2.2.1.contains (onceV x.2.1)[i].1<;>simp [hw]
  ·simp only [Step.next.injEq] at hb'
   subst hb'
   split
   ·simp;omega
   ·omega
 ·intro b hb
  simp
end Go.Fer
namespace Go.Fer
open M (Step)
set_option linter.unusedVariables false
set_option linter.unusedSimpArgs false
def mlkS (m:List (Int×Slip)) (k:Int):Option Slip:=(m.find? fun p=>decide (k=p.1)).map (·.2)
def keysOf (m:List (Int×Slip)):List Int:=m.map (·.1)
theorem msetS_cons (p:Int×Slip) (m:List (Int×Slip)) (k:Int) (v:Slip):msetS (p::m) k v=if decide (k=p.1)=true then (p.1,v)::m else p::msetS m k v:=rfl
theorem msetS_nil (k:Int) (v:Slip):msetS [] k v=[(k,v)]:=rfl
theorem msetS_len (k:Int) (v:Slip):∀ m:List (Int×Slip),(msetS m k v).length≤m.length+1
 | []=>by rw [msetS_nil];simp
 | p::m=>by
  rw [msetS_cons]
  split
  ·simp
  ·simp;exact msetS_len k v m
theorem mlkS_msetS (k:Int) (v:Slip) (x:Int):∀ m:List (Int×Slip),mlkS (msetS m k v) x=if x=k then some v else mlkS m x
 | []=>by
  rw [msetS_nil]
  by_cases h:x=k<;>simp [mlkS,h]
 | p::m=>by
  rw [msetS_cons]
  have ih:=mlkS_msetS k v x m
  unfold mlkS at ih ⊢
  by_cases h:k=p.1
  ·subst h
   by_cases hx:x=p.1<;>simp [hx]
  ·simp only [h,decide_false,Bool.false_eq_true,if_false,List.find?_cons]
   by_cases hx:x=p.1
   ·have:¬x=k:=fun e=>h (e ▸ hx)
    simp [hx]
    exact fun e=>absurd e.symm h
   ·simp only [hx,decide_false]
    exact ih
theorem keysOf_msetS (k:Int) (v:Slip):∀ m:List (Int×Slip),((keysOf m).Nodup→(keysOf (msetS m k v)).Nodup)∧∀ x,x∈keysOf (msetS m k v)↔x∈keysOf m∨x=k
 | []=>by rw [msetS_nil];simp [keysOf]
 | p::m=>by
  obtain ⟨h1,h2⟩:=keysOf_msetS k v m
  rw [msetS_cons]
  by_cases h:k=p.1
  ·subst h
   simp only [decide_true,if_true]
   refine ⟨fun h=>h,fun x=>?_⟩
   show x∈p.1::keysOf m↔x∈p.1::keysOf m∨x=p.1
   simp only [List.mem_cons]
   exact ⟨.inl,fun h=>h.elim id .inl⟩
  ·simp only [h,decide_false,Bool.false_eq_true,if_false]
   refine ⟨fun hn=>?_,fun x=>?_⟩
   ·show (p.1::keysOf (msetS m k v)).Nodup
    have hn':(p.1::keysOf m).Nodup:=hn
    rw [List.nodup_cons] at hn' ⊢
    refine ⟨fun hm=>?_,h1 hn'.2⟩
    rcases (h2 p.1).1 hm with hm | hm
    ·exact hn'.1 hm
    ·exact h hm.symm
   ·show x∈p.1::keysOf (msetS m k v)↔x∈p.1::keysOf m∨x=k
    simp only [List.mem_cons,h2,or_assoc]
theorem mlkS_mem {m:List (Int×Slip)} {k:Int}:k∈keysOf m↔(mlkS m k).isSome=true:=by
 unfold mlkS keysOf
 simp only [List.mem_map,Option.isSome_map,List.find?_isSome,decide_eq_true_eq]
 exact ⟨fun ⟨p,h,e⟩=>⟨p,h,e.symm⟩,fun ⟨p,h,e⟩=>⟨p,h,e.symm⟩⟩
def noClash (l:List Slip):Prop:=∀ a∈l,∀ b∈l,a.1=b.1→a=b
def findS (l:List Slip) (k:Int):Option Slip:=l.find? fun s=>s.1 == k
def onceM:List Slip→List (Int×Slip)→Option (List (Int×Slip))
 | [],m=>some m
 | s::l,m=>if ((mlkS m s.1).isSome&&!decide ((mlkS m s.1).getD z6=s))=true then none else onceM l (msetS m s.1 s)
structure InvM (P:List Slip) (m:List (Int×Slip)):Prop where
 lk:∀ k,mlkS m k=findS P k
 nd:(keysOf m).Nodup
 nc:noClash P
 ln:m.length≤P.length
theorem findS_some {l:List Slip} {k:Int} {s:Slip} (h:findS l k=some s):s∈l∧s.1=k:=by
 unfold findS at h
 have h1:=List.mem_of_find?_eq_some h
 have h2:=List.find?_some h
 exact ⟨h1,by simpa using h2⟩
theorem findS_none {l:List Slip} {k:Int} (h:findS l k=none):∀ s∈l,s.1≠k:=by
 unfold findS at h
 rw [List.find?_eq_none] at h
 intro s hs he
 exact h s hs (by simpa using he)
theorem InvM.nil:InvM [] []:=⟨fun _=>rfl,.nil,fun a h=>by simp at h,Nat.le_refl _⟩
theorem onceM_spec:∀ (l P:List Slip) (m:List (Int×Slip)),InvM P m→(noClash (P++l)→∃ m',onceM l m=some m'∧InvM (P++l) m')∧(¬noClash (P++l)→onceM l m=none)
 | [],P,m,h=>by simp only [List.append_nil];exact ⟨fun _=>⟨m,rfl,h⟩,fun hn=>absurd h.nc hn⟩
 | s::l,P,m,h=>by
  unfold onceM
  rw [h.lk]
  cases hf:findS P s.1 with
  | some o=>
   obtain ⟨ho,hi⟩:=findS_some hf
   by_cases he:o=s
   ·subst he
    simp only [Option.isSome_some,Option.getD_some,decide_true,Bool.not_true,Bool.and_false,Bool.false_eq_true,if_false]
    have:=onceM_spec l (P++[o]) (msetS m o.1 o) ⟨fun k=>?_,(keysOf_msetS _ _ _).1 h.nd,?_,?_⟩
    ·simpa using this
    ·rw [mlkS_msetS,h.lk]
     unfold findS at hf ⊢
     rw [List.find?_append]
     by_cases hk:k=o.1
     ·subst hk;rw [hf];simp
     ·have:¬o.1=k:=fun e=>hk e.symm
      simp [hk,this]
    ·intro a ha b hb hab
     simp only [List.mem_append,List.mem_singleton] at ha hb
     exact h.nc a (ha.elim id fun e=>e ▸ ho) b (hb.elim id fun e=>e ▸ ho) hab
    ·have hm:o.1∈keysOf m:=mlkS_mem.2 (by rw [h.lk,hf];rfl)
     have hl:(keysOf (msetS m o.1 o)).length≤(keysOf m).length:=by
      have h1:=(keysOf_msetS o.1 o m).1 h.nd
      have h2:keysOf (msetS m o.1 o) ⊆ keysOf m:=fun x hx=>by
       rcases ((keysOf_msetS o.1 o m).2 x).1 hx with hx | hx
       ·exact hx
       ·exact hx ▸ hm
      exact h1.length_le_of_subset h2
     have:=h.ln
     simp only [keysOf,List.length_map] at hl
     simp only [List.length_append,List.length_singleton]
     omega
   ·simp only [Option.isSome_some,Option.getD_some,he,decide_false,Bool.not_false,Bool.and_self,if_true]
    refine ⟨fun hn=>absurd (hn o (by simp [ho]) s (by simp) hi) he,fun _=>trivial⟩
  | none=>
   simp only [Option.isSome_none,Bool.false_and,Bool.false_eq_true,if_false]
   have:=onceM_spec l (P++[s]) (msetS m s.1 s) ⟨fun k=>?_,(keysOf_msetS _ _ _).1 h.nd,?_,?_⟩
   ·simpa using this
   ·rw [mlkS_msetS,h.lk]
    have hf':=hf
    unfold findS at hf ⊢
    rw [List.find?_append]
    by_cases hk:k=s.1
    ·subst hk;rw [hf];simp
    ·have:¬s.1=k:=fun e=>hk e.symm
     simp [hk,this]
   ·have hf:=findS_none hf
    intro a ha b hb hab
    simp only [List.mem_append,List.mem_singleton] at ha hb
    rcases ha with ha | rfl<;>rcases hb with hb | rfl
    ·exact h.nc a ha b hb hab
    ·exact absurd hab (hf a ha)
    ·exact absurd hab.symm (hf b hb)
    ·rfl
   ·have:=msetS_len s.1 s m
    have:=h.ln
    simp only [List.length_append,List.length_singleton]
    omega
theorem clashB_iff (l:List Slip):clashB l=false↔noClash l:=by
 unfold clashB clashV
 rw [←Bool.not_eq_true,List.any_eq_true]
 constructor
 ·intro h a ha b hb hab
  obtain ⟨i,hi,rfl⟩:=List.mem_iff_getElem.1 ha
  obtain ⟨k,hk,rfl⟩:=List.mem_iff_getElem.1 hb
  by_cases he:l[i]=l[k]
  ·exact he
  ·exfalso
   have hne:i≠k:=fun e=>he (by subst e;rfl)
   rcases Nat.lt_or_gt_of_ne hne with hlt | hlt
   ·refine h ⟨k,by simpa using hk,List.any_eq_true.2 ⟨i,by simpa using hlt,?_⟩⟩
    rw [getD_lt hi,getD_lt hk]
    simp [hab,he]
   ·refine h ⟨i,by simpa using hi,List.any_eq_true.2 ⟨k,by simpa using hlt,?_⟩⟩
    rw [getD_lt hi,getD_lt hk]
    simp [hab]
    exact fun e=>he e.symm
 ·rintro h ⟨i,hi,hk⟩
  obtain ⟨k,hk,hc⟩:=List.any_eq_true.1 hk
  simp only [List.mem_range] at hi hk
  rw [getD_lt hi,getD_lt (by omega:k<l.length)] at hc
  simp only [Bool.and_eq_true,decide_eq_true_eq,Bool.not_eq_true',decide_eq_false_iff_not] at hc
  exact hc.2 (h _ (List.getElem_mem _) _ (List.getElem_mem _) hc.1)
theorem clashB_true {l:List Slip}:clashB l=true↔¬noClash l:=by rw [←clashB_iff];simp
theorem once_keys {l:List Slip} {m:List (Int×Slip)} (h:InvM l m) (hid:∀ s∈l,inR s.1 0 99=true):(isort ltI (keysOf m)).map (fun k=>(mlkS m k).getD z6)=onceV l:=by
 have e1:isort ltI (keysOf m)=(intR 0 99).filter fun k=>(findS l k).isSome:=by
  refine isortI_eq ?_ ?_
  ·refine List.Pairwise.filter _ ?_
   unfold intR
   rw [List.pairwise_map]
   exact (List.pairwise_lt_range).imp fun h=>by omega
  ·refine (List.perm_ext_iff_of_nodup h.nd ?_).2 fun k=>?_
   ·refine List.Pairwise.filter _ ?_
    unfold intR
    rw [List.pairwise_map]
    exact (List.pairwise_lt_range).imp fun h=>by omega
   ·rw [mlkS_mem,h.lk,List.mem_filter,mem_intR]
    refine ⟨fun hs=>⟨?_,hs⟩,fun hs=>hs.2⟩
    obtain ⟨s,hs⟩:=Option.isSome_iff_exists.1 hs
    obtain ⟨h1,h2⟩:=findS_some hs
    exact h2 ▸ inR_iff.1 (hid s h1)
 rw [e1]
 unfold onceV
 have:∀ L:List Int,(L.filter fun k=>(findS l k).isSome).map (fun k=>(mlkS m k).getD z6)=L.filterMap fun id=>l.find? fun s=>s.1 == id:=by
  intro L
  induction L with
  | nil=>rfl
  | cons k L ih=>
   rw [List.filter_cons,List.filterMap_cons]
   have e:(l.find? fun s=>s.1 == k)=findS l k:=rfl
   rw [e]
   cases hf:findS l k with
   | none=>simpa using ih
   | some s=>
    have ev:(mlkS m k).getD z6=s:=by rw [h.lk,hf];rfl
    simp only [Option.isSome_some,if_true,List.map_cons,ev,ih]
 exact this _
theorem onceV_length_le {l:List Slip} {m:List (Int×Slip)} (h:InvM l m) (hid:∀ s∈l,inR s.1 0 99=true):(onceV l).length≤l.length:=by
 rw [←once_keys h hid,List.length_map,isort_length,keysOf,List.length_map]
 exact h.ln
theorem foldS_once {ρ:Type} {r:ρ} {fin:List (Int×Slip)→ρ}:∀ (l:List Slip) (m:List (Int×Slip)),foldS (fun s m=>if ((mlkS m s.1).isSome&&!decide ((mlkS m s.1).getD z6=s))=true then .done r else .next (msetS m s.1 s)) fin l m=match onceM l m with | none=>r | some m'=>fin m'
 | [],m=>rfl
 | s::l,m=>by
  simp only [foldS,onceM]
  by_cases h:((mlkS m s.1).isSome&&!decide ((mlkS m s.1).getD z6=s))=true
  ·simp only [h,if_true]
  ·simp only [h,Bool.false_eq_true,if_false]
   exact foldS_once l _
def idsOk (l:List Slip):Prop:=l.length≤12∧∀ s∈l,inR s.1 0 99=true
abbrev fcOnceH:FC:=⟨.slice tSlip,.st (.prod (.slice tSlip) .bool),idsOk,fun l=>if clashB l=true then ([],false) else (onceV l,true)⟩
theorem once_loop2 {m:List (Int×Slip)} {ks:List Int} {ρ:Type} (h:ks.length≤12) :
 M.loop (fun (σ:List Int×Int×Int×List Slip×List (Int×Slip)×Unit)=>if decide (σ.2.2.1<σ.2.1)=true then M.req (0≤σ.2.2.1∧σ.2.2.1<Int.ofNat (List.length σ.1)) (M.req (lenLe
 (Add.add (List.length σ.2.2.2.1) (Add.add 0 1))) (M.pure (Step.next (σ.1,σ.2.1,IntKind.wrap .i64 (Add.add σ.2.2.1 1),σ.2.2.2.1++[Option.getD
 (Option.map (fun x=>x.2) (List.find? (fun p=>decide (List.getD σ.1 (Int.toNat σ.2.2.1) 0=p.1)) σ.2.2.2.2.1)) (0,0,0,0,0,0)],σ.2.2.2.2.1,
 ())))) else M.bind (M.pure (Step.next (σ.2.2.2.1,()))) fun r=>M.pure (Step.done r)) (ks,Int.ofNat (List.length ks),0,[],m,())=M.pure (Step.next (ks.map (fun k=>(mlkS m k).getD z6),()):Step (List Slip×Unit) ρ):=by
 rw [M.loop_list ks (fun i (b:List Slip)=>(ks,(ks.length:Int),(i:Int),b,m,())) (fun k b=>.next (b++[(mlkS m k).getD z6])) (fun b=>.next (b,())) (fun i b=>b.length=i) [] ?_ ?_ ?_ ?_]
 ·rw [foldS_next,foldl_map_app];rfl
 ·rfl
 ·rfl
 ·intro i hi b hb
  have hw:=wrap64 (n:=(i:Int)+1) (by omega) (by omega)
  refine ⟨?_,fun b' hb'=>?_⟩
  ·simp only [ofNat_def,lt_len hi,if_true,getD_nat hi,in_len hi,M.req_True,add_def,hw]
   rw [M.req_true (lenLe_of (by simp only [add_defN];omega))]
   rfl
  ·simp only [Step.next.injEq] at hb'
   subst hb';simp [hb]
 ·intro b hb
  simp
def onceB {γ:Type} (R:M γ):List Slip×Int×Int×List (Int×Slip)×Unit→M (Step (List Slip×Int×Int×List (Int×Slip)×Unit) (Step (List (Int×Slip)×Unit) γ)):=fun (σ:List Slip×Int×Int×List (Int×Slip)×Unit)=>if decide (σ.2.2.1<σ.2.1)=true then M.req (0≤σ.2.2.1∧σ.2.2.1 <
 Int.ofNat (List.length σ.1)) (if (Option.isSome (Option.map (fun x=>x.2) (List.find? (fun p=>decide ((List.getD σ.1 (Int.toNat σ.2.2.1) (0,0,0,
 0,0,0)).1=p.1)) σ.2.2.2.1))&&!(decide ((Option.getD (Option.map (fun x=>x.2) (List.find? (fun p=>decide ((List.getD σ.1 (Int.toNat σ.2.2.1)
 (0,0,0,0,0,0)).1=p.1)) σ.2.2.2.1)) (0,0,0,0,0,0)).1=(List.getD σ.1 (Int.toNat σ.2.2.1) (0,0,0,0,0,0)).1)&&(decide ((Option.getD
 (Option.map (fun x=>x.2) (List.find? (fun p=>decide ((List.getD σ.1 (Int.toNat σ.2.2.1) (0,0,0,0,0,0)).1=p.1)) σ.2.2.2.1)) (0,0,0,0,0,
 0)).2.1=(List.getD σ.1 (Int.toNat σ.2.2.1) (0,0,0,0,0,0)).2.1)&&(decide ((Option.getD (Option.map (fun x=>x.2) (List.find? (fun p=>
 decide ((List.getD σ.1 (Int.toNat σ.2.2.1) (0,0,0,0,0,0)).1=p.1)) σ.2.2.2.1)) (0,0,0,0,0,0)).2.2.1=(List.getD σ.1 (Int.toNat σ.2.2.1)
 (0,0,0,0,0,0)).2.2.1)&&(decide ((Option.getD (Option.map (fun x=>x.2) (List.find? (fun p=>decide ((List.getD σ.1 (Int.toNat σ.2.2.1) (0,
 0,0,0,0,0)).1=p.1)) σ.2.2.2.1)) (0,0,0,0,0,0)).2.2.2.1=(List.getD σ.1 (Int.toNat σ.2.2.1) (0,0,0,0,0,0)).2.2.2.1)&&(decide
 ((Option.getD (Option.map (fun x=>x.2) (List.find? (fun p=>decide ((List.getD σ.1 (Int.toNat σ.2.2.1) (0,0,0,0,0,0)).1=p.1)) σ.2.2.2.1))
 (0,0,0,0,0,0)).2.2.2.2.1=(List.getD σ.1 (Int.toNat σ.2.2.1) (0,0,0,0,0,0)).2.2.2.2.1)&&decide ((Option.getD (Option.map (fun x=>x.2)
 (List.find? (fun p=>decide ((List.getD σ.1 (Int.toNat σ.2.2.1) (0,0,0,0,0,0)).1=p.1)) σ.2.2.2.1)) (0,0,0,0,0,0)).2.2.2.2.2=(List.getD
 σ.1 (Int.toNat σ.2.2.1) (0,0,0,0,0,0)).2.2.2.2.2)))))))=true then M.bind (M.bind R fun r=>M.pure (Step.done r)) fun r=>
 M.pure (Step.done r) else M.pure (Step.next (σ.1,σ.2.1,IntKind.wrap .i64 (Add.add σ.2.2.1 1),msetS σ.2.2.2.1 (List.getD σ.1 (Int.toNat σ.2.2.1)
 (0,0,0,0,0,0)).1 (List.getD σ.1 (Int.toNat σ.2.2.1) (0,0,0,0,0,0)),()))) else M.bind (M.pure (Step.next (σ.2.2.2.1,()))) fun r=>M.pure
 (Step.done r)
theorem onceB_step {γ:Type} {R:M γ} {l:List Slip} (hl:l.length≤12) {i:Nat} (hi:i<l.length) (m:List (Int×Slip)):onceB R (l,(l.length:Int),(i:Int),m,())=if ((mlkS m l[i].1).isSome&&!decide ((mlkS m l[i].1).getD z6=l[i]))=true then M.bind (M.bind R fun r=>M.pure (Step.done r)) fun r=>M.pure (Step.done r) else M.pure (.next (l,(l.length:Int),((i+1:Nat):Int),msetS m l[i].1 l[i],())):=by
 have hw:=wrap64 (n:=(i:Int)+1) (by omega) (by omega)
 have es:=slip_eq ((mlkS m l[i].1).getD z6) l[i]
 unfold onceB
 simp only [ofNat_def,lt_len hi,if_true,getD_nat hi,in_len hi,M.req_True,add_def,hw]
 rw [show (Option.map (fun x=>x.2) (List.find? (fun p=>decide (l[i].1=p.1)) m))=mlkS m l[i].1 from rfl]
 rw [es]
 rfl
theorem onceB_end {γ:Type} {R:M γ} {l:List Slip} (m:List (Int×Slip)):onceB R (l,(l.length:Int),(l.length:Int),m,())=M.pure (.done (.next (m,()))):=by
 unfold onceB
 simp
def onceK {γ:Type} (k:List Slip→M γ):List (Int×Slip)×Unit→M γ:=fun (σ:List (Int×Slip)×Unit)=>M.bind (M.bind
 (fcKeysS.sh σ.1) fun y=>M.bind (fcSorted.sh y) fun y=>M.loop (fun (σ:List Int×Int×Int×List Slip×
 List (Int×Slip)×Unit)=>if decide (σ.2.2.1<σ.2.1)=true then M.req (0≤σ.2.2.1∧σ.2.2.1<Int.ofNat (List.length σ.1)) (M.req (lenLe
 (Add.add (List.length σ.2.2.2.1) (Add.add 0 1))) (M.pure (Step.next (σ.1,σ.2.1,IntKind.wrap .i64 (Add.add σ.2.2.1 1),σ.2.2.2.1++[Option.getD
 (Option.map (fun x=>x.2) (List.find? (fun p=>decide (List.getD σ.1 (Int.toNat σ.2.2.1) 0=p.1)) σ.2.2.2.2.1)) (0,0,0,0,0,0)],σ.2.2.2.2.1,
 ())))) else M.bind (M.pure (Step.next (σ.2.2.2.1,()))) fun r=>M.pure (Step.done r)) (y,Int.ofNat (List.length y),0,[],σ.1,())) (Step.go fun (σ
 : List Slip×Unit)=>k σ.1)
theorem eOnceK {l:List Slip} {m:List (Int×Slip)} (hI:InvM l m) (hid:idsOk l) {γ:Type} (k:List Slip→M γ):onceK k (m,())=k (onceV l):=by
 obtain ⟨hl,hid⟩:=hid
 have hp:fcSorted.pre (keysS (some m)):=keys_pre (by have:=hI.ln;omega)
 have e:fcSorted.sh (keysS (some m))=M.pure (isort ltI (keysOf m)):=by
  refine (M.det_true hp _).trans (congrArg M.pure ?_)
  exact keys_sorted
 unfold onceK
 show M.bind (M.bind (fcKeysS.sh m) _) _=_
 rw [show fcKeysS.sh m=M.pure (keysS (some m)) from rfl,M.bind_pure,e,M.bind_pure,once_loop2 (by rw [isort_length,keysOf,List.length_map];have:=hI.ln;omega),M.bind_pure,M.go_next,once_keys hI hid]
theorem eOnceN (l:List Slip) (h:idsOk l) (hc:clashB l=false) {γ:Type} (k:List Slip→M γ) (R:M γ) :
  M.bind (M.loop (onceB R) (l,Int.ofNat (List.length l),0,[],())) (Step.go (onceK k))=k (onceV l):=by
 have hn:=(clashB_iff l).1 hc
 obtain ⟨h1,_⟩:=onceM_spec l [] [] .nil
 rw [List.nil_append] at h1
 obtain ⟨m,hm,hI⟩:=h1 hn
 have key:M.loop (onceB R) (l,Int.ofNat (List.length l),0,[],())=M.pure (.next (m,())):=by
  have gen:∀ (k:Nat) (i:Nat) (m':List (Int×Slip)),l.length - i=k→i≤l.length→onceM (l.drop i) m'=some m→InvM (l.take i) m'→M.loop (onceB R) (l,(l.length:Int),(i:Int),m',())=M.pure (.next (m,())):=by
   intro k
   induction k with
   | zero=>
    intro i m' hk hi ho _
    have:i=l.length:=by omega
    subst this
    rw [List.drop_length] at ho
    simp only [onceM,Option.some.injEq] at ho
    subst ho
    exact M.loop_done (onceB_end _)
   | succ k ih=>
    intro i m' hk hi ho hI'
    have hi:i<l.length:=by omega
    rw [List.drop_eq_getElem_cons hi] at ho
    unfold onceM at ho
    split at ho
    ·cases ho
    ·rename_i hcond
     refine (M.loop_next ((onceB_step h.1 hi m').trans (if_neg hcond))).trans ?_
     refine ih (i+1) _ (by omega) hi ho ?_
     obtain ⟨g1,_⟩:=onceM_spec [l[i]] (l.take i) m' hI'
     have et:l.take i++[l[i]]=l.take (i+1):=by rw [List.take_add_one,List.getElem?_eq_getElem hi];rfl
     rw [et] at g1
     obtain ⟨m'',e1,e2⟩:=g1 fun a ha b hb=>hn a (List.mem_of_mem_take ha) b (List.mem_of_mem_take hb)
     unfold onceM at e1
     rw [if_neg hcond] at e1
     simp only [onceM,Option.some.injEq] at e1
     rw [e1];exact e2
  exact gen l.length 0 [] rfl (Nat.zero_le _) hm .nil
 rw [key,M.bind_pure,M.go_next,eOnceK hI h]
theorem eOnceC (l:List Slip) (h:idsOk l) (hc:clashB l=true) {γ:Type} (k:List Slip→M γ) (r:γ) :
  M.bind (M.loop (onceB (M.pure r)) (l,Int.ofNat (List.length l),0,[],())) (Step.go (onceK k))=M.pure r:=by
 rw [M.loop_listT l (fun i (m:List (Int×Slip))=>(l,(l.length:Int),(i:Int),m,())) (fun s m=>if ((mlkS m s.1).isSome&&!decide ((mlkS m s.1).getD z6=s))=true then (.done (.done r):Step (List (Int×Slip)) (Step (List (Int×Slip)×Unit) _)) else .next (msetS m s.1 s)) (fun m=>.next (m,())) [] ?_ ?_ ?_]
 ·rw [foldS_once]
  obtain ⟨_,h2⟩:=onceM_spec l [] [] .nil
  rw [h2 (clashB_true.1 hc)]
  simp only [M.bind_pure,M.go_done]
 ·rfl
 ·intro i hi m
  rw [onceB_step h.1 hi m,M.bind_pure,M.bind_pure]
  exact fin_step2 (mk:=fun (m:List (Int×Slip))=>(l,(l.length:Int),((i+1:Nat):Int),m,()))
 ·intro m
  exact onceB_end m
theorem sOnceH (x):M.le (S_hire_once fcSorted.sh fcKeysS.sh x) (fcOnceH.sh x):=M.le_det fun h=>by
 show M.bind (M.loop (onceB (M.pure ([],false))) (x,Int.ofNat (List.length x),0,[],())) (Step.go (onceK fun a=>M.pure (a,true)))=M.pure (if clashB x=true then ([],false) else (onceV x,true))
 cases hc:clashB x with
 | true=>exact eOnceC x h hc _ _
 | false=>exact eOnceN x h hc _ _
def shOnceIO (x:List Slip×Unit):M (Bool×List Slip×Unit):=M.det (idsOk x.1∧clashB x.1=false) (true,onceV x.1,())
theorem sOnceIO (x):M.le (S_hire_onceIO fcSorted.sh fcKeysS.sh x) (shOnceIO x):=M.le_det fun h=>by
 show M.bind (M.loop (onceB M.fail) (x.1,Int.ofNat (List.length x.1),0,[],())) (Step.go (onceK fun a=>M.pure (true,a,())))=_
 exact eOnceN x.1 h.1 h.2 _ _
theorem counter_ids {c:Ctr} (h:counterV c=true):idsOk c.2.1:=by
 unfold counterV sizeV at h
 simp only [Bool.and_eq_true,List.all_eq_true,Bool.not_eq_true',Bool.or_eq_false_iff,decide_eq_false_iff_not] at h
 obtain ⟨⟨⟨⟨⟨hz,_⟩,_⟩,h2⟩,_⟩,_⟩:=h
 refine ⟨by omega,fun s hs=>?_⟩
 have:=h2 s hs
 unfold slipV at this
 simp only [Bool.and_eq_true] at this
 exact this.1.1.1.1.1
theorem sHCheck (x):M.le (S_hire_Check fcCounter.sh fcOnceH.sh x) (fcCheck.sh x):=M.le_det fun h=>by
 unfold S_hire_Check
 show _=M.pure (checkV x)
 rw [show fcCounter.sh x=M.pure (counterV x) from M.det_true h _]
 unfold checkV
 cases hc:counterV x with
 | false=>simp only [M.bind_pure];rfl
 | true=>
  simp only [M.bind_pure,Bool.not_true,Bool.false_eq_true,if_false,if_true]
  rw [show fcOnceH.sh x.2.1=M.pure (if clashB x.2.1=true then ([],false) else (onceV x.2.1,true)) from M.det_true (counter_ids hc) _]
  cases clashB x.2.1<;>simp
def shDel (x:(Slip→M Bool)×List Slip×Unit):M ((Nat×Nat)×List Slip×Unit):=M.det (x.2.1.length<2 ^ 63∧∀ y∈x.2.1,∃ b,x.1 y=M.pure b)
 ((0,(x.2.1.filter fun s=>!(x.1 s).val false).length),(x.2.1.filter fun s=>!(x.1 s).val false)++List.replicate (x.2.1.length - (x.2.1.filter fun s=>!(x.1 s).val false).length) z6,())
theorem idxV_split {α:Type} (p:α→Bool):∀ (l:List α) (i:Int),(l.any p=true→∃ k:Nat,∃ h:k<l.length,idxV p l i=i+k∧p l[k]=true∧(∀ y∈l.take k,p y=false))
 | [],i,h=>by simp at h
 | x::l,i,h=>by
  unfold idxV
  by_cases hx:p x=true
  ·exact ⟨0,by simp,by simp [hx],by simpa using hx,by simp⟩
  ·have hx':p x=false:=by simpa using hx
   simp only [List.any_cons,hx',Bool.false_or] at h
   obtain ⟨k,hk,h1,h2,h3⟩:=idxV_split p l (i+1) h
   refine ⟨k+1,by simpa using hk,by simp [hx',h1];omega,by simpa using h2,?_⟩
   simp only [List.take_succ_cons,List.mem_cons]
   rintro y (rfl | hy)
   ·exact hx'
   ·exact h3 y hy
theorem sDel (x):M.le (S_slices_DeleteFunc (fcIndexFunc tSlip).sh x) (shDel x):=M.le_det fun h=>by
 obtain ⟨f,l,u⟩:=x
 obtain ⟨h1,h2⟩:=h
 change l.length<2 ^ 63 at h1
 change ∀ y∈l,∃ b,f y=M.pure b at h2
 unfold S_slices_DeleteFunc
 rw [show (fcIndexFunc tSlip).sh (l,f)=M.pure (idxV (fun y=>(f y).val false) l 0) from M.det_true ⟨h1,h2⟩ _]
 rw [M.bind_pure]
 by_cases ha:(l.any fun y=>(f y).val false)=true
 ·obtain ⟨k,hk,e1,e2,e3⟩:=idxV_split (fun y=>(f y).val false) l 0 ha
  have hw:=wrap64 (n:=(k:Int)+1) (by omega) (by omega)
  have hne:¬(decide ((0:Int)+k=-1)=true):=by simp only [decide_eq_true_eq];omega
  rw [e1,if_neg hne]
  generalize hq:(fun s=>!(f s).val false)=q at *
  have qf:∀ s,(!(f s).val false)=q s:=fun s=>by rw [←hq]
  have et:l.take k=(l.take k).filter q:=by
   rw [List.filter_eq_self.2]
   intro y hy
   rw [←qf,e3 y hy];rfl
  have ek:(l.take (k+1)).filter q=l.take k:=by
   rw [List.take_add_one,List.getElem?_eq_getElem hk,Option.toList_some,List.filter_append,←et]
   simp [←qf,e2]
  rw [M.loop_listT (l.drop (k+1)) (fun i (_:Unit)=>(f,(((l.take (k+1+i)).filter q).length:Int),((k+1+i:Nat):Int),(l.take (k+1+i)).filter q++l.drop ((l.take (k+1+i)).filter q).length,())) (fun _ u=>.next u) (fun _=>.next (((l.filter q).length:Int),l.filter q++l.drop (l.filter q).length,())) () ?_ ?_ ?_]
  ·rw [foldS_next]
   have hlen:(l.filter q).length≤l.length:=List.length_filter_le _ _
   have hl2:(l.filter q++l.drop (l.filter q).length).length=l.length:=by simp;omega
   simp only [M.bind_pure,M.go_next,ofNat_def,hl2]
   rw [M.req_true (by omega)]
   simp only [M.req_True,Int.toNat_natCast]
   have er:List.take (l.filter q).length (l.filter q++l.drop (l.filter q).length)=l.filter q:=List.take_left
   rw [er]
   refine (M.req_true ⟨by omega,by omega,by simp;omega⟩ _).trans ?_
   refine congrArg M.pure (Prod.ext rfl (Prod.ext ?_ rfl))
   show (_++_++_:List Slip)=_
   exact (congrArg (fun z=>_++z) (List.drop_eq_nil_iff.2 (by simp only [add_defN,List.length_replicate];omega))).trans (List.append_nil _)
  ·show (f,(0:Int)+k,IntKind.wrap .i64 (Add.add ((0:Int)+k) 1),l,())=_
   rw [Int.zero_add,add_def,hw]
   refine Prod.ext rfl (Prod.ext ?_ (Prod.ext ?_ (Prod.ext ?_ rfl)))
   ·show (k:Int)=(((l.take (k+1+0)).filter q).length:Int)
    rw [Nat.add_zero,ek];simp;omega
   ·show (k:Int)+1=((k+1+0:Nat):Int)
    omega
   ·show l=(l.take (k+1+0)).filter q++l.drop ((l.take (k+1+0)).filter q).length
    rw [Nat.add_zero,ek,List.length_take,Nat.min_eq_left (by omega),List.take_append_drop]
  ·intro i hi _
   have hi:k+1+i<l.length:=by simp at hi;omega
   have hle:((l.take (k+1+i)).filter q).length≤k+i:=by
    have h1:=List.length_filter_le q (l.drop (k+1) |>.take i)
    rw [List.take_add,List.filter_append,List.length_append,ek]
    simp at h1 ⊢
    omega
   have hlt:((l.take (k+1+i)).filter q).length<l.length:=by omega
   have hll:((l.take (k+1+i)).filter q++l.drop ((l.take (k+1+i)).filter q).length).length=l.length:=by simp;omega
   have hw:=wrap64 (n:=((k+1+i:Nat):Int)+1) (by omega) (by omega)
   have hw2:=wrap64 (n:=(((l.take (k+1+i)).filter q).length:Int)+1) (by omega) (by omega)
   have hi2:k+1+i<((l.take (k+1+i)).filter q++l.drop ((l.take (k+1+i)).filter q).length).length:=by rw [hll];exact hi
   have hlt2:((l.take (k+1+i)).filter q).length<((l.take (k+1+i)).filter q++l.drop ((l.take (k+1+i)).filter q).length).length:=by rw [hll];exact hlt
   have eg:((l.take (k+1+i)).filter q++l.drop ((l.take (k+1+i)).filter q).length)[k+1+i]=l[k+1+i]:=by
    rw [List.getElem_append_right (by omega),List.getElem_drop]
    congr 1;omega
   obtain ⟨b,hb⟩:=h2 _ (List.getElem_mem hi)
   have hv:q l[k+1+i]=!b:=by rw [←qf,hb,M.val_pure]
   have et:(l.take (k+1+(i+1))).filter q=(l.take (k+1+i)).filter q++(if (!b)=true then [l[k+1+i]] else []):=by
    rw [show k+1+(i+1)=k+1+i+1 from rfl,List.take_add_one,List.getElem?_eq_getElem hi,Option.toList_some,List.filter_append,List.filter_cons,hv,List.filter_nil]
   simp only [ofNat_def,lt_len hi2,if_true,getD_nat hi2,in_len hi2,in_len hlt2,M.req_True,eg,hb,M.bind_pure,add_def,hw2]
   simp only [Int.toNat_natCast]
   cases b with
   | true=>
    simp only [Bool.not_true,Bool.false_eq_true,if_false,M.bind_pure,M.go_next,hw,Step.mapN,List.append_nil] at et ⊢
    rw [et]
    rfl
   | false=>
    simp only [Bool.not_false,if_true,M.bind_pure,M.go_next,hw,Step.mapN] at et ⊢
    have es:(List.filter q (List.take (k+1+i) l)++List.drop (List.filter q (List.take (k+1+i) l)).length l).set (List.filter q (List.take (k+1+i) l)).length l[k+1+i]=(l.take (k+1+(i+1))).filter q++l.drop ((l.take (k+1+(i+1))).filter q).length:=by
     rw [et,List.set_append_right _ _ (Nat.le_refl _),Nat.sub_self,List.drop_eq_getElem_cons hlt,List.set_cons_zero]
     simp
    rw [es]
    have en:(((l.take (k+1+i)).filter q).length:Int)+1=(((l.take (k+1+(i+1))).filter q).length:Int):=by rw [et];simp
    rw [en]
    rfl
  ·intro _
   have hl:(l.drop (k+1)).length=l.length - (k+1):=by simp
   have e0:k+1+(l.drop (k+1)).length=l.length:=by rw [hl];omega
   have hle:(l.filter q).length≤l.length:=List.length_filter_le _ _
   simp only [e0,List.take_length]
   rw [if_neg (by simp;omega),M.bind_pure]
 ·rw [idxV_none _ _ ha]
  have:(l.filter fun s=>!(f s).val false)=l:=by
   rw [List.filter_eq_self]
   intro s hs
   have:¬(f s).val false=true:=fun e=>ha (List.any_eq_true.2 ⟨s,hs,e⟩)
   simpa using this
  simp only [decide_true,if_true,this,Nat.sub_self,List.replicate_zero,List.append_nil]
end Go.Fer
