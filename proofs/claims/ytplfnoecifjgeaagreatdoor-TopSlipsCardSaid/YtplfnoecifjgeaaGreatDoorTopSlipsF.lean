/- Part 6 of the proof of TopSlips: shallow programs of Go functions, and what they compute. No condition. -/
import Derived.Test.YtplfnoecifjgeaaGreatDoorTopSlipsE
noncomputable section
set_option linter.unusedVariables false
set_option linter.unusedSimpArgs false
namespace Go.Fer
open A (W)
abbrev aR:Type:=List UInt8
abbrev bd:Type:=bJ×H.aX
abbrev wk:Type:=z2'×List (List (Int×z1'×Int×Int))×Int×Int×z2'×z1'×List dm×List dB×List DY×Unit
abbrev A9:Type:=Int×Bool×Option Nat
abbrev k8(l:List (aR×A9))(a:aR)(b:A9):List (aR×A9):=lV (k:=.str) (v:=.st (.aB (.int .i64) (.aB .bool .et))) l a b
def Yp(Ez:H.aX->A Int)(O1:bJ->A Int)(x:bd):A Int:=
 A.bind (O1 x.1) λy=>A.bind (cu (!(decide (y≠0))) (Ez x.2) 0) λb2=>if (decide (y≠0)||decide (b2≠0))=true then A.pure 120 else A.pure 0
def Yq(anx:bd->A Int)(anz:bd×Unit->A (bd×Unit))(anA:Unit->A (List (aR×Int×Bool×Option Nat)))(anB:List (aR×Int×Bool×Option Nat)×aR×bd×Unit->A (aR×bd×Unit))(x:bd×List aR):A (List aR×bd×Int):=
 letI d:=Int.ofNat (List.length x.2);A.bind (anx x.1) λy=>if decide (y≠0)=true then A.pure ([],((([],[],0,[]),[],[],[],[],0),[],[],[],[],0,0,0,0,0,0,0),y) else if decide (d > 40)=true then A.pure ([],((([],[],0,[]),[],[],[],[],0),[],[],[],[],0,0,0,0,0,0,0),2) else A.bind (anz (x.1,())) λy=>A.bind (anA ()) λb2=>A.bind (A.loop (λ(D:List (aR×Int×Bool×Option Nat)×List aR×Int×Int×List aR×Int×Int×Int×Int×Int×Int×Int×Int×Int×bd×Unit)=>letI b:=D.2.2.2;letI a:=b.2.2.2.2;letI c:=a.2.2.2.2;if decide (b.1<D.2.2.1)=true then A.ae (0<=b.1/\b.1<Int.ofNat (List.length D.2.1)) (A.bind (anB (D.1,List.getD D.2.1 (Int.toNat b.1) [],c.2.2.2.1,())) (λy=>A.ae (bQ (Add.add (List.length b.2.1) (Add.add 0 1))) (A.pure (W.next (D.1,D.2.1,D.2.2.1,IntKind.wrap .i64 (Add.add b.1 1),b.2.1++[y.1],b.2.2.1,b.2.2.2.1,a.1,a.2.1,a.2.2.1,a.2.2.2.1,c.1,c.2.1,c.2.2.1,y.2.1,()))))) else A.bind (A.pure (W.next (b.2.1,b.2.2.1,b.2.2.2.1,a.1,a.2.1,a.2.2.1,a.2.2.2.1,c.1,c.2.1,c.2.2.1,c.2.2.2.1,()))) λr=>A.pure (W.done r)) (b2,x.2,d,0,[],0,0,0,0,0,0,0,0,0,y.1,())) (W.bC (λ(D:List aR×Int×Int×Int×Int×Int×Int×Int×Int×Int×bd×Unit)=>A.ae True (A.pure (D.1,D.2.2.2.2.2.2.2.2.2.2.1,0))))
def Yr(D0:bJ->A Int)(AH:H.aX->A Int)(x:bd):A Int:=
 A.bind (D0 x.1) λy=>A.bind (cu (!(decide (y≠0))) (AH x.2) 0) λb2=>if (decide (y≠0)||decide (b2≠0))=true then A.pure 120 else A.pure 0
def Ys(O2:H.aX×z7'×z1'->A (H.aX×Int))(Yt:bJ->A bJ)(x:bd×Unit):A (bd×Unit):=
 A.bind (O2 (x.1.2,[],[])) λy=>A.ae (Yt x.1.1).cr (A.pure ((A.val (Yt x.1.1) (([],[],0,[]),[],[],[],[],0),y.1),()))
def anC(x:Unit):A (List (aR×Int×Bool×Option Nat)):=
 A.pure (k8 (k8 (k8 (k8 (k8 (k8 (k8 (k8 (k8 (k8 (k8 (k8 (k8 (k8 (k8 (k8 (k8 (k8 (k8 (k8 [] [108,101,110,100] (5,false,some 119)) [98,97,99,107] (4,false,some 120)) [118,111,105,100] (1,false,some 121)) [108,97,115,116,115] (1,false,some 122)) [102,101,101] (1,false,some 123)) [111,119,101,115] (1,false,some 124)) [104,101,108,100] (1,false,some 125)) [119,104,101,114,101] (2,false,some 126)) [109,105,115,115,105,110,103] (1,false,some 127)) [116,114,105,97,108] (4,false,some 128)) [102,105,116,115] (3,false,some 129)) [115,116,111,99,107] (2,false,some 130)) [99,111,109,101,115] (3,false,some 131)) [112,105,101,99,101] (4,true,some 132)) [119,105,115,104] (5,true,some 133)) [100,114,111,112] (1,false,some 134)) [99,97,110] (1,false,some 135)) [116,97,107,101,115] (0,true,some 136)) [109,111,115,116] (0,false,some 137)) [101,120,116,114,97] (0,false,some 138))
def Yu(anD:aR×aR->A (List aR))(anE:aR->A (Int×Bool))(anF:Nat->z1'×bd×Unit->A (aR×bd×Unit))(x:List (aR×Int×Bool×Option Nat)×aR×bd×Unit):A (aR×bd×Unit):=
 A.bind (anD (x.2.1,[32])) λy=>letI b:=Int.ofNat (List.length y);letI f:=IntKind.wrap .i64 (b-1);letI d:=List.drop (Int.toNat 1) (List.take (Int.toNat b) y);letI a:=Option.map (λx=>x.2) (List.find? (λp=>decide (List.getD y (Int.toNat 0) []=p.1)) x.1);letI c:=Option.getD a (0,false,none);A.ae ((0:Int)<=0/\0<b) (if (!(Option.isSome a)||decide (f<c.1)||decide (f > c.1)&&!c.2.1)=true then A.pure ([63],x.2.2.1,()) else A.bind (A.ae ((0:Int)<=1/\1<=b/\b<=b) (A.loop (λ(D:List aR×Int×Int×(Int×Bool×Option Nat)×z1'×bd×Unit)=>letI e:=D.2.2;if decide (e.1<D.2.1)=true then A.ae (0<=e.1/\e.1<Int.ofNat (List.length D.1)) (A.bind (anE (List.getD D.1 (Int.toNat e.1) [])) (λy=>if (!y.2)=true then A.bind (A.bind (A.pure ([63],e.2.2.2.1,())) (λr=>A.pure (W.done r))) λr=>A.pure (W.done r) else A.ae (bQ (Add.add (List.length e.2.2.1) (Add.add 0 1))) (A.pure (W.next (D.1,D.2.1,IntKind.wrap .i64 (Add.add e.1 1),e.2.1,e.2.2.1++[y.1],e.2.2.2.1,()))))) else A.bind (A.pure (W.next (e.2.1,e.2.2.1,e.2.2.2.1,()))) λr=>A.pure (W.done r)) (d,Int.ofNat (List.length d),0,c,[],x.2.2.1,()))) (W.bC (λ(D:(Int×Bool×Option Nat)×z1'×bd×Unit)=>A.bind (A.ae (∃ (k:Nat),List.Mem k [119,120,121,122,123,124,125,126,127,128,129,130,131,132,133,134,135,136,137,138]/\D.1.2.2=some k) (anF (Option.getD D.1.2.2 0) (D.2.1,D.2.2.1,()))) λy=>A.pure (y.1,y.2.1,()))))
def Yv(EA:z7'×z1'×bd×Unit->A (aR×bd×Unit))(x:z1'×bd×Unit):A (aR×bd×Unit):=
 letI a:=Int.ofNat (List.length x.1);A.ae ((0:Int)<=0/\0<a) (A.ae ((0:Int)<=1/\1<a) (A.ae ((0:Int)<=2/\2<a) (A.ae ((0:Int)<=3/\3<a) (A.ae ((0:Int)<=4/\4<a) (A.bind (EA ([(List.getD x.1 (Int.toNat 0) 0,List.getD x.1 (Int.toNat 1) 0,List.getD x.1 (Int.toNat 2) 0,1,List.getD x.1 (Int.toNat 3) 0,List.getD x.1 (Int.toNat 4) 0)],[],x.2.1,())) (λy=>A.pure (y.1,y.2.1,())))))))
def Yw(O2:H.aX×z7'×z1'->A (H.aX×Int))(x:z7'×z1'×bd×Unit):A (aR×bd×Unit):=
 A.ae True (A.bind (O2 (x.2.2.1.2,x.1,x.2.1)) (λy=>if decide (y.2≠0)=true then A.pure ([110,111],x.2.2.1,()) else A.ae True (A.pure ([111,107],(x.2.2.1.1,y.1),()))))
def Yx(EA:z7'×z1'×bd×Unit->A (aR×bd×Unit))(x:z1'×bd×Unit):A (aR×bd×Unit):=
 letI a:=Int.ofNat (List.length x.1);A.ae ((0:Int)<=0/\0<a) (A.ae ((0:Int)<=1/\1<a) (A.ae ((0:Int)<=2/\2<a) (A.ae ((0:Int)<=3/\3<a) (A.bind (EA ([(List.getD x.1 (Int.toNat 0) 0,List.getD x.1 (Int.toNat 1) 0,List.getD x.1 (Int.toNat 2) 0,2,List.getD x.1 (Int.toNat 3) 0,0)],[],x.2.1,())) (λy=>A.pure (y.1,y.2.1,()))))))
def Yy(EA:z7'×z1'×bd×Unit->A (aR×bd×Unit))(x:z1'×bd×Unit):A (aR×bd×Unit):=
 A.bind (EA ([],x.1,x.2.1,())) λy=>A.pure (y.1,y.2.1,())
def Yz(O3:H.aX×Int->A ((Int×Int)×Int))(rO:(Int×Int)×Int->A aR)(x:z1'×bd×Unit):A (aR×bd×Unit):=
 letI a:=(x.2.1.2,List.getD x.1 (Int.toNat 0) 0);A.ae True (A.ae ((0:Int)<=0/\0<Int.ofNat (List.length x.1)) (A.ae (O3 a).cr (A.ae (rO (A.val (O3 a) ((0,0),0))).cr (A.pure (A.val (rO (A.val (O3 a) ((0,0),0))) [],x.2.1,())))))
def YA(oj:Int×z1'->A aR)(x:(Int×Int)×Int):A aR:=
 A.bind (oj (x.2,[x.1.1,x.1.2])) λy=>A.pure y
def YB(A_:z1'->A aR)(x:Int×z1'):A aR:=
 if decide (x.1=0)=true then A.bind (A_ x.2) λy=>A.pure y else if decide (x.1=3)=true then A.pure [110,111,110,101] else A.pure [110,111]
def YC(anG:Int->A aR)(anH:List aR×aR->A aR)(x:z1'):A aR:=
 letI b:=Int.ofNat (List.length x);if decide (b=0)=true then A.pure [110,111,110,101] else A.bind (A.loop (λ(D:z1'×Int×Int×List aR×Unit)=>letI a:=D.2.2;if decide (a.1<D.2.1)=true then A.ae (0<=a.1/\a.1<Int.ofNat (List.length D.1)) (A.bind (anG (List.getD D.1 (Int.toNat a.1) 0)) (λy=>A.ae (bQ (Add.add (List.length a.2.1) (Add.add 0 1))) (A.pure (W.next (D.1,D.2.1,IntKind.wrap .i64 (Add.add a.1 1),a.2.1++[y],()))))) else A.bind (A.pure (W.next (a.2.1,()))) λr=>A.pure (W.done r)) (x,b,0,[],())) (W.bC (λ(D:List aR×Unit)=>A.bind (anH (D.1,[32])) λy=>A.pure y))
def YD(wm:H.aX×Int->A ((Int×Int)×Int))(rO:(Int×Int)×Int->A aR)(x:z1'×bd×Unit):A (aR×bd×Unit):=
 letI a:=(x.2.1.2,List.getD x.1 (Int.toNat 0) 0);A.ae True (A.ae ((0:Int)<=0/\0<Int.ofNat (List.length x.1)) (A.ae (wm a).cr (A.ae (rO (A.val (wm a) ((0,0),0))).cr (A.pure (A.val (rO (A.val (wm a) ((0,0),0))) [],x.2.1,())))))
def YE(A':H.aX×Int->A ((Int×Int)×Int))(rO:(Int×Int)×Int->A aR)(x:z1'×bd×Unit):A (aR×bd×Unit):=
 letI a:=(x.2.1.2,List.getD x.1 (Int.toNat 0) 0);A.ae True (A.ae ((0:Int)<=0/\0<Int.ofNat (List.length x.1)) (A.ae (A' a).cr (A.ae (rO (A.val (A' a) ((0,0),0))).cr (A.pure (A.val (rO (A.val (A' a) ((0,0),0))) [],x.2.1,())))))
def YF(Ba:H.aX×Int->A ((Int×Int)×Int))(rO:(Int×Int)×Int->A aR)(x:z1'×bd×Unit):A (aR×bd×Unit):=
 letI a:=(x.2.1.2,List.getD x.1 (Int.toNat 0) 0);A.ae True (A.ae ((0:Int)<=0/\0<Int.ofNat (List.length x.1)) (A.ae (Ba a).cr (A.ae (rO (A.val (Ba a) ((0,0),0))).cr (A.pure (A.val (rO (A.val (Ba a) ((0,0),0))) [],x.2.1,())))))
def YG(mL:H.aX×Int×Int->A (z1'×Int))(oj:Int×z1'->A aR)(A_:z1'->A aR)(x:z1'×bd×Unit):A (aR×bd×Unit):=
 letI b:=Int.ofNat (List.length x.1);letI a:=(x.2.1.2,List.getD x.1 (Int.toNat 0) 0,List.getD x.1 (Int.toNat 1) 0);A.ae True (A.ae ((0:Int)<=0/\0<b) (A.ae ((0:Int)<=1/\1<b) (A.ae (mL a).cr (A.ae ((!(decide ((A.val (mL a) ([],0)).2≠0)))=true->((!(decide ((A.val (mL a) ([],0)).2≠0)))=true/\True)/\((0:Int)<=0/\0<Int.ofNat (List.length (A.val (mL a) ([],0)).1))/\True) (if (decide ((A.val (mL a) ([],0)).2≠0)||decide (List.getD (A.val (mL a) ([],0)).1 (Int.toNat 0) (0:Int)>=0))=true then A.bind (oj ((A.val (mL a) ([],0)).2,(A.val (mL a) ([],0)).1)) λy=>A.pure (y,x.2.1,()) else if decide (Int.ofNat (List.length (A.val (mL a) ([],0)).1)=1)=true then A.pure ([115,104,111,112],x.2.1,()) else A.ae ((0:Int)<=1/\1<=Int.ofNat (List.length (A.val (mL a) ([],0)).1)/\Int.ofNat (List.length (A.val (mL a) ([],0)).1)<=Int.ofNat (List.length (A.val (mL a) ([],0)).1)) (A.bind (A_ (List.drop (Int.toNat 1) (List.take (Int.toNat (Int.ofNat (List.length (A.val (mL a) ([],0)).1))) (A.val (mL a) ([],0)).1))) (λy=>A.ae (bQ (Add.add (Add.add (Add.add (Add.add (Add.add (Add.add 0 1) 1) 1) 1) 1) (List.length y))) (A.pure ([115,104,111,112,32]++y,x.2.1,())))))))))
def YH(EB:H.aX×Int->A (z1'×z1'×Int))(oj:Int×z1'->A aR)(A_:z1'->A aR)(x:z1'×bd×Unit):A (aR×bd×Unit):=
 letI a:=(x.2.1.2,List.getD x.1 (Int.toNat 0) 0);A.ae True (A.ae ((0:Int)<=0/\0<Int.ofNat (List.length x.1)) (A.ae (EB a).cr (if decide ((A.val (EB a) ([],[],0)).2.2≠0)=true then A.bind (oj ((A.val (EB a) ([],[],0)).2.2,[])) λy=>A.pure (y,x.2.1,()) else A.bind (A_ (A.val (EB a) ([],[],0)).1) λy=>A.ae (bQ (Add.add (List.length y) (Add.add (Add.add (Add.add 0 1) 1) 1))) (A.bind (A_ (A.val (EB a) ([],[],0)).2.1) (λb2=>A.ae (bQ (Add.add (List.length (y++[32,47,32])) (List.length b2))) (A.pure (y++[32,47,32]++b2,x.2.1,())))))))
def YI(HP:bx×Int->A ((Int×Int)×Int))(uM:bJ×Unit->A (wk))(DW:z2'×List (List (Int×z1'×Int×Int))×Int×z2'->A Int)(x:z1'×bd×Unit):A (aR×bd×Unit):=
 letI c:=List.getD x.1 (Int.toNat 0) 0;letI b:=Int.ofNat (List.length x.1);A.ae True (A.bind (uM (x.2.1.1,())) (λy=>letI d:=y.2.2.2.2;letI a:=(y.1,y.2.1,y.2.2.1,d.1++[(c,List.getD x.1 (Int.toNat 1) 0,List.getD x.1 (Int.toNat 2) 0,List.getD x.1 (Int.toNat 3) 0)]);A.ae True (A.ae ((0:Int)<=0/\0<b) (A.ae ((0:Int)<=1/\1<b) (A.ae ((0:Int)<=2/\2<b) (A.ae ((0:Int)<=3/\3<b) (A.ae (bQ (Add.add (List.length d.1) (Add.add 0 1))) (A.ae True (A.ae True (A.bind (DW a) (λb2=>if decide (b2≠0)=true then A.pure ([110,111],x.2.1,()) else A.ae True (A.ae ((0:Int)<=0/\0<b) (A.ae (HP (a,c)).cr (if decide ((A.val (HP (a,c)) ((0,0),0)).2≠0)=true then A.pure ([108,105,97,114],x.2.1,()) else A.ae True (A.pure ([111,107],((a,d.2.1,d.2.2.1,d.2.2.2.1,d.2.2.2.2.1,y.2.2.2.1),x.2.1.2),()))))))))))))))))
def YJ(vQ:bx×Int×Int×Int->A (Int×Int))(oj:Int×z1'->A aR)(x:z1'×bd×Unit):A (aR×bd×Unit):=
 letI b:=Int.ofNat (List.length x.1);letI a:=(x.2.1.1.1,List.getD x.1 (Int.toNat 0) 0,List.getD x.1 (Int.toNat 1) 0,List.getD x.1 (Int.toNat 2) 0);A.ae True (A.ae ((0:Int)<=0/\0<b) (A.ae ((0:Int)<=1/\1<b) (A.ae ((0:Int)<=2/\2<b) (A.ae (vQ a).cr (if decide ((A.val (vQ a) (0,0)).2≠0)=true then A.bind (oj ((A.val (vQ a) (0,0)).2,[])) λy=>A.pure (y,x.2.1,()) else A.ae (0<=(A.val (vQ a) (0,0)).1/\(A.val (vQ a) (0,0)).1<Int.ofNat 4) (A.pure (List.getD [[],[115,117,114,101,108,121],[110,101,118,101,114],[112,101,114,104,97,112,115]] (Int.toNat (A.val (vQ a) (0,0)).1) [],x.2.1,())))))))
def YK(uM:bJ×Unit->A (wk))(yx:bJ×bd×Unit->A (aR×bd×Unit))(x:z1'×bd×Unit):A (aR×bd×Unit):=
 letI c:=Int.ofNat (List.length x.1);letI a:=List.getD x.1 (Int.toNat 0) 0;A.ae True (A.bind (uM (x.2.1.1,())) (λy=>letI d:=y.2.2.2.2.2;letI b:=Int.ofNat (List.length d.1);A.ae ((0:Int)<=0/\0<c) (if decide (a>=b)=true then A.pure ([110,111],x.2.1,()) else A.ae ((0:Int)<=0/\0<c) (A.ae (0<=a/\a<b) (A.ae ((0:Int)<=1/\1<c) (A.ae (0<=a/\a<b) (A.bind (yx (((y.1,y.2.1,y.2.2.1,y.2.2.2.2.1),List.set d.1 (Int.toNat a) (IntKind.wrap .i64 (Add.add (List.getD d.1 (Int.toNat a) 0) (List.getD x.1 (Int.toNat 1) 0))),d.2.1,d.2.2.1,d.2.2.2.1,y.2.2.2.1),x.2.1,())) (λy=>A.pure (y.1,y.2.1,())))))))))
def YL(D0:bJ->A Int)(x:bJ×bd×Unit):A (aR×bd×Unit):=
 A.bind (D0 x.1) λy=>if decide (y≠0)=true then A.pure ([110,111],x.2.1,()) else A.ae True (A.pure ([111,107],(x.1,x.2.1.2),()))
def YM(uM:bJ×Unit->A (wk))(yx:bJ×bd×Unit->A (aR×bd×Unit))(x:z1'×bd×Unit):A (aR×bd×Unit):=
 letI a:=Int.ofNat (List.length x.1);A.ae True (A.bind (uM (x.2.1.1,())) (λy=>letI b:=y.2.2.2.2.2;A.ae ((0:Int)<=0/\0<a) (A.ae ((0:Int)<=1/\1<a) (A.ae ((0:Int)<=2/\2<a) (A.ae (bQ (Add.add (List.length b.2.2.2.1) (Add.add 0 1))) (A.bind (yx (((y.1,y.2.1,y.2.2.1,y.2.2.2.2.1),b.1,b.2.1,b.2.2.1,b.2.2.2.1++[(List.getD x.1 (Int.toNat 0) 0,List.getD x.1 (Int.toNat 1) 0,List.getD x.1 (Int.toNat 2) 0)],y.2.2.2.1),x.2.1,())) (λy=>A.pure (y.1,y.2.1,()))))))))
def YN(uM:bJ×Unit->A (wk))(yx:bJ×bd×Unit->A (aR×bd×Unit))(x:z1'×bd×Unit):A (aR×bd×Unit):=
 letI a:=Int.ofNat (List.length x.1);A.ae True (A.bind (uM (x.2.1.1,())) (λy=>letI b:=y.2.2.2.2.2;A.ae ((0:Int)<=0/\0<a) (A.ae ((0:Int)<=1/\1<a) (A.ae ((0:Int)<=2/\2<a) (A.ae ((0:Int)<=3/\3<a) (A.ae ((0:Int)<=4/\4<=a/\a<=a) (A.ae (bQ (Add.add (List.length b.2.1) (Add.add 0 1))) (A.bind (yx (((y.1,y.2.1,y.2.2.1,y.2.2.2.2.1),b.1,b.2.1++[(List.getD x.1 (Int.toNat 0) 0,List.getD x.1 (Int.toNat 1) 0,List.getD x.1 (Int.toNat 2) 0,List.getD x.1 (Int.toNat 3) 0,List.drop (Int.toNat 4) (List.take (Int.toNat a) x.1))],b.2.2.1,b.2.2.2.1,y.2.2.2.1),x.2.1,())) (λy=>A.pure (y.1,y.2.1,()))))))))))
def YO(uM:bJ×Unit->A (wk))(yx:bJ×bd×Unit->A (aR×bd×Unit))(x:z1'×bd×Unit):A (aR×bd×Unit):=
 letI a:=Int.ofNat (List.length x.1);A.ae True (A.bind (uM (x.2.1.1,())) (λy=>letI b:=y.2.2.2.2.2;A.ae ((0:Int)<=0/\0<a) (A.ae ((0:Int)<=1/\1<a) (A.ae ((0:Int)<=2/\2<a) (A.ae ((0:Int)<=3/\3<a) (A.ae ((0:Int)<=4/\4<a) (A.ae ((0:Int)<=5/\5<=a/\a<=a) (A.ae (bQ (Add.add (List.length b.2.2.1) (Add.add 0 1))) (A.bind (yx (((y.1,y.2.1,y.2.2.1,y.2.2.2.2.1),b.1,b.2.1,b.2.2.1++[(List.drop (Int.toNat 5) (List.take (Int.toNat a) x.1),(List.getD x.1 (Int.toNat 0) 0,List.getD x.1 (Int.toNat 1) 0),List.getD x.1 (Int.toNat 2) 0,List.getD x.1 (Int.toNat 3) 0,List.getD x.1 (Int.toNat 4) 0)],b.2.2.2.1,y.2.2.2.1),x.2.1,())) (λy=>A.pure (y.1,y.2.1,())))))))))))
def YP(YQ:List dB->A (List dB))(anI:Int×Int×List dB×Unit->A ((Nat×Nat)×List dB×Unit))(x:z1'×bd×Unit):A (aR×bd×Unit):=
 letI c:=x.2.1.1.2.2;letI b:=List.getD x.1 (Int.toNat 0) 0;letI a:=(0:Int)<=0/\0<Int.ofNat (List.length x.1);A.ae a (A.ae True (if decide (b>=Int.ofNat (List.length c.2.1))=true then A.pure ([110,111],x.2.1,()) else A.ae True (A.ae (YQ c.2.1).cr (A.ae a (A.ae a (A.bind (anI (b,IntKind.wrap .i64 (Add.add b 1),A.val (YQ c.2.1) [],())) (λy=>A.ae True (A.pure ([111,107],((x.2.1.1.1,x.2.1.1.2.1,c.1,List.drop y.1.1 (List.take y.1.2 y.2.1),c.2.2),x.2.1.2),())))))))))
def YR(O4:bJ×Int->A (z1'×Int))(oj:Int×z1'->A aR)(x:z1'×bd×Unit):A (aR×bd×Unit):=
 letI a:=(x.2.1.1,List.getD x.1 (Int.toNat 0) 0);A.ae True (A.ae ((0:Int)<=0/\0<Int.ofNat (List.length x.1)) (A.ae (O4 a).cr (A.bind (oj ((A.val (O4 a) ([],0)).2,(A.val (O4 a) ([],0)).1)) (λy=>A.pure (y,x.2.1,())))))
def YS(anJ:bJ×z1'->A (Int×Int))(anK:z1'×Unit->A (z1'×Unit))(oj:Int×z1'->A aR)(x:z1'×bd×Unit):A (aR×bd×Unit):=
 A.bind (anK (x.1,())) λy=>A.bind (A.loop (λ(D:Int×Int×z1'×bd×Unit)=>letI b:=D.2;letI a:=0<=b.1/\b.1<Int.ofNat (List.length b.2.1);if decide (b.1<D.1)=true then A.ae a (A.ae a (A.pure (W.next (D.1,IntKind.wrap .i64 (Add.add b.1 1),List.set b.2.1 (Int.toNat b.1) (IntKind.wrap .i64 (List.getD b.2.1 (Int.toNat b.1) 0-1)),b.2.2.1,())))) else A.bind (A.pure (W.next (b.2.1,b.2.2.1,()))) λr=>A.pure (W.done r)) (Int.ofNat (List.length y.1),0,y.1,x.2.1,())) (W.bC (λ(D:z1'×bd×Unit)=>A.ae True (A.bind (anJ (D.2.1.1,D.1)) (λy=>A.bind (oj (y.2,[y.1])) λy=>A.pure (y,D.2.1,())))))
def YT(anL:bJ->A (Int×Int))(oj:Int×z1'->A aR)(x:z1'×bd×Unit):A (aR×bd×Unit):=
 A.ae True (A.bind (anL x.2.1.1) (λy=>A.bind (oj (y.2,[y.1])) λy=>A.pure (y,x.2.1,())))
def YU(O5:bJ->A (Int×Int))(oj:Int×z1'->A aR)(x:z1'×bd×Unit):A (aR×bd×Unit):=
 A.ae True (A.bind (O5 x.2.1.1) (λy=>A.bind (oj (y.2,[y.1])) λy=>A.pure (y,x.2.1,())))
def YV(x:z1'×z1'):A Bool:=
 if decide (Int.ofNat (List.length x.1)≠Int.ofNat (List.length x.2))=true then A.pure false else A.bind (A.loop (λ(D:z1'×z1'×Int×Unit)=>letI a:=D.2.2.1;letI b:=a<Int.ofNat (List.length D.1);if decide b=true then A.ae (0<=a/\b) (A.ae (0<=a/\a<Int.ofNat (List.length D.2.1)) (if decide (List.getD D.1 (Int.toNat a) 0≠List.getD D.2.1 (Int.toNat a) 0)=true then A.bind (A.bind (A.pure false) (λr=>A.pure (W.done r))) λr=>A.pure (W.done r) else A.pure (W.next (D.1,D.2.1,IntKind.wrap .i64 (Add.add a 1),())))) else A.bind (A.pure (W.next ())) λr=>A.pure (W.done r)) (x.1,x.2,0,())) (W.bC (λ(D:Unit)=>A.pure true))
def YW(O6:bd->A Int)(anM:bJ->A Bool)(anN:H.aX->A Bool)(anO:aR->A (aR×z1'×Bool))(x:bd×List aR):A Bool:=
 A.bind (anM x.1.1) λy=>A.bind (cu (!y) (anN x.1.2) false) λb2=>if (y||b2||decide (Int.ofNat (List.length x.2) > 60))=true then A.pure true else A.bind (A.loop (λ(D:List aR×Int×Int×Int×Int×Int×bd×Unit)=>letI h:=D.2.2.2;letI b:=h.2.2;letI e:=b.1<Int.ofNat (List.length b.2.1.1.2.2.1);if decide e=true then A.ae (0<=b.1/\e) (A.pure (W.next (D.1,D.2.1,D.2.2.1,h.1,IntKind.wrap .i64 (Add.add h.2.1 (Int.ofNat (List.length (List.getD b.2.1.1.2.2.1 (Int.toNat b.1) (0,0,0,0,[])).2.2.2.2))),IntKind.wrap .i64 (Add.add b.1 1),b.2.1,()))) else A.bind (A.pure (W.next (D.1,D.2.1,D.2.2.1,h.1,h.2.1,b.2.1,()))) λr=>A.pure (W.done r)) (x.2,Int.ofNat (List.length x.1.1.2.2.2.1),Int.ofNat (List.length x.1.1.2.2.1),Int.ofNat (List.length x.1.1.2.2.2.2.1),0,0,x.1,())) (W.bC (λ(D:List aR×Int×Int×Int×Int×bd×Unit)=>A.bind (A.loop (λ(D:List aR×Int×Int×Int×Int×Int×bd×Unit)=>letI j:=D.2.1;letI d:=D.2.2;letI a:=d.2.2;letI i:=a.2.1;letI g:=a.2.2.1;letI f:=List.getD D.1 (Int.toNat i) [];letI c:=i<Int.ofNat (List.length D.1);if decide c=true then A.bind (A.ae (0<=i/\c) (if decide (Int.ofNat (List.length f) > 80)=true then A.bind (A.bind (A.bind (A.pure true) (λr=>A.pure (W.done r))) (λr=>A.pure (W.done r))) λr=>A.pure (W.done r) else A.ae (0<=i/\c) (A.bind (anO f) (λy=>if (!y.2.2)=true then A.pure (W.next (D.1,j,d.1,d.2.1,a.1,i,g,())) else if decide (y.1=[119,105,115,104])=true then A.pure (W.next (D.1,IntKind.wrap .i64 (Add.add j 1),d.1,d.2.1,a.1,i,g,())) else if decide (y.1=[112,105,101,99,101])=true then A.pure (W.next (D.1,j,IntKind.wrap .i64 (Add.add d.1 1),d.2.1,IntKind.wrap .i64 (Add.add a.1 (IntKind.wrap .i64 (Int.ofNat (List.length y.2.1)-4))),i,g,())) else if decide (y.1=[99,111,109,101,115])=true then A.pure (W.next (D.1,j,d.1,IntKind.wrap .i64 (Add.add d.2.1 1),a.1,i,g,())) else A.pure (W.next (D.1,j,d.1,d.2.1,a.1,i,g,())))))) (W.bC (λ(D:List aR×Int×Int×Int×Int×Int×bd×Unit)=>letI k:=D.2.2.2;A.pure (W.next (D.1,D.2.1,D.2.2.1,k.1,k.2.1,IntKind.wrap .i64 (Add.add k.2.2.1 1),k.2.2.2.1,())))) else A.bind (A.pure (W.next (j,d.1,d.2.1,a.1,g,()))) λr=>A.pure (W.done r)) (D.1,D.2.1,D.2.2.1,D.2.2.2.1,D.2.2.2.2.1,0,D.2.2.2.2.2.1,())) (W.bC (λ(D:Int×Int×Int×Int×bd×Unit)=>A.bind (O6 D.2.2.2.2.1) λy=>A.pure (decide (y=0)&&(decide (D.1 > 3)||decide (D.2.1 > 4)||decide (D.2.2.1 > 3)||decide (D.2.2.2.1 > 4)))))))
def YX(anP:aR->A (List aR))(anQ:aR->A Int)(anR:Unit->A (List aR×z1'×z1'))(x:aR):A (aR×z1'×Bool):=
 A.bind (anP x) λy=>A.bind (A.loop (λ(D:List aR×Int×z1'×Unit)=>letI j:=D.2.1<Int.ofNat (List.length D.1);if decide j=true then A.ae (0<=D.2.1/\j) (A.bind (anQ (List.getD D.1 (Int.toNat D.2.1) [])) (λy=>if decide (y<0)=true then A.bind (A.bind (A.pure ([],[],false)) (λr=>A.pure (W.done r))) λr=>A.pure (W.done r) else A.ae (bQ (Add.add (List.length D.2.2.1) (Add.add 0 1))) (A.pure (W.next (D.1,IntKind.wrap .i64 (Add.add D.2.1 1),D.2.2.1++[y],()))))) else A.bind (A.pure (W.next (D.1,D.2.2.1,()))) λr=>A.pure (W.done r)) (y,1,[],())) (W.bC (λ(D:List aR×z1'×Unit)=>A.bind (anR ()) λy=>A.bind (A.loop (λ(D:List aR×List aR×z1'×z1'×Int×z1'×Unit)=>letI l:=List.getD D.1 (Int.toNat 0) [];letI h:=(0:Int)<=0/\0<Int.ofNat (List.length D.1);letI c:=D.2.2.2;letI m:=c.2.1;letI k:=Int.ofNat (List.length c.2.2.1);letI i:=m<Int.ofNat (List.length D.2.1);letI g:=Int.toNat m;letI f:=(0<=m/\m<Int.ofNat (List.length c.1))/\True;letI d:=decide (List.getD c.1 g (0:Int)<0);letI a:=decide (k>=List.getD D.2.2.1 g 0);letI e:=a=true;letI b:=(a&&!d)=true;letI n:=b->b/\True/\True;if decide i=true then A.ae (0<=m/\i) (A.ae h (if decide (List.getD D.2.1 g []=l)=true then A.ae h (A.ae (0<=m/\m<Int.ofNat (List.length D.2.2.1)) (A.ae (e->(e/\e)/\f) (A.ae (e->e/\True/\True) (A.ae (e->(e/\True)/\True/\True) (A.ae (e->True/\True/\e) (A.ae n (A.ae (b->(b/\b)/\f) (A.ae n (A.ae (b->(b/\b)/\True/\True) (A.ae (e->(e/\(d=false->b))/\True/\True) (A.ae (True/\(e->e)) (A.bind (A.bind (A.pure (l,c.2.2.1,a&&(d||decide (k<=List.getD c.1 g 0)))) (λr=>A.pure (W.done r))) (λr=>A.pure (W.done r)))))))))))))) else A.pure (W.next (D.1,D.2.1,D.2.2.1,c.1,IntKind.wrap .i64 (Add.add m 1),c.2.2.1,())))) else A.bind (A.pure (W.next ())) λr=>A.pure (W.done r)) (D.1,y.1,y.2.1,y.2.2,0,D.2.1,())) (W.bC (λ(D:Unit)=>A.pure ([],[],false)))))
def YY(x:aR):A (List aR):=
 A.bind (A.loop (λ(D:aR×Int×List aR×Unit)=>letI g:=D.2.1;letI f:=D.2.2.1;letI e:=Int.ofNat (List.length D.1);letI c:=Int.ofNat (List.length f);letI b:=IntKind.wrap .i64 (Add.add g 1);letI d:=List.drop (Int.toNat g) (List.take (Int.toNat b) D.1);letI a:=IntKind.wrap .i64 (c-1);letI h:=List.getD f (Int.toNat a) [];if decide (g<e)=true then A.bind (A.ae (0<=g/\g<e) (if decide (Int.ofNat (List.getD D.1 (Int.toNat g) 0).1.1.1=32)=true then A.ae (bQ (Add.add (List.length f) (Add.add 0 1))) (A.pure (W.next (D.1,g,f++[[]],()))) else A.ae (0<=a/\a<c) (A.ae (0<=g/\g<=b/\b<=e) (A.ae (bQ (Add.add (List.length h) (List.length d))) (A.ae (0<=a/\a<c) (A.pure (W.next (D.1,g,List.set f (Int.toNat a) (h++d),())))))))) (W.bC (λ(D:aR×Int×List aR×Unit)=>A.pure (W.next (D.1,IntKind.wrap .i64 (Add.add D.2.1 1),D.2.2.1,())))) else A.bind (A.pure (W.next (f,()))) λr=>A.pure (W.done r)) (x,0,[[]],())) (W.bC (λ(D:List aR×Unit)=>A.pure D.1))
def YZ(x:aR):A Int:=
 letI b:=Int.ofNat (List.length x);letI g:=decide (b > 1);letI d:=decide (b=0)||decide (b > 6);A.ae ((!d&&g)=true->((!d&&g)=true/\True)/\((0:Int)<=0/\0<b)/\True) (if (d||g&&decide (Int.ofNat (List.getD x (Int.toNat 0) 0).1.1.1=48))=true then A.pure (-1) else A.bind (A.loop (λ(D:aR×Int×Int×Unit)=>letI h:=D.2.2.1;letI c:=h<Int.ofNat (List.length D.1);letI f:=0<=h/\c;letI a:=Int.ofNat (List.getD D.1 (Int.toNat h) 0).1.1.1;letI e:=(!(decide (a<48)))=true;if decide c=true then A.ae f (A.ae (e->(e/\e)/\f/\True) (if (decide (a<48)||decide (a > 57))=true then A.bind (A.bind (A.pure (-1)) (λr=>A.pure (W.done r))) λr=>A.pure (W.done r) else A.ae f (A.pure (W.next (D.1,IntKind.wrap .i64 (Add.add (IntKind.wrap .i64 (10*D.2.1)) (IntKind.wrap .i64 (IntKind.wrap .u8 (a-48)))),IntKind.wrap .i64 (Add.add h 1),()))))) else A.bind (A.pure (W.next (D.2.1,()))) λr=>A.pure (W.done r)) (x,0,0,())) (W.bC (λ(D:Int×Unit)=>A.pure D.1)))
def anS(x:Unit):A (List aR×z1'×z1'):=
 A.pure ([[108,101,110,100],[98,97,99,107],[118,111,105,100],[108,97,115,116,115],[102,101,101],[111,119,101,115],[104,101,108,100],[119,104,101,114,101],[109,105,115,115,105,110,103],[116,114,105,97,108],[102,105,116,115],[115,116,111,99,107],[99,111,109,101,115],[112,105,101,99,101],[119,105,115,104],[100,114,111,112],[99,97,110],[116,97,107,101,115],[109,111,115,116],[101,120,116,114,97]],[5,4,1,1,1,1,1,2,1,4,3,2,3,4,5,1,1,0,0,0],[5,4,1,1,1,1,1,2,1,4,3,2,3,-1,-1,1,1,-1,0,0])
def Y0(O7:bd×List aR->A (List aR×bd×Int))(wm:H.aX×Int->A ((Int×Int)×Int))(O5:bJ->A (Int×Int))(anT:Unit->A bd)(x:Unit):A Bool:=
 A.bind (anT ()) λy=>A.bind (O7 (y,[[108,101,110,100,32,49,32,48,32,49,48,48,32,51,32,55],[98,97,99,107,32,50,32,48,32,49,55,49,32,51],[115,116,111,99,107,32,48,32,49]])) λy=>A.bind (wm (y.2.1.2,1)) λb2=>A.bind (O5 y.2.1.1) λdy=>A.pure (decide (y.2.2=0)&&decide (b2.2=0)&&decide (dy.2=0)&&decide (Int.ofNat (List.length y.1)=3)&&(decide (b2.1.1=300)&&decide (b2.1.2=300))&&decide (dy.1=1))
def Y1(x:Int):A aR:=
 if decide (x<0)=true then A.pure [115,104,111,112] else A.ae ((10:Int)≠0) (A.bind (A.loop (λ(D:Int×aR×Unit)=>letI a:=IntKind.wrap .i64 (Int.tdiv D.1 10);if decide (D.1>=10)=true then A.ae ((10:Int)≠0) (A.ae ((10:Int)≠0) (A.ae (bQ (Add.add (Add.add 0 1) (List.length D.2.1))) (A.pure (W.next (a,[UInt8.ofNat (Int.toNat (IntKind.wrap .u8 (IntKind.wrap .i64 (Add.add 48 (Int.tmod a 10)))))]++D.2.1,()))))) else A.bind (A.pure (W.next (D.2.1,()))) λr=>A.pure (W.done r)) (x,[UInt8.ofNat (Int.toNat (IntKind.wrap .u8 (IntKind.wrap .i64 (Add.add 48 (Int.tmod x 10)))))],())) (W.bC (λ(D:aR×Unit)=>A.pure D.1)))
def Y2(Y3:bJ->A bJ)(Y4:H.aX->A H.aX)(x:bd):A bd:=
 A.ae (Y3 x.1).cr (A.ae (Y4 x.2).cr (A.pure (A.val (Y3 x.1) (([],[],0,[]),[],[],[],[],0),A.val (Y4 x.2) ([],[],[],[],0,0,0,0,0,0,0))))
def Y5(x:List aR×Int):A Bool:=
 A.bind (A.loop (λ(D:List aR×Int×Int×Unit)=>letI b:=D.2.2.1;letI a:=b<Int.ofNat (List.length D.1);if decide a=true then A.ae (0<=b/\a) (if decide (List.getD D.1 (Int.toNat b) []≠[111,107])=true then A.bind (A.bind (A.pure false) (λr=>A.pure (W.done r))) λr=>A.pure (W.done r) else A.pure (W.next (D.1,D.2.1,IntKind.wrap .i64 (Add.add b 1),()))) else A.bind (A.pure (W.next (D.1,D.2.1,()))) λr=>A.pure (W.done r)) (x.1,x.2,0,())) (W.bC (λ(D:List aR×Int×Unit)=>A.pure (decide (Int.ofNat (List.length D.1)=D.2.1))))
def O8(anU:bd×List aR->A Bool)(O6:bd->A Int)(Y6:Unit->A Bool)(anV:bd->A bd)(O7:bd×List aR->A (List aR×bd×Int))(anW:List aR×Int->A Bool)(anX:H.aX->A (List aR))(Ez:H.aX->A Int)(anY:H.aX×H.aX×Int×Int×Int×Int->A Bool)(x:bd×Int×Int×Int×Int):A Bool:=
 A.bind (anU (x.1,[])) λy=>A.bind (cu (!y) (O6 x.1) 0) λb2=>if (y||decide (b2≠0))=true then A.bind (Y6 ()) λy=>A.pure y else A.bind (anX x.1.2) λy=>A.bind (anV x.1) λdy=>A.bind (O7 ((dy.1,dy.2.1,[],[],dy.2.2.2.2),y)) λfu=>letI b:=decide (fu.2.2=0);A.bind (cu b (anW (fu.1,Int.ofNat (List.length y))) false) λy=>A.bind (cu (b&&y) (Ez fu.2.1.2) 0) λjW=>letI a:=b&&y&&decide (jW=0);A.bind (cu a (anY (fu.2.1.2,x.1.2,x.2)) false) λqE=>A.bind (cu (a&&qE) (Y6 ()) false) λur=>A.pure (a&&qE&&ur)
def Y7(O9:aR×z1'->A aR)(x:H.aX):A (List aR):=
 A.bind (A.loop (λ(D:Int×H.aX×List aR×Unit)=>letI c:=D.1<Int.ofNat (List.length D.2.1.2.2.1);if decide c=true then A.ae (0<=D.1/\c) (A.bind (O9 ([118,111,105,100],[List.getD D.2.1.2.2.1 (Int.toNat D.1) 0])) (λy=>A.ae (bQ (Add.add (List.length D.2.2.1) (Add.add 0 1))) (A.pure (W.next (IntKind.wrap .i64 (Add.add D.1 1),D.2.1,D.2.2.1++[y],()))))) else A.bind (A.pure (W.next (D.2.1,D.2.2.1,()))) λr=>A.pure (W.done r)) (0,x,[],())) (W.bC (λ(D:H.aX×List aR×Unit)=>A.bind (A.loop (λ(D:Int×H.aX×List aR×Unit)=>letI e:=D.2.2.1;letI d:=D.1<Int.ofNat (List.length D.2.1.2.1);letI b:=bQ (Add.add (List.length e) (Add.add 0 1));letI a:=List.getD D.2.1.2.1 (Int.toNat D.1) (0,0,0,0,0,0);if decide d=true then A.bind (A.ae (0<=D.1/\d) (if decide (a.2.2.2.1=1)=true then A.bind (O9 ([108,101,110,100],[a.1,a.2.1,a.2.2.1,a.2.2.2.2.1,a.2.2.2.2.2])) λy=>A.ae b (A.pure (W.next (D.1,D.2.1,e++[y],()))) else A.bind (O9 ([98,97,99,107],[a.1,a.2.1,a.2.2.1,a.2.2.2.2.1])) λy=>A.ae b (A.pure (W.next (D.1,D.2.1,e++[y],()))))) (W.bC (λ(D:Int×H.aX×List aR×Unit)=>A.pure (W.next (IntKind.wrap .i64 (Add.add D.1 1),D.2.1,D.2.2.1,())))) else A.bind (A.pure (W.next (e,()))) λr=>A.pure (W.done r)) (0,D.1,D.2.1,())) (W.bC (λ(D:List aR×Unit)=>A.pure D.1))))
def Y8(wm:H.aX×Int->A ((Int×Int)×Int))(A':H.aX×Int->A ((Int×Int)×Int))(Ba:H.aX×Int->A ((Int×Int)×Int))(mL:H.aX×Int×Int->A (z1'×Int))(anZ:z1'×z1'->A Bool)(x:H.aX×H.aX×Int×Int×Int×Int):A Bool:=
 letI b:=x.2.2.2;A.bind (A' (x.1,x.2.2.1)) λy=>A.bind (A' (x.2.1,x.2.2.1)) λb2=>letI a:=decide (y.1.1=b2.1.1)&&decide (y.1.2=b2.1.2)&&decide (y.2=b2.2);A.bind (mL (x.1,b.1,b.2.1)) λdy=>A.bind (mL (x.2.1,b.1,b.2.1)) λfu=>A.bind (Ba (x.1,b.2.1)) λjW=>A.bind (Ba (x.2.1,b.2.1)) λqE=>A.bind (wm (x.1,b.2.2)) λur=>A.bind (wm (x.2.1,b.2.2)) λO_=>A.bind (cu a (anZ (dy.1,fu.1)) false) λan0=>A.pure (a&&an0&&decide (dy.2=fu.2)&&(decide (jW.1.1=qE.1.1)&&decide (jW.1.2=qE.1.2))&&decide (jW.2=qE.2)&&(decide (ur.1.1=O_.1.1)&&decide (ur.1.2=O_.1.2))&&decide (ur.2=O_.2))
def an1(x:z1'×z1'):A Bool:=
 if decide (Int.ofNat (List.length x.1)≠Int.ofNat (List.length x.2))=true then A.pure false else A.bind (A.loop (λ(D:z1'×z1'×Int×Unit)=>letI a:=D.2.2.1;letI b:=a<Int.ofNat (List.length D.1);if decide b=true then A.ae (0<=a/\b) (A.ae (0<=a/\a<Int.ofNat (List.length D.2.1)) (if decide (List.getD D.1 (Int.toNat a) 0≠List.getD D.2.1 (Int.toNat a) 0)=true then A.bind (A.bind (A.pure false) (λr=>A.pure (W.done r))) λr=>A.pure (W.done r) else A.pure (W.next (D.1,D.2.1,IntKind.wrap .i64 (Add.add a 1),())))) else A.bind (A.pure (W.next ())) λr=>A.pure (W.done r)) (x.1,x.2,0,())) (W.bC (λ(D:Unit)=>A.pure true))
def Y9(an2:Int->A aR)(x:aR×z1'):A aR:=
 A.bind (A.loop (λ(D:aR×z1'×Int×Unit)=>letI b:=D.2.2.1;letI a:=b<Int.ofNat (List.length D.2.1);if decide a=true then A.ae (0<=b/\a) (A.bind (an2 (List.getD D.2.1 (Int.toNat b) 0)) (λy=>A.ae (bQ (Add.add (Add.add 0 1) (List.length y))) (A.ae (bQ (Add.add (List.length D.1) (Add.add (List.length y) 1))) (A.pure (W.next (D.1++([32]++y),D.2.1,IntKind.wrap .i64 (Add.add b 1),())))))) else A.bind (A.pure (W.next (D.1,()))) λr=>A.pure (W.done r)) (x.1,x.2,0,())) (W.bC (λ(D:aR×Unit)=>A.pure D.1))
def Ir{gC:Type}(c0:z2'->A (z2'))(bE:List (List (Int×z1'×Int×Int))->A (List (List (Int×z1'×Int×Int))))(c2:z2'->A (z2'))(c3:List (Int×z1'×Int×Int)×Unit->A (List (Int×z1'×Int×Int)×Unit))(c4:z1'->A (z1'))(c5:List dm->A (List dm))(lW:List dB->A (List dB))(oD:z3'->A (z3'))(x:bJ)(fin:bJ->A gC):A gC:=
 A.ae True (A.ae (c0 x.1.1).cr (A.ae True (A.ae (bE x.1.2.1).cr (A.ae True (A.ae (c2 x.1.2.2.2).cr (A.ae True (A.ae True (A.ae True (A.bind (A.ae True (A.loop (λ(D:Int×Int×Int×z1'×List dm×List dB×z3'×Int×Int×Int×z2'×List (List (Int×z1'×Int×Int))×z2'×Unit)=>letI g1:=D.2;letI s:=g1.2.2.2;letI h:=Int.toNat g1.1;letI f:=s.2.2.2;letI v:=f.2.2.2.2;if decide (g1.1<D.1)=true then A.bind (A.ae True (A.ae (0<=g1.1/\g1.1<Int.ofNat (List.length v.1)) (A.ae True (A.ae (h=h) (A.bind (c3 (List.getD v.1 h [],())) (λy=>A.ae True (A.ae (h=h) (A.ae True (A.ae (h=h) (A.loop (λ(D:Nat×Int×Int×Int×Int×Int×z1'×List dm×List dB×z3'×Int×Int×Int×z2'×(List (List (Int×z1'×Int×Int))×Nat)×z2'×List (Int×z1'×Int×Int)×Unit)=>letI g:=D.2.2.2.2;letI z:=g.2.2.2;letI a:=z.2.2.2;letI k:=a.2.2.2.2;letI u:=0<=g.1/\g.1<Int.ofNat (List.length k.2.2.1);letI e:=List.getD k.2.2.1 (Int.toNat g.1) (0,[],0,0);if decide (g.1<D.2.2.2.1)=true then A.ae True (A.ae (D.1=k.1.2) (A.ae True (A.ae (D.1=k.1.2) (A.ae u (A.ae (c4 e.2.1).cr (A.ae u (A.pure (W.next (D.1,D.2.1,D.2.2.1,D.2.2.2.1,IntKind.wrap .i64 (Add.add g.1 1),g.2.1,g.2.2.1,z.1,z.2.1,z.2.2.1,a.1,a.2.1,a.2.2.1,a.2.2.2.1,k.1,k.2.1,List.set k.2.2.1 (Int.toNat g.1) (e.1,A.val (c4 e.2.1) [],e.2.2),()))))))))) else A.bind (A.pure (W.next (D.2.1,D.2.2.1,g.2.1,g.2.2.1,z.1,z.2.1,z.2.2.1,a.1,a.2.1,a.2.2.1,a.2.2.2.1,k.1,k.2.1,k.2.2.1,()))) λr=>A.pure (W.done r)) (h,D.1,g1.1,Int.ofNat (List.length y.1),0,g1.2.1,g1.2.2.1,s.1,s.2.1,s.2.2.1,f.1,f.2.1,f.2.2.1,f.2.2.2.1,(v.1,h),v.2.1,y.1,()))))))))))) (W.bC (λ(D:Int×Int×Int×z1'×List dm×List dB×z3'×Int×Int×Int×z2'×(List (List (Int×z1'×Int×Int))×Nat)×z2'×List (Int×z1'×Int×Int)×Unit)=>letI dO:=D.2.2.2.2;letI j:=dO.2.2.2;letI bE:=j.2.2.2.2;A.pure (W.next (D.1,IntKind.wrap .i64 (Add.add D.2.1 1),D.2.2.1,D.2.2.2.1,dO.1,dO.2.1,dO.2.2.1,j.1,j.2.1,j.2.2.1,j.2.2.2.1,List.set bE.1.1 bE.1.2 bE.2.2.1,bE.2.1,())))) else A.bind (A.pure (W.next (g1.2.1,g1.2.2.1,s.1,s.2.1,s.2.2.1,f.1,f.2.1,f.2.2.1,f.2.2.2.1,v.1,v.2.1,()))) λr=>A.pure (W.done r)) (Int.ofNat (List.length (A.val (bE x.1.2.1) [])),0,x.1.2.2.1,x.2.1,x.2.2.1,x.2.2.2.1,x.2.2.2.2.1,x.2.2.2.2.2,0,0,A.val (c0 x.1.1) [],A.val (bE x.1.2.1) [],A.val (c2 x.1.2.2.2) [],()))) (W.bC (λ(D:Int×z1'×List dm×List dB×z3'×Int×Int×Int×z2'×List (List (Int×z1'×Int×Int))×z2'×Unit)=>letI d1:=D.2.2;letI n:=d1.2.2;A.ae (c4 D.2.1).cr (A.ae (c5 d1.1).cr (A.ae (lW d1.2.1).cr (A.ae (oD n.1).cr (A.bind (A.loop (λ(D:Int×Int×Int×Int×Int×Int×z2'×List (List (Int×z1'×Int×Int))×z2'×z1'×List dm×List dB×z3'×Unit)=>letI az:=D.2;letI t:=az.2.2.2;letI d:=t.2.2.2;letI w:=d.2.2.2;letI o:=0<=az.1/\az.1<Int.ofNat (List.length w.1);letI b:=List.getD w.1 (Int.toNat az.1) (0,0,0,0,[]);if decide (az.1<D.1)=true then A.ae o (A.ae (c4 b.2.2.2.2).cr (A.ae o (A.pure (W.next (D.1,IntKind.wrap .i64 (Add.add az.1 1),az.2.1,az.2.2.1,t.1,t.2.1,t.2.2.1,d.1,d.2.1,d.2.2.1,List.set w.1 (Int.toNat az.1) (b.1,b.2.1,b.2.2.1,b.2.2.2.1,A.val (c4 b.2.2.2.2) []),w.2.1,w.2.2.1,()))))) else A.bind (A.pure (W.next (az.2.1,az.2.2.1,t.1,t.2.1,t.2.2.1,d.1,d.2.1,d.2.2.1,w.1,w.2.1,w.2.2.1,()))) λr=>A.pure (W.done r)) (Int.ofNat (List.length (A.val (c5 d1.1) [])),0,D.1,n.2.1,n.2.2.1,n.2.2.2.1,n.2.2.2.2.1,n.2.2.2.2.2.1,n.2.2.2.2.2.2.1,A.val (c4 D.2.1) [],A.val (c5 d1.1) [],A.val (lW d1.2.1) [],A.val (oD n.1) [],())) (W.bC (λ(D:Int×Int×Int×Int×z2'×List (List (Int×z1'×Int×Int))×z2'×z1'×List dm×List dB×z3'×Unit)=>letI E:=D.2.2.2;letI m:=E.2.2.2;A.bind (A.loop (λ(D:Int×Int×Int×Int×Int×Int×z2'×List (List (Int×z1'×Int×Int))×z2'×z1'×List dm×List dB×z3'×Unit)=>letI f1:=D.2;letI l:=f1.2.2.2;letI c:=l.2.2.2.2;letI b6:=c.2.2.2;letI p:=0<=f1.1/\f1.1<Int.ofNat (List.length b6.1);letI i:=List.getD b6.1 (Int.toNat f1.1) ([],(0,0),0,0,0);if decide (f1.1<D.1)=true then A.ae p (A.ae (c4 i.1).cr (A.ae p (A.pure (W.next (D.1,IntKind.wrap .i64 (Add.add f1.1 1),f1.2.1,f1.2.2.1,l.1,l.2.1,l.2.2.1,l.2.2.2.1,c.1,c.2.1,c.2.2.1,List.set b6.1 (Int.toNat f1.1) (A.val (c4 i.1) [],i.2),b6.2.1,()))))) else A.bind (A.pure (W.next (f1.2.1,f1.2.2.1,l.1,l.2.1,l.2.2.1,l.2.2.2.1,c.1,c.2.1,c.2.2.1,b6.1,b6.2.1,()))) λr=>A.pure (W.done r)) (Int.ofNat (List.length m.2.2.2.1),0,D.1,D.2.1,D.2.2.1,E.1,E.2.1,E.2.2.1,m.1,m.2.1,m.2.2.1,m.2.2.2.1,m.2.2.2.2.1,())) (W.bC (λ(D:Int×Int×Int×Int×z2'×List (List (Int×z1'×Int×Int))×z2'×z1'×List dm×List dB×z3'×Unit)=>letI q:=D.2.2.2.2.2;fin ((D.2.2.2.2.1,q.1,D.1,q.2.1),q.2.2.1,q.2.2.2.1,q.2.2.2.2.1,q.2.2.2.2.2.1,D.2.1))))))))))))))))))))
def iR(s:bJ):wk:=(s.1.1,s.1.2.1,s.1.2.2.1,s.2.2.2.2.2,s.1.2.2.2,s.2.1,s.2.2.1,s.2.2.2.1,s.2.2.2.2.1,())
def an3(c0:z2'->A (z2'))(bE:List (List (Int×z1'×Int×Int))->A (List (List (Int×z1'×Int×Int))))(c2:z2'->A (z2'))(c3:List (Int×z1'×Int×Int)×Unit->A (List (Int×z1'×Int×Int)×Unit))(c4:z1'->A (z1'))(c5:List dm->A (List dm))(lW:List dB->A (List dB))(oD:z3'->A (z3'))(x:bJ):A bJ:=Ir c0 bE c2 c3 c4 c5 lW oD x A.pure
def an4(c0:z2'->A (z2'))(bE:List (List (Int×z1'×Int×Int))->A (List (List (Int×z1'×Int×Int))))(c2:z2'->A (z2'))(c3:List (Int×z1'×Int×Int)×Unit->A (List (Int×z1'×Int×Int)×Unit))(c4:z1'->A (z1'))(c5:List dm->A (List dm))(lW:List dB->A (List dB))(oD:z3'->A (z3'))(x:bJ×Unit):A wk:=Ir c0 bE c2 c3 c4 c5 lW oD x.1 λs=>A.pure (iR s)
def Y_(O1:bJ->A Int)(an5:z2'×List (List (Int×z1'×Int×Int))×Int×z2'->A Bool)(x:bJ):A Bool:=
 A.bind (an5 x.1) λy=>if (y||decide (Int.ofNat (List.length x.2.1) > 40)||decide (Int.ofNat (List.length x.2.2.1) > 40)||decide (Int.ofNat (List.length x.2.2.2.1) > 40)||decide (Int.ofNat (List.length x.2.2.2.2.1) > 40))=true then A.pure true else A.bind (A.loop (λ(D:Int×bJ×Unit)=>letI c:=D.1<Int.ofNat (List.length D.2.1.2.2.1);if decide c=true then A.ae (0<=D.1/\c) (if decide (Int.ofNat (List.length (List.getD D.2.1.2.2.1 (Int.toNat D.1) (0,0,0,0,[])).2.2.2.2) > 40)=true then A.bind (A.bind (A.pure true) (λr=>A.pure (W.done r))) λr=>A.pure (W.done r) else A.pure (W.next (IntKind.wrap .i64 (Add.add D.1 1),D.2.1,()))) else A.bind (A.pure (W.next (D.2.1,()))) λr=>A.pure (W.done r)) (0,x,())) (W.bC (λ(D:(bx×z1'×List dm×List dB×z3'×Int)×Unit)=>A.bind (A.loop (λ(D:Int×(bx×z1'×List (Int×Int×Int×Int×z1')×List dB×z3'×Int)×Unit)=>letI b:=D.1<Int.ofNat (List.length D.2.1.2.2.2.1);if decide b=true then A.ae (0<=D.1/\b) (if decide (Int.ofNat (List.length (List.getD D.2.1.2.2.2.1 (Int.toNat D.1) ([],(0,0),0,0,0)).1) > 40)=true then A.bind (A.bind (A.pure true) (λr=>A.pure (W.done r))) λr=>A.pure (W.done r) else A.pure (W.next (IntKind.wrap .i64 (Add.add D.1 1),D.2.1,()))) else A.bind (A.pure (W.next (D.2.1,()))) λr=>A.pure (W.done r)) (0,D.1,())) (W.bC (λ(D:(bx×z1'×List dm×List (z1'×(Int×Int)×Int×Int×Int)×z3'×Int)×Unit)=>A.bind (O1 D.1) λy=>if decide (y≠0)=true then A.pure false else A.bind (A.loop (λ(D:Int×Int×(bx×z1'×List dm×List dB×z3'×Int)×Unit)=>letI d:=D.2.2.1;letI a:=D.2.1<Int.ofNat (List.length d.2.2.1);if decide a=true then A.ae (0<=D.2.1/\a) (A.pure (W.next (IntKind.wrap .i64 (Add.add D.1 (Int.ofNat (List.length (List.getD d.2.2.1 (Int.toNat D.2.1) (0,0,0,0,[])).2.2.2.2))),IntKind.wrap .i64 (Add.add D.2.1 1),d,()))) else A.bind (A.pure (W.next (D.1,d,()))) λr=>A.pure (W.done r)) (0,0,D.1,())) (W.bC (λ(D:Int×(bx×z1'×List dm×List (z1'×(Int×Int)×Int×Int×Int)×z3'×Int)×Unit)=>A.pure (decide (Int.ofNat (List.length D.2.1.2.2.2.1) > 3)||decide (Int.ofNat (List.length D.2.1.2.2.1) > 4)||decide (Int.ofNat (List.length D.2.1.2.2.2.2.1) > 3)||decide (D.1 > 4))))))))
def Y'(an6:Unit->A bx)(x:Unit):A (bJ):=
 A.bind (an6 ()) λy=>A.pure (y,[1,0,0,0],[(1,60,0,0,[0]),(1,60,7,0,[]),(2,65,0,1,[0]),(2,60,0,0,[0,1])],[([1],(55,65),7,3,500),([1,2],(60,60),0,5,400),([2],(60,70),9,8,700),([2],(65,65),0,5,300)],[(4,2,1),(6,3,1)],2)
abbrev bp:ad:=.int .i64
abbrev dj:ad:=.bool
abbrev fR:ad:=.slice bp
abbrev mI:ad:=.st (.aB bp bp)
abbrev kK:ad:=.st (.aB bp (.aB bp mI))
abbrev qJ:ad:=.st (.aB bp (.aB fR mI))
abbrev k9:ad:=.st (.slice qJ)
abbrev j0:ad:=.st (.aB bp (.aB bp (.aB bp bp)))
abbrev kL:ad:=.st (.aB (.slice kK) (.aB (.slice k9) (.aB bp (.slice j0))))
attribute [simp] qC Vv vN A.dF A.Fv A.Rp A.gQ A.fG A.od A.je A.lE A.b7 A.pG cp hO Vu W.ho
abbrev cq:aO:=⟨.aB bp (.aB bp bp),dj,λ_=>True,λx=>decide (x.2.1<=x.1)&&decide (x.1<=x.2.2)⟩
theorem an7(x):A.le (ajC x) (cq.sh x):=A.bw λ_=>rfl
abbrev o2:aO:=⟨.aB fR bp,dj,λx=>x.1.length<2 ^ 63,λx=>x.1.contains x.2⟩
abbrev Is:Type:=Int×Int×Int×Int
abbrev wo:Type:=Int×z1'×Int×Int
abbrev mM:Type:=Int×Int×Int×Int
def ht(w:bx):Prop:=w.1.length<2 ^ 63/\w.2.1.length<2 ^ 63/\w.2.2.2.length<2 ^ 63/\∀ m∈w.2.1,m.length<2 ^ 63/\∀ s∈m,s.2.1.length<2 ^ 63
def hb(w:bx)(n:Int):Bool:=decide (0<=n)&&decide (n<(w.1.length:Int))
def om(w:bx)(n:Int):Bool:=decide (0<=n)&&decide (n<(w.2.1.length:Int))
def jB(w:bx)(m:Int):List wo:=w.2.1.getD m.toNat []
def iU(w:bx)(m k:Int):Bool:=om w m&&(decide (0<=k)&&decide (k<((jB w m).length:Int)))
theorem uN{w:bx}{n:Int}:hb w n=true<->0<=n/\n<(w.1.length:Int):=by simp[hb]
theorem It{w:bx}{n:Int}:om w n=true<->0<=n/\n<(w.2.1.length:Int):=by simp[om]
theorem Bb{w:bx}{m k:Int}:iU w m k=true<->(0<=m/\m<(w.2.1.length:Int))/\0<=k/\k<((jB w m).length:Int):=by simp[iU,om]
theorem Iu{w:bx}(hw:ht w)(m:Int):(jB w m).length<2 ^ 63:=by
 unfold jB;rw[List.getD_eq_getElem?_getD];cases h:w.2.1[m.toNat]? with
 | none=>simp
 | some x=>exact (hw.2.2.2 x (List.mem_of_getElem? h)).1
theorem rP(n m:Int):decide (n<=m - 1)=decide (n<m):=by
 grind
abbrev pT:aO:=⟨.aB kL bp,dj,λx=>ht x.1,λx=>hb x.1 x.2⟩
theorem Za(w:bx)(n:Int)(h:ht w):Nu cq.sh (w,n)=A.pure (hb w n):=by
 unfold Nu;have al:=h.1;have hw:=bF (n:=(w.1.length:Int) - 1) (by omega) (by omega);simp[aO.sh,cq,hw,hb,rP]
theorem an8(x):A.le (Nu cq.sh x) (pT.sh x):=A.bw λh=>Za x.1 x.2 h
abbrev Bc:aO:=⟨.aB kL bp,dj,λx=>ht x.1,λx=>om x.1 x.2⟩
theorem an9(w:bx)(n:Int)(h:ht w):Nx cq.sh (w,n)=A.pure (om w n):=by
 unfold Nx;have al:=h.2.1;have hw:=bF (n:=(w.2.1.length:Int) - 1) (by omega) (by omega);simp[aO.sh,cq,hw,om,rP]
theorem an_(x):A.le (Nx cq.sh x) (Bc.sh x):=A.bw λh=>an9 x.1 x.2 h
abbrev rQ:aO:=⟨.aB kL (.aB bp bp),dj,λx=>ht x.1,λx=>iU x.1 x.2.1 x.2.2⟩
theorem Zb(w:bx)(m k:Int)(h:ht w):HN cq.sh Bc.sh (w,m,k)=A.pure (iU w m k):=by
 unfold HN;have al:=Iu h m;have hw:=bF (n:=((jB w m).length:Int) - 1) (by omega) (by omega);unfold jB at hw;simp only[aO.sh,cq,Bc,A.dF,A.je,bZ,hw,rP,A.bq h];rw[A.bq,A.bq (by simp)]
 ·simp only[iU,jB];simp
 ·intro hm;exact⟨⟨hm,hm⟩,It.1 hm,trivial⟩
theorem an'(x):A.le (HN cq.sh Bc.sh x) (rQ.sh x):=A.bw λh=>Zb x.1 x.2.1 x.2.2 h
def wq(s:Int×Int):Bool:=(decide (0<=s.1)&&decide (s.1<=s.2))&&decide (s.2<=999)
abbrev o5:aO:=⟨mI,dj,λ_=>True,wq⟩
theorem Zc(s:Int×Int):NA cq.sh s=A.pure (wq s):=by
 unfold NA;simp[aO.sh,cq,wq]
theorem aoa(x):A.le (NA cq.sh x) (o5.sh x):=A.bw λ_=>Zc x
def rL(l:z1'):Bool:=(List.range (l.length - 1)).all λi=>decide (l.getD i 0<l.getD (i+1) 0)
abbrev uO:aO:=⟨fR,dj,λx=>x.length<2 ^ 63,rL⟩
theorem Zd(l:z1')(h:l.length<2 ^ 63):Nw l=A.pure (rL l):=by
 unfold Nw;rw[A.ed (List.range (l.length - 1)) (λi (_:Unit)=>(l,((i+1:Nat):Int),())) (λi b=>if (decide (l.getD i 0<l.getD (i+1) 0))=true then .next b else .done (.done false)) (λ_=>.next ()) () ?_ ?_ ?_]
 ·rw[HI];unfold rL;cases (List.range (l.length - 1)).all λi=>decide (l.getD i 0<l.getD (i+1) 0)<;>simp
 ·simp
 ·intro i G b;have dM:i+1<l.length:=by grind
  have hw:=bF (n:=(i:Int)+1+1) (by omega) (by omega);have gZ:=bF (n:=(i:Int)+1 - 1) (by omega) (by omega);have az:((i:Int)+1).toNat=i+1:=by omega
  have aN:((i:Int)+1 - 1).toNat=i:=by omega
  have b8:(0:Int)<=(i:Int)+1/\(i:Int)+1<(l.length:Int):=by omega
  have cw:(0:Int)<=(i:Int)+1 - 1/\(i:Int)+1 - 1<(l.length:Int):=by omega
  simp only[bZ,Int.natCast_add,Int.cast_ofNat_Int,hw,gZ,b8,cw,A.bq,az,aN,cp,List.getElem_range,decide_eq_true_eq,if_true,A.aK,decide_true,and_self,Int.natCast_one];generalize l.getD i 0=aM;generalize l.getD (i+1) 0=B;by_cases hc:aM<B
  ·simp[hc,Int.not_le.2 hc]
  ·simp[hc,Int.not_lt.1 hc]
 ·intro b;have:¬(((List.range (l.length - 1)).length:Int)+1<(l.length:Int)):=by grind
  simp[this];omega
theorem aob(x):A.le (Nw x) (uO.sh x):=A.bw λh=>Zd x h
def qK(n:Int):Bool:=decide (0<=n)&&decide (n<=9)
def pU(s:wo):Bool:=s.2.1.all qK&&(qK s.1&&decide ((s.2.1.length:Int)<=4)&&rL s.2.1&&wq s.2.2)
def rR(s:Is):Bool:=qK s.1&&qK s.2.1&&wq s.2.2
def ta(w:bx)(t:mM):Bool:=hb w t.1&&iU w t.2.1 t.2.2.1&&(decide (0<=t.2.2.2)&&decide (t.2.2.2<=1))
def qL(m:List wo):Bool:=!decide ((m.length:Int) > 4)&&m.all pU
def wu(w:bx):Bool:=!(decide ((w.1.length:Int) > 10)||decide ((w.2.1.length:Int) > 6)||!(decide (0<=w.2.2.1)&&decide (w.2.2.1<=99))||decide ((w.2.2.2.length:Int) > 30))
def k_(w:bx):Bool:=wu w&&w.1.all rR&&w.2.1.all qL&&w.2.2.2.all (ta w)
abbrev tb:aO:=⟨qJ,dj,λx=>x.2.1.length<2 ^ 63,pU⟩
theorem aoc(s:wo)(h:s.2.1.length<2 ^ 63):NB uO.sh cq.sh o5.sh s=A.pure (pU s):=by
 unfold NB;rw[A.ed s.2.1 (λi (_:Unit)=>((i:Int),s,())) (λn b=>if qK n=true then .next b else .done (.done false)) (λ_=>.next (s,())) () ?_ ?_ ?_]
 ·rw[HI];unfold pU;cases s.2.1.all qK with
  | false=>simp
  | true=>
   simp only[aO.sh,cq,uO,o5,A.bq h,qK,if_true,A.aK,A.b7,A.dF,A.je,A.br,bZ,h,implies_true,Bool.true_and];simp
 ·rfl
 ·intro i G b;have hw:=bF (n:=(i:Int)+1) (by omega) (by omega);simp[aO.sh,cq,G,hw,qK];grind
 simp
theorem aod(x):A.le (NB uO.sh cq.sh o5.sh x) (tb.sh x):=A.bw λh=>aoc x h
abbrev tc:aO:=⟨kL,dj,ht,k_⟩
theorem aoe(w:bx)(h:ht w):Ny pT.sh rQ.sh cq.sh o5.sh tb.sh w=A.pure (k_ w):=by
 have aD:=h;obtain⟨E,U,ah,a6⟩:=h;unfold Ny;simp only[aO.sh,cq,A.je,A.dF,implies_true,A.br,bZ,qC];split
 ·rename_i hc;have:wu w=false:=by unfold wu;grind
  simp[k_,this]
 ·rename_i hc;have cV:wu w=true:=by unfold wu;grind
  have ays:w.2.1.length<=6:=by grind
  rw[A.ed w.1 (λi (_:Unit)=>((i:Int),w,())) (λn b=>if (!qK n.1||!qK n.2.1||!wq n.2.2)=true then .done (.done false) else .next b) (λ_=>.next (w,())) () ?_ ?_ ?_]
  ·rw[kZ (q:=rR) _ _ (λt=>by simp only[rR,Bool.not_and])];cases iv:w.1.all rR with
   | false=>simp[k_,iv]
   | true=>
    simp only[A.aK,if_true,A.b7];rw[A.ed w.2.1 (λi (_:Unit)=>((i:Int),w,())) (λm b=>if qL m=true then .next b else .done (.done false)) (λ_=>.next (w,())) () ?_ ?_ ?_]
    ·rw[HI];cases aU:w.2.1.all qL with
     | false=>simp[k_,aU]
     | true=>
      simp only[A.aK,if_true,A.b7];rw[A.ed w.2.2.2 (λi (_:Unit)=>((i:Int),w,())) (λt b=>if (!hb w t.1||!iU w t.2.1 t.2.2.1||!(decide (0<=t.2.2.2)&&decide (t.2.2.2<=1)))=true then .done (.done false) else .next b) (λ_=>.next ()) () ?_ ?_ ?_]
      ·rw[kZ (q:=ta w) _ _ (λt=>by simp only[ta,Bool.not_and])];cases jr:w.2.2.2.all (ta w)<;>simp[k_,iv,aU,jr,cV]
      ·rfl
      ·intro i G b;have hw:=bF (n:=(i:Int)+1) (by omega) (by omega);simp only[bZ,cX G,if_true,dk G,cP G,A.br,aO.sh,pT,rQ,A.dF,A.je,aD,implies_true,qC,A.aK,cp,hw];exact nn (mk:=λ_:Unit=>((i:Int)+1,w,()))
      simp
    ·rfl
    ·intro i G b;have hw:=bF (n:=(i:Int)+1) (by omega) (by omega);obtain⟨kj,pB⟩:=a6 w.2.1[i] (List.getElem_mem G);simp only[bZ,Int.ofNat_lt,G,decide_true,if_true,dk G,Int.natCast_nonneg,and_self,A.br];by_cases hlen:(w.2.1[i].length:Int) > 4
     ·simp[hlen,qL]
     ·simp only[hlen,decide_false,Bool.false_eq_true,if_false];rw[A.ed w.2.1[i] (λk (_:Unit)=>((i:Int),(k:Int),w,())) (λs b=>if (!pU s)=true then .done (.done (.done (.done false))) else .next b) (λ_=>.next ((i:Int),w,())) () ?_ ?_ ?_]
      ·rw[kZ (q:=pU) _ _ (λ_=>rfl)];cases O':w.2.1[i].all pU<;>simp[qL,O',hlen,hw]
      ·rfl
      ·intro k ak b;have me:=bF (n:=(k:Int)+1) (by omega) (by omega);have Bd:=pB w.2.1[i][k] (List.getElem_mem ak);simp only[bZ,cX ak,cX G,if_true,dk G,dk ak,cP G,cP ak,A.br,tb,A.dF,Bd,A.bq Bd,A.aK,cp,me];exact nn (mk:=λ_:Unit=>((i:Int),(k:Int)+1,w,()))
      simp_all
    simp
  ·rfl
  ·intro i G b;have hw:=bF (n:=(i:Int)+1) (by omega) (by omega);simp only[bZ,cX G,if_true,dk G,cP G,A.br,aO.sh,o5,A.dF,A.je,implies_true,qC,A.aK,cp,hw,Bool.not_not];exact nn (mk:=λ_:Unit=>((i:Int)+1,w,()))
  simp
theorem aof(x):A.le (Ny pT.sh rQ.sh cq.sh o5.sh tb.sh x) (tc.sh x):=A.bw λh=>aoe x h
abbrev qM:mM:=(0,0,0,0)
def nx(a b:mM):Bool:=decide (a.1=b.1)&&decide (a.2.1=b.2.1)&&decide (a.2.2.1=b.2.2.1)&&decide (a.2.2.2≠b.2.2.2)
def oc(l:List mM):Bool:=(List.range l.length).all λi=>(List.range i).all λk=>!nx (l.getD k qM) (l.getD i qM)
def b'(w:bx):Int:=if k_ w=true then (if oc w.2.2.2=true then 0 else 71) else 70
theorem Ze{a b:Nat}(h:a<b):((0:Int)<=(a:Int)/\(a:Int)<(b:Int))=True:=cP h
abbrev g_:aO:=⟨kL,bp,ht,b'⟩
theorem aog(w:bx)(h:ht w):Nv tc.sh w=A.pure (b' w):=by
 have aD:=h;obtain⟨E,U,ah,a6⟩:=h;unfold Nv;simp only[aO.sh,tc,A.dF,A.bq aD];unfold b';cases hw:k_ w with
 | false=>simp
 | true=>
  simp only[Bool.not_true,Bool.false_eq_true,if_false,if_true];rw[A.ed (List.range w.2.2.2.length) (λi (_:Unit)=>((i:Int),w,())) (λi b=>if (List.range i).any (λk=>nx (w.2.2.2.getD k qM) (w.2.2.2.getD i qM))=true then .done (.done (71:Int)) else .next b) (λ_=>.next ()) () ?_ ?_ ?_]
  ·rw[kZ (q:=λi=>(List.range i).all λk=>!nx (w.2.2.2.getD k qM) (w.2.2.2.getD i qM)) _ _ (λi=>Vx (λk=>by simp) _)];have e:((List.range w.2.2.2.length).all λi=>(List.range i).all λk=>!nx (w.2.2.2.getD k qM) (w.2.2.2.getD i qM))=oc w.2.2.2:=rfl;rw[e];cases oc w.2.2.2<;>simp
  ·rfl
  ·intro i G b;have G:i<w.2.2.2.length:=by grind
   have h7:=bF (n:=(i:Int)+1) (by omega) (by omega);simp only[bZ,cX G,if_true,List.getElem_range];rw[A.ed (List.range i) (λk (_:Unit)=>((i:Int),(k:Int),w,())) (λk b=>if nx (w.2.2.2.getD k qM) (w.2.2.2.getD i qM)=true then .done (.done (.done (.done (71:Int)))) else .next b) (λ_=>.next ((i:Int),w,())) () ?_ ?_ ?_]
   ·rw[sQ];cases (List.range i).any (λk=>nx (w.2.2.2.getD k qM) (w.2.2.2.getD i qM))<;>simp[h7]
   ·rfl
   ·intro k ak b;have ak:k<i:=by grind
    have v7:k<w.2.2.2.length:=by omega
    have me:=bF (n:=(k:Int)+1) (by omega) (by omega);simp only[cX ak,if_true,List.getElem_range,Ze v7,Ze G,A.br,Int.toNat_natCast,A.aK,cp,me];exact nn (mk:=λ_:Unit=>((i:Int),(k:Int)+1,w,()))
   simp
  simp
theorem aoh(x):A.le (Nv tc.sh x) (g_.sh x):=A.bw λh=>aog x h
def gK(w:bx)(i:Int):Is:=w.1.getD i.toNat (0,0,0,0)
def uP(w:bx)(m k:Int):wo:=(jB w m).getD k.toNat (0,[],0,0)
theorem aoi{w:bx}{i:Int}(h:hb w i=true):gK w i∈w.1:=by
 rw[uN]at h;exact x8 h.1 h.2
theorem Pa{w:bx}{m k:Int}(h:iU w m k=true):jB w m∈w.2.1:=by
 rw[Bb]at h;exact x8 h.1.1 h.1.2
theorem Zf{w:bx}{m k:Int}(h:iU w m k=true):uP w m k∈jB w m:=by
 rw[Bb]at h;exact x8 h.2.1 h.2.2
theorem Be{w:bx}(h:k_ w=true):wu w=true/\(∀ s∈w.1,rR s=true)/\(∀ m∈w.2.1,qL m=true)/\∀ t∈w.2.2.2,ta w t=true:=by
 simp only[k_,Bool.and_eq_true,List.all_eq_true]at h;grind
theorem EC{w:bx}(h:k_ w=true):w.1.length<=10/\w.2.1.length<=6/\(0<=w.2.2.1/\w.2.2.1<=99)/\w.2.2.2.length<=30:=by
 have:=(Be h).1;simp[wu]at this;omega
theorem aoj{w:bx}(h:k_ w=true){m k:Int}(hm:iU w m k=true):(jB w m).length<=4:=by
 have:=(Be h).2.2.1 _ (Pa hm);simp[qL]at this;omega
theorem aok{w:bx}(h:k_ w=true){m k:Int}(hm:iU w m k=true):pU (uP w m k)=true:=by
 have:=(Be h).2.2.1 _ (Pa hm);simp only[qL,Bool.and_eq_true,List.all_eq_true]at this;exact this.2 _ (Zf hm)
theorem aol{s:wo}(h:pU s=true):0<=s.2.2.1/\s.2.2.1<=s.2.2.2/\s.2.2.2<=999:=by
 simp only[pU,wq,Bool.and_eq_true,decide_eq_true_eq]at h;omega
theorem Zg{w:bx}(h:k_ w=true){i:Int}(G:hb w i=true):0<=(gK w i).2.2.1/\(gK w i).2.2.1<=(gK w i).2.2.2/\(gK w i).2.2.2<=999:=by
 have:=(Be h).2.1 _ (aoi G);simp only[rR,wq,Bool.and_eq_true,decide_eq_true_eq]at this;omega
theorem aom{w:bx}(h:k_ w=true){t:mM}(aF:t∈w.2.2.2):hb w t.1=true/\iU w t.2.1 t.2.2.1=true:=by
 have:=(Be h).2.2.2 _ aF;simp only[ta,Bool.and_eq_true]at this;grind
def wv(w:bx)(i n m k:Int):Bool:=
 decide ((gK w i).1=(uP w m k).1)&&(uP w m k).2.1.contains (gK w i).2.1&&(decide ((uP w m k).2.2.1<=n)&&decide (n<=(uP w m k).2.2.2+w.2.2.1))
def qN(w:bx):Prop:=ht w/\k_ w=true
abbrev ED:aO:=⟨.aB kL (.aB bp (.aB bp (.aB bp bp))),dj,λx=>qN x.1/\hb x.1 x.2.1=true/\iU x.1 x.2.2.2.1 x.2.2.2.2=true,λx=>wv x.1 x.2.1 x.2.2.1 x.2.2.2.1 x.2.2.2.2⟩
theorem aon(w:bx)(i n m k:Int)(hw:qN w)(G:hb w i=true)(hm:iU w m k=true):VG o2.sh cq.sh (w,i,n,m,k)=A.pure (wv w i n m k):=by
 unfold VG;have b8:=uN.1 G;have cw:=Bb.1 hm;have fp:=aol (aok hw.2 hm);have Sc:=(EC hw.2).2.2.1;have Bd:(uP w m k).2.1.length<2 ^ 63:=(hw.1.2.2.2 _ (Pa hm)).2 _ (Zf hm);have h7:=bF (n:=(uP w m k).2.2.2+w.2.2.1) (by omega) (by omega);unfold wv;simp only[uP,jB,gK]at *
 simp only[aO.sh,o2,cq,A.je,A.dF,bZ,b8,cw,and_self,A.br,implies_true,cp,h7,vN,A.bq (λ_=>Bd),Bd];rfl
def uQ(w:bx)(i n:Int)(t:mM):Bool:=!(decide (t.1=i)&&!decide (wv w i n t.2.1 t.2.2.1=decide (t.2.2.2=1)))
def Pb(w:bx)(i n:Int):Bool:=w.2.2.2.all (uQ w i n)&&(decide ((gK w i).2.2.1<=n)&&decide (n<=(gK w i).2.2.2))
def hd(w:bx)(i:Int):z1':=(d_ (gK w i).2.2.1 (gK w i).2.2.2).filter (Pb w i)
theorem Zh{w:bx}{i:Int}(hw:qN w)(G:hb w i=true):(hd w i).length<=1000:=by
 have:=Zg hw.2 G;have U:=List.length_filter_le (Pb w i) (d_ (gK w i).2.2.1 (gK w i).2.2.2);rw[x9]at U;unfold hd;omega
theorem aoo{w:bx}{i:Nat}(h:i<w.1.length):hb w (i:Int)=true:=by rw[uN];omega
def wx(w:bx):Bool:=(List.range w.1.length).all λi=>!decide (((hd w (i:Int)).length:Int)=0)
def ey(w:bx)(cb:Bool):Int:=if b' w≠0 then b' w else if cb=false then 1 else if wx w=true then 0 else 3
theorem Pc{w:bx}(h:b' w=0):k_ w=true:=by
 unfold b' at h;grind
theorem EE{w:bx}{cb:Bool}(h:ey w cb=0):b' w=0/\cb=true/\wx w=true:=by
 unfold ey at h;grind
theorem Zi{w:bx}{cb:Bool}(aD:ht w)(h:ey w cb=0):qN w:=⟨aD,Pc (EE h).1⟩
theorem aop{w:bx}(h:wx w=true){i:Int}(G:hb w i=true):0<(hd w i).length:=by
 rw[uN]at G;have:=List.all_eq_true.1 h i.toNat (by grind);grind
def wy(w:bx)(i:Int):(Int×Int)×Int:=if ey w (hb w i)≠0 then ((0,0),ey w (hb w i)) else (((hd w i).getD 0 0,(hd w i).getD ((hd w i).length - 1) 0),0)
abbrev yy:aO:=⟨.aB kL bp,.aB mI bp,λx=>ht x.1,λx=>wy x.1 x.2⟩
def Iv(some many:Int):Int:=if some=many then 1 else if some=0 then 2 else 3
abbrev Iw:aO:=⟨.aB bp bp,bp,λ_=>True,λx=>Iv x.1 x.2⟩
theorem Zj{an:Type}{p:an->Bool}:∀ (l:List an) (n:Int),l.foldl (λn x=>if p x=true then n+1 else n) n=n+(l.countP p:Int)
 | [],n=>by simp
 | x::l,n=>by
  simp only[List.foldl_cons,List.countP_cons];rw[Zj l];grind
def uR(w:bx)(i m k:Int):Int:=Iv ((hd w i).countP λn=>wv w i n m k:Int) ((hd w i).length:Int)
def qO(w:bx)(i m k:Int):Int×Int:=if ey w (hb w i&&iU w m k)≠0 then (0,ey w (hb w i&&iU w m k)) else (uR w i m k,0)
abbrev Bf:aO:=⟨.aB kL (.aB bp (.aB bp bp)),.aB bp bp,λx=>ht x.1,λx=>qO x.1 x.2.1 x.2.2.1 x.2.2.2⟩
section
variable {an:Type}
def yd(d:an)(x:List an×(an->A Bool)):A Int:=
 A.bind (A.loop (λ(D:List an×(an->A Bool)×Int×Int×Unit)=>if decide (D.2.2.2.1<D.2.2.1)=true then A.ae (0<=D.2.2.2.1/\
 D.2.2.2.1<Int.ofNat (List.length D.1)) (A.bind (D.2.1 (List.getD D.1 (Int.toNat D.2.2.2.1) d)) λy=>if y=true then A.bind (A.bind (A.pure
 D.2.2.2.1) λr=>A.pure (W.done r)) λr=>A.pure (W.done r) else A.pure (W.next (D.1,D.2.1,D.2.2.1,IntKind.wrap .i64 (Add.add
 D.2.2.2.1 1),()))) else A.bind (A.pure (W.next ())) λr=>A.pure (W.done r)) (x.1,x.2,Int.ofNat (List.length x.1),0,())) (W.bC λ(D
 : Unit)=>A.pure (-1))
def Ea(c:List an×(an->A Bool)->A Int)(x:List an×(an->A Bool)):A Bool:=A.bind (c x) λy=>A.pure (decide (y>=0))
def Zk(c:List an×(an->A Bool)->A Bool)(bE:an×Option (an->A Bool)->A Bool)(x:List an×(an->A Bool)):A Bool:=
 A.bind (c (x.1,λhB=>bE (hB,some x.2))) λy=>A.pure !y
def Zl(x:an×Option (an->A Bool)):A Bool:=A.bind (Option.getD x.2 (λx=>{ cr:=False,bM:=λx=>False }) x.1) λy=>A.pure !y
def hS(p:an->Bool):List an->Int->Int
 | [],_=>-1
 | x::l,i=>if p x=true then i else hS p l (i+1)
theorem AJ(p:an->Bool):∀ (l:List an) (i:Int),0<=i->(decide (hS p l i>=0))=l.any p
 | [],i,_=>by rfl
 | x::l,i,h=>by
  simp only[hS,List.any_cons];by_cases ai:p x=true
  ·grind
  ·have:=AJ p l (i+1) (by omega);grind
theorem AK(p:an->Bool):∀ (l:List an) (i:Int),e1 (λx (i:Int)=>if p x=true then (.done (.done i):W Int (W Unit Int)) else .next (i+1)) (λ_=>.next ()) l i=if l.any p=true then .done (hS p l i) else .next ()
 | [],i=>by rfl
 | x::l,i=>by
  simp only[e1,List.any_cons,hS];by_cases ai:p x=true
  ·grind
  ·have:=AK p l (i+1);grind
theorem Eb{p:an->Bool}:∀ (l:List an) (i:Int),¬l.any p=true->hS p l i=-1
 | [],_,_=>rfl
 | x::l,i,ax=>by
  simp only[List.any_cons,Bool.or_eq_true,not_or]at ax;simp only[hS,ax.1,Bool.false_eq_true,if_false];exact Eb l _ ax.2
theorem Oe(d:an)(l:List an)(f:an->A Bool)(h:l.length<2 ^ 63)(ao:∀ y∈l,∃ b,f y=A.pure b):yd d (l,f)=A.pure (hS (λy=>(f y).val false) l 0):=by
 unfold yd;rw[A.f_ l (λi (b:Int)=>(l,f,(l.length:Int),b,())) (λy (i:Int)=>if (f y).val false=true then (.done (.done i):W Int (W Unit Int)) else .next (i+1)) (λ_=>.next ()) (λi b=>b=(i:Int)) 0 ?_ ?_ ?_ ?_]
 ·rw[AK (λy=>(f y).val false)];by_cases a_:(l.any λy=>(f y).val false)=true
  ·simp[a_]
  ·have:hS (λy=>(f y).val false) l 0=-1:=by
    have:∀ (l:List an) (i:Int),¬(l.any λy=>(f y).val false)=true->hS (λy=>(f y).val false) l i=-1:=by
     intro l;induction l with
     | nil=>intro i _;rfl
     | cons x l aL=>
      intro i ax;simp only[List.any_cons,Bool.or_eq_true,not_or]at ax;simp only[hS,ax.1,Bool.false_eq_true,if_false];grind
    grind
   simp[a_,this]
 ·rfl
 ·rfl
 ·intro i G b aa;subst aa;have hw:=bF (n:=(i:Int)+1) (by omega) (by omega);refine⟨?_,λbe cY=>?_⟩
  ·obtain⟨b,aa⟩:=ao _ (List.getElem_mem G);simp only[bZ,cX G,if_true,dk G,cP G,A.br,aa,A.fG,A.aK,cp,hw];split<;>rfl
  grind
 simp
end
abbrev k4(e:ad):aO:=⟨.aB (.slice e) (.fn e .bool),bp,λx=>x.1.length<2 ^ 63/\∀ y∈x.1,∃ b,x.2 y=A.pure b,λx=>hS (λy=>(x.2 y).val false) x.1 0⟩
theorem sW(e:ad)(x):A.le (yd e.df x) ((k4 e).sh x):=A.bw λh=>Oe e.df x.1 x.2 h.1 h.2
abbrev jf(e:ad):aO:=⟨.aB (.slice e) (.fn e .bool),dj,λx=>x.1.length<2 ^ 63/\∀ y∈x.1,∃ b,x.2 y=A.pure b,λx=>x.1.any λy=>(x.2 y).val false⟩
theorem sX(e:ad)(x):A.le (Ea (k4 e).sh x) ((jf e).sh x):=A.bw λh=>by
 unfold Ea;simp only[aO.sh,k4,A.dF];rw[A.bq (by exact h)];exact congrArg A.pure (AJ (λy=>(x.2 y).val false) x.1 0 (by omega))
abbrev wz(e:ad):aO:=⟨.aB e (.bG (.fn e .bool)),dj,λx=>∃ f,x.2=some f/\∃ b,f x.1=A.pure b,λx=>!((x.2.getD λ_=>A.fail) x.1).val false⟩
theorem EF(e:ad)(x):A.le (Zl x) ((wz e).sh x):=A.bw λh=>by
 obtain⟨y,o⟩:=x;obtain⟨f,ao,b,aa⟩:=h;change o=some f at ao;subst ao;change f y=A.pure b at aa;unfold Zl;simp_all
abbrev jC(e:ad):aO:=⟨.aB (.slice e) (.fn e .bool),dj,λx=>x.1.length<2 ^ 63/\∀ y∈x.1,∃ b,x.2 y=A.pure b,λx=>x.1.all λy=>(x.2 y).val false⟩
theorem EG(e:ad)(x):A.le (Zk (jf e).sh (wz e).sh x) ((jC e).sh x):=A.bw λh=>by
 obtain⟨l,f⟩:=x;obtain⟨E,U⟩:=h;unfold Zk;have hc:∀ y∈l,(wz e).sh (y,some f)=A.pure (!(f y).val false):=λy aT=>by
  obtain⟨b,aa⟩:=U y aT;exact A.bR ⟨f,rfl,b,aa⟩ _
 simp only[aO.sh,jf,A.dF];rw[A.bq ⟨E,λy aT=>⟨_,hc y aT⟩⟩];refine congrArg A.pure ?_;rw[List.not_any_eq_all_not];simp
end Go.Fer
namespace Go.Fer
open A (W)
theorem Ix{an:Type}{p q:an->Bool}:∀ {l:List an},(∀ x∈l,p x=q x)->l.all p=l.all q
 | [],_=>rfl
 | x::l,h=>by
  grind
theorem aoq(x):A.le (ajV x) (cq.sh x):=A.bw λ_=>rfl
theorem aor(x):A.le (ajW cq.sh x) (o5.sh x):=A.bw λ_=>Zc x
abbrev yz:aO:=⟨bp,dj,λ_=>True,qK⟩
theorem aos(x):A.le (VN cq.sh x) (yz.sh x):=A.bw λ_=>by
 unfold VN;simp only[aO.sh,cq,A.dF,A.br,yz,qK]
theorem aot(x):A.le (ajS cq.sh x) (pT.sh x):=A.bw λh=>Za x.1 x.2 h
theorem aou(x):A.le (VL cq.sh x) (rQ.sh x):=A.bw λh=>by
 obtain⟨w,m,k⟩:=x;change ht w at h;have:=Zb w m k h;unfold HN at this;unfold VL;simp only[aO.sh,Bc,A.dF,A.bq h,cq,A.br,bZ]at this ⊢;have al:=h.2.1;have hw:=bF (n:=(w.2.1.length:Int) - 1) (by omega) (by omega);simp only[hw,rP];exact this
theorem aov(x):A.le (ajU x) (uO.sh x):=A.bw λh=>Zd x h
theorem aow(l:z1')(n:Int)(h:l.length<2 ^ 63):NC (l,n)=A.pure (hS (λy=>decide (n=y)) l 0):=by
 unfold NC;rw[A.f_ l (λi (b:Int)=>(l,n,(l.length:Int),b,())) (λy (i:Int)=>if decide (n=y)=true then (.done (.done i):W Int (W Unit Int)) else .next (i+1)) (λ_=>.next ()) (λi b=>b=(i:Int)) 0 ?_ ?_ ?_ ?_]
 ·rw[AK (λy=>decide (n=y))];by_cases a_:(l.any λy=>decide (n=y))=true
  ·simp_all
  ·rw[if_neg a_,Eb l 0 a_];simp
 ·rfl
 ·rfl
 ·intro i G b aa;subst aa;have hw:=bF (n:=(i:Int)+1) (by omega) (by omega);refine⟨?_,λbe cY=>?_⟩
  ·simp only[bZ,cX G,if_true,dk G,cP G,A.br,A.aK,cp,hw];split<;>rfl
  grind
 simp
abbrev Iy:aO:=⟨.aB fR bp,bp,λx=>x.1.length<2 ^ 63,λx=>hS (λy=>decide (x.2=y)) x.1 0⟩
theorem aox(x):A.le (NC x) (Iy.sh x):=A.bw λh=>aow x.1 x.2 h
theorem aoy(x):A.le (VI Iy.sh x) (o2.sh x):=A.bw λh=>by
 unfold VI;simp only[aO.sh,Iy,A.dF];rw[A.bq (by exact h),AJ _ _ _ (by omega)];grind
theorem aoz(x):A.le (VM yz.sh o5.sh x) ((⟨kK,dj,λ_=>True,rR⟩:aO).sh x):=A.bw λ_=>by
 unfold VM;simp only[aO.sh,yz,o5,A.dF,A.je,A.br,implies_true,vN,rR]
abbrev Iz:aO:=⟨kK,dj,λ_=>True,rR⟩
theorem aoA(x):A.le (VO uO.sh (jC bp).sh yz.sh o5.sh x) (tb.sh x):=A.bw λh=>by
 unfold VO;simp only[aO.sh,uO,o5,jC,yz,A.dF,A.je,A.br,implies_true,A.gQ];rw[A.bq (by exact λ_=>⟨h,λy _=>⟨_,A.bR trivial _⟩⟩),A.bq (by omega)];simp only[vN,bZ];refine congrArg A.pure ?_;show _=pU x;unfold pU;grind
abbrev Bg:aO:=⟨.aB k9 (.bG (.fn qJ .bool)),dj,λx=>∃ f,x.2=some f/\x.1.length<2 ^ 63/\∀ y∈x.1,∃ b,f y=A.pure b,λx=>decide ((x.1.length:Int)<=4)&&x.1.all λy=>((x.2.getD λ_=>A.fail) y).val false⟩
theorem aoB(x):A.le (VP (jC qJ).sh x) (Bg.sh x):=A.bw λh=>by
 obtain⟨m,o⟩:=x;obtain⟨f,ao,E,U⟩:=h;change o=some f at ao;subst ao;unfold VP;simp only[aO.sh,jC,A.dF,A.je,Option.getD_some];simp_all
abbrev Bh:aO:=⟨.aB j0 (.bG kL),dj,λx=>∃ w,x.2=some w/\ht w,λx=>ta (x.2.getD ([],[],0,[])) x.1⟩
theorem aoC(x):A.le (VQ pT.sh rQ.sh cq.sh x) (Bh.sh x):=A.bw λh=>by
 obtain⟨t,o⟩:=x;obtain⟨w,ao,E⟩:=h;change o=some w at ao;subst ao;unfold VQ;simp only[aO.sh,pT,rQ,cq,A.dF,A.je,Option.getD_some,A.bq E,E,implies_true,A.br,vN,Bh,ta]
theorem aoD(x):A.le (VK cq.sh (jC kK).sh (jC k9).sh (jC j0).sh Bg.sh Bh.sh Iz.sh tb.sh x) (tc.sh x):=A.bw λh=>by
 have aY:ht x:=h;obtain⟨E,U,ah,a6⟩:=(h:ht x)
 unfold VK;have d1:∀ s,Iz.sh s=A.pure (rR s):=λ_=>rfl;have d2:∀ m∈x.2.1,Bg.sh (m,some tb.sh)=A.pure (qL m):=λm hm=>by
  refine (A.bR ⟨_,rfl,(a6 m hm).1,λy aT=>⟨_,A.bR ((a6 m hm).2 y aT) _⟩⟩ _).trans (congrArg A.pure ?_);simp only[Bg,Option.getD_some,qL,aO.sh,A.gQ];grind
 have d3:∀ t,Bh.sh (t,some x)=A.pure (ta x t):=λt=>A.bR ⟨_,rfl,aY⟩ _;have b6:(x.1.all λy=>(Iz.sh y).val false)=x.1.all rR:=Ix λs _=>A.gQ;have a2:(x.2.1.all λy=>(Bg.sh (y,some tb.sh)).val false)=x.2.1.all qL:=Ix λm hm=>(congrArg (λz:A Bool=>z.val false) (d2 m hm)).trans A.fG;have a3:(x.2.2.2.all λy=>(Bh.sh (y,some x)).val false)=x.2.2.2.all (ta x):=Ix λt _=>A.gQ;have az:∀ y,(jC kK).sh y=A.dR ((jC kK).pre y) ((jC kK).g y):=λ_=>rfl;have aN:∀ y,(jC k9).sh y=A.dR ((jC k9).pre y) ((jC k9).g y):=λ_=>rfl;have cL:∀ y,(jC j0).sh y=A.dR ((jC j0).pre y) ((jC j0).g y):=λ_=>rfl;have ee:∀ y,cq.sh y=A.pure (cq.g y):=λ_=>rfl;simp only[az,aN,cL,ee,A.dF,A.je,A.lE,A.aK];rw[A.bq (by grind),A.bq (by grind),A.bq (by exact λ_=>⟨ah,λy _=>⟨_,d3 y⟩⟩)];simp only[vN,bZ];refine congrArg A.pure ?_;show _=k_ x;rw[b6,a2,a3];unfold k_ wu;grind
def o6(m:z5')(k:Int×Int×Int):Option Int:=Option.map (λx=>x.2) (List.find? (λp=>decide (k.1=p.1.1)&&(decide (k.2.1=p.1.2.1)&&decide (k.2.2=p.1.2.2))) m)
def uS(m:z4')(k:Int):Option Int:=Option.map (λx=>x.2) (List.find? (λp=>decide (k=p.1)) m)
theorem IA{a b:Int×Int×Int}:(decide (a.1=b.1)&&(decide (a.2.1=b.2.1)&&decide (a.2.2=b.2.2)))=decide (a=b):=by
 grind
theorem aoE(k):o6 [] k=none:=rfl
theorem Zm(k:Int×Int×Int)(v:Int)(k':Int×Int×Int):∀ m,o6 (vP m k v) k'=if k'=k then some v else o6 m k'
 | []=>by
  show o6 [(k,v)] k'=_;by_cases h:k'=k<;>simp[o6,IA,h]
 | p::m=>by
  have aL:=Zm k v k' m;show o6 (if (decide (k.1=p.1.1)&&(decide (k.2.1=p.1.2.1)&&decide (k.2.2=p.1.2.2)))=true then (p.1,v)::m else p::vP m k v) k'=_;rw[IA];by_cases h:k=p.1
  ·subst h;by_cases dw:k'=p.1<;>simp[o6,IA,dw]
  ·simp only[h,decide_false,Bool.false_eq_true,if_false];simp only[o6,IA,List.find?_cons]at aL ⊢;grind
theorem Zn(k v k':Int):∀ m,uS (ff m k v) k'=if k'=k then some v else uS m k'
 | []=>by
  show uS [(k,v)] k'=_;by_cases h:k'=k<;>simp[uS,h]
 | p::m=>by
  have aL:=Zn k v k' m;show uS (if decide (k=p.1)=true then (p.1,v)::m else p::ff m k v) k'=_;by_cases h:k=p.1
  ·subst h;by_cases dw:k'=p.1<;>simp[uS,dw]
  ·simp only[h,decide_false,Bool.false_eq_true,if_false];simp only[uS,List.find?_cons]at aL ⊢;grind
def pV(t:mM):Int×Int×Int:=(t.1,t.2.1,t.2.2.1)
theorem IB{a b:mM}:nx a b=true<->pV a=pV b/\a.2.2.2≠b.2.2.2:=by
 simp only[nx,Bool.and_eq_true,decide_eq_true_eq,pV,Prod.mk.injEq];omega
theorem Zo(l:List mM):oc l=true<->l.Pairwise λa b=>nx a b=false:=by
 unfold oc;rw[List.pairwise_iff_getElem];simp only[List.all_eq_true,List.mem_range,Bool.not_eq_true'];grind
def IC(m:z5')(pre:List mM):Prop:=∀ k v,o6 m k=some v<->(∃ t∈pre,pV t=k/\t.2.2.2=v)
def EH(m:z5')(t:mM):Bool:=Option.isSome (o6 m (pV t))&&decide (Option.getD (o6 m (pV t)) 0≠t.2.2.2)
theorem Zp{m pre}(h:IC m pre)(aq:pre.Pairwise λa b=>nx a b=false)(t:mM):EH m t=true<->∃ a∈pre,nx a t=true:=by
 unfold EH;cases al:o6 m (pV t) with
 | none=>
  simp only[Option.isSome_none,Bool.false_and,Bool.false_eq_true,false_iff];rintro⟨a,a_,hc⟩;have:=(h (pV t) a.2.2.2).2 ⟨a,a_,(IB.1 hc).1,rfl⟩;grind
 | some v=>
  simp only[Option.isSome_some,Bool.true_and,Option.getD_some,decide_eq_true_eq];obtain⟨b,aa,ak,af⟩:=(h _ _).1 al;constructor
  ·intro eQ;exact⟨b,aa,IB.2 ⟨ak,by omega⟩⟩
  ·rintro⟨a,a_,hc⟩ rfl;obtain⟨bE,c2⟩:=IB.1 hc;have:=(h (pV t) a.2.2.2).2 ⟨a,a_,bE,rfl⟩;grind
theorem aoF{m pre}(h:IC m pre){t:mM}(aa:∀ a∈pre,nx a t=false):IC (vP m (pV t) t.2.2.2) (pre++[t]):=by
 intro k v;rw[Zm];by_cases ak:k=pV t
 ·rw[if_pos ak];constructor
  ·grind
  ·rintro⟨a,a_,E,U⟩;rcases List.mem_append.1 a_ with a_ | a_
   ·have hc:=aa a a_;have:¬nx a t=true:=by grind
    rw[IB]at this;grind
   grind
 ·rw[if_neg ak,h];grind
theorem Zq:∀ (cj:List mM) (m) (pre:List mM),IC m pre->(pre.Pairwise λa b=>nx a b=false)->
  e1 (λt m=>if EH m t=true then (.done (.done 71):W _ (W Unit Int)) else .next (vP m (pV t) t.2.2.2)) (λ_=>.next ()) cj m=if oc (pre++cj)=true then .next () else .done 71
 | [],m,pre,h,aq=>by
  have:=(Zo pre).2 aq;simp[e1,this]
 | t::cj,m,pre,h,aq=>by
  simp only[e1];by_cases aa:EH m t=true
  ·simp only[aa,if_true];obtain⟨a,a_,hc⟩:=(Zp h aq t).1 aa;have:¬oc (pre++t::cj)=true:=by
    rw[Zo,List.pairwise_append];grind
   grind
  ·have ax:∀ a∈pre,nx a t=false:=λa a_=>by
    have:=λhc=>aa ((Zp h aq t).2 ⟨a,a_,hc⟩);grind
   simp only[aa,Bool.false_eq_true,if_false];have Cg:(pre++[t]).Pairwise λa b=>nx a b=false:=by
    grind
   have:=Zq cj _ (pre++[t]) (aoF h ax) Cg;grind
theorem aoG(w:bx)(h:ht w):ND tc.sh w=A.pure (b' w):=by
 have aD:=h;obtain⟨E,U,ah,a6⟩:=h;unfold ND;simp only[aO.sh,tc,A.dF,A.bq aD];unfold b';cases hw:k_ w with
 | false=>simp
 | true=>
  simp only[Bool.not_true,Bool.false_eq_true,if_false,if_true];rw[A.ed w.2.2.2 (λi (m:z5')=>(w.2.2.2,(w.2.2.2.length:Int),(i:Int),m,())) (λt m=>if EH m t=true then (.done (.done 71):W _ (W Unit Int)) else .next (vP m (pV t) t.2.2.2)) (λ_=>.next ()) [] ?_ ?_ ?_]
  ·rw[Zq w.2.2.2 [] [] (λk v=>by simp[aoE]) (by simp)];simp only[List.nil_append];by_cases aF:oc w.2.2.2=true<;>simp[aF]
  ·rfl
  ·intro i G m;have h7:=bF (n:=(i:Int)+1) (by omega) (by omega);simp only[bZ,cX G,if_true,dk G,cP G,A.br,A.aK,cp,h7];exact Vy (mk:=λm=>(w.2.2.2,(w.2.2.2.length:Int),(i:Int)+1,m,()))
  simp
theorem aoH(x):A.le (ND tc.sh x) (g_.sh x):=A.bw λh=>aoG x h
theorem aoI(w:bx)(i n m k:Int)(hw:qN w)(G:hb w i=true)(hm:iU w m k=true):VS cq.sh o2.sh (w,i,n,m,k)=A.pure (wv w i n m k):=aon w i n m k hw G hm
theorem aoJ(x):A.le (VS cq.sh o2.sh x) (ED.sh x):=A.bw λh=>aoI x.1 x.2.1 x.2.2.1 x.2.2.2.1 x.2.2.2.2 h.1 h.2.1 h.2.2
abbrev yA:aO:=⟨.aB j0 (.aB (.bG bp) (.aB (.bG kL) (.bG bp))),dj,λx=>∃ i w n,x.2=(some i,some w,some n)/\qN w/\hb w i=true/\iU w x.1.2.1 x.1.2.2.1=true,λx=>uQ (x.2.2.1.getD ([],[],0,[])) (x.2.1.getD 0) (x.2.2.2.getD 0) x.1⟩
theorem aoK(x):A.le (VR ED.sh x) (yA.sh x):=A.bw λh=>by
 obtain⟨t,o⟩:=x;obtain⟨i,w,n,ao,hw,G,hm⟩:=h;change o=_ at ao;subst ao;unfold VR;simp only[aO.sh,A.od,A.gQ,Option.getD_some,and_true,true_and,and_self,imp_self,A.br,ne_eq];by_cases aF:t.1=i
 ·have aq:qN w/\hb w i=true/\iU w t.2.1 t.2.2.1=true:=⟨hw,G,hm⟩
  simp[uQ,aF,aq,A.bq aq]
 ·simp[uQ,aF]
def pW(w:bx):List (z1'):=(List.range w.1.length).map λ(i:Nat)=>hd w (i:Int)
def ij(w:bx)(cb:Bool):Option qD×Int:=if ey w cb≠0 then (none,ey w cb) else (some (w,pW w),0)
abbrev Bi:aO:=⟨.aB kL dj,.aB (.bG (.st (.aB kL (.slice fR)))) bp,λx=>ht x.1,λx=>ij x.1 x.2⟩
theorem aoL{w:bx}{i:Int}:hd w i=(d_ (gK w i).2.2.1 (gK w i).2.2.2).filter λn=>w.2.2.2.all (uQ w i n):=by
 unfold hd;refine List.filter_congr λn ax=>?_;rw[oW]at ax;simp[Pb,ax]
theorem Zr{w:bx}:∀ (l:List Nat) (acc:List (z1')),e1 (λ(i:Nat) (acc:List (z1'))=>if decide (((hd w (i:Int)).length:Int)=0)=true then (.done (.done (none,(3:Int))):W _ (W (List Is×List (List wo)×Int×List mM×List (z1')×Unit) (Option qD×Int))) else .next (acc++[hd w (i:Int)])) (λacc=>.next (w.1,w.2.1,w.2.2.1,w.2.2.2,acc,())) l acc
  =if (l.all λ(i:Nat)=>!decide (((hd w (i:Int)).length:Int)=0))=true then .next (w.1,w.2.1,w.2.2.1,w.2.2.2,acc++l.map (λ(i:Nat)=>hd w (i:Int)),()) else .done (none,3)
 | [],acc=>by simp[e1]
 | i::l,acc=>by
  simp only[e1,List.all_cons,List.map_cons];by_cases h:((hd w (i:Int)).length:Int)=0
  ·simp[h]
  ·simp only[h,decide_false,Bool.false_eq_true,if_false,Bool.not_false,Bool.true_and];rw[Zr l];simp
theorem aoM(w:bx)(cb:Bool)(h:ht w):NI g_.sh (jC j0).sh yA.sh (w,cb)=A.pure (ij w cb):=by
 unfold NI ij ey;simp only[aO.sh,A.dF,A.bq h];by_cases hc:b' w=0
 ·have hw:qN w:=⟨h,Pc hc⟩
  have aoN:=EC hw.2;simp only[hc,ne_eq,not_true,decide_false,Bool.false_eq_true,if_false];cases cb with
  | false=>simp
  | true=>
   simp only[Bool.not_true,Bool.false_eq_true,if_false,Bool.true_eq_false];rw[A.f_ (List.range w.1.length) (λi (acc:List (z1'))=>(w.1,(w.1.length:Int),(i:Int),w,w.1,w.2.1,w.2.2.1,w.2.2.2,acc,())) (λ(i:Nat) (acc:List (z1'))=>if decide (((hd w (i:Int)).length:Int)=0)=true then (.done (.done (none,(3:Int))):W _ (W (List Is×List (List wo)×Int×List mM×List (z1')×Unit) (Option qD×Int))) else .next (acc++[hd w (i:Int)])) (λacc=>.next (w.1,w.2.1,w.2.2.1,w.2.2.2,acc,())) (λi acc=>acc.length<=i) [] ?_ ?_ ?_ ?_]
   ·rw[Zr];have e:((List.range w.1.length).all λ(i:Nat)=>!decide (((hd w (i:Int)).length:Int)=0))=wx w:=rfl;rw[e];by_cases aF:wx w=true<;>simp[aF,pW]
   ·rfl
   ·simp
   ·intro i G acc Pd;have G:i<w.1.length:=by grind
    have n':=aoo G;have al:=Zg hw.2 n';have h7:=bF (n:=(i:Int)+1) (by omega) (by omega);have ay:w.1[i]=gK w (i:Int):=by simp[gK,List.getD_eq_getElem?_getD,G]
    refine⟨?_,λbe aa=>?_⟩
    ·simp only[bZ,cX G,if_true,dk G,cP G,A.br,ay,List.getElem_range];rw[A.f_ (d_ (gK w (i:Int)).2.2.1 (gK w (i:Int)).2.2.2) (λk (l:z1')=>(w.1,(w.1.length:Int),(i:Int),w,(i:Int),gK w (i:Int),l,(gK w (i:Int)).2.2.1+(k:Int),w.1,w.2.1,w.2.2.1,w.2.2.2,acc,())) (λn l=>.next (if w.2.2.2.all (uQ w (i:Int) n)=true then l++[n] else l)) (λl=>.next (w.1,(w.1.length:Int),(i:Int),w,l,w.1,w.2.1,w.2.2.1,w.2.2.2,acc,())) (λk l=>l.length<=k) [] ?_ ?_ ?_ ?_]
     ·rw[eL,Vw];simp only[A.aK,A.b7,List.nil_append];rw[<-aoL];by_cases bj:((hd w (i:Int)).length:Int)=0
      ·simp[bj]
      ·have lZ:bQ (acc.length+(0+1)):=by unfold bQ;omega
       simp_all
     ·simp
     ·simp
     ·intro k ak l Zs;have v7:k<1000:=by rw[x9]at ak;omega
      have si:(gK w (i:Int)).2.2.1+(k:Int)<=(gK w (i:Int)).2.2.2:=by rw[x9]at ak;omega
      have EI:=bF (n:=(gK w (i:Int)).2.2.1+((k:Int)+1)) (by omega) (by omega);have lZ:bQ (l.length+(0+1)):=by unfold bQ;omega
      refine⟨?_,λbe aa=>?_⟩
      ·have lX:∀ t∈w.2.2.2,yA.sh (t,some (i:Int),some w,some ((gK w (i:Int)).2.2.1+(k:Int)))=A.pure (uQ w (i:Int) ((gK w (i:Int)).2.2.1+(k:Int)) t):=λt aF=>A.bR ⟨_,_,_,rfl,hw,n',(aom hw.2 aF).2⟩ _;simp only[si,decide_true,if_true,DR];rw[A.bq (by exact⟨h.2.2.1,λt aF=>⟨_,lX t aF⟩⟩)];have e:(w.2.2.2.all λy=>(A.dR (yA.pre (y,some (i:Int),some w,some ((gK w (i:Int)).2.2.1+(k:Int)))) (yA.g (y,some (i:Int),some w,some ((gK w (i:Int)).2.2.1+(k:Int))))).val false)=w.2.2.2.all (uQ w (i:Int) ((gK w (i:Int)).2.2.1+(k:Int))):=Ix λt aF=>A.gQ;rw[e];by_cases aa:w.2.2.2.all (uQ w (i:Int) ((gK w (i:Int)).2.2.1+(k:Int)))=true
       ·simp only[aa,if_true,cp,hO,A.bq lZ,A.aK,A.b7,EI,W.ho,Int.natCast_add,Int.natCast_one,Int.add_assoc]
       ·simp only[aa,Bool.false_eq_true,if_false,cp,hO,A.aK,A.b7,EI,W.ho,Int.natCast_add,Int.natCast_one,Int.add_assoc]
      grind
     ·intro l Zs;have:¬(gK w (i:Int)).2.2.1+((d_ (gK w (i:Int)).2.2.1 (gK w (i:Int)).2.2.2).length:Int)<=(gK w (i:Int)).2.2.2:=by rw[x9];omega
      simp only[this,decide_false,Bool.false_eq_true,if_false,A.aK]
    grind
   simp
 grind
theorem aoO(x):A.le (NI g_.sh (jC j0).sh yA.sh x) (Bi.sh x):=A.bw λh=>aoM x.1 x.2 h
theorem aoP(x):A.le (VT x) (Iw.sh x):=A.bw λ_=>by
 unfold VT;simp only[Iv,decide_eq_true_eq];grind
theorem Zt(w:bx):(pW w).length=w.1.length:=by simp[pW]
theorem Pe{w:bx}{i:Int}(h:hb w i=true):List.getD (pW w) i.toNat []=hd w i:=by
 rw[uN]at h;have:i.toNat<w.1.length:=by omega
 have e:((i.toNat:Nat):Int)=i:=by omega
 simp[pW,List.getD_eq_getElem?_getD,this,e]
abbrev aoQ:ad:=.bG (.st (.aB kL (.slice fR)))
def aoR(o:Option qD)(w:bx):Prop:=o=some (w,pW w)/\qN w
abbrev ID:aO:=⟨.aB aoQ (.aB bp (.aB bp bp)),bp,λx=>∃ w,aoR x.1 w/\hb w x.2.1=true/\iU w x.2.2.1 x.2.2.2=true,λx=>uR ((x.1.getD (([],[],0,[]),[])).1) x.2.1 x.2.2.1 x.2.2.2⟩
theorem aoS(w:bx)(i m k:Int)(hw:qN w)(G:hb w i=true)(hm:iU w m k=true):NJ ED.sh Iw.sh (some (w,pW w),i,m,k)=A.pure (uR w i m k):=by
 unfold NJ;have lZ:=Zh hw G;have b8:0<=i/\i<((pW w).length:Int):=by rw[Zt];exact uN.1 G
 simp only[Option.isSome_some,Option.getD_some,A.br,bZ,Pe G,A.bq b8];rw[A.f_ (hd w i) (λj (n:Int)=>(some (w,pW w),i,m,k,n,hd w i,((hd w i).length:Int),(j:Int),())) (λx n=>.next (if wv w i x m k=true then n+1 else n)) (λn=>.next (some (w,pW w),i,n,())) (λj n=>0<=n/\n<=(j:Int)) 0 ?_ ?_ ?_ ?_]
 ·rw[eL,Zj];simp only[A.aK,A.b7,Option.isSome_some,Option.getD_some,A.br,A.bq b8,Pe G,aO.sh,A.dF,Int.zero_add];rfl
 ·rfl
 ·simp
 ·intro j aG n ax;have aoT:=bF (n:=(j:Int)+1) (by omega) (by omega);have Bj:=bF (n:=n+1) (by omega) (by omega);have aq:qN w/\hb w i=true/\iU w m k=true:=⟨hw,G,hm⟩
  refine⟨?_,λbe aa=>?_⟩
  ·simp only[cX aG,if_true,dk aG,cP aG,A.br,Option.isSome_some,Option.getD_some,aO.sh,A.dF,A.bq aq,cp,Bj];cases wv w i (hd w i)[j] m k<;>simp[aoT]
  grind
 simp
theorem aoU(x):A.le (NJ ED.sh Iw.sh x) (ID.sh x):=A.bw λh=>by
 obtain⟨o,i,m,k⟩:=x;obtain⟨w,⟨ao,hw⟩,G,hm⟩:=h;change o=_ at ao;subst ao;exact aoS w i m k hw G hm
theorem Zu{w:bx}{cb:Bool}(h:ey w cb=0):ij w cb=(some (w,pW w),0):=by simp[ij,h]
theorem Zv{w:bx}{cb:Bool}(h:ey w cb≠0):ij w cb=(none,ey w cb):=by simp[ij,h]
theorem aoV(w:bx)(i:Int)(h:ht w):NF Bi.sh pT.sh (w,i)=A.pure (wy w i):=by
 unfold NF wy;simp only[aO.sh,A.od,A.gQ,h,A.br];by_cases ak:ey w (hb w i)=0
 ·have hw:=Zi h ak;have G:=(EE ak).2.1;have aq:=aop (EE ak).2.2 G;have lZ:=Zh hw G;have h7:=bF (n:=((hd w i).length:Int) - 1) (by omega) (by omega);have az:(((hd w i).length:Int) - 1).toNat=(hd w i).length - 1:=by omega
  have sN:0<=i/\i<((pW w).length:Int):=by rw[Zt];exact uN.1 G
  have b8:(0:Int)<=0/\(0:Int)<((hd w i).length:Int):=by omega
  have cw:(0:Int)<=((hd w i).length:Int) - 1/\((hd w i).length:Int) - 1<((hd w i).length:Int):=by omega
  simp only[Zu ak,ak,ne_eq,not_true,decide_false,Bool.false_eq_true,if_false,Option.isSome_some,Option.getD_some,A.br,bZ,Pe G,A.bq sN,h7,az,A.bq cw];simp_all
 ·simp[Zv ak,ak]
theorem aoW(x):A.le (NF Bi.sh pT.sh x) (yy.sh x):=A.bw λh=>aoV x.1 x.2 h
theorem aoX(w:bx)(i m k:Int)(h:ht w):NG Bi.sh pT.sh rQ.sh ID.sh (w,i,m,k)=A.pure (qO w i m k):=by
 unfold NG qO;simp only[aO.sh,A.od,A.gQ,h,A.br,and_true,and_self,imp_self,true_and];by_cases ak:ey w (hb w i&&iU w m k)=0
 ·have hw:=Zi h ak;have G:=(EE ak).2.1;simp only[Bool.and_eq_true]at G;simp only[Zu ak,ak,ne_eq,not_true,decide_false,Bool.false_eq_true,if_false,A.dF];rw[A.bq (by exact⟨w,⟨rfl,hw⟩,G.1,G.2⟩)];rfl
 ·simp[Zv ak,ak]
theorem aoY(x):A.le (NG Bi.sh pT.sh rQ.sh ID.sh x) (Bf.sh x):=A.bw λh=>aoX x.1 x.2.1 x.2.2.1 x.2.2.2 h
theorem Pf{n:Int}(E:0<=n)(U:n<18446744073709551616):IntKind.u64.wrap n=n:=by
 show (if (false&&decide (n % 2 ^ 64>=(2 ^ (64 - 1):Int)))=true then n % 2 ^ 64 - 2 ^ 64 else n % 2 ^ 64)=n;grind
theorem Pg:∀ (n:Nat) (l:z1'),l.Nodup->(∀ x∈l,0<=x/\x<(n:Int))->l.length<=n
 | 0,l,_,h=>by
  cases l with
  | nil=>simp
  | cons x l=>have:=h x (by simp);omega
 | n+1,l,ax,h=>by
  have U:=Pg n (l.erase (n:Int)) (ax.erase _) λx ai=>by
   grind
  grind
def aoZ(l:z1'):Prop:=∀ x∈l,0<=x/\x<16
def Zw(l:z1'):Prop:=l.Nodup/\aoZ l
theorem Zw.len{l:z1'}(h:Zw l):l.length<=16:=Pg 16 l h.1 h.2
theorem A.ao0{D aJ:Type}{body:D->A (W D aJ)}{p:aJ->Prop}{s0:D}(n:Nat)(I:Nat->D->Prop)(aY:I 0 s0)
  (aD:∀ i,i<n->∀ s,I i s->A.cy (body s) λst=>match st with | .next s'=>I (i+1) s' | .done r=>p r)
  (ao:∀ s,I n s->A.cy (body s) λst=>match st with | .next _=>False | .done r=>p r):A.cy (A.loop body s0) p:=by
 have key:∀ k i s,n - i=k->i<=n->I i s->A.cy (A.loop body s) p:=by
  intro k;induction k with
  | zero=>
   intro i s ak G h;have:i=n:=by omega
   subst this;rw[A.BU,A.gb];refine (ao s h).mono λy aT=>?_;cases y with
   | next s'=>grind
   | done r=>exact A.eb.2 aT
  | succ k aL=>
   intro i s ak G h;rw[A.BU,A.gb];refine (aD i (by omega) s h).mono λy aT=>?_;cases y with
   | next s'=>grind
   | done r=>exact A.eb.2 aT
 grind
def Ph(x:Int×Int):Int:=IntKind.wrap .u64
 (Add.add (IntKind.wrap .u64 (Add.add (IntKind.wrap .u64 (jl .u64 x.1 32*jl .u64 x.2 32)) (jl .u64 (IntKind.wrap .u64 (Add.add (IntKind.wrap
 .u64 (jl .u64 x.1 32*lU .u64 x.2 4294967295)) (jl .u64 (IntKind.wrap .u64 (lU .u64 x.1 4294967295*lU .u64 x.2 4294967295)) 32))) 32)))
 (jl .u64 (IntKind.wrap .u64 (Add.add (lU .u64 (IntKind.wrap .u64 (Add.add (IntKind.wrap .u64 (jl .u64 x.1 32*lU .u64 x.2 4294967295)) (jl
 .u64 (IntKind.wrap .u64 (lU .u64 x.1 4294967295*lU .u64 x.2 4294967295)) 32))) 4294967295) (IntKind.wrap .u64 (lU .u64 x.1 4294967295*jl
 .u64 x.2 32)))) 32))
def IE:Nat->Bool
 | 0=>true
 | n+1=>decide (Ph (1,(n:Int))=0)&&IE n
theorem Zx:∀ (N n:Nat),IE N=true->n<N->Ph (1,(n:Int))=0
 | 0,n,_,h=>by omega
 | N+1,n,hc,h=>by
  simp only[IE,Bool.and_eq_true,decide_eq_true_eq]at hc;by_cases e:n=N
  ·grind
  ·exact Zx N n hc.2 (by omega)
def Pj(work:z1')(s:Int):z1':=((List.range work.length).filter λj=>decide (work.getD j 0=s)).map λ(j:Nat)=>(j:Int)
theorem ao1{an β aJ:Type}{f:an->β->W β aJ}{fin:β->aJ}(I:Nat->β->Prop)(Q:aJ->Prop)(l:List an)(b:β)(aY:I 0 b)
  (aD:∀ i (h:i<l.length) b,I i b->match f l[i] b with | .next be=>I (i+1) be | .done r=>Q r) (ao:∀ b,I l.length b->Q (fin b)):Q (e1 f fin l b):=by
 have key:∀ (k:Nat) (r:List an) (b:β),k<=l.length->r=l.drop k->I k b->Q (e1 f fin r b):=by
  intro k r;induction r generalizing k with
  | nil=>
   intro b ak M eB;have:k=l.length:=by have:=congrArg List.length M;grind
   subst this;exact ao b eB
  | cons x r aL=>
   intro b ak M eB;have ch:k<l.length:=by
    grind
   rw[List.drop_eq_getElem_cons ch]at M;injection M with ai M
   have E:=aD k ch b eB;rw[<-ai]at E;simp only[e1];grind
 grind
def cT(m:z4')(k:Int):Int:=(uS m k).getD 0
theorem ao2(m:z4')(k:Int):Option.getD (Option.map (λx=>x.2) (List.find? (λp=>decide (k=p.1)) m)) 0=cT m k:=rfl
theorem Bk(k v k':Int)(m:z4'):cT (ff m k v) k'=if k'=k then v else cT m k':=by
 unfold cT;rw[Zn];grind
def rS(n:Nat)(m:z4'):Nat:=(List.range n).countP λ(s:Nat)=>decide (cT m (s:Int)=0)
theorem Zy{p q:Nat->Bool}{s:Nat}(h:∀ x,x≠s->p x=q x)(aq:p s=true)(bt:q s=false):∀ (l:List Nat),l.Nodup->s∈l->l.countP p=l.countP q+1
 | [],_,aD=>by cases aD
 | x::l,ax,aD=>by
  rw[List.nodup_cons]at ax;rw[List.countP_cons,List.countP_cons];by_cases e:x=s
  ·subst e;have:l.countP p=l.countP q:=List.countP_congr λy aT=>by
    grind
   grind
  ·have:=Zy h aq bt l ax.2 (by grind);grind
theorem Zz{n:Nat}{m:z4'}{s v:Int}(aY:0<=s)(ax:s<(n:Int))(hm:cT m s=0)(af:v≠0):rS n m=rS n (ff m s v)+1:=by
 unfold rS;refine Zy (s:=s.toNat) (λx ai=>?_) ?_ ?_ _ List.nodup_range (by grind)
 ·rw[Bk,if_neg (by omega)]
 ·grind
 ·rw[Bk,if_pos (by omega)];grind
theorem ZA{n:Nat}{a b:z4'}(h:∀ k,0<=cT a k/\cT a k<=cT b k):rS n b<=rS n a:=by
 unfold rS;refine List.countP_mono_left λx _ ai=>?_;grind
abbrev la:=z1'×z4'
def W.uT{β aJ ju:Type}(g:aJ->ju):W β aJ->W β ju
 | .next b=>.next b
 | .done r=>.done (g r)
def yB{an β aJ:Type}(f:an->β->W β aJ):List an->β->W β aJ
 | [],b=>.next b
 | x::l,b=>match f x b with
  | .next be=>yB f l be
  | .done r=>.done r
def W.fin{β aJ:Type}(n:β->aJ):W β aJ->aJ
 | .next b=>n b
 | .done r=>r
theorem Pk{an β aJ:Type}{f:an->β->W β aJ}{n:β->aJ}:∀ (l:List an) (b:β),e1 f n l b=W.fin n (yB f l b)
 | [],b=>rfl
 | x::l,b=>by
  simp only[e1,yB];cases f x b with
  | next be=>exact Pk l be
  | done r=>rfl
theorem ZB{an β aJ ju:Type}{f:an->β->W β aJ}{g:aJ->ju}:∀ (l:List an) (b:β),yB (λx b=>W.uT g (f x b)) l b=W.uT g (yB f l b)
 | [],b=>rfl
 | x::l,b=>by
  simp only[yB];cases f x b with
  | next be=>exact ZB l be
  | done r=>rfl
def Pl(w:bx):Prop:=w.1.length<=2000000/\w.2.1.length<=2000000/\w.2.2.2.length<=2000000/\∀ m∈w.2.1,m.length<=2000000/\∀ s∈m,s.2.1.length<=2000000
abbrev vW:aO:=⟨kL,kL,Pl,λw=>w⟩
theorem ao3(w:bx)(h:Pl w):Nt w=A.pure w:=by
 obtain⟨E,U,ah,a6⟩:=h;unfold Nt;have b8:bQ (0+w.1.length):=by unfold bQ;omega
 have cw:bQ (0+w.2.2.2.length):=by unfold bQ;omega
 simp only[hO,A.bq b8,A.bq cw,List.nil_append];rw[A.f_ w.2.1 (λi (bM:List (List (Int×z1'×Int×Int)))=>((i:Int),w,0,w.2.2.1,w.1,w.2.2.2,bM,())) (λm bM=>.next (bM++[m])) (λbM=>.next (0,w.2.2.1,w.1,w.2.2.2,bM,())) (λi bM=>bM.length<=i) [] ?_ ?_ ?_ ?_]
 ·rw[eL,sR (g:=λm=>m)];simp
 ·rfl
 ·simp
 ·intro i G bM pC;have hm:=a6 w.2.1[i] (List.getElem_mem G);have kp:=bF (n:=(i:Int)+1) (by omega) (by omega);have ef:bQ (0+w.2.1[i].length):=by have:=hm.1;unfold bQ;omega
  have lq:bQ (bM.length+(0+1)):=by unfold bQ;omega
  refine⟨?_,λbe cY=>?_⟩
  ·simp only[bZ,cX G,if_true,cP G,A.br,dk G,A.bq ef];rw[A.ed w.2.1[i] (λk (_:Unit)=>((i:Int),(k:Int),w,0,w.2.2.1,w.1,w.2.2.2,w.2.1[i],bM,())) (λs u=>.next u) (λ_=>.next ((i:Int),w,0,w.2.2.1,w.1,w.2.2.2,w.2.1[i],bM,())) () ?_ ?_ ?_]
   ·rw[eL];simp_all
   ·rfl
   ·intro k ak u;have aD:=hm.2 _ (List.getElem_mem ak);have Zs:=hm.1;have me:=bF (n:=(k:Int)+1) (by omega) (by omega);have kB:bQ (0+(w.2.1[i])[k].2.1.length):=by unfold bQ;omega
    have m':(w.2.1[i]).set k ((w.2.1[i])[k].1,(w.2.1[i])[k].2.1,(w.2.1[i])[k].2.2)=w.2.1[i]:=List.set_getElem_self ak;simp_all
   simp
  grind
 simp
theorem Of(x):A.le (Nt x) (vW.sh x):=A.bw λh=>ao3 x h
def yC(m:List (Int×z1'×Int×Int)):Bool:=decide ((m.length:Int) > 20)||m.any λs=>decide ((s.2.1.length:Int) > 20)
def k7(w:bx):Bool:=
 if (decide ((w.1.length:Int) > 40)||decide ((w.2.1.length:Int) > 40)||decide ((w.2.2.2.length:Int) > 60))=true then true
 else if w.2.1.any yC=true then true
 else if b' w≠0 then false
 else if (w.1.any λs=>decide (IntKind.i64.wrap (s.2.2.2 - s.2.2.1)>=50))=true then true
 else decide ((w.1.length:Int) > 6)||decide ((w.2.1.length:Int) > 4)||decide ((w.2.2.2.length:Int) > 10)
abbrev wj:aO:=⟨kL,dj,ht,k7⟩
theorem ao4(w:bx)(h:ht w):NL g_.sh w=A.pure (k7 w):=by
 unfold NL k7;simp only[bZ];by_cases E:(decide ((w.1.length:Int) > 40)||decide ((w.2.1.length:Int) > 40)||decide ((w.2.2.2.length:Int) > 60))=true
 ·grind
 ·rw[if_neg E,if_neg E];have al:=h;obtain⟨dr,dI,oF,uU⟩:=h;rw[A.ed w.2.1 (λi (_:Unit)=>((i:Int),w,())) (λm u=>if yC m=true then .done (.done true) else .next u) (λ_=>.next (w,())) () ?_ ?_ ?_]
  ·rw[sQ];by_cases U:w.2.1.any yC=true
   ·simp only[U,if_true,A.aK,A.pG]
   ·simp only[U,Bool.false_eq_true,if_false,A.aK,A.b7,aO.sh,A.dF,A.bq al];by_cases ah:b' w=0
    ·simp only[ah,ne_eq,not_true,decide_false,Bool.false_eq_true,if_false];rw[A.ed w.1 (λi (_:Unit)=>((i:Int),w,())) (λs u=>if decide (IntKind.i64.wrap (s.2.2.2 - s.2.2.1)>=50)=true then .done (.done true) else .next u) (λ_=>.next (w,())) () ?_ ?_ ?_]
     ·rw[sQ];by_cases a6:(w.1.any λs=>decide (IntKind.i64.wrap (s.2.2.2 - s.2.2.1)>=50))=true
      ·simp_all
      ·simp only[a6,Bool.false_eq_true,if_false,A.aK,A.b7]
     ·rfl
     ·intro i G u;have kp:=bF (n:=(i:Int)+1) (by omega) (by omega);simp only[bZ,cX G,if_true,cP G,A.br,dk G,A.aK,cp,kp];exact nn (mk:=λ_:Unit=>((i:Int)+1,w,()))
     simp
    grind
  ·rfl
  ·intro i G u;have kp:=bF (n:=(i:Int)+1) (by omega) (by omega);have hm:=uU _ (List.getElem_mem G);simp only[bZ,cX G,if_true,cP G,A.br,dk G,A.aK];by_cases bL:decide ((w.2.1[i].length:Int) > 20)=true
   ·have ao:yC w.2.1[i]=true:=by unfold yC;grind
    simp_all
   ·have ao:yC w.2.1[i]=w.2.1[i].any λs=>decide ((s.2.1.length:Int) > 20):=by unfold yC;grind
    rw[if_neg bL];rw[A.ed w.2.1[i] (λk (_:Unit)=>((i:Int),(k:Int),w,())) (λs u=>if decide ((s.2.1.length:Int) > 20)=true then .done (.done (.done (.done true))) else .next u) (λ_=>.next ((i:Int),w,())) () ?_ ?_ ?_]
    ·rw[sQ,ao];by_cases dv:(w.2.1[i].any λs=>decide ((s.2.1.length:Int) > 20))=true
     ·simp_all
     ·simp only[dv,Bool.false_eq_true,if_false,A.aK,A.b7,cp,kp];rfl
    ·rfl
    ·intro k ak u;have me:=bF (n:=(k:Int)+1) (by omega) (by omega);simp only[cP G,A.br,dk G,cX ak,if_true,cP ak,dk ak,A.aK,cp,me];exact nn (mk:=λ_:Unit=>((i:Int),(k:Int)+1,w,()))
    simp_all
  simp
theorem ao5(x):A.le (NL g_.sh x) (wj.sh x):=A.bw λh=>ao4 x h
def IF:bx:=([(1,2,300,310),(1,3,305,305),(2,1,50,60),(1,2,320,330)],[[(1,[2,3],300,306),(2,[1],40,58)],[(1,[2],310,326)]],5,[(0,1,0,0)])
abbrev Pm:aO:=⟨.cU,kL,λ_=>True,λ_=>IF⟩
theorem ao6(x):A.le (aj0 x) (Pm.sh x):=A.bw λ_=>rfl
theorem ao7:ht IF:=by
 refine⟨by decide,by decide,by decide,?_⟩;intro m hm;simp only[IF,List.mem_cons,List.not_mem_nil,or_false]at hm;grind
abbrev ny:ad:=.st (.aB bp (.aB bp (.aB bp (.aB bp fR))))
abbrev mN:ad:=.st (.aB fR (.aB mI (.aB bp (.aB bp bp))))
abbrev pX:ad:=.st (.aB bp (.aB bp bp))
abbrev lb:ad:=.st (.aB kL (.aB fR (.aB (.slice ny) (.aB (.slice mN) (.aB (.slice pX) bp)))))
def fB(s:bJ):Prop:=ht s.1/\s.2.1.length<2 ^ 63/\s.2.2.1.length<2 ^ 63/\s.2.2.2.1.length<2 ^ 63/\s.2.2.2.2.1.length<2 ^ 63/\(∀ p∈s.2.2.1,p.2.2.2.2.length<2 ^ 63)/\∀ x∈s.2.2.2.1,x.1.length<2 ^ 63
def bX(n a1 G:Int):Bool:=decide (a1<=n)&&decide (n<=G)
def j1(n:Int):Bool:=bX n 0 99
def j2(p:Int->Bool)(l:z1'):Bool:=(List.range l.length).all λi=>p (l.getD i 0)&&!(decide (0<i)&&decide (l.getD i 0<=l.getD (i - 1) 0))
def EJ(w:bx)(m:Int)(n:Int):Bool:=decide (0<=n)&&decide (n<((jB w m).length:Int))
def pY(w:bx)(p:dm):Bool:=j1 p.1&&j1 p.2.1&&j1 p.2.2.1&&om w p.2.2.2.1&&j2 (EJ w p.2.2.2.1) p.2.2.2.2
def o7(x:dB):Bool:=bX (x.1.length:Int) 1 8&&j2 j1 x.1&&j1 x.2.1.1&&j1 x.2.1.2&&decide (x.2.1.1<=x.2.1.2)&&j1 x.2.2.1&&j1 x.2.2.2.1&&bX x.2.2.2.2 0 100000
def o8(w:bx)(d:DY):Bool:=j1 d.1&&hb w d.2.1&&bX d.2.2 1 10
def nz(s:bJ):Bool:=decide ((s.2.1.length:Int)=(s.1.1.length:Int))&&(s.2.1.all λn=>bX n 0 10)&&decide ((s.2.2.1.length:Int)<=8)&&s.2.2.1.all (pY s.1)&&decide ((s.2.2.2.1.length:Int)<=6)&&s.2.2.2.1.all o7&&decide ((s.2.2.2.2.1.length:Int)<=8)&&s.2.2.2.2.1.all (o8 s.1)&&j1 s.2.2.2.2.2
def ji(s:bJ):Int:=if b' s.1≠0 then b' s.1 else if nz s=true then 0 else 80
theorem ao8(x):A.le (akl x) (cq.sh x):=A.bw λ_=>rfl
theorem ao9(x):A.le (akf x) (cq.sh x):=A.bw λ_=>rfl
abbrev rT:aO:=⟨bp,dj,λ_=>True,j1⟩
theorem ao_(x):A.le (Wb cq.sh x) (rT.sh x):=A.bw λ_=>by
 unfold Wb;simp[aO.sh,cq,j1,bX]
theorem ao'(x):A.le (Wf cq.sh x) (rT.sh x):=A.bw λ_=>by
 unfold Wf;simp[aO.sh,cq,j1,bX]
abbrev IG:aO:=⟨.aB fR (.fn bp .bool),dj,λx=>x.1.length<2 ^ 63/\∀ y∈x.1,∃ b,x.2 y=A.pure b,λx=>j2 (λy=>(x.2 y).val false) x.1⟩
theorem apa(x):A.le (Wc x) (IG.sh x):=A.bw λh=>by
 obtain⟨l,f⟩:=x;obtain⟨E,U⟩:=h;change l.length<2 ^ 63 at E;change ∀ y∈l,∃ b,f y=A.pure b at U;unfold Wc;rw[A.ed (List.range l.length) (λi (_:Unit)=>(l,f,l,(l.length:Int),(i:Int),())) (λi b=>if (!((f (l.getD i 0)).val false&&!(decide (0<i)&&decide (l.getD i 0<=l.getD (i - 1) 0))))=true then .done (.done false) else .next b) (λ_=>.next ()) () ?_ ?_ ?_]
 ·rw[kZ (q:=λi=>(f (l.getD i 0)).val false&&!(decide (0<i)&&decide (l.getD i 0<=l.getD (i - 1) 0))) _ _ (λ_=>rfl)];show _=A.pure (j2 (λy=>(f y).val false) l);unfold j2;cases (List.range l.length).all λi=>(f (l.getD i 0)).val false&&!(decide (0<i)&&decide (l.getD i 0<=l.getD (i - 1) 0))<;>simp
 ·rfl
 ·intro i G b;have G:i<l.length:=by grind
  have hw:=bF (n:=(i:Int)+1) (by omega) (by omega);have gZ:=bF (n:=(i:Int) - 1) (by omega) (by omega);have aN:((i:Int) - 1).toNat=i - 1:=by omega
  obtain⟨c,hc⟩:=U _ (List.getElem_mem G);have jy:l.getD i 0=l[i]:=by grind
  have s3:(decide ((i:Int) > 0))=decide (0<i):=by simp
  simp only[bZ,cX G,if_true,List.getElem_range,dk G,cP G,A.br,jy,hc,A.fG,A.aK,cp,hw,gZ,aN,s3];rw[A.bq (by grind)];cases c<;>cases (decide (0<i)&&decide (l[i]<=l.getD (i - 1) 0))<;>rfl
 simp
abbrev IH:aO:=⟨.aB fR bp,dj,λx=>x.1.length<2 ^ 63,λx=>j2 (λn=>bX n 0 x.2) x.1⟩
theorem apb(x):A.le (Wi x) (IH.sh x):=A.bw λh=>by
 obtain⟨l,m⟩:=x;change l.length<2 ^ 63 at h;unfold Wi;rw[A.ed (List.range l.length) (λi (_:Unit)=>(l,m,(i:Int),())) (λi b=>if (!(bX (l.getD i 0) 0 m&&!(decide (0<i)&&decide (l.getD i 0<=l.getD (i - 1) 0))))=true then .done (.done false) else .next b) (λ_=>.next ()) () ?_ ?_ ?_]
 ·rw[kZ (q:=λi=>bX (l.getD i 0) 0 m&&!(decide (0<i)&&decide (l.getD i 0<=l.getD (i - 1) 0))) _ _ (λ_=>rfl)];show _=A.pure (j2 (λn=>bX n 0 m) l);unfold j2;cases (List.range l.length).all λi=>bX (l.getD i 0) 0 m&&!(decide (0<i)&&decide (l.getD i 0<=l.getD (i - 1) 0))<;>simp
 ·rfl
 ·intro i G b;have G:i<l.length:=by grind
  have hw:=bF (n:=(i:Int)+1) (by omega) (by omega);have gZ:=bF (n:=(i:Int) - 1) (by omega) (by omega);have aN:((i:Int) - 1).toNat=i - 1:=by omega
  have jy:l.getD i 0=l[i]:=by grind
  have s3:(decide ((i:Int) > 0))=decide (0<i):=by simp
  simp only[bZ,cX G,if_true,List.getElem_range,dk G,cP G,A.br,jy,A.aK,cp,hw,gZ,aN,s3];have sN:0<i->(0:Int)<=(i:Int) - 1/\(i:Int) - 1<(l.length:Int):=by omega
  generalize l.getD (i - 1) 0=B;generalize l[i]=aM;by_cases iv:aM<0<;>by_cases sr:aM > m<;>by_cases aY:0<i<;>by_cases aU:aM<=B<;>simp_all[bX,W.ho,A.bq]<;>(grind)<;>(grind)
 simp
theorem Pn{p q:Int->Bool}{l:z1'}(h:∀ y∈l,p y=q y):j2 p l=j2 q l:=by
 unfold j2;grind
theorem apc(n:Int)(k:Nat):bX n 0 ((k:Int) - 1)=(decide (0<=n)&&decide (n<(k:Int))):=by
 unfold bX;grind
theorem apd(a b:Int):decide (a > b)=!decide (a<=b):=by grind
abbrev EK:aO:=⟨.aB bp (.aB (.bG kL) (.bG ny)),dj,λx=>∃ w p,x.2=(some w,some p)/\ht w/\om w p.2.2.2.1=true,λx=>EJ (x.2.1.getD ([],[],0,[])) (x.2.2.getD (0,0,0,0,[])).2.2.2.1 x.1⟩
theorem ape(x):A.le (Wd cq.sh x) (EK.sh x):=A.bw λh=>by
 obtain⟨n,o⟩:=x;obtain⟨w,p,ao,hw,hm⟩:=h;change o=_ at ao;subst ao;unfold Wd;have r:=It.1 hm;have al:=Iu hw p.2.2.2.1;have h7:=bF (n:=((jB w p.2.2.2.1).length:Int) - 1) (by omega) (by omega);unfold jB at h7;simp only[aO.sh,cq,Option.getD_some,bZ,r,and_self,A.br,h7,A.dF,rP];rfl
abbrev EL:aO:=⟨.aB ny (.bG kL),dj,λx=>x.1.2.2.2.2.length<2 ^ 63/\∃ w,x.2=some w/\ht w,λx=>!pY (x.2.getD ([],[],0,[])) x.1⟩
theorem apf(x):A.le (Wa cq.sh rT.sh IG.sh EK.sh x) (EL.sh x):=A.bw λh=>by
 obtain⟨p,o⟩:=x;obtain⟨aq,w,ao,hw⟩:=h;change o=_ at ao;change p.2.2.2.2.length<2 ^ 63 at aq;subst ao;unfold Wa;have al:=hw.2.1;have h7:=bF (n:=((w.2.1.length:Int)) - 1) (by omega) (by omega);have az:(decide (0<=p.2.2.2.1)&&decide (p.2.2.2.1<(w.2.1.length:Int)))=om w p.2.2.2.1:=rfl;simp only[aO.sh,cq,Option.getD_some,bZ,A.br,h7,A.dF,A.je,rP,implies_true,qC,az];have key:om w p.2.2.2.1=true->(j2 (λy=>(A.dR (EK.pre (y,some w,some p)) (EK.g (y,some w,some p))).val false) p.2.2.2.2)=j2 (EJ w p.2.2.2.1) p.2.2.2.2:=λhm=>Pn λy aT=>A.gQ;rw[A.bq]
 ·show A.pure _=A.pure _;congr 1;show _=!pY w p;unfold pY;simp
 ·intro cV;have hm:om w p.2.2.2.1=true:=by
   grind
  exact⟨aq,λy aT=>⟨_,A.bR ⟨w,p,rfl,hw,hm⟩ _⟩⟩
abbrev EM:aO:=⟨mN,dj,λx=>x.1.length<2 ^ 63,λx=>!o7 x⟩
theorem apg(x):A.le (We cq.sh rT.sh IG.sh rT.sh x) (EM.sh x):=A.bw λh=>by
 unfold We;have key:(j2 (λy=>(A.dR (rT.pre y) (rT.g y)).val false) x.1)=j2 j1 x.1:=Pn λy aT=>A.gQ;simp only[aO.sh,cq,bZ,A.br,A.dF,A.je,implies_true,qC];rw[A.bq]
 ·show A.pure _=A.pure (!o7 x);congr 1;unfold o7;rw[key];have e:decide (x.2.1.1 > x.2.1.2)=!decide (x.2.1.1<=x.2.1.2):=by grind
  rw[e];show _=!(bX (x.1.length:Int) 1 8&&_&&_&&_&&_&&_&&_&&_);unfold bX;simp
 ·exact λ_=>⟨h,λy aT=>⟨_,A.bR trivial _⟩⟩
abbrev EN:aO:=⟨.aB pX (.bG kL),dj,λx=>∃ w,x.2=some w/\ht w,λx=>!o8 (x.2.getD ([],[],0,[])) x.1⟩
theorem aph(x):A.le (Wg cq.sh rT.sh x) (EN.sh x):=A.bw λh=>by
 obtain⟨d,o⟩:=x;obtain⟨w,ao,hw⟩:=h;change o=_ at ao;subst ao;unfold Wg;have al:=hw.1;have h7:=bF (n:=((w.1.length:Int)) - 1) (by omega) (by omega);simp only[aO.sh,cq,Option.getD_some,bZ,A.br,h7,A.dF,A.je,rP,implies_true,qC];show A.pure _=A.pure (!o8 w d);congr 1;unfold o8 hb bX;simp
abbrev EO:aO:=⟨bp,dj,λ_=>True,λn=>!bX n 0 10⟩
theorem api(x):A.le (Wh cq.sh x) (EO.sh x):=A.bw λ_=>by
 unfold Wh;simp[aO.sh,cq,bX]
theorem II{an:Type}{p q:an->Bool}{l:List an}(h:∀ x∈l,p x=!q x):l.any p=!l.all q:=by
 grind
abbrev Po:aO:=⟨lb,dj,fB,nz⟩
theorem apj(x):A.le (V5 rT.sh (jf bp).sh (jf ny).sh (jf mN).sh (jf pX).sh EL.sh EN.sh EM.sh EO.sh x) (Po.sh x):=A.bw λh=>by
 obtain⟨E,U,ah,a6,bL,dv,gl⟩:=h;unfold V5;simp only[aO.sh,bZ,A.br,A.dF,A.je,implies_true];have aQ:(x.2.1.any λy=>(A.dR (EO.pre y) (EO.g y)).val false)=!x.2.1.all λn=>bX n 0 10:=II λy _=>A.gQ;have aS:(x.2.2.1.any λy=>(A.dR (EL.pre (y,some x.1)) (EL.g (y,some x.1))).val false)=!x.2.2.1.all (pY x.1):=II λy _=>A.gQ;have bN:(x.2.2.2.1.any λy=>(A.dR (EM.pre y) (EM.g y)).val false)=!x.2.2.2.1.all o7:=II λy _=>A.gQ;have fm:(x.2.2.2.2.1.any λy=>(A.dR (EN.pre (y,some x.1)) (EN.g (y,some x.1))).val false)=!x.2.2.2.2.1.all (o8 x.1):=II λy _=>A.gQ;rw[A.bq,A.bq,A.bq,A.bq]
 ·show A.pure _=A.pure (nz x);congr 1;unfold nz;grind
 ·exact λ_=>⟨bL,λy aT=>⟨_,A.bR ⟨_,rfl,E⟩ _⟩⟩
 ·exact λ_=>⟨a6,λy aT=>⟨_,A.bR (gl y aT) _⟩⟩
 ·exact λ_=>⟨ah,λy aT=>⟨_,A.bR ⟨dv y aT,_,rfl,E⟩ _⟩⟩
 ·exact λ_=>⟨U,λy aT=>⟨_,A.bR trivial _⟩⟩
abbrev pZ:aO:=⟨lb,bp,fB,ji⟩
theorem apk(x):A.le (VY g_.sh Po.sh x) (pZ.sh x):=A.bw λh=>by
 unfold VY;simp only[aO.sh,A.dF,A.bq h.1];show _=A.pure (ji x);unfold ji;by_cases hc:b' x.1=0
 ·simp only[hc,ne_eq,not_true,decide_false,Bool.false_eq_true,if_false,A.bq h];grind
 grind
abbrev IJ:aO:=⟨.aB lb ny,dj,λx=>fB x.1/\x.2.2.2.2.2.length<2 ^ 63,λx=>pY x.1.1 x.2⟩
theorem apl(x):A.le (V6 cq.sh IH.sh x) (IJ.sh x):=A.bw λh=>by
 obtain⟨s,p⟩:=x;obtain⟨aD,aq⟩:=h;change fB s at aD;change p.2.2.2.2.length<2 ^ 63 at aq;unfold V6;have al:=aD.1.2.1;have gw:=Iu aD.1 p.2.2.2.1;have h7:=bF (n:=((s.1.2.1.length:Int)) - 1) (by omega) (by omega);have EI:=bF (n:=((jB s.1 p.2.2.2.1).length:Int) - 1) (by omega) (by omega);unfold jB at EI;have az:(decide (0<=p.2.2.2.1)&&decide (p.2.2.2.1<(s.1.2.1.length:Int)))=om s.1 p.2.2.2.1:=rfl;simp only[aO.sh,cq,bZ,A.br,h7,EI,A.dF,A.je,rP,implies_true,qC,az,A.od,A.gQ];show _=A.pure (pY s.1 p);unfold pY;have Eg:j2 (λn=>bX n 0 (((List.getD s.1.2.1 (Int.toNat p.2.2.2.1) []).length:Int) - 1)) p.2.2.2.2=j2 (EJ s.1 p.2.2.2.1) p.2.2.2.2:=Pn λy _=>apc y _;rw[Eg];cases hm:om s.1 p.2.2.2.1
 ·simp
 ·have r:=It.1 hm;rw[A.bq r,A.bq (by exact aq)];unfold j1 bX;grind
abbrev IK:aO:=⟨mN,dj,λx=>x.1.length<2 ^ 63,o7⟩
theorem apm(x):A.le (V7 cq.sh IH.sh x) (IK.sh x):=A.bw λh=>by
 unfold V7;simp only[aO.sh,cq,bZ,A.br,A.dF,A.je,implies_true];rw[A.bq (by omega)];show A.pure _=A.pure (o7 x);congr 1;unfold o7;have Eg:j2 (λn=>bX n 0 99) x.1=j2 j1 x.1:=rfl;rw[Eg];unfold j1 bX;grind
theorem apn(x):A.le (VZ g_.sh cq.sh IJ.sh IK.sh x) (pZ.sh x):=A.bw λh=>by
 have aD:=h;obtain⟨E,U,ah,a6,bL,dv,gl⟩:=h;unfold VZ;simp only[aO.sh,A.dF,A.bq E];show _=A.pure (ji x);unfold ji;by_cases hc:b' x.1=0
 ·simp only[hc,ne_eq,not_true,decide_false,Bool.false_eq_true,if_false,cq,A.je,A.dF,implies_true,A.br,bZ,qC,decide_not];have e:(!decide ((x.2.1.length:Int)=(x.1.1.length:Int))||decide ((x.2.2.1.length:Int) > 8)||decide ((x.2.2.2.1.length:Int) > 6)||decide ((x.2.2.2.2.1.length:Int) > 8)||!(decide (0<=x.2.2.2.2.2)&&decide (x.2.2.2.2.2<=99)))=!(decide ((x.2.1.length:Int)=(x.1.1.length:Int))&&decide ((x.2.2.1.length:Int)<=8)&&decide ((x.2.2.2.1.length:Int)<=6)&&decide ((x.2.2.2.2.1.length:Int)<=8)&&j1 x.2.2.2.2.2):=by
   simp only[apd,j1,bX,Bool.not_and]
  rw[e];by_cases cV:(decide ((x.2.1.length:Int)=(x.1.1.length:Int))&&decide ((x.2.2.1.length:Int)<=8)&&decide ((x.2.2.2.1.length:Int)<=6)&&decide ((x.2.2.2.2.1.length:Int)<=8)&&j1 x.2.2.2.2.2)=true
  ·rw[if_neg (by grind)]
   ·rw[A.ed x.2.1 (λi (_:Unit)=>((i:Int),x,())) (λn b=>if (!bX n 0 10)=true then .done (.done (80:Int)) else .next b) (λ_=>.next (x,())) () ?_ ?_ ?_]
    ·rw[kZ (q:=λn=>bX n 0 10) _ _ (λ_=>rfl)];cases iv:x.2.1.all λn=>bX n 0 10 with
     | false=>simp[nz,iv]
     | true=>
      simp only[A.aK,if_true,A.b7];rw[A.ed x.2.2.1 (λi (_:Unit)=>((i:Int),x,())) (λp b=>if (!pY x.1 p)=true then .done (.done (80:Int)) else .next b) (λ_=>.next (x,())) () ?_ ?_ ?_]
      ·rw[kZ (q:=pY x.1) _ _ (λ_=>rfl)];cases aU:x.2.2.1.all (pY x.1) with
       | false=>simp[nz,aU]
       | true=>
        simp only[A.aK,if_true,A.b7];rw[A.ed x.2.2.2.1 (λi (_:Unit)=>((i:Int),x,())) (λp b=>if (!o7 p)=true then .done (.done (80:Int)) else .next b) (λ_=>.next (x,())) () ?_ ?_ ?_]
        ·rw[kZ (q:=o7) _ _ (λ_=>rfl)];cases jr:x.2.2.2.1.all o7 with
         | false=>simp[nz,jr]
         | true=>
          simp only[A.aK,if_true,A.b7];rw[A.ed x.2.2.2.2.1 (λi (_:Unit)=>((i:Int),x,())) (λp b=>if (!o8 x.1 p)=true then .done (.done (80:Int)) else .next b) (λ_=>.next ()) () ?_ ?_ ?_]
          ·rw[kZ (q:=o8 x.1) _ _ (λ_=>rfl)];simp only[Bool.and_eq_true]at cV;cases O':x.2.2.2.2.1.all (o8 x.1)<;>simp[nz,iv,aU,jr,O',cV]
          ·rfl
          ·intro i G b;have hw:=bF (n:=(i:Int)+1) (by omega) (by omega);have al:=E.1;have h7:=bF (n:=((x.1.1.length:Int)) - 1) (by omega) (by omega);simp only[bZ,cX G,if_true,dk G,cP G,A.br,A.aK,cp,hw,h7,qC,rP];have e:(!(decide (0<=(x.2.2.2.2.1[i]).1)&&decide ((x.2.2.2.2.1[i]).1<=99))||!(decide (0<=(x.2.2.2.2.1[i]).2.1)&&decide ((x.2.2.2.2.1[i]).2.1<(x.1.1.length:Int)))||!(decide (1<=(x.2.2.2.2.1[i]).2.2)&&decide ((x.2.2.2.2.1[i]).2.2<=10)))=!o8 x.1 x.2.2.2.2.1[i]:=by
            unfold o8 j1 hb bX;simp
           rw[e];exact nn (mk:=λ_:Unit=>((i:Int)+1,x,()))
          simp
        ·rfl
        ·intro i G b;have hw:=bF (n:=(i:Int)+1) (by omega) (by omega);simp only[bZ,cX G,if_true,dk G,cP G,A.br,A.aK,cp,hw,A.bq (show IK.pre x.2.2.2.1[i] from gl _ (List.getElem_mem G))];exact nn (mk:=λ_:Unit=>((i:Int)+1,x,()))
        simp
      ·rfl
      ·intro i G b;have hw:=bF (n:=(i:Int)+1) (by omega) (by omega);simp only[bZ,cX G,if_true,dk G,cP G,A.br,A.aK,cp,hw,A.od,A.gQ,A.bq (show IJ.pre (x,x.2.2.1[i]) from⟨aD,dv _ (List.getElem_mem G)⟩)];exact nn (mk:=λ_:Unit=>((i:Int)+1,x,()))
      simp
    ·rfl
    ·intro i G b;have hw:=bF (n:=(i:Int)+1) (by omega) (by omega);simp only[bZ,cX G,if_true,dk G,cP G,A.br,A.aK,cp,hw];exact nn (mk:=λ_:Unit=>((i:Int)+1,x,()))
    simp
  ·rw[if_pos (by grind)]
   ·have:nz x=false:=by
     unfold nz;grind
    grind
 grind
theorem apo:IE 201=true:=by decide +kernel
abbrev td:aO:=⟨.aB (.int .u64) (.int .u64),.aB (.int .u64) (.int .u64),λx=>x.1=1/\0<=x.2/\x.2<=200,λx=>(0,x.2)⟩
theorem apq(x):A.le (VJ x) (td.sh x):=A.bw λh=>by
 obtain⟨a,b⟩:=x;obtain⟨E,U,ah⟩:=h;change a=1 at E;change 0<=b at U;change b<=200 at ah;subst E;have aY:=Zx 201 b.toNat apo (by omega);rw[Int.toNat_of_nonneg U]at aY;have hw:=Pf (n:=1*b) (by omega) (by omega);have apr:((0:Int)<=32)=True:=by simp
 unfold VJ;simp only[apr,A.br];show A.pure (Ph (1,b),IntKind.wrap .u64 (1*b))=_;grind
theorem aps(apt)(x):A.le (VH apt td.sh x) (td.sh x):=A.bw λh=>by
 unfold VH;simp only[aO.sh,A.dF];simp_all
section
variable {an β:Type}
theorem apu(a d:an)(m J:Nat)(E:1<=m)(U:m<J) :
  List.take m (List.replicate m a++List.replicate (J - m) d)++List.take (J - m) (List.take m (List.replicate m a++List.replicate (J - m) d))++
   List.drop (m+(List.take (J - m) (List.take m (List.replicate m a++List.replicate (J - m) d))).length) (List.replicate m a++List.replicate (J - m) d)
  =List.replicate (m+min (J - m) m) a++List.replicate (J - (m+min (J - m) m)) d:=by
 have az:List.take m (List.replicate m a++List.replicate (J - m) d)=List.replicate m a:=by
  simp
 rw[az,List.take_replicate,List.replicate_append_replicate,List.length_replicate,List.drop_append,List.length_replicate];have aN:List.drop (m+min (J - m) m) (List.replicate m a)=[]:=by simp
 grind
def ZC(d:an)(fin:List an->A β)(x':Int×Int->A (Int×Int))(x:List an)(n:Int):A β:=
 A.bind (if decide (n<0)=true then A.ae False (A.ae False (A.pure (W.next (x,n,())))) else A.pure (W.next (x,n,())))
 (W.bC λ(D:List an×Int×Unit)=>A.bind (x' (IntKind.wrap .u64 (Int.ofNat (List.length D.1)),IntKind.wrap .u64 D.2.1)) λy
 =>A.bind (if (decide (y.1 > 0)||decide (y.2 > 9223372036854775807))=true then A.ae False (A.ae False (A.pure (W.next (D.1,y.2,())))) else
 A.pure (W.next (D.1,y.2,()))) (W.bC λ(D:List an×Int×Unit)=>A.ae (0<=IntKind.wrap .i64 D.2.1/\IntKind.wrap .i64 D.2.1=
 IntKind.wrap .i64 D.2.1/\bQ (Int.toNat (IntKind.wrap .i64 D.2.1))) (A.ae True (A.bind (A.loop (λ(D:Int×List an×Unit)=>if decide (D.1
 < Int.ofNat (List.length D.2.1))=true then A.ae (0<=D.1/\D.1<=Int.ofNat (List.length D.2.1)/\Int.ofNat (List.length D.2.1)<=Int.ofNat
 (List.length D.2.1)) (A.ae ((0:Int)<=0/\0<=D.1/\D.1<=Int.ofNat (List.length D.2.1)) (A.ae True (A.pure (W.next (IntKind.wrap .i64
 (Add.add D.1 (Int.ofNat (if Int.toNat (Int.ofNat (List.length D.2.1)) - Int.toNat D.1<=List.length (List.take (Int.toNat D.1) D.2.1) then Int.toNat
 (Int.ofNat (List.length D.2.1)) - Int.toNat D.1 else List.length (List.take (Int.toNat D.1) D.2.1)))),List.take (Int.toNat D.1) D.2.1++List.take
 (Int.toNat (Int.ofNat (List.length D.2.1)) - Int.toNat D.1) (List.take (Int.toNat D.1) D.2.1)++List.drop (Add.add (Int.toNat D.1) (List.length
 (List.take (Int.toNat (Int.ofNat (List.length D.2.1)) - Int.toNat D.1) (List.take (Int.toNat D.1) D.2.1)))) D.2.1,()))))) else A.bind (A.pure
 (W.next (D.2.1,()))) λr=>A.pure (W.done r)) (Int.ofNat (if List.length (List.replicate (Int.toNat (IntKind.wrap .i64 D.2.1)) d) - 0<=
 List.length D.1 then List.length (List.replicate (Int.toNat (IntKind.wrap .i64 D.2.1)) d) - 0 else List.length D.1),[]++List.take (List.length
 (List.replicate (Int.toNat (IntKind.wrap .i64 D.2.1)) d) - 0) D.1++List.drop (Add.add 0 (List.length (List.take (List.length (List.replicate
 (Int.toNat (IntKind.wrap .i64 D.2.1)) d) - 0) D.1))) (List.replicate (Int.toNat (IntKind.wrap .i64 D.2.1)) d),())) (W.bC λ(D:List an×
 Unit)=>fin D.1)))))
theorem Pp(d a:an)(Mk:List an->β)(n:Int)(U:0<=n)(ah:n<=200):A.cy (ZC d (λl=>A.pure (Mk l)) td.sh [a] n) λy=>y=Mk (List.replicate n.toNat a):=by
 obtain⟨J,rfl⟩:=Int.eq_ofNat_of_zero_le U;have IL:decide ((J:Int)<0)=false:=by simp
 have l1:IntKind.u64.wrap (Int.ofNat ([a]:List an).length)=1:=Pf (by simp) (by simp);have apv:=Pf (n:=(J:Int)) (by omega) (by omega);have kp:=bF (n:=(J:Int)) (by omega) (by omega);have aq:td.pre (1,(J:Int)):=⟨rfl,U,ah⟩
 have apw:decide ((J:Int) > 9223372036854775807)=false:=by grind
 have lZ:bQ J:=by unfold bQ;omega
 have M:0<=(J:Int)/\True/\bQ (Int.toNat (J:Int)):=⟨U,trivial,by grind⟩
 unfold ZC;simp only[IL,Bool.false_eq_true,if_false,A.aK,A.b7,l1,apv,aO.sh,A.dF];rw[A.bq (by grind)];simp only[gt_iff_lt,Int.lt_irrefl,decide_false,Bool.false_or,Bool.false_eq_true,if_false,A.aK,A.b7,kp];have apx:decide ((9223372036854775807:Int)<(J:Int))=false:=apw;simp only[apx,Bool.false_eq_true,if_false,A.aK,A.b7,kp];rw[A.bq M];simp only[A.br,A.gb,Int.toNat_natCast,List.length_replicate,Nat.sub_zero,List.nil_append,List.length_singleton,bZ,hO,Nat.zero_add];refine A.BV (λs=>∃ m:Nat,(1<=m\/J=0)/\m<=J/\s=((m:Int),List.replicate m a++List.replicate (J - m) d,())) (λs=>J - s.1.toNat) ?_ _ ?_
 ·rintro s ⟨m,hm,ayt,rfl⟩;have hlen:(List.replicate m a++List.replicate (J - m) d).length=J:=by grind
  simp only[hlen];by_cases ch:m<J
  ·have gP:0<=(m:Int)/\(m:Int)<=(J:Int)/\(J:Int)<=(J:Int):=by omega
   have cO:(0:Int)<=0/\0<=(m:Int)/\(m:Int)<=(J:Int):=by omega
   have kj:1<=m:=by omega
   have ZD:(List.take m (List.replicate m a++List.replicate (J - m) d)).length=m:=by simp
   simp only[cX ch,if_true,A.bq gP,A.bq cO,A.br,Int.toNat_natCast,ZD,cp];rw[A.eb,apu a d m J kj ch];have apy:(if J - m<=m then J - m else m)=min (J - m) m:=by rfl
   rw[apy];have gZ:=bF (n:=(m:Int)+((min (J - m) m:Nat):Int)) (by omega) (by omega);refine⟨⟨m+min (J - m) m,.inl (by omega),by omega,?_⟩,?_⟩
   ·rw[gZ];simp
   ·simp only[gZ];omega
  ·have:m=J:=by omega
   subst this;simp only[Int.lt_irrefl,decide_false,Bool.false_eq_true,if_false,A.aK,A.eb,A.b7,Nat.sub_self,List.replicate_zero,List.append_nil]
 ·by_cases ayu:J=0
  ·grind
  ·refine⟨1,.inl (Nat.le_refl _),by omega,?_⟩;grind
end
abbrev IM:aO:=⟨.aB fR bp,fR,λx=>x.1=[-1]/\0<=x.2/\x.2<=200,λx=>List.replicate x.2.toNat (-1)⟩
theorem apz(x):A.le (aj9 td.sh x) (IM.sh x):=A.sP λh=>by
 obtain⟨l,n⟩:=x;obtain⟨E,U,ah⟩:=h;change l=[-1]at E;subst E;exact Pp (0:Int) (-1) (λl=>l) n U ah
def wA(x:z1'×Int×Unit):A (z1'×Unit):=A.dR (x.1=[-1]/\0<=x.2.1/\x.2.1<=200) (List.replicate x.2.1.toNat (-1),())
theorem ZE(x):A.le (akn td.sh x) (wA x):=A.sP λh=>by
 obtain⟨l,n,u⟩:=x;obtain⟨E,U,ah⟩:=h;change l=[-1]at E;subst E;exact Pp (0:Int) (-1) (λl=>(l,())) n U ah
abbrev IN:ad:=.st (.aB bp bp)
abbrev IP:aO:=⟨.aB (.slice IN) bp,.slice IN,λx=>x.1.length=1/\0<=x.2/\x.2<=200,λx=>List.replicate x.2.toNat (x.1.getD 0 (0,0))⟩
theorem apA(x):A.le (akk td.sh x) (IP.sh x):=A.sP λh=>by
 obtain⟨l,n⟩:=x;obtain⟨E,U,ah⟩:=h;change l.length=1 at E;obtain⟨a,rfl⟩:=List.length_eq_one_iff.1 E;exact Pp ((0,0):Int×Int) a (λl=>l) n U ah
end Go.Fer
namespace Go.Fer
open A (W)
def yD(s:bJ)(n:Int):Bool:=decide (0<=n)&&decide (n<(s.2.2.2.1.length:Int))
def yE(s:bJ)(n:Int):Bool:=decide (0<=n)&&decide (n<(s.2.2.1.length:Int))
theorem apB{s:bJ}{n:Int}:yD s n=true<->0<=n/\n<(s.2.2.2.1.length:Int):=by simp[yD]
theorem apC{s:bJ}{n:Int}:yE s n=true<->0<=n/\n<(s.2.2.1.length:Int):=by simp[yE]
abbrev Pq:aO:=⟨.aB lb bp,dj,λx=>fB x.1,λx=>yD x.1 x.2⟩
abbrev Pr:aO:=⟨.aB lb bp,dj,λx=>fB x.1,λx=>yE x.1 x.2⟩
theorem apD(x):A.le (V3 cq.sh x) (Pq.sh x):=A.bw λh=>by
 have al:=h.2.2.2.1;have hw:=bF (n:=(x.1.2.2.2.1.length:Int) - 1) (by omega) (by omega);unfold V3;simp[aO.sh,cq,hw,yD,rP]
theorem apE(x):A.le (V8 cq.sh x) (Pr.sh x):=A.bw λh=>by
 have al:=h.2.2.1;have hw:=bF (n:=(x.1.2.2.1.length:Int) - 1) (by omega) (by omega);unfold V8;simp[aO.sh,cq,hw,yE,rP]
def te(x:dB)(p:dm):Int:=if (!x.1.contains p.1||!bX p.2.1 x.2.1.1 x.2.1.2)=true then 0 else if p.2.2.1=x.2.2.1 then 1 else if p.2.2.1=0 then 2 else 0
abbrev wB:aO:=⟨.aB mN ny,bp,λx=>x.1.1.length<2 ^ 63,λx=>te x.1 x.2⟩
theorem apF(x):A.le (V9 cq.sh o2.sh x) (wB.sh x):=A.bw λh=>by
 unfold V9;simp only[aO.sh,cq,o2,A.dF,A.je,implies_true,A.br,qC];rw[A.bq (by exact h)];show _=A.pure (te x.1 x.2);unfold te bX;grind
def wC(s:bJ)(l:z1')(i:Nat):Bool:=decide (l.getD i 0=-1)||(yE s (l.getD i 0)&&!(l.take i).contains (l.getD i 0))
def wD(s:bJ)(l:z1'):Bool:=((List.range l.length).all (wC s l))&&decide ((l.length:Int)=(s.2.2.2.1.length:Int))
abbrev IQ:aO:=⟨.aB lb fR,dj,λx=>fB x.1/\x.2.length<2 ^ 63,λx=>wD x.1 x.2⟩
theorem apG(x):A.le (V_ Pr.sh o2.sh x) (IQ.sh x):=A.bw λh=>by
 obtain⟨s,l⟩:=x;obtain⟨aD,al⟩:=h;change fB s at aD;change l.length<2 ^ 63 at al;unfold V_;rw[A.ed (List.range l.length) (λi (_:Unit)=>(l,l,(l.length:Int),(i:Int),s,())) (λi b=>if (!wC s l i)=true then .done (.done false) else .next b) (λ_=>.next (l,s,())) () ?_ ?_ ?_]
 ·rw[kZ (q:=wC s l) _ _ (λ_=>rfl)];show _=A.pure (wD s l);unfold wD;cases (List.range l.length).all (wC s l)<;>simp
 ·simp
 ·intro i G b;have G:i<l.length:=by grind
  have hw:=bF (n:=(i:Int)+1) (by omega) (by omega);obtain⟨aM,jy⟩:∃ aM,l.getD i 0=aM:=⟨_,rfl⟩
  have cN:wC s l i=(decide (aM=-1)||(yE s aM&&!(l.take i).contains aM)):=by unfold wC;rw[jy]
  simp only[bZ,cX G,if_true,List.getElem_range,cP G,A.br,aO.sh,A.dF,A.je,Int.toNat_natCast,jy];rw[A.bq (by grind),A.bq,A.bq]
  ·simp only[A.aK,cp,hw,wC,jy];by_cases E:aM=-1
   ·simp_all
   ·cases U:yE s aM<;>cases ah:(l.take i).contains aM<;>simp[E,U,ah,W.ho]
  ·intro _;show (l.take i).length<2 ^ 63;rw[List.length_take];omega
  ·intro cV;exact⟨⟨cV,trivial,cV⟩,⟨by omega,by omega,by omega⟩,trivial⟩
 simp
def ld(s:bJ)(cb:Bool):Int:=if ji s≠0 then ji s else if cb=false then 1 else ey s.1 true
theorem Ps{s:bJ}(h:ji s=0):b' s.1=0/\nz s=true:=by
 unfold ji at h;grind
theorem Bl{s:bJ}{cb:Bool}(h:ld s cb=0):ji s=0/\cb=true/\ey s.1 true=0/\wx s.1=true:=by
 unfold ld at h;by_cases he:ji s=0
 ·rw[if_neg (by omega)]at h;cases cb with
  | false=>grind
  | true=>
   simp only[Bool.true_eq_false,if_false]at h;exact⟨he,rfl,h,(EE h).2.2⟩
 omega
structure mf(s:bJ):Prop where
 gY:fB s
 s8:qN s.1
 EP:s.2.1.length=s.1.1.length
 qP:∀ n∈s.2.1,0<=n/\n<=10
 IS:s.2.2.1.length<=8
 apH:∀ p∈s.2.2.1,pY s.1 p=true
 uV:s.2.2.2.1.length<=6
 ZF:∀ x∈s.2.2.2.1,o7 x=true
 Pt:s.2.2.2.2.1.length<=8
 ZG:∀ d∈s.2.2.2.2.1,o8 s.1 d=true
 apI:0<=s.2.2.2.2.2/\s.2.2.2.2.2<=99
theorem Bm{s:bJ}(aD:fB s)(h:ji s=0):mf s:=by
 obtain⟨E,U⟩:=Ps h;simp only[nz,Bool.and_eq_true,decide_eq_true_eq,List.all_eq_true,bX,j1]at U;obtain⟨⟨⟨⟨⟨⟨⟨⟨aQ,aS⟩,bN⟩,fm⟩,l2⟩,pA⟩,Hs⟩,DC⟩,MM⟩:=U;exact⟨aD,⟨aD.1,Pc E⟩,by omega,aS,by omega,fm,by omega,pA,by omega,DC,MM⟩
theorem mf.ZH{s:bJ}(h:mf s):s.1.1.length<=10:=(EC h.s8.2).1
def IT(w:bx)(t:z5')(q:Int×Int×Int):z5':=if uR w q.1 q.2.1 q.2.2=1 then vP t q (IntKind.i64.wrap ((o6 t q).getD 0+1)) else t
def ZI(w:bx)(i m:Nat)(t:z5'):z5':=(List.range (jB w (m:Int)).length).foldl (λt (k:Nat)=>IT w t ((i:Int),(m:Int),(k:Int))) t
def ZJ(w:bx)(i:Nat)(t:z5'):z5':=(List.range w.2.1.length).foldl (λt m=>ZI w i m t) t
def uW(w:bx)(n:Nat):z5':=(List.range n).foldl (λt i=>ZJ w i t) []
def lL(p:Int×Int)(n:Int):z4':=List.replicate n.toNat p
def ER(l:z1'):z4':=(List.range l.length).flatMap λ(i:Nat)=>lL ((i:Int),0) (l.getD i 0)
def ZK(l:List DY):z4':=l.flatMap λd=>lL (d.2.1,d.1) d.2.2
def Pu(s:bJ):z4':=ER s.2.1++ZK s.2.2.2.2.1
def dt(s:bJ):dz:=(s,Pu s,uW s.1 s.2.1.length)
def yF(s:bJ)(cb:Bool):Option dz×Int:=if ld s cb≠0 then (none,ld s cb) else (some (dt s),0)
theorem Pv{an β:Type}(f:an->List β):∀ (l:List an) (b:List β),l.foldl (λb x=>b++f x) b=b++l.flatMap f
 | [],b=>by simp
 | x::l,b=>by rw[List.foldl_cons,Pv f l,List.flatMap_cons,List.append_assoc]
abbrev apJ:ad:=.st (.aB bp (.aB bp bp))
abbrev wF:ad:=.bG (.st (.aB lb (.aB (.slice IN) (.map apJ bp))))
abbrev Bn:aO:=⟨.aB lb dj,.aB wF bp,λx=>fB x.1,λx=>yF x.1 x.2⟩
theorem apK(s:bJ)(cb:Bool)(aD:fB s):NQ pZ.sh yy.sh Bf.sh IP.sh (s,cb)=A.pure (yF s cb):=by
 unfold NQ yF ld;simp only[aO.sh,A.dF,A.bq aD];by_cases he:ji s=0
 ·have af:=Bm aD he;simp only[he,ne_eq,not_true,decide_false,Bool.false_eq_true,if_false];cases cb with
  | false=>simp
  | true=>
   simp only[Bool.not_true,Bool.false_eq_true,if_false,Bool.true_eq_false];refine Eq.trans (congrArg (λm=>A.bind m _) (show _=(if ey s.1 true≠0 then A.pure (W.done ((none:Option dz),ey s.1 true)) else A.pure (W.next (s,([]:z5'),s.1.1,s.1.2.1,s.1.2.2.1,s.1.2.2.2,s.2.1,s.2.2.1,s.2.2.2.1,s.2.2.2.2.1,s.2.2.2.2.2,()))) from ?_)) ?_
   ·by_cases bj:s.2.1.length=0
    ·have aF:ey s.1 true=0:=by
      unfold ey;have aY:s.1.1.length=0:=by rw[<-af.EP];exact bj
      have:wx s.1=true:=by unfold wx;grind
      simp[(Ps he).1,this]
     grind
    ·have E:decide (Int.ofNat (List.length s.2.1) > 0)=true:=by grind
     have U:hb s.1 0=true:=by rw[uN];have:=af.EP;omega
     rw[if_pos E,A.bq aD.1];unfold wy;rw[U];by_cases ak:ey s.1 true=0
     ·simp[ak]
     ·simp[ak]
   by_cases zc:ey s.1 true=0
   ·simp only[zc,ne_eq,not_true,if_false,A.aK,A.b7];have ayv:=af.ZH;have fp:=af.EP;have apL:s.1.2.1.length<=6:=(EC af.s8.2).2.1;rw[A.ed (List.range s.2.1.length) (λi t=>((s.2.1.length:Int),(i:Int),s,t,s.1.1,s.1.2.1,s.1.2.2.1,s.1.2.2.2,s.2.1,s.2.2.1,s.2.2.2.1,s.2.2.2.2.1,s.2.2.2.2.2,())) (λi t=>.next (ZJ s.1 i t)) (λt=>.next (s,t,s.1.1,s.1.2.1,s.1.2.2.1,s.1.2.2.2,s.2.1,s.2.2.1,s.2.2.2.1,s.2.2.2.2.1,s.2.2.2.2.2,())) [] ?_ ?_ ?_]
    ·rw[eL];simp only[A.aK,A.b7];rw[A.f_ (List.range s.2.1.length) (λi acc=>(s.2.1,(s.2.1.length:Int),(i:Int),s,uW s.1 s.2.1.length,s.1.1,s.1.2.1,s.1.2.2.1,s.1.2.2.2,s.2.1,s.2.2.1,s.2.2.2.1,s.2.2.2.2.1,s.2.2.2.2.2,acc,())) (λi acc=>.next (acc++lL ((i:Int),0) (s.2.1.getD i 0))) (λacc=>.next (s,uW s.1 s.2.1.length,s.1.1,s.1.2.1,s.1.2.2.1,s.1.2.2.2,s.2.1,s.2.2.1,s.2.2.2.1,s.2.2.2.2.1,s.2.2.2.2.2,acc,())) (λi acc=>acc.length<=10*i) [] ?_ ?_ ?_ ?_]
     ·rw[eL,Pv];simp only[A.aK,A.b7,List.nil_append];have fZ:(ER s.2.1).length<=100:=by
       have:∀ (l:List Nat),(∀ i∈l,i<s.2.1.length)->(l.flatMap λ(i:Nat)=>lL ((i:Int),0) (s.2.1.getD i 0)).length<=10*l.length:=by
        intro l;induction l with
        | nil=>simp
        | cons i l aL=>
         intro al;have E:=aL λj aG=>al j (by grind);have U:=al i (by simp);have ah:=af.qP _ (List.getElem_mem U);have jy:s.2.1.getD i 0=s.2.1[i]:=by grind
         rw[List.flatMap_cons,List.length_append,List.length_cons,jy];simp only[lL,List.length_replicate];simp only[lL]at E;omega
       have:=this (List.range s.2.1.length) (λi G=>by grind);rw[List.length_range]at this;unfold ER;omega
      rw[A.f_ s.2.2.2.2.1 (λi acc=>(s.2.2.2.2.1,(s.2.2.2.2.1.length:Int),(i:Int),uW s.1 s.2.1.length,s.1.1,s.1.2.1,s.1.2.2.1,s.1.2.2.2,s.2.1,s.2.2.1,s.2.2.2.1,s.2.2.2.2.1,s.2.2.2.2.2,acc,())) (λd acc=>.next (acc++lL (d.2.1,d.1) d.2.2)) (λacc=>.next (uW s.1 s.2.1.length,s.1.1,s.1.2.1,s.1.2.2.1,s.1.2.2.2,s.2.1,s.2.2.1,s.2.2.2.1,s.2.2.2.2.1,s.2.2.2.2.2,acc,())) (λi acc=>acc.length<=100+10*i) (ER s.2.1) ?_ ?_ ?_ ?_]
      ·rw[eL,Pv,A.aK,A.b7];rfl
      ·rfl
      ·omega
      ·intro i G acc Pd;have ayw:=af.Pt;have h7:=bF (n:=(i:Int)+1) (by omega) (by omega);have au:=af.ZG _ (List.getElem_mem G);have Dh:1<=s.2.2.2.2.1[i].2.2/\s.2.2.2.2.1[i].2.2<=10:=by
        simp only[o8,bX,Bool.and_eq_true,decide_eq_true_eq]at au;omega
       have hlen:(lL (s.2.2.2.2.1[i].2.1,s.2.2.2.2.1[i].1) s.2.2.2.2.1[i].2.2).length<=10:=by simp only[lL,List.length_replicate];omega
       have lZ:bQ (acc.length+(lL (s.2.2.2.2.1[i].2.1,s.2.2.2.2.1[i].1) s.2.2.2.2.1[i].2.2).length):=by unfold bQ;omega
       refine⟨?_,λbe aa=>?_⟩
       ·simp only[bZ,cX G,if_true,dk G,cP G,A.br,A.od,A.gQ,cp,hO,h7];rw[A.bq (by grind),A.bq (by exact lZ)];rfl
       grind
      simp
     ·rfl
     ·simp
     ·intro i G acc Pd;have G:i<s.2.1.length:=by grind
      have h7:=bF (n:=(i:Int)+1) (by omega) (by omega);have jy:s.2.1.getD i 0=s.2.1[i]:=by grind
      have Dh:=af.qP _ (List.getElem_mem G);have hlen:(lL ((i:Int),0) s.2.1[i]).length<=10:=by simp only[lL,List.length_replicate];omega
      have lZ:bQ (acc.length+(lL ((i:Int),0) s.2.1[i]).length):=by unfold bQ;omega
      refine⟨?_,λbe aa=>?_⟩
      ·simp only[bZ,cX G,if_true,dk G,cP G,A.br,A.od,A.gQ,cp,hO,h7,List.getElem_range,jy];rw[A.bq (by grind),A.bq (by exact lZ)];rfl
      grind
     simp
    ·simp
    ·intro i G t;have G:i<s.2.1.length:=by grind
     have h7:=bF (n:=(i:Int)+1) (by omega) (by omega);simp only[bZ,cX G,if_true,List.getElem_range];rw[A.ed (List.range s.1.2.1.length) (λm t=>((i:Int),(s.2.1.length:Int),(i:Int),s.1.2.1,(s.1.2.1.length:Int),(m:Int),s,t,s.1.1,s.1.2.1,s.1.2.2.1,s.1.2.2.2,s.2.1,s.2.2.1,s.2.2.2.1,s.2.2.2.2.1,s.2.2.2.2.2,())) (λm t=>.next (ZI s.1 i m t)) (λt=>.next ((s.2.1.length:Int),(i:Int),s,t,s.1.1,s.1.2.1,s.1.2.2.1,s.1.2.2.2,s.2.1,s.2.2.1,s.2.2.2.1,s.2.2.2.2.1,s.2.2.2.2.2,())) t ?_ ?_ ?_]
     ·rw[eL];simp only[A.aK,A.b7,cp,h7];rfl
     ·rfl
     ·intro m hm t;have hm:m<s.1.2.1.length:=by grind
      have IU:=bF (n:=(m:Int)+1) (by omega) (by omega);have apM:s.1.2.1[m]=jB s.1 (m:Int):=by simp[jB,List.getD_eq_getElem?_getD,hm]
      simp only[bZ,cX hm,if_true,List.getElem_range,cP hm,A.br,dk hm,apM];have Bd:=Iu aD.1 (m:Int);rw[A.ed (List.range (jB s.1 (m:Int)).length) (λk t=>((i:Int),(m:Int),(s.2.1.length:Int),(i:Int),s.1.2.1,(s.1.2.1.length:Int),(m:Int),((jB s.1 (m:Int)).length:Int),(k:Int),s,t,s.1.1,s.1.2.1,s.1.2.2.1,s.1.2.2.2,s.2.1,s.2.2.1,s.2.2.2.1,s.2.2.2.2.1,s.2.2.2.2.2,())) (λk t=>.next (IT s.1 t ((i:Int),(m:Int),(k:Int)))) (λt=>.next ((i:Int),(s.2.1.length:Int),(i:Int),s.1.2.1,(s.1.2.1.length:Int),(m:Int),s,t,s.1.1,s.1.2.1,s.1.2.2.1,s.1.2.2.2,s.2.1,s.2.2.1,s.2.2.2.1,s.2.2.2.2.1,s.2.2.2.2.2,())) t ?_ ?_ ?_]
      ·rw[eL];simp only[A.aK,A.b7,cp,IU];rfl
      ·rfl
      ·intro k ak t;have ak:k<(jB s.1 (m:Int)).length:=by grind
       have me:=bF (n:=(k:Int)+1) (by omega) (by omega);have n':hb s.1 (i:Int)=true:=by rw[uN];omega
       have apN:iU s.1 (m:Int) (k:Int)=true:=by rw[Bb];omega
       have ao:qO s.1 (i:Int) (m:Int) (k:Int)=(uR s.1 (i:Int) (m:Int) (k:Int),0):=by simp[qO,n',apN,zc]
       simp only[cX ak,if_true,List.getElem_range];simp only[ao,A.bq aD.1,decide_eq_true_eq];by_cases E:uR s.1 (i:Int) (m:Int) (k:Int)=1
       ·simp only[E,if_true,and_self,A.br,A.aK,A.b7,cp,me,W.ho,IT];rfl
       ·simp only[E,if_false,A.aK,A.b7,cp,me,W.ho,IT];rfl
      simp
     simp
    simp
   ·simp[zc]
 grind
theorem apO(x):A.le (NQ pZ.sh yy.sh Bf.sh IP.sh x) (Bn.sh x):=A.bw λh=>apK x.1 x.2 h
theorem apP{p:Int->Bool}{l:z1'}(h:j2 p l=true):∀ x∈l,p x=true:=by
 intro x ai;obtain⟨i,G,rfl⟩:=List.mem_iff_getElem.1 ai;unfold j2 at h;simp_all
theorem apQ{p:Int->Bool}{l:z1'}(h:j2 p l=true):l.Pairwise (·<·):=by
 unfold j2 at h;rw[List.all_eq_true]at h;have step:∀ i,i+1<l.length->l.getD i 0<l.getD (i+1) 0:=λi G=>by
  grind
 have key:∀ j i,i<j->j<l.length->l.getD i 0<l.getD j 0:=by
  intro j;induction j with
  | zero=>omega
  | succ j aL=>
   grind
 rw[List.pairwise_iff_getElem];grind
theorem Pw{s:bJ}(af:mf s){p:dm}(aq:p∈s.2.2.1):om s.1 p.2.2.2.1=true/\p.2.2.2.2.length<=4/\∀ k∈p.2.2.2.2,iU s.1 p.2.2.2.1 k=true:=by
 have h:=af.apH p aq;simp only[pY,Bool.and_eq_true]at h;obtain⟨⟨_,hm⟩,M⟩:=h;have fT:∀ k∈p.2.2.2.2,iU s.1 p.2.2.2.1 k=true:=λk ak=>by
  have:=apP M k ak;rw[Bb];simp only[EJ,Bool.and_eq_true,decide_eq_true_eq]at this;exact⟨It.1 hm,this⟩
 refine⟨hm,?_,fT⟩;have apR:=apQ M;have tP:p.2.2.2.2.Nodup:=apR.imp λh e=>by omega
 cases aa:p.2.2.2.2 with
 | nil=>simp
 | cons k l=>
  rw[<-aa];have a6:=aoj af.s8.2 (fT k (by grind));have:=Pg (jB s.1 p.2.2.2.1).length p.2.2.2.2 tP λk ak=>by
   have:=Bb.1 (fT k ak);omega
  omega
abbrev rU:Type:=Int×Int×Int
abbrev apS:dB:=([],(0,0),0,0,0)
abbrev apT:dm:=(0,0,0,0,[])
abbrev yG:dz:=((([],[],0,[]),[],[],[],[],0),[],[])
def mO(s:bJ)(i:Int):dB:=s.2.2.2.1.getD i.toNat apS
def nA(s:bJ)(i:Int):dm:=s.2.2.1.getD i.toNat apT
def wG(s:bJ)(x:dB)(p:dm):Option Int:=if te x p=0 then none else if (if te x p=2 then x.2.2.2.1 - s.2.2.2.2.2 else x.2.2.2.1)<0 then none else some (if te x p=2 then x.2.2.2.1 - s.2.2.2.2.2 else x.2.2.2.1)
def o9(s:bJ)(cA:z1')(i:Nat):Option (List rU):=if cA.getD i 0<0 then some [] else (wG s (mO s (i:Int)) (nA s (cA.getD i 0))).map λd=>(nA s (cA.getD i 0)).2.2.2.2.map λk=>((nA s (cA.getD i 0)).2.2.2.1,k,d)
def lM(s:bJ)(cA:z1'):List rU×Bool:=if ((List.range cA.length).all λi=>(o9 s cA i).isSome)=true then ((List.range cA.length).flatMap λi=>(o9 s cA i).getD [],true) else ([],false)
def oo(s:bJ)(cA:z1'):Prop:=cA.length<=s.2.2.2.1.length/\∀ p∈cA,p<(s.2.2.1.length:Int)
def oq(o:Option dz):bJ:=(o.getD yG).1
def wH(o:Option dz)(s:bJ):Prop:=o=some (dt s)/\mf s
theorem Px{s:bJ}{i:Nat}(h:i<s.2.2.2.1.length):mO s (i:Int)∈s.2.2.2.1:=by
 simp[mO,List.getD_eq_getElem?_getD,h]
theorem ZL{s:bJ}{i:Int}(aY:0<=i)(h:i<(s.2.2.1.length:Int)):nA s i∈s.2.2.1:=x8 aY h
theorem ZM{s:bJ}(af:mf s){x:dB}(ai:x∈s.2.2.2.1):(0<=x.2.2.2.1/\x.2.2.2.1<=99)/\(0<=x.2.2.2.2/\x.2.2.2.2<=100000):=by
 have:=af.ZF x ai;simp only[o7,j1,bX,Bool.and_eq_true,decide_eq_true_eq]at this;omega
theorem ZN{s:bJ}(af:mf s){cA:z1'}(aq:oo s cA){i:Nat}(G:i<cA.length){l:List rU}(h:o9 s cA i=some l):l.length<=4:=by
 unfold o9 at h;split at h
 ·grind
 ·rename_i IL;rw[Option.map_eq_some_iff]at h;obtain⟨d,_,rfl⟩:=h;rw[List.length_map];have hm:cA.getD i 0∈cA:=by grind
  exact (Pw af (ZL (by omega) (aq.2 _ hm))).2.1
def Bo{an β aJ:Type}(f:an->Option (List β))(r:aJ)(x:an)(b:List β):W (List β) aJ:=if (f x).isSome=true then .next (b++(f x).getD []) else .done r
theorem ES{an β aJ:Type}{f:an->Option (List β)}{r:aJ}{x:an}{b y:List β}(h:f x=some y):Bo f r x b=.next (b++y):=by simp[Bo,h]
theorem IV{an β aJ:Type}{f:an->Option (List β)}{r:aJ}{x:an}{b:List β}(h:f x=none):Bo f r x b=.done r:=by simp[Bo,h]
theorem ZO{an β aJ:Type}{f:an->Option (List β)}{r:aJ}{fin:List β->aJ}:∀ (l:List an) (b:List β),e1 (Bo f r) fin l b=if (l.all λx=>(f x).isSome)=true then fin (b++l.flatMap λx=>(f x).getD []) else r
 | [],b=>by simp[e1]
 | x::l,b=>by
  simp only[e1];cases h:f x with
  | none=>simp[IV h,h]
  | some y=>
   have:=ZO (f:=f) (r:=r) (fin:=fin) l (b++y);simp only[ES h,List.all_cons,h,Option.isSome_some,Bool.true_and,List.flatMap_cons,Option.getD_some];grind
abbrev IW:ad:=.st (.aB bp (.aB bp bp))
abbrev IX:aO:=⟨.aB wF fR,.aB (.slice IW) dj,λx=>∃ s,wH x.1 s/\oo s x.2,λx=>lM (oq x.1) x.2⟩
theorem apU(s:bJ)(af:mf s)(cA:z1')(aq:oo s cA):NR wB.sh (some (dt s),cA)=A.pure (lM s cA):=by
 unfold NR;have Bp:=af.uV;have ayx:=aq.1;simp only[Option.isSome_some,Option.getD_some,A.br];rw[A.f_ (List.range cA.length) (λi acc=>(some (dt s),cA,(cA.length:Int),(i:Int),acc,())) (Bo (o9 s cA) (.done ([],false))) (λacc=>.next (acc,())) (λi acc=>acc.length<=4*i) [] ?_ ?_ ?_ ?_]
 ·rw[ZO];unfold lM;by_cases h:((List.range cA.length).all λi=>(o9 s cA i).isSome)=true
  ·simp[h]
  ·simp[h]
 ·rfl
 ·simp
 ·intro i G acc Pd;have G:i<cA.length:=by grind
  have tf:i<s.2.2.2.1.length:=by omega
  have h7:=bF (n:=(i:Int)+1) (by omega) (by omega);have IY:=Px tf;rw[List.getElem_range];obtain⟨aM,apV⟩:∃ aM,cA.getD i 0=aM:=⟨_,rfl⟩
  have apW:aM∈cA:=by grind
  refine⟨?_,λbe aa=>?_⟩
  ·simp only[bZ,cX G,if_true,Int.toNat_natCast,apV,cP G,A.br,Option.isSome_some,Option.getD_some];by_cases IL:aM<0
   ·have nc:o9 s cA i=some []:=by unfold o9;grind
    rw[ES nc];simp_all
   ·have iv:aM<(s.2.2.1.length:Int):=aq.2 aM apW;have apX:=ZL (s:=s) (by omega) iv;have gP:0<=aM/\aM<(s.2.2.1.length:Int):=⟨by omega,iv⟩
    have fZ:(dt s).1=s:=rfl;have Bq:List.getD s.2.2.2.1 i ([],(0,0),0,0,0)=mO s (i:Int):=rfl;have Py:List.getD s.2.2.1 aM.toNat (0,0,0,0,[])=nA s aM:=rfl;simp only[IL,decide_false,Bool.false_eq_true,if_false,fZ,cP tf,A.bq gP,A.br,aO.sh,A.dF,Bq,Py];have nc:o9 s cA i=(wG s (mO s (i:Int)) (nA s aM)).map λd=>(nA s aM).2.2.2.2.map λk=>((nA s aM).2.2.2.1,k,d):=by unfold o9;grind
    rw[A.bq (show wB.pre (mO s (i:Int),nA s aM) from af.gY.2.2.2.2.2.2 _ IY)];obtain⟨ayy,_⟩:=ZM af IY;have l3:=af.apI;obtain⟨apL,iH,C'⟩:=Pw af apX;have apY:=bF (n:=(mO s (i:Int)).2.2.2.1 - s.2.2.2.2.2) (by omega) (by omega);generalize mO s (i:Int)=x at *
    generalize nA s aM=p at *
    by_cases aY:te x p=0
    ·have au:wG s x p=none:=by unfold wG;grind
     rw[au]at nc;rw[IV nc];simp only[aY,decide_true,if_true,A.aK,A.pG,W.ho]
    ·by_cases U:te x p=2;all_goals simp only[aY,U,decide_true,decide_false,Bool.false_eq_true,if_false,if_true,A.aK,A.b7,apY,Int.reduceEq]
     ·have au:wG s x p=(if x.2.2.2.1 - s.2.2.2.2.2<0 then none else some (x.2.2.2.1 - s.2.2.2.2.2)):=by unfold wG;grind
      generalize x.2.2.2.1 - s.2.2.2.2.2=d at *
      by_cases ru:d<0
      ·rw[if_pos ru]at au;rw[au]at nc;rw[IV nc];simp_all
      ·rw[if_neg ru]at au;rw[au]at nc;rw[ES nc];simp only[ru,decide_false,Bool.false_eq_true,if_false];rw[A.f_ p.2.2.2.2 (λk acc=>(some (dt s),d,cA,(cA.length:Int),(i:Int),p.2.2.2.2,(p.2.2.2.2.length:Int),(k:Int),acc,p,())) (λk acc=>.next (acc++[(p.2.2.2.1,k,d)])) (λacc=>.next (some (dt s),cA,(cA.length:Int),(i:Int),acc,())) (λk yH=>yH.length<=4*i+k) acc ?_ ?_ ?_ ?_]
       ·rw[eL,sR];simp_all
       ·rfl
       ·omega
       ·intro k ak yH apZ;have me:=bF (n:=(k:Int)+1) (by omega) (by omega);have lZ:bQ (yH.length+(0+1)):=by unfold bQ;omega
        refine⟨?_,λbe aa=>?_⟩
        ·simp_all
        grind
       simp
     ·have au:wG s x p=(if x.2.2.2.1<0 then none else some x.2.2.2.1):=by unfold wG;grind
      generalize x.2.2.2.1=d at *
      by_cases ru:d<0
      ·omega
      ·rw[if_neg ru]at au;rw[au]at nc;rw[ES nc];simp only[ru,decide_false,Bool.false_eq_true,if_false];rw[A.f_ p.2.2.2.2 (λk acc=>(some (dt s),d,cA,(cA.length:Int),(i:Int),p.2.2.2.2,(p.2.2.2.2.length:Int),(k:Int),acc,p,())) (λk acc=>.next (acc++[(p.2.2.2.1,k,d)])) (λacc=>.next (some (dt s),cA,(cA.length:Int),(i:Int),acc,())) (λk yH=>yH.length<=4*i+k) acc ?_ ?_ ?_ ?_]
       ·rw[eL,sR];simp_all
       ·rfl
       ·omega
       ·intro k ak yH apZ;have me:=bF (n:=(k:Int)+1) (by omega) (by omega);have lZ:bQ (yH.length+(0+1)):=by unfold bQ;omega
        refine⟨?_,λbe aa=>?_⟩
        ·simp_all
        grind
       simp
  ·cases nc:o9 s cA i with
   | none=>rw[IV nc]at aa;cases aa
   | some y=>
    rw[ES nc]at aa;cases aa;have:=ZN af aq G nc;grind
 simp
theorem ap0(x):A.le (NR wB.sh x) (IX.sh x):=A.bw λh=>by
 obtain⟨o,cA⟩:=x;obtain⟨s,⟨ao,af⟩,aq⟩:=h;change o=_ at ao;subst ao;exact apU s af cA aq
def rV(s:bJ)(cA:z1'):Int:=((List.range cA.length).map λ(i:Nat)=>if cA.getD i 0=-1 then 0 else (mO s (i:Int)).2.2.2.2).foldl (·+·) 0
abbrev th:aO:=⟨.aB wF fR,bp,λx=>∃ s,wH x.1 s/\x.2.length<=s.2.2.2.1.length,λx=>rV (oq x.1) x.2⟩
theorem ap1(s:bJ)(af:mf s)(cA:z1')(aq:cA.length<=s.2.2.2.1.length):NX (some (dt s),cA)=A.pure (rV s cA):=by
 unfold NX;have Bp:=af.uV;rw[A.f_ (List.range cA.length) (λi (n:Int)=>(some (dt s),n,cA,(cA.length:Int),(i:Int),())) (λ(i:Nat) n=>.next (n+if cA.getD i 0=-1 then 0 else (mO s (i:Int)).2.2.2.2)) (λn=>.next (n,())) (λi n=>0<=n/\n<=100000*i) 0 ?_ ?_ ?_ ?_]
 ·rw[eL];unfold rV;rw[List.foldl_map,A.aK,A.b7]
 ·rfl
 ·simp
 ·intro i G n ax;have G:i<cA.length:=by grind
  have tf:i<s.2.2.2.1.length:=by omega
  have h7:=bF (n:=(i:Int)+1) (by omega) (by omega);obtain⟨_,oO⟩:=ZM af (Px tf);have Bq:List.getD s.2.2.2.1 i ([],(0,0),0,0,0)=mO s (i:Int):=rfl;have Bj:=bF (n:=n+(mO s (i:Int)).2.2.2.2) (by omega) (by omega);have fZ:(dt s).1=s:=rfl;rw[List.getElem_range];refine⟨?_,λbe aa=>?_⟩
  ·simp only[bZ,cX G,if_true,Int.toNat_natCast,cP G,cP tf,A.br,Option.isSome_some,Option.getD_some,cp,fZ,Bq];by_cases E:cA.getD i 0=-1
   ·simp only[E,ne_eq,not_true,decide_false,Bool.false_eq_true,if_false,if_true,A.aK,A.b7,h7,Int.add_zero,W.ho];rfl
   ·simp only[E,ne_eq,not_false_iff,decide_true,if_false,if_true,cP tf,A.br,A.aK,A.b7,h7,Bj,W.ho];rfl
  grind
 simp
theorem ap2(x):A.le (NX x) (th.sh x):=A.bw λh=>by
 obtain⟨o,cA⟩:=x;obtain⟨s,⟨ao,af⟩,aq⟩:=h;change o=_ at ao;subst ao;exact ap1 s af cA aq
theorem ET{l:z1'}{j i:Nat}{s:Int}(aG:j<l.length):(l.set j s).getD i 0=if i=j then s else l.getD i 0:=by
 grind
abbrev ZP(fit:List (z1'))(j:Int):z1':=fit.getD j.toNat []
def ap3(qP work:z1')(s:Int):Prop:=qP.getD s.toNat 0<=((Pj work s).length:Int)
def ap4(fit:List (z1'))(qP work:z1')(C:Int->Prop):Prop:=∀ j,C j->∀ s∈ZP fit j,ap3 qP work s/\∀ h∈Pj work s,C h
def ap5(n:Nat)(qP work:z1'):Prop:=∀ s,0<=s->s<(n:Int)->((Pj work s).length:Int)<=qP.getD s.toNat 0
structure ayz(n:Nat)(fit:List (z1'))(qP:z1')(k:Nat)(work:z1'):Prop where
 len:work.length=fit.length
 val:ap5 n qP work
 mem:∀ i:Nat,i<fit.length->work.getD i 0=-1\/work.getD i 0∈ZP fit (i:Int)
 cj:∀ i:Nat,k<=i->i<fit.length->work.getD i 0=-1
 Pz:∃ C,ap4 fit qP work C/\(∀ c,C c->0<=c/\c<(k:Int))/\∀ i:Nat,i<k->work.getD i 0=-1->C (i:Int)
theorem ap6{J i:Nat}(h:i<J):(List.replicate J (-1:Int)).getD i 0=-1:=by
 grind
theorem ZQ(a b:Int):(if a=b then 1 else 0)=(if b=a then 1 else (0:Nat)):=by
 grind
def gT(g:z1')(j:Int):Nat:=g.countP λx=>decide (x=j)
theorem PA:∀ {g:z1'} {i:Nat} {x:Int} (j:Int),i<g.length->gT (g.set i x) j+(if g.getD i 0=j then 1 else 0)=gT g j+(if x=j then 1 else 0)
 | [],i,x,j,h=>by grind
 | y::g,0,x,j,h=>by
  unfold gT;grind
 | y::g,i+1,x,j,h=>by
  have:=PA (g:=g) (i:=i) (x:=x) j (by grind);unfold gT at *
  grind
theorem ap7{g:z1'}{i:Nat}{j:Int}(G:i<g.length)(h:g.getD i 0=j):0<gT g j:=by
 unfold gT;grind
def ot(gd:Nat->Int->Bool)(rec:Int->la->Bool×la)(own:Int)(i:Nat)(st:la):W la (Bool×la):=
 if (decide (cT st.2 (i:Int) > 0)||!gd i own)=true then .next st
 else if decide (st.1.getD i 0=-1)=true then .done (true,(st.1.set i own,ff st.2 (i:Int) (cT st.2 (i:Int)+1)))
 else if (rec (st.1.getD i 0) (st.1,ff st.2 (i:Int) (cT st.2 (i:Int)+1))).1=true then .done (true,((rec (st.1.getD i 0) (st.1,ff st.2 (i:Int) (cT st.2 (i:Int)+1))).2.1.set i own,(rec (st.1.getD i 0) (st.1,ff st.2 (i:Int) (cT st.2 (i:Int)+1))).2.2))
 else .next (rec (st.1.getD i 0) (st.1,ff st.2 (i:Int) (cT st.2 (i:Int)+1))).2
def j3(gd:Nat->Int->Bool)(m:Nat):Nat->Int->la->Bool×la
 | 0=>λ_ st=>(false,st)
 | f+1=>λown st=>e1 (ot gd (j3 gd m f) own) (λst=>(false,st)) (List.range m) st
def PB(m J:Nat)(g:z1'):Prop:=∀ i,i<m->g.getD i 0=-1\/(0<=g.getD i 0/\g.getD i 0<(J:Int))
structure yI(m J f:Nat)(st:la):Prop where
 len:st.1.length=m
 mg:PB m J st.1
 seen:∀ k,0<=cT st.2 k/\cT st.2 k<=1
 cg:rS m st.2<f
structure PC(m J:Nat)(st r:la):Prop where
 len:r.1.length=m
 mg:PB m J r.1
 seen:∀ k,cT st.2 k<=cT r.2 k/\cT r.2 k<=1
def ZR(gd:Nat->Int->Bool)(m:Nat)(g:z1')(C:Int->Prop):Prop:=∀ j,C j->∀ i,i<m->gd i j=true->g.getD i 0≠-1/\C (g.getD i 0)
def ZS(gd:Nat->Int->Bool)(m:Nat)(g:z1')(s s':z4'):Prop:=∀ i,i<m->cT s (i:Int)=0->1<=cT s' (i:Int)->g.getD i 0≠-1/\∀ k,k<m->gd k (g.getD i 0)=true->1<=cT s' (k:Int)
structure PD(gd:Nat->Int->Bool)(m:Nat)(own:Int)(st:la)(r:Bool×la):Prop where
 PE:r.1=false->r.2.1=st.1/\(∀ i,i<m->gd i own=true->1<=cT r.2.2 (i:Int))/\ZS gd m st.1 st.2 r.2.2
 ZT:r.1=true->(∀ i,i<m->r.2.1.getD i 0=st.1.getD i 0\/(cT st.2 (i:Int)=0/\gd i (r.2.1.getD i 0)=true))/\∀ j,j≠-1->gT r.2.1 j=gT st.1 j+(if j=own then 1 else 0)
 cl:∀ C,ZR gd m st.1 C->(C own->r.1=false)/\(r.1=true->∀ i,i<m->r.2.1.getD i 0≠st.1.getD i 0->∀ c,C c->gd i c=false)
def ZU(gd:Nat->Int->Bool)(m J f:Nat)(rec:Int->la->Bool×la):Prop:=∀ own st,0<=own->own<(J:Int)->yI m J f st->PC m J st (rec own st).2/\PD gd m own st (rec own st)
theorem ap8{gd:Nat->Int->Bool}{m J f:Nat}{rec:Int->la->Bool×la}(Er:ZU gd m J f rec){own:Int}(ZV:0<=own)(ZW:own<(J:Int)){st:la}(aY:yI m J (f+1) st) :
  PC m J st (e1 (ot gd rec own) (λst=>(false,st)) (List.range m) st).2/\PD gd m own st (e1 (ot gd rec own) (λst=>(false,st)) (List.range m) st):=by
 refine ao1 (λk b=>b.1=st.1/\(∀ q,cT st.2 q<=cT b.2 q/\cT b.2 q<=1)/\(∀ i,i<k->i<m->gd i own=true->1<=cT b.2 (i:Int))/\ZS gd m st.1 st.2 b.2)
  (λr:Bool×la=>PC m J st r.2/\PD gd m own st r) (List.range m) st ⟨rfl,λq=>⟨Int.le_refl _,(aY.seen q).2⟩,λi G=>by omega,λi _ E U=>by omega⟩ (λi G b aa=>?_) λb aa=>?_
 ·obtain⟨hw,nv,IZ,ls⟩:=aa;have G:i<m:=by grind
  rw[List.getElem_range];have vx:∀ q,0<=cT b.2 q:=λq=>Int.le_trans (aY.seen q).1 (nv q).1;unfold ot;by_cases hc:(decide (cT b.2 (i:Int) > 0)||!gd i own)=true
  ·grind
  ·rw[if_neg hc];simp only[Bool.or_eq_true,not_or,decide_eq_true_eq,Bool.not_eq_true',Bool.not_eq_false]at hc;obtain⟨bj,ay⟩:=hc;have bj:cT b.2 (i:Int)=0:=by grind
   have KZ:cT st.2 (i:Int)=0:=by have:=(nv i).1;have:=(aY.seen i).1;omega
   have qj:i<st.1.length:=by rw[aY.len];exact G
   have kj:∀ q,cT b.2 q<=cT (ff b.2 (i:Int) (cT b.2 (i:Int)+1)) q/\cT (ff b.2 (i:Int) (cT b.2 (i:Int)+1)) q<=1:=λq=>by
    have:=nv q;rw[Bk];omega
   have ayA:cT (ff b.2 (i:Int) (cT b.2 (i:Int)+1)) (i:Int)=1:=by rw[Bk,if_pos rfl,bj];rfl
   by_cases ao:st.1.getD i 0=-1
   ·rw[hw,if_pos (by grind)];refine⟨⟨by show (st.1.set i own).length=m;rw[List.length_set];exact aY.len,λk ak=>?_,λq=>⟨Int.le_trans (nv q).1 (kj q).1,(kj q).2⟩⟩,λh=>(by cases h),λ_=>⟨λk ak=>?_,λj aG=>?_⟩,λC jr=>⟨λPF=>?_,λ_ k ak eQ c hc=>?_⟩⟩
    ·show (st.1.set i own).getD k 0=-1\/(0<=(st.1.set i own).getD k 0/\(st.1.set i own).getD k 0<(J:Int))
     rw[ET qj];split
     ·omega
     ·exact aY.mg k ak
    ·grind
    ·have:=PA (x:=own) j qj;grind
    ·exact absurd ao (jr own PF i G ay).1
    ·change (st.1.set i own).getD k 0≠_ at eQ;rw[ET qj]at eQ;split at eQ
     ·rename_i e;subst e;cases PG:gd k c with
      | false=>rfl
      | true=>exact absurd ao (jr c hc k G PG).1
     omega
   ·rw[hw,if_neg (by grind)];have iO:=(aY.mg i G).resolve_left ao;have wI:yI m J f (st.1,ff b.2 (i:Int) (cT b.2 (i:Int)+1)):=by
     refine⟨aY.len,aY.mg,λq=>⟨Int.le_trans (vx q) (kj q).1,(kj q).2⟩,?_⟩;have E:=Zz (n:=m) (m:=b.2) (s:=(i:Int)) (v:=cT b.2 (i:Int)+1) (by omega) (by omega) bj (by omega);have U:=ZA (n:=m) (a:=st.2) (b:=b.2) λk=>⟨(aY.seen k).1,(nv k).1⟩
     have ah:=aY.cg;grind
    obtain⟨aq,M⟩:=Er (st.1.getD i 0) _ iO.1 iO.2 wI;revert aq M;generalize rec (st.1.getD i 0) (st.1,ff b.2 (i:Int) (cT b.2 (i:Int)+1))=r;intro aq M;have xS:∀ q,cT (ff b.2 (i:Int) (cT b.2 (i:Int)+1)) q<=cT r.2.2 q:=λq=>(aq.seen q).1;by_cases bL:r.1=true
    ·rw[if_pos bL];obtain⟨kX,Br⟩:=M.ZT bL;have tV:i<r.2.1.length:=by rw[aq.len];exact G
     have CA:r.2.1.getD i 0=st.1.getD i 0:=by
      grind
     refine⟨⟨by show (r.2.1.set i own).length=m;rw[List.length_set];exact aq.len,λk ak=>?_,λq=>⟨Int.le_trans (nv q).1 (Int.le_trans (kj q).1 (xS q)),(aq.seen q).2⟩⟩,λh=>(by cases h),λ_=>⟨λk ak=>?_,λj aG=>?_⟩,λC jr=>⟨λPF=>?_,λ_ k ak eQ c hc=>?_⟩⟩
     ·show (r.2.1.set i own).getD k 0=-1\/(0<=(r.2.1.set i own).getD k 0/\(r.2.1.set i own).getD k 0<(J:Int))
      rw[ET tV];split
      ·omega
      ·exact aq.mg k ak
     ·show (r.2.1.set i own).getD k 0=_\/(_/\gd k ((r.2.1.set i own).getD k 0)=true)
      rw[ET tV];split
      ·grind
      ·rcases kX k ak with e | ⟨az,aN⟩
       ·grind
       ·right;refine⟨?_,aN⟩;have a:=(kj (k:Int)).1;have d:=nv (k:Int);have c:=(aY.seen (k:Int)).1;grind
     ·have a:=PA (x:=own) j tV;have d:=Br j aG;change gT r.2.1 j=gT st.1 j+_ at d;rw[CA]at a;show gT (r.2.1.set i own) j=_;rw[ZQ j own];rw[ZQ j (st.1.getD i 0)]at d;omega
     ·have:=(M.cl C jr).1 (jr own PF i G ay).2;grind
     ·change (r.2.1.set i own).getD k 0≠_ at eQ;rw[ET tV]at eQ;split at eQ
      ·rename_i e;subst e;cases PG:gd k c with
       | false=>rfl
       | true=>
        have:=(M.cl C jr).1 (jr c hc k G PG).2;grind
      ·exact (M.cl C jr).2 bL k ak eQ c hc
    ·rw[if_neg bL];have C4:r.1=false:=by grind
     obtain⟨C6,ayB,ap9⟩:=M.PE C4;refine⟨C6,λq=>⟨Int.le_trans (nv q).1 (Int.le_trans (kj q).1 (xS q)),(aq.seen q).2⟩,λk ak PH G3=>?_,λk PH bH az=>?_⟩
     ·grind
     ·by_cases e:k=i
      ·grind
      ·by_cases aN:1<=cT b.2 (k:Int)
       ·obtain⟨a,c⟩:=ls k PH bH aN;grind
       ·refine ap9 k PH ?_ az;show cT (ff b.2 (i:Int) (cT b.2 (i:Int)+1)) (k:Int)=0;rw[Bk,if_neg (by omega)];grind
 ·obtain⟨hw,nv,IZ,ls⟩:=aa;rw[List.length_range]at IZ;refine⟨⟨by rw[hw];exact aY.len,by rw[hw];exact aY.mg,nv⟩,λ_=>⟨hw,λi G ay=>IZ i G G ay,ls⟩,λh=>(by cases h),λC jr=>⟨λ_=>rfl,λh=>(by cases h)⟩⟩
theorem PI{gd:Nat->Int->Bool}{m J:Nat}:∀ f,ZU gd m J f (j3 gd m f)
 | 0=>λown st _ _ h=>absurd h.cg (by omega)
 | f+1=>λown st aY E h=>ap8 (PI f) aY E h
def yJ(gd:Nat->Int->Bool)(m F:Nat)(st:z1'×Int)(j:Nat):z1'×Int:=((j3 gd m F (j:Int) (st.1,[])).2.1,if (j3 gd m F (j:Int) (st.1,[])).1=true then st.2 else st.2+1)
def PJ(gd:Nat->Int->Bool)(m J F:Nat):z1'×Int:=(List.range J).foldl (yJ gd m F) (List.replicate m (-1),0)
structure EU(gd:Nat->Int->Bool)(m J k:Nat)(st:z1'×Int):Prop where
 len:st.1.length=m
 mg:∀ i,i<m->st.1.getD i 0=-1\/(0<=st.1.getD i 0/\st.1.getD i 0<(k:Int)/\gd i (st.1.getD i 0)=true)
 one:∀ j,0<=j->gT st.1 j<=1
 num:st.2=(((List.range k).countP λ(j:Nat)=>decide (gT st.1 (j:Int)=0):Nat):Int)
 Pz:∃ C,ZR gd m st.1 C/\(∀ c,C c->0<=c/\c<(k:Int))/\∀ j:Nat,j<k->gT st.1 (j:Int)=0->C (j:Int)
theorem ZX{gd:Nat->Int->Bool}{m J F k:Nat}(bo:m<F)(ak:k<J){st:z1'×Int}(h:EU gd m J k st):EU gd m J (k+1) (yJ gd m F st k):=by
 obtain⟨g,n⟩:=st;have hu:rS m []<=m:=by
  unfold rS;exact Nat.le_trans List.countP_le_length (by simp)
 have wI:yI m J F (g,[]):=⟨h.len,λi G=>by have:=h.mg i G;grind,λq=>⟨Int.le_refl _,by show (0:Int)<=1;decide⟩,by grind⟩
 obtain⟨aq,M⟩:=PI F (k:Int) (g,[]) (by omega) (by omega) wI;unfold yJ;revert aq M;generalize j3 gd m F (k:Int) (g,[])=r;intro aq M;have nd:gT g (k:Int)=0:=by
  unfold gT;rw[List.countP_eq_zero];intro x ai;obtain⟨i,G,rfl⟩:=List.mem_iff_getElem.1 ai;have:=h.mg i (by rw[<-h.len];exact G);grind
 obtain⟨C,jr,ayC,ayD⟩:=h.Pz;by_cases aa:r.1=true
 ·obtain⟨kX,Br⟩:=M.ZT aa;have ayE:=(M.cl C jr).2 aa;refine⟨aq.len,λi G=>?_,λj aG=>?_,?_,C,λc uc i G EV=>?_,λc uc=>?_,λj aG hu=>?_⟩
  ·show r.2.1.getD i 0=-1\/_;rcases kX i G with e | ⟨az,aN⟩
   ·rw[e];rcases h.mg i G with a | a
    ·exact .inl a
    ·exact .inr ⟨a.1,by have:=a.2.1;show g.getD i 0<_;change g.getD i 0<_ at this;omega,a.2.2⟩
   ·by_cases kj:r.2.1.getD i 0=-1
    ·omega
    ·refine .inr ⟨?_,?_,aN⟩
     ·have:=(aq.mg i G).resolve_left kj;grind
     ·have E:=Br _ kj;have U:0<gT r.2.1 (r.2.1.getD i 0):=ap7 (by rw[aq.len];exact G) rfl;by_cases e:r.2.1.getD i 0=(k:Int)
      ·grind
      ·rw[if_neg e]at E;have ah:0<gT g (r.2.1.getD i 0):=by grind
       unfold gT at ah;rw[List.countP_pos_iff]at ah;obtain⟨x,ai,fa⟩:=ah;obtain⟨q,bt,rfl⟩:=List.mem_iff_getElem.1 ai;have:=h.mg q (by rw[<-h.len];exact bt);grind
  ·have E:=Br j (by omega);have U:=h.one j aG;change gT r.2.1 j=gT g j+_ at E;change gT g j<=1 at U;show gT r.2.1 j<=1;by_cases e:j=(k:Int)
   ·subst e;rw[if_pos rfl]at E;omega
   ·rw[if_neg e]at E;omega
  ·rw[if_pos aa];have E:=h.num;change n=_ at E;show n=_;rw[E,List.range_succ,List.countP_append];have U:∀ j:Nat,j<k->gT r.2.1 (j:Int)=gT g (j:Int):=λj aG=>by
    have:=Br (j:Int) (by omega);rw[if_neg (by omega)]at this;omega
   have ah:gT r.2.1 (k:Int)=1:=by
    grind
   have a6:(List.range k).countP (λ(j:Nat)=>decide (gT r.2.1 (j:Int)=0))=(List.range k).countP (λ(j:Nat)=>decide (gT g (j:Int)=0)):=List.countP_congr λj aG=>by grind
   simp_all
  ·show r.2.1.getD i 0≠-1/\C (r.2.1.getD i 0);by_cases e:r.2.1.getD i 0=g.getD i 0
   ·rw[e];exact jr c uc i G EV
   grind
  ·grind
  ·change gT r.2.1 (j:Int)=0 at hu;have E:=Br (j:Int) (by omega);change gT r.2.1 _=gT g _+_ at E;by_cases e:j=k
   ·grind
   ·rw[if_neg (by omega)]at E;grind
 ·have C4:r.1=false:=by grind
  obtain⟨hw,IZ,ls⟩:=M.PE C4;change r.2.1=g at hw;simp only[hw];refine⟨h.len,λi G=>?_,h.one,?_,λc=>C c\/c=(k:Int)\/∃ i,i<m/\1<=cT r.2.2 (i:Int)/\c=g.getD i 0,λc uc i G EV=>?_,λc uc=>?_,λj aG hu=>?_⟩
  ·rcases h.mg i G with a | a
   ·exact .inl a
   ·exact .inr ⟨a.1,by have:=a.2.1;show g.getD i 0<_;change g.getD i 0<_ at this;omega,a.2.2⟩
  ·rw[if_neg aa];have E:=h.num;change n=_ at E;show n+1=_;rw[E,List.range_succ,List.countP_append];grind
  ·have ax:1<=cT r.2.2 (i:Int)->g.getD i 0≠-1/\(C (g.getD i 0)\/g.getD i 0=(k:Int)\/∃ q,q<m/\1<=cT r.2.2 (q:Int)/\g.getD i 0=g.getD q 0):=λaD=>⟨(ls i G rfl aD).1,.inr (.inr ⟨i,G,aD,rfl⟩)⟩
   rcases uc with e | e | ⟨q,bt,aD,e⟩
   ·exact⟨(jr c e i G EV).1,.inl (jr c e i G EV).2⟩
   ·grind
   ·subst e;exact ax ((ls q bt rfl aD).2 i G EV)
  ·rcases uc with e | e | ⟨q,bt,aD,e⟩
   ·grind
   ·omega
   ·have:=(h.mg q bt).resolve_left (ls q bt rfl aD).1;grind
  grind
theorem ap_(gd:Nat->Int->Bool)(m J F:Nat)(bo:m<F):EU gd m J J (PJ gd m J F):=by
 unfold PJ;have key:∀ k,k<=J->EU gd m J k ((List.range k).foldl (yJ gd m F) (List.replicate m (-1),0)):=by
  intro k;induction k with
  | zero=>
   intro _;refine⟨by simp,λi G=>.inl (ap6 G),λj aG=>?_,by simp,λ_=>False,λ_ h=>h.elim,λ_ h=>h.elim,λj aG=>by omega⟩;show gT (List.replicate m (-1)) j<=1;have:gT (List.replicate m (-1)) j=0:=by
    unfold gT;grind
   omega
  | succ k aL=>
   intro ak;rw[List.range_succ,List.foldl_append];exact ZX bo (by omega) (aL (by omega))
 grind
def rW(t:dz)(sp:Int×Int)(j:rU):Bool:=decide (sp.2<=j.2.2)&&decide ((o6 t.2.2 (sp.1,j.1,j.2.1)).getD 0 > 0)
abbrev Bs:aO:=⟨.aB wF (.aB IN IW),dj,λx=>∃ t,x.1=some t,λx=>rW (x.1.getD yG) x.2.1 x.2.2⟩
theorem ap'(x):A.le (V' x) (Bs.sh x):=A.bw λh=>by
 obtain⟨o,sp,j⟩:=x;obtain⟨t,ao⟩:=h;change o=_ at ao;subst ao;unfold V';simp only[Option.isSome_some,Option.getD_some,and_true,true_and,and_self,imp_self,implies_true,A.br];rfl
def EW(t:dz)(l:List rU):Bool:=l.all λj=>(List.range t.1.2.1.length).any λ(i:Nat)=>rW t ((i:Int),0) j
abbrev PK:aO:=⟨.aB wF (.slice IW),dj,λx=>∃ t,x.1=some t/\t.1.2.1.length<2 ^ 63/\x.2.length<2 ^ 63,λx=>EW (x.1.getD yG) x.2⟩
theorem aqa(t:dz)(l:List rU)(E:t.1.2.1.length<2 ^ 63)(U:l.length<2 ^ 63):NS Bs.sh (some t,l)=A.pure (EW t l):=by
 unfold NS;rw[A.ed l (λi (_:Unit)=>(some t,l,(l.length:Int),(i:Int),())) (λj b=>if (!(List.range t.1.2.1.length).any λ(i:Nat)=>rW t ((i:Int),0) j)=true then .done (.done false) else .next b) (λ_=>.next ()) () ?_ ?_ ?_]
 ·rw[kZ (q:=λj=>(List.range t.1.2.1.length).any λ(i:Nat)=>rW t ((i:Int),0) j) _ _ (λ_=>rfl)];unfold EW;cases l.all λj=>(List.range t.1.2.1.length).any λ(i:Nat)=>rW t ((i:Int),0) j<;>simp
 ·rfl
 ·intro i G b;have hw:=bF (n:=(i:Int)+1) (by omega) (by omega);simp only[bZ,cX G,if_true,dk G,cP G,A.br,Option.isSome_some,Option.getD_some];rw[A.ed (List.range t.1.2.1.length) (λk (b:Bool)=>(some t,b,l,(l.length:Int),(i:Int),(t.1.2.1.length:Int),(k:Int),l[i],())) (λ(k:Nat) b=>.next (b||rW t ((k:Int),0) l[i])) (λb=>.next (some t,b,l,(l.length:Int),(i:Int),())) false ?_ ?_ ?_]
  ·rw[eL];have e:∀ (r:List Nat) (b:Bool),r.foldl (λ(b:Bool) (k:Nat)=>b||rW t ((k:Int),0) l[i]) b=(b||r.any λ(k:Nat)=>rW t ((k:Int),0) l[i]):=by
    intro r;induction r with
    | nil=>simp
    | cons k r aL=>grind
   rw[e,Bool.false_or];simp only[A.aK,A.b7];cases (List.range t.1.2.1.length).any λ(k:Nat)=>rW t ((k:Int),0) l[i]<;>simp[W.ho,hw]
  ·rfl
  ·intro k ak b;have ak:k<t.1.2.1.length:=by grind
   have me:=bF (n:=(k:Int)+1) (by omega) (by omega);simp only[cX ak,if_true,List.getElem_range,aO.sh,A.je,A.dF];rw[A.bq (by simp)];simp only[Option.getD_some,cp,me,W.ho];grind
  simp
 simp
theorem aqb(x):A.le (NS Bs.sh x) (PK.sh x):=A.bw λh=>by
 obtain⟨o,l⟩:=x;obtain⟨t,ao,E,U⟩:=h;change o=_ at ao;subst ao;exact aqa t l E U
def hf(t:dz)(l:List rU)(i:Nat)(j:Int):Bool:=rW t (t.2.1.getD i (0,0)) (l.getD j.toNat (0,0,0))
abbrev PL:=Option dz×List rU×Int×z4'×z1'×Unit
abbrev ZY:=Bool×z4'×z1'×Unit
def uX(r:Bool×la):ZY:=(r.1,r.2.2,r.2.1,())
def PM(f:Nat)(x:PL):Prop:=∃ t,x.1=some t/\t.2.1.length<=200/\x.2.1.length<=1000/\0<=x.2.2.1/\x.2.2.1<(x.2.1.length:Int)/\yI t.2.1.length x.2.1.length f (x.2.2.2.2.1,x.2.2.2.1)
def uY(f:Nat)(x:PL):A ZY:=A.dR (PM f x) (uX (j3 (hf (x.1.getD yG) x.2.1) (x.1.getD yG).2.1.length f x.2.2.1 (x.2.2.2.2.1,x.2.2.2.1)))
theorem aqc{t:dz}{l:List rU}(hm:t.2.1.length<=200)(al:l.length<=1000){f:Nat}{own:Int}(ZV:0<=own)(ZW:own<(l.length:Int)){st:la}(aY:yI t.2.1.length l.length (f+1) st) :
  NZ Bs.sh (uY f) (some t,l,own,st.2,st.1,())=A.pure (uX (j3 (hf t l) t.2.1.length (f+1) own st)):=by
 have Er:=PI (gd:=hf t l) (m:=t.2.1.length) (J:=l.length) f;unfold NZ;simp only[bZ,A.br,ao2,Option.isSome_some,Option.getD_some];rw[A.f_ (List.range t.2.1.length) (λi (b:la)=>(some t,l,own,t.2.1,(t.2.1.length:Int),(i:Int),b.2,b.1,())) (λi b=>W.uT (λr=>.done (uX r)) (ot (hf t l) (j3 (hf t l) t.2.1.length f) own i b)) (λb=>.next (b.2,b.1,())) (λi b=>b.1=st.1/\∀ q,cT st.2 q<=cT b.2 q/\cT b.2 q<=1) st ?_ ?_ ?_ ?_]
 ·show _=A.pure (uX (e1 (ot (hf t l) (j3 (hf t l) t.2.1.length f) own) (λst=>(false,st)) (List.range t.2.1.length) st));rw[Pk,Pk,ZB];cases yB (ot (hf t l) (j3 (hf t l) t.2.1.length f) own) (List.range t.2.1.length) st<;>(simp only[W.uT,W.fin,A.aK,A.b7,A.pG];try rfl)
 ·rfl
 ·exact⟨rfl,λq=>⟨Int.le_refl _,(aY.seen q).2⟩⟩
 ·intro i G b aa;have G:i<t.2.1.length:=by grind
  have kp:=bF (n:=(i:Int)+1) (by omega) (by omega);rw[List.getElem_range];have aqd:b.1.length=t.2.1.length:=by rw[aa.1];exact aY.len
  have eO:i<b.1.length:=by omega
  have aqe:0<=own/\own<(l.length:Int):=⟨ZV,ZW⟩
  have kX:=aa.2 (i:Int);have nl:=aY.seen (i:Int);simp only[bZ,cX G,if_true,cP G,cP eO,A.br,aqe,aO.sh,A.od,A.gQ,Int.toNat_natCast,Option.getD_some];have zz:rW t (t.2.1.getD i (0,0)) (l.getD own.toNat (0,0,0))=hf t l i own:=rfl;rw[zz];have aqf:(∃ cZ,(some t:Option dz)=some cZ)=True:=by simp
  simp only[aqf,and_true,true_and,and_self,imp_self,implies_true,A.br];by_cases I0:cT b.2 (i:Int) > 0
  ·have hu:ot (hf t l) (j3 (hf t l) t.2.1.length f) own i b=.next b:=by unfold ot;grind
   rw[hu];refine⟨?_,λbe cY=>by cases cY;exact aa⟩;simp only[I0,decide_true,Bool.true_or,if_true,A.aK,A.b7,cp,kp,W.ho,W.uT,Bool.not_true,Bool.false_eq_true,false_imp_iff,Bool.true_eq_false,A.br,and_self,implies_true];rfl
  ·by_cases ay:hf t l i own=true
   ·have bj:cT b.2 (i:Int)=0:=by omega
    have IU:=bF (n:=cT b.2 (i:Int)+1) (by omega) (by omega);have kj:∀ q,cT b.2 q<=cT (ff b.2 (i:Int) (cT b.2 (i:Int)+1)) q/\cT (ff b.2 (i:Int) (cT b.2 (i:Int)+1)) q<=1:=λq=>by
     have:=aa.2 q;rw[Bk];omega
    have KB:¬(decide (cT b.2 (i:Int) > 0)||!hf t l i own)=true:=by grind
    by_cases ao:b.1.getD i 0=-1
    ·have hu:ot (hf t l) (j3 (hf t l) t.2.1.length f) own i b=.done (true,(b.1.set i own,ff b.2 (i:Int) (cT b.2 (i:Int)+1))):=by
      unfold ot;grind
     rw[hu];refine⟨?_,λbe cY=>by cases cY⟩;simp only[I0,ay,ao,decide_true,decide_false,Bool.not_true,Bool.not_false,Bool.or_self,Bool.false_eq_true,if_false,if_true,false_imp_iff,Bool.true_eq_false,Bool.true_or,A.br,A.aK,A.pG,cp,IU,cP eO,W.ho,W.uT,and_self,implies_true,true_imp_iff];rfl
    ·have ayF:=aY.mg i G;have aG:0<=b.1.getD i 0/\b.1.getD i 0<(l.length:Int):=by grind
     have wI:yI t.2.1.length l.length f (b.1,ff b.2 (i:Int) (cT b.2 (i:Int)+1)):=by
      refine⟨aqd,?_,λk=>⟨?_,(kj k).2⟩,?_⟩
      ·show PB _ _ b.1;rw[aa.1];exact aY.mg
      ·have:=(kj k).1;have:=aa.2 k;have:=(aY.seen k).1;grind
      ·have E:=Zz (n:=t.2.1.length) (m:=b.2) (s:=(i:Int)) (v:=cT b.2 (i:Int)+1) (by omega) (by omega) bj (by omega);have U:=ZA (n:=t.2.1.length) (a:=st.2) (b:=b.2) λk=>⟨(aY.seen k).1,(aa.2 k).1⟩
       have ah:=aY.cg;grind
     obtain⟨Am,aqg⟩:=Er (b.1.getD i 0) (b.1,ff b.2 (i:Int) (cT b.2 (i:Int)+1)) aG.1 aG.2 wI;have gO:PM f (some t,l,b.1.getD i 0,ff b.2 (i:Int) (cT b.2 (i:Int)+1),b.1,()):=⟨t,rfl,hm,al,aG.1,aG.2,wI⟩
     have vH:uY f (some t,l,b.1.getD i 0,ff b.2 (i:Int) (cT b.2 (i:Int)+1),b.1,())=A.pure (uX (j3 (hf t l) t.2.1.length f (b.1.getD i 0) (b.1,ff b.2 (i:Int) (cT b.2 (i:Int)+1)))):=A.bR gO _;simp only[I0,ay,ao,decide_true,decide_false,Bool.not_true,Bool.not_false,Bool.or_self,Bool.false_eq_true,if_false,if_true,false_imp_iff,Bool.true_eq_false,Bool.false_or,A.br,cp,IU,and_self,implies_true,true_imp_iff,vH,A.aK];have tV:(j3 (hf t l) t.2.1.length f (b.1.getD i 0) (b.1,ff b.2 (i:Int) (cT b.2 (i:Int)+1))).2.1.length=t.2.1.length:=Am.len;have ayG:=Am.seen;have ayH:=aqg.PE;have ZZ:ot (hf t l) (j3 (hf t l) t.2.1.length f) own i b=if (j3 (hf t l) t.2.1.length f (b.1.getD i 0) (b.1,ff b.2 (i:Int) (cT b.2 (i:Int)+1))).1=true then .done (true,((j3 (hf t l) t.2.1.length f (b.1.getD i 0) (b.1,ff b.2 (i:Int) (cT b.2 (i:Int)+1))).2.1.set i own,(j3 (hf t l) t.2.1.length f (b.1.getD i 0) (b.1,ff b.2 (i:Int) (cT b.2 (i:Int)+1))).2.2)) else .next (j3 (hf t l) t.2.1.length f (b.1.getD i 0) (b.1,ff b.2 (i:Int) (cT b.2 (i:Int)+1))).2:=by
      unfold ot;grind
     rw[ZZ];clear ZZ vH;generalize j3 (hf t l) t.2.1.length f (b.1.getD i 0) (b.1,ff b.2 (i:Int) (cT b.2 (i:Int)+1))=r at *
     obtain⟨ok,g',s'⟩:=r;have qj:i<g'.length:=by grind
     cases ok with
     | true=>
      refine⟨?_,λbe cY=>by cases cY⟩;simp only[uX,if_true,cP qj,A.br,A.aK,A.pG,W.ho,W.uT]
     | false=>
      refine⟨?_,λbe cY=>?_⟩
      ·simp only[uX,Bool.false_eq_true,if_false,A.aK,A.b7,cp,kp,W.ho,W.uT];rfl
      ·cases cY;grind
   ·have hu:ot (hf t l) (j3 (hf t l) t.2.1.length f) own i b=.next b:=by unfold ot;grind
    rw[hu];refine⟨?_,λbe cY=>by cases cY;exact aa⟩;simp only[I0,ay,decide_false,Bool.not_false,Bool.or_true,if_true,A.aK,A.b7,cp,kp,W.ho,W.uT,Bool.false_eq_true,A.br,and_self,implies_true];rfl
 simp
theorem aqh(f:Nat)(x):A.le (NZ Bs.sh (uY f) x) (uY (f+1) x):=A.bw λh=>by
 obtain⟨o,l,own,seen,g,u⟩:=x;obtain⟨t,ao,hm,al,aY,E,wI⟩:=h;change o=_ at ao;subst ao;exact aqc (st:=(g,seen)) hm al aY E wI
theorem aqi(x:PL):¬(uY 0 x).cr:=λ⟨_,_,_,_,_,_,h⟩=>absurd h.cg (by omega)
def yK(t:dz)(l:List rU):Int:=(PJ (hf t l) t.2.1.length l.length 201).2
abbrev I1:aO:=⟨.aB wF (.slice IW),bp,λx=>∃ t,x.1=some t/\t.2.1.length<=200/\x.2.length<=1000,λx=>yK (x.1.getD yG) x.2⟩
theorem aqj(t:dz)(l:List rU)(hm:t.2.1.length<=200)(al:l.length<=1000):NT wA (uY 201) (some t,l)=A.pure (yK t l):=by
 unfold NT;simp only[bZ,Option.isSome_some,Option.getD_some,A.br];unfold wA;simp only[A.dF];rw[A.bq (by grind)];simp only[Int.toNat_natCast];rw[A.f_ (List.range l.length) (λi (b:z1'×Int)=>(some t,l,b.2,(l.length:Int),(i:Int),b.1,())) (λi b=>.next (yJ (hf t l) t.2.1.length 201 b i)) (λb=>.next (b.2,())) (λi b=>EU (hf t l) t.2.1.length l.length i b/\0<=b.2/\b.2<=(i:Int)) (List.replicate t.2.1.length (-1),0) ?_ ?_ ?_ ?_]
 ·rw[eL,A.aK,A.b7];rfl
 ·rfl
 ·refine⟨?_,by simp⟩;have:=ap_ (hf t l) t.2.1.length 0 201 (by omega);exact⟨this.len,this.mg,this.one,this.num,this.Pz⟩
 ·intro i G b aa;have G:i<l.length:=by grind
  have kp:=bF (n:=(i:Int)+1) (by omega) (by omega);rw[List.getElem_range];obtain⟨g,n⟩:=b;obtain⟨aa,ss,qk⟩:=aa;change 0<=n at ss;change n<=(i:Int) at qk;have Bj:=bF (n:=n+1) (by omega) (by omega);have gO:PM 201 (some t,l,(i:Int),[],g,()):=by
   refine⟨t,rfl,hm,al,Int.natCast_nonneg i,Int.ofNat_lt.2 G,aa.len,λk ak=>?_,λk=>by show 0<=cT [] k/\cT [] k<=1;simp[cT,uS],?_⟩
   ·rcases aa.mg k ak with h | h
    ·exact .inl h
    ·exact .inr ⟨h.1,Int.lt_trans h.2.1 (Int.ofNat_lt.2 G)⟩
   ·have:rS t.2.1.length []<=t.2.1.length:=by
     unfold rS;exact Nat.le_trans List.countP_le_length (by simp)
    grind
  have vH:uY 201 (some t,l,(i:Int),[],g,())=A.pure (uX (j3 (hf t l) t.2.1.length 201 (i:Int) (g,[]))):=A.bR gO _;have Dl:=ZX (F:=201) (by omega) G aa;refine⟨?_,λbe cY=>?_⟩
  ·simp only[cX G,if_true,vH,A.aK,uX];unfold yJ;cases cN:(j3 (hf t l) t.2.1.length 201 (i:Int) (g,[])).1 with
   | true=>
    simp_all
   | false=>
    simp_all
  ·cases cY;refine⟨Dl,?_⟩;have az:(0:Int)<=n+1:=by omega
   have aN:n+1<=((i+1:Nat):Int):=by omega
   have cL:n<=((i+1:Nat):Int):=by omega
   unfold yJ;omega
 simp
theorem aqk(x):A.le (NT wA (uY 201) x) (I1.sh x):=A.bw λh=>by
 obtain⟨o,l⟩:=x;obtain⟨t,ao,E,U⟩:=h;change o=_ at ao;subst ao;exact aqj t l E U
theorem Z0{s:bJ}(af:mf s):(Pu s).length<=200:=by
 have E:∀ (l:List Nat),(∀ i∈l,i<s.2.1.length)->(l.flatMap λ(i:Nat)=>lL ((i:Int),0) (s.2.1.getD i 0)).length<=10*l.length:=by
  intro l;induction l with
  | nil=>simp
  | cons i l aL=>
   intro al;have E:=aL λj aG=>al j (by grind);have U:=al i (by simp);have ah:=af.qP _ (List.getElem_mem U);have jy:s.2.1.getD i 0=s.2.1[i]:=by grind
   rw[List.flatMap_cons,List.length_append,List.length_cons,jy];simp only[lL,List.length_replicate];simp only[lL]at E;omega
 have U:∀ (l:List DY),(∀ d∈l,o8 s.1 d=true)->(l.flatMap λd=>lL (d.2.1,d.1) d.2.2).length<=10*l.length:=by
  intro l;induction l with
  | nil=>simp
  | cons d l aL=>
   intro al;have E:=aL λj aG=>al j (by grind);have ah:=al d (by simp);simp only[o8,bX,Bool.and_eq_true,decide_eq_true_eq]at ah;rw[List.flatMap_cons,List.length_append,List.length_cons];simp only[lL,List.length_replicate];simp only[lL]at E;omega
 have a:=E (List.range s.2.1.length) λi G=>by grind
 have b:=U s.2.2.2.2.1 af.ZG;have c:=af.ZH;have d:=af.Pt;have e:=af.EP;unfold Pu ER ZK;grind
theorem Z1{s:bJ}(af:mf s){cA:z1'}(aq:oo s cA):(lM s cA).1.length<=24:=by
 unfold lM;split
 ·have:∀ (l:List Nat),(∀ i∈l,i<cA.length)->(l.flatMap λi=>(o9 s cA i).getD []).length<=4*l.length:=by
   intro l;induction l with
   | nil=>simp
   | cons i l aL=>
    intro al;have E:=aL λj aG=>al j (by grind);have U:=al i (by simp);rw[List.flatMap_cons,List.length_append,List.length_cons];have:((o9 s cA i).getD []).length<=4:=by
     cases h:o9 s cA i with
     | none=>simp
     | some y=>exact ZN af aq U h
    omega
  have a:=this (List.range cA.length) λi G=>by grind
  rw[List.length_range]at a;have:=aq.1;have:=af.uV;grind
 ·simp
def p0(s:bJ)(cA:z1'):Bool:=(lM s cA).2&&decide (yK (dt s) (lM s cA).1=0)
abbrev wJ:aO:=⟨.aB wF fR,dj,λx=>∃ s,wH x.1 s/\oo s x.2,λx=>p0 (oq x.1) x.2⟩
theorem aql(x):A.le (V4 IX.sh I1.sh x) (wJ.sh x):=A.bw λh=>by
 obtain⟨o,cA⟩:=x;obtain⟨s,⟨ao,af⟩,aq⟩:=h;change o=_ at ao;subst ao;unfold V4;simp only[aO.sh,A.dF,A.je];rw[A.bq (by exact⟨s,⟨rfl,af⟩,aq⟩),A.bq (by exact λ_=>⟨dt s,rfl,Z0 af,Nat.le_trans (Z1 af aq) (by omega)⟩)];show A.pure ((lM s cA).2&&decide ((if (lM s cA).2=true then yK (dt s) (lM s cA).1 else 0)=0))=A.pure (p0 s cA);unfold p0;grind
def Bt(s:bJ)(first:z1')(p:Nat):Bool:=!(first.contains (p:Int)||decide (te (mO s (first.length:Int)) (nA s (p:Int))=0))
def kq(s:bJ)(e:Int):Nat->z1'->List (z1')
 | 0,first=>[first]
 | n+1,first=>((List.range s.2.2.1.length).flatMap λp=>if Bt s first p=true then kq s e n (first++[(p:Int)]) else [])++(if e=0 then [] else kq s e n (first++[-1]))
abbrev Z2:Type:=Nat×(List (z1')->Prop)×List (z1')×Bool
abbrev PN:Type:=Option dz×z1'×Int×Nat×Z2×Unit
abbrev Z3:Type:=Bool×Z2×Unit
structure PO(f:Nat)(x:PN)(s:bJ)(n:Nat)(a b:List (z1')):Prop where
 ayI:wH x.1 s
 len:x.2.1.length+n=s.2.2.2.1.length
 cg:n<f
 ayJ:x.2.2.2.2.1.1=x.2.2.2.1
 bC:x.2.2.2.2.1.2.2.2=false
 seq:x.2.2.2.2.1.2.1=λT=>T=a++kq s x.2.2.1 n x.2.1++b
 pos:x.2.2.2.2.1.2.2.1=a
def aqm(x:PN)(y:Z3):Prop:=y.2.1.1=x.2.2.2.1/\y.2.1.2.1=x.2.2.2.2.1.2.1/\(y.1=true->y.2.1.2.2.2=false/\y.2.1.2.2.1=x.2.2.2.2.1.2.2.1++kq (oq x.1) x.2.2.1 ((oq x.1).2.2.2.1.length - x.2.1.length) x.2.1)/\(y.1=false->y.2.1.2.2.2=true)
def rX(f:Nat)(x:PN):A Z3:=⟨∃ s n a b,PO f x s n a b,aqm x⟩
def mh(s:bJ)(e:Int)(n:Nat)(first:z1')(k:Nat):List (z1'):=(List.range k).flatMap λp=>if Bt s first p=true then kq s e n (first++[(p:Int)]) else []
theorem I2(s:bJ)(e:Int)(n:Nat)(first:z1')(k:Nat):mh s e n first (k+1)=mh s e n first k++(if Bt s first k=true then kq s e n (first++[(k:Int)]) else []):=by
 unfold mh;rw[List.range_succ,List.flatMap_append];simp
theorem aqn(s:bJ)(e:Int)(n:Nat)(first:z1'){k m:Nat}(h:k<=m):∃ t,mh s e n first m=mh s e n first k++t:=by
 induction m with
 | zero=>simp_all
 | succ m aL=>
  by_cases ak:k=m+1
  ·simp_all
  ·obtain⟨t,aF⟩:=aL (by omega);rw[I2,aF,List.append_assoc];simp
theorem aqo{f:Nat}{s:bJ}(af:mf s){first:z1'}{e:Int}{l:Nat}{L:List (z1')->Prop}{n:Nat}(hlen:first.length+n=s.2.2.2.1.length)(ao:n<f+1){a b:List (z1')}(gH:L=λT=>T=a++kq s e n first++b) :
  A.cy (N0 wB.sh (rX f) o2.sh (some (dt s),first,e,l,(l,L,a,false),())) λy=>y.2.1.1=l/\y.2.1.2.1=L/\(y.1=true->y.2.1.2.2.2=false/\y.2.1.2.2.1=a++kq s e n first)/\(y.1=false->y.2.1.2.2.2=true):=by
 have fZ:(dt s).1=s:=rfl;have Bp:=af.uV;have aqp:=af.IS;unfold N0;simp only[Option.isSome_some,Option.getD_some,A.br,bZ,fZ];cases n with
 | zero=>
  have au:decide ((first.length:Int)=(s.2.2.2.1.length:Int))=true:=by grind
  have ay:∃ T,L (a++first::T):=⟨b,by rw[gH];show _=_;simp[kq]⟩
  simp only[au,if_true,true_and,and_self];rw[A.bq ay,A.gb];refine⟨⟨true,trivial⟩,λy _=>A.eb.2 ?_⟩;refine⟨rfl,rfl,λh=>?_,λh=>?_⟩
  ·change y=true at h;subst h;exact⟨rfl,rfl⟩
  grind
 | succ n=>
  have au:decide ((first.length:Int)=(s.2.2.2.1.length:Int))=false:=by grind
  simp only[au,Bool.false_eq_true,if_false,A.gb];obtain⟨z,bj⟩:∃ z,kq s e (n+1) first=mh s e n first s.2.2.1.length++z:=⟨_,rfl⟩
  refine A.ao0 s.2.2.1.length (λk q=>q=(some (dt s),first,e,l,(first.length:Int),s.2.2.1,(s.2.2.1.length:Int),(k:Int),(l,L,a++mh s e n first k,false),())) ?_ ?_ ?_
  ·show _=_;simp[mh]
  ·rintro k ak q rfl;have me:=bF (n:=(k:Int)+1) (by omega) (by omega);have fX:first.length<2 ^ 63:=by omega
   have tf:first.length<s.2.2.2.1.length:=by omega
   have IY:=Px tf;have Bq:List.getD s.2.2.2.1 first.length ([],(0,0),0,0,0)=mO s (first.length:Int):=rfl
   have Py:s.2.2.1[k]=nA s (k:Int):=by simp[nA,List.getD_eq_getElem?_getD,ak]
   have n':wB.pre (mO s (first.length:Int),nA s (k:Int)):=af.gY.2.2.2.2.2.2 _ IY;have aqq:(first.length<2 ^ 63)=True:=by grind
   simp only[cX ak,if_true,cP ak,dk ak,A.br,aO.sh,A.od,A.gQ,aqq,fZ,Int.toNat_natCast,cP tf,Bq,Py,and_true,true_and,and_self,imp_self,implies_true];have aqr:((mO s (first.length:Int)).1.length<2 ^ 63)=True:=by grind
   have aqs:List.getD s.2.2.1 k (0,0,0,0,[])=nA s (k:Int):=rfl;have eQ:first.contains (k:Int)=false->(!first.contains (k:Int))=true:=λh=>by grind
   have iO:((0:Int)<=0/\0<=(first.length:Int)/\(first.length:Int)<=(first.length:Int))=True:=by simp
   have kV:List.take first.length first=first:=List.take_length
   have lZ:(0<Add.add 0 1/\bQ (Add.add first.length (Add.add 0 1))):=⟨by decide,by show bQ (first.length+1);unfold bQ;omega⟩
   have iv:(first.contains (k:Int)||decide (te (mO s (first.length:Int)) (nA s (k:Int))=0))=!Bt s first k:=by unfold Bt;simp
   have jS:first.contains (k:Int)=first.contains (k:Int):=rfl
   simp only[Option.isSome_some,Option.getD_some,fZ,cP tf,Bq,aqs,aqr,and_true,true_and,and_self,imp_self,implies_true,A.br,A.bq eQ,iv,iO,kV];rw[A.bq (by omega)];obtain⟨t,aF⟩:=aqn s e n first (show k+1<=s.2.2.1.length by omega)
   cases ax:Bt s first k with
   | false=>
    simp only[Bool.not_false,if_true,A.aK,A.b7,A.eb,cp,me];show _=_;rw[I2,ax];simp
   | true=>
    rw[I2,ax,if_pos rfl]at aF;simp only[Bool.not_true,Bool.false_eq_true,if_false,A.gb];have Et:PO f (some (dt s),first++[(k:Int)],e,l,(l,L,a++mh s e n first k,false),()) s n (a++mh s e n first k) (t++z++b):=by
     refine⟨⟨rfl,af⟩,by grind,by omega,rfl,rfl,?_,rfl⟩;grind
    refine⟨⟨s,n,_,_,Et⟩,λy aT=>?_⟩;obtain⟨Ki,⟨Z4,Z5,PQ,ys⟩,aqt⟩:=y;obtain⟨dr,dI,oF,uU⟩:=aT;change Z4=l at dr;change Z5=L at dI;subst dr;subst dI;cases Ki with
    | false=>
     have a6:ys=true:=uU rfl;subst a6;simp only[Bool.not_false,if_true,A.aK,A.eb,A.pG];simp
    | true=>
     obtain⟨bL,dv⟩:=oF rfl;change ys=false at bL;change PQ=(a++mh s e n first k)++kq s e (s.2.2.2.1.length - (first++[(k:Int)]).length) (first++[(k:Int)]) at dv;have vx:s.2.2.2.1.length - (first++[(k:Int)]).length=n:=by grind
     rw[vx]at dv;subst bL;subst dv;simp only[Bool.not_true,Bool.false_eq_true,if_false,A.aK,A.eb,A.b7,cp,me];show _=_;rw[I2,ax,if_pos rfl];simp
  ·rintro q rfl;have kV:List.take first.length first=first:=List.take_length
   have iO:((0:Int)<=0/\0<=(first.length:Int)/\(first.length:Int)=(first.length:Int)/\(first.length:Int)<=(first.length:Int))=True:=by simp
   have lZ:(0<Add.add 0 1/\bQ (Add.add first.length (Add.add 0 1))):=⟨by decide,by show bQ (first.length+1);unfold bQ;omega⟩
   simp only[Int.lt_irrefl,decide_false,Bool.false_eq_true,if_false,A.aK,A.eb,A.b7,iO,kV,Int.toNat_natCast,and_true];by_cases he:e=0
   ·have zx:kq s e (n+1) first=mh s e n first s.2.2.1.length:=by
     show mh s e n first s.2.2.1.length++(if e=0 then [] else kq s e n (first++[-1]))=_
     grind
    simp only[he,decide_true,Bool.not_true,Bool.false_eq_true,if_false,false_imp_iff,A.br,Bool.true_or,A.eb,Bool.true_eq_false,and_self,implies_true];grind
   ·have zx:kq s e (n+1) first=mh s e n first s.2.2.1.length++kq s e n (first++[-1]):=by
     show mh s e n first s.2.2.1.length++(if e=0 then [] else kq s e n (first++[-1]))=_
     grind
    simp only[he,decide_false,Bool.not_false,if_true,true_imp_iff,A.br,Bool.false_or,and_self,implies_true];rw[A.bq (by simp),A.bq (by omega)];have Et:PO f (some (dt s),first++[-1],e,l,(l,L,a++mh s e n first s.2.2.1.length,false),()) s n (a++mh s e n first s.2.2.1.length) b:=by
     refine⟨⟨rfl,af⟩,by grind,by omega,rfl,rfl,?_,rfl⟩;grind
    rw[A.gb];refine⟨⟨s,n,_,_,Et⟩,λy aT=>A.eb.2 ?_⟩;obtain⟨Ki,⟨Z4,Z5,PQ,ys⟩,aqt⟩:=y;obtain⟨dr,dI,oF,uU⟩:=aT;refine⟨dr,dI,λh=>?_,uU⟩;obtain⟨bL,dv⟩:=oF h;change PQ=(a++mh s e n first s.2.2.1.length)++kq s e (s.2.2.2.1.length - (first++[(-1:Int)]).length) (first++[-1]) at dv;grind
theorem aqu(f:Nat)(x):A.le (N0 wB.sh (rX f) o2.sh x) (rX (f+1) x):=λh=>by
 obtain⟨o,first,e,l,⟨dJ,L,p,st⟩,u⟩:=x;obtain⟨s,n,a,b,aq⟩:=h;obtain⟨⟨ao,af⟩,E,U,ah,a6,bL,dv⟩:=aq;change o=_ at ao;change dJ=l at ah;change st=false at a6;change p=a at dv;change L=_ at bL;change first.length+n=_ at E
 change _ at bL;subst ao;subst ah;subst a6;subst dv;have vx:(oq (some (dt s))).2.2.2.1.length - first.length=n:=by show s.2.2.2.1.length - first.length=n;omega
 refine A.cy.mono (aqo af E U bL) λy aT=>⟨aT.1,aT.2.1,λh=>?_,aT.2.2.2⟩
 obtain⟨aQ,aS⟩:=aT.2.2.1 h;refine⟨aQ,?_⟩;rw[aS];show _=p++kq (oq (some (dt s))) e ((oq (some (dt s))).2.2.2.1.length - first.length) first
 rw[vx];rfl
theorem aqv(x):¬(rX 0 x).cr:=λ⟨s,n,a,b,h⟩=>by have:=h.cg;omega
def lN(e:Int)(s:bJ):List (z1'):=kq s e s.2.2.2.1.length []
def yL(o:Option dz):Prop:=∃ s,wH o s
def I3(o:Option dz):List (z1'):=lN 1 (oq o)
def PR(o:Option dz):List (z1'):=lN 0 (oq o)
theorem aqw(s:bJ)(af:mf s)(l:Nat):A.cy (HT (rX 10) (some (dt s),l,(l,(λT=>T=lN 1 s),[],false),())) λy=>y.1.1=l/\y.1.2.1=(λT=>T=lN 1 s)/\(y.1.2.2.2=false->y.1.2.2.1=lN 1 s):=by
 unfold HT;rw[A.gb];have Bp:=af.uV;refine⟨⟨s,s.2.2.2.1.length,[],[],⟨rfl,af⟩,by simp,by omega,rfl,rfl,by show (λT=>T=lN 1 s)=_;simp[lN],rfl⟩,λy aT=>A.eb.2 ?_⟩;obtain⟨dr,dI,oF,uU⟩:=aT;refine⟨dr,dI,λh=>?_⟩;cases E:y.1 with
 | false=>grind
 | true=>
  obtain⟨_,ah⟩:=oF E;show y.2.1.2.2.1=_;rw[ah];rfl
theorem aqx(s:bJ)(af:mf s)(l:Nat):A.cy (HU (rX 10) (some (dt s),l,(l,(λT=>T=lN 0 s),[],false),())) λy=>y.1.1=l/\y.1.2.1=(λT=>T=lN 0 s)/\(y.1.2.2.2=false->y.1.2.2.1=lN 0 s):=by
 unfold HU;rw[A.gb];have Bp:=af.uV;refine⟨⟨s,s.2.2.2.1.length,[],[],⟨rfl,af⟩,by simp,by omega,rfl,rfl,by show (λT=>T=lN 0 s)=_;simp[lN],rfl⟩,λy aT=>A.eb.2 ?_⟩;obtain⟨dr,dI,oF,uU⟩:=aT;refine⟨dr,dI,λh=>?_⟩;cases E:y.1 with
 | false=>grind
 | true=>
  obtain⟨_,ah⟩:=oF E;show y.2.1.2.2.1=_;rw[ah];rfl
theorem PS{D an:Type}{body:D->an->A (di×D)}(g:D->an->D)(I:D->Prop):∀ (l:List an) (s:D),I s->(∀ x∈l,∀ s,I s->body s x=A.pure (di.normal,g s x)/\I (g s x))->jR body l s=A.pure (di.normal,l.foldl g s)
 | [],s,_,_=>rfl
 | x::l,s,eB,h=>by
  obtain⟨E,U⟩:=h x (by simp) s eB;unfold jR;rw[E,A.aK];exact PS g I l (g s x) U λy aT=>h y (List.mem_cons_of_mem _ aT)
theorem PT{s:bJ}{e:Int}:∀ {n:Nat} {first y:z1'},y∈kq s e n first->y.length=first.length+n/\∀ p∈y,p∈first\/p=-1\/(0<=p/\p<(s.2.2.1.length:Int))
 | 0,first,y,h=>by
  simp only[kq,List.mem_singleton]at h;grind
 | n+1,first,y,h=>by
  simp only[kq,List.mem_append,List.mem_flatMap,List.mem_range]at h;rcases h with⟨p,aq,h⟩ | h
  ·split at h
   ·obtain⟨E,U⟩:=PT h;grind
   grind
  ·split at h
   ·cases h
   ·obtain⟨E,U⟩:=PT h;grind
theorem PU{s:bJ}{e:Int}{y:z1'}(h:y∈lN e s):y.length=s.2.2.2.1.length/\oo s y:=by
 obtain⟨E,U⟩:=PT h;have E:y.length=s.2.2.2.1.length:=by grind
 refine⟨E,by omega,λp aq=>?_⟩;grind
theorem aqy(s:bJ):oo s (List.replicate s.2.2.2.1.length (-1)):=⟨by simp,λp aq=>by grind⟩
def ti(s:bJ)(b y:z1'):z1':=if (decide (rV s y > rV s b)&&p0 s y)=true then y else b
def EX(s:bJ):z1':=(lN 1 s).foldl (ti s) (List.replicate s.2.2.2.1.length (-1))
theorem Z6{s:bJ}:∀ (l:List (z1')) (b:z1'),(∀ y∈l,y.length=s.2.2.2.1.length/\oo s y)->(b.length=s.2.2.2.1.length/\oo s b)->((l.foldl (ti s) b).length=s.2.2.2.1.length/\oo s (l.foldl (ti s) b))
 | [],b,_,aa=>aa
 | y::l,b,al,aa=>by
  rw[List.foldl_cons];refine Z6 l _ (λz bj=>al z (List.mem_cons_of_mem _ bj)) ?_;unfold ti;grind
theorem aqz(s:bJ):(EX s).length=s.2.2.2.1.length/\oo s (EX s):=Z6 _ _ (λ_ h=>PU h) ⟨by simp,aqy s⟩
abbrev PV:aO:=⟨wF,fR,λo=>∃ s,wH o s,λo=>EX (oq o)⟩
theorem aqA(s:bJ)(af:mf s):NW IM.sh wJ.sh th.sh yL I3 (some (dt s))=A.pure (EX s):=by
 unfold NW;have Bp:=af.uV;have fZ:(dt s).1=s:=rfl;have gO:yL (some (dt s)):=⟨s,rfl,af⟩
 have PW:I3 (some (dt s))=lN 1 s:=rfl;simp only[Option.isSome_some,Option.getD_some,A.br,bZ,fZ,aO.sh,A.dF,PW];rw[A.bq (by grind),A.bq gO];simp only[Int.toNat_natCast];rw[PS (λ(b:Option dz×z1'×Unit) (y:z1')=>(some (dt s),ti s b.2.1 y,())) (λb=>b.1=some (dt s)/\b.2.1.length=s.2.2.2.1.length) (lN 1 s) (some (dt s),List.replicate s.2.2.2.1.length (-1),()) ⟨rfl,by simp⟩ ?_]
 ·have ao:∀ (l:List (z1')) (b:z1'),l.foldl (λ(b:Option dz×z1'×Unit) (y:z1')=>(some (dt s),ti s b.2.1 y,())) (some (dt s),b,())=(some (dt s),l.foldl (ti s) b,()):=by
   intro l;induction l with
   | nil=>simp
   | cons y l aL=>grind
  rw[ao,A.aK];rfl
 ·intro y aT b aa;obtain⟨dO,e3,aqB⟩:=b;obtain⟨mA,q9⟩:=aa;change dO=_ at mA;change e3.length=_ at q9;subst mA;obtain⟨xQ,sE⟩:=PU aT;have jN:th.pre (some (dt s),y):=⟨s,⟨rfl,af⟩,by grind⟩
  have qh:th.pre (some (dt s),e3):=⟨s,⟨rfl,af⟩,by grind⟩
  have mw:wJ.pre (some (dt s),y):=⟨s,⟨rfl,af⟩,sE⟩
  have az:th.g (some (dt s),y)=rV s y:=rfl;have aN:th.g (some (dt s),e3)=rV s e3:=rfl;have cL:wJ.g (some (dt s),y)=p0 s y:=rfl;refine⟨?_,rfl,?_⟩
  ·simp only[A.od,A.gQ,A.bq jN,A.bq qh,az,aN,cL,mw,and_true,true_and,and_self,imp_self,implies_true,A.br,ti];have dr:∀ c:Prop,(c->c/\(∃ nB,wH (some (dt s)) nB/\oo nB y)):=λc h=>⟨h,mw⟩
   rw[A.bq (dr _)];have az:oq (some (dt s))=s:=rfl;simp only[az];cases hc:(decide (rV s y > rV s e3)&&p0 s y)<;>simp
  ·show (ti s e3 y).length=_;unfold ti;grind
theorem aqC(x):A.le (NW IM.sh wJ.sh th.sh yL I3 x) (PV.sh x):=A.bw λh=>by
 obtain⟨s,ao,af⟩:=h;subst ao;exact aqA s af
theorem I4{s:bJ}{cb:Bool}(h:ld s cb=0):yF s cb=(some (dt s),0):=by simp[yF,h]
theorem I5{s:bJ}{cb:Bool}(h:ld s cb≠0):yF s cb=(none,ld s cb):=by simp[yF,h]
def yM(s:bJ)(cb:Bool):Int×Int:=if ld s cb≠0 then (0,ld s cb) else (rV s (EX s),0)
abbrev PX:aO:=⟨.aB lb dj,.aB bp bp,λx=>fB x.1,λx=>yM x.1 x.2⟩
theorem aqD(x):A.le (V2 Bn.sh PV.sh th.sh x) (PX.sh x):=A.bw λh=>by
 unfold V2;show _=A.pure (yM x.1 x.2);unfold yM;simp only[aO.sh,A.dF];rw[A.bq (by exact h)];by_cases ak:ld x.1 x.2=0
 ·have af:=Bm h (Bl ak).1;simp only[I4 ak,ak,ne_eq,not_true,decide_false,Bool.false_eq_true,if_false];rw[A.bq (by exact⟨x.1,rfl,af⟩),A.bq (by exact⟨x.1,⟨rfl,af⟩,Nat.le_of_eq (aqz x.1).1⟩)];rfl
 ·simp[I5 ak,ak]
abbrev I6:aO:=⟨lb,.aB bp bp,fB,λs=>yM s true⟩
theorem aqE(x):A.le (VV PX.sh x) (I6.sh x):=A.bw λh=>by
 unfold VV;simp only[aO.sh,A.dF];simp_all
def Bu(s:bJ)(n:Int)(y:z1'):Int:=if (!(lM s y).2||!EW (dt s) (lM s y).1)=true then n else if (decide (n=-1)||decide (yK (dt s) (lM s y).1<n))=true then yK (dt s) (lM s y).1 else n
def I7(s:bJ):Int:=(lN 0 s).foldl (Bu s) (-1)
def wK(s:bJ):Int×Int:=if ld s true≠0 then (0,ld s true) else if I7 s=-1 then (0,3) else (I7 s,0)
abbrev Bv:aO:=⟨lb,.aB bp bp,fB,wK⟩
theorem aqF(x):A.le (VW Bn.sh yL PR IX.sh PK.sh I1.sh x) (Bv.sh x):=A.bw λh=>by
 unfold VW;show _=A.pure (wK x);unfold wK;simp only[aO.sh,A.dF];rw[A.bq (by exact h)];by_cases ak:ld x true=0
 ·have af:=Bm h (Bl ak).1;have gO:yL (some (dt x)):=⟨x,rfl,af⟩
  have PW:PR (some (dt x))=lN 0 x:=rfl;simp only[I4 ak,ak,ne_eq,not_true,decide_false,Bool.false_eq_true,if_false,PW];rw[A.bq gO];rw[PS (λ(b:Option dz×Int×Unit) (y:z1')=>(some (dt x),Bu x b.2.1 y,())) (λb=>b.1=some (dt x)) (lN 0 x) (some (dt x),-1,()) rfl ?_]
  ·have ao:∀ (l:List (z1')) (b:Int),l.foldl (λ(b:Option dz×Int×Unit) (y:z1')=>(some (dt x),Bu x b.2.1 y,())) (some (dt x),b,())=(some (dt x),l.foldl (Bu x) b,()):=by
    intro l;induction l with
    | nil=>simp
    | cons y l aL=>grind
   rw[ao,A.aK];show (if decide (I7 x=-1)=true then A.pure ((0:Int),(3:Int)) else A.pure (I7 x,0))=_;grind
  ·intro y aT b aa;obtain⟨dO,e3,aqB⟩:=b;change dO=_ at aa;subst aa;obtain⟨xQ,sE⟩:=PU aT;refine⟨?_,rfl⟩;have Ag:=Z1 af sE;have jN:∃ nB,wH (some (dt x)) nB/\oo nB y:=⟨x,⟨rfl,af⟩,sE⟩
   have fp:(dt x).1.2.1.length<2 ^ 63:=h.2.1;have qh:∃ t,some (dt x)=some t/\t.1.2.1.length<2 ^ 63/\(lM x y).1.length<2 ^ 63:=⟨_,rfl,fp,by omega⟩
   have mw:∃ t,some (dt x)=some t/\t.2.1.length<=200/\(lM x y).1.length<=1000:=⟨_,rfl,Z0 af,by omega⟩
   have az:oq (some (dt x))=x:=rfl;have aN:Option.getD (some (dt x)) yG=dt x:=rfl;simp only[A.je,A.dF,az,aN];rw[A.bq jN];simp only[qh,implies_true,A.br];rw[A.bq (by exact mw)];show _=A.pure (di.normal,some (dt x),Bu x e3 y,());unfold Bu;cases E:(lM x y).2
   ·simp
   ·cases U:EW (dt x) (lM x y).1
    ·simp
    ·simp only[Bool.not_true,Bool.not_false,if_true,Bool.or_self,Bool.false_eq_true,if_false];cases ah:(decide (e3=-1)||decide (yK (dt x) (lM x y).1<e3))<;>simp
 ·simp[I5 ak,ak]
def nC(s:bJ)(w p:Int):z1':=(List.replicate s.2.2.2.1.length (-1)).set w.toNat p
def Z7(s:bJ)(w:Int):z1':=((List.range s.2.2.1.length).filter λ(p:Nat)=>p0 s (nC s w (p:Int))).map λ(p:Nat)=>(p:Int)
def uZ(s:bJ)(w:Int):z1'×Int:=if ld s (yD s w)≠0 then ([],ld s (yD s w)) else (Z7 s w,0)
abbrev I8:aO:=⟨.aB lb bp,.aB fR bp,λx=>fB x.1,λx=>uZ x.1 x.2⟩
theorem Z8{an β:Type}{p:an->Bool}{g:an->β}:∀ (l:List an) (b:List β),l.foldl (λb x=>if p x=true then b++[g x] else b) b=b++(l.filter p).map g
 | [],b=>by simp
 | x::l,b=>by
  simp only[List.foldl_cons,List.filter_cons];rw[Z8 l];grind
theorem aqG{s:bJ}{w:Int}{p:Nat}(aq:p<s.2.2.1.length):oo s (nC s w (p:Int)):=by
 refine⟨by simp[nC],λq bt=>?_⟩;unfold nC at bt;grind
theorem aqH(x):A.le (VX Bn.sh Pq.sh wA wJ.sh x) (I8.sh x):=A.bw λh=>by
 obtain⟨s,w⟩:=x;change fB s at h;unfold VX;show _=A.pure (uZ s w);unfold uZ;simp only[aO.sh,A.od,A.gQ];rw[A.bq (by exact h),A.bq (by exact h)];by_cases ak:ld s (yD s w)=0
 ·have af:=Bm h (Bl ak).1;have hw:=apB.1 (Bl ak).2.1;have Bp:=af.uV;have aqp:=af.IS;simp only[I4 ak,ak,ne_eq,not_true,decide_false,Bool.false_eq_true,if_false];unfold wA;simp only[A.dF,bZ];rw[A.bq (by grind)];simp only[Int.toNat_natCast];rw[A.f_ (List.range s.2.2.1.length) (λi (b:z1'×z1')=>(w,some (dt s),(s.2.2.1.length:Int),(i:Int),b.1,b.2,())) (λ(p:Nat) b=>.next (if p0 s (nC s w (p:Int))=true then b.1++[(p:Int)] else b.1,nC s w (p:Int))) (λb=>.next (b.1,())) (λi b=>b.1.length<=i/\∀ p,b.2.set w.toNat p=nC s w p) ([],List.replicate s.2.2.2.1.length (-1)) ?_ ?_ ?_ ?_]
  ·rw[eL];have ao:∀ (l:List Nat) (b:z1'×z1'),(l.foldl (λb (p:Nat)=>(if p0 s (nC s w (p:Int))=true then b.1++[(p:Int)] else b.1,nC s w (p:Int))) b).1=l.foldl (λb (p:Nat)=>if p0 s (nC s w (p:Int))=true then b++[(p:Int)] else b) b.1:=by
    intro l;induction l with
    | nil=>simp
    | cons p l aL=>grind
   rw[ao,Z8,A.aK,A.b7];rfl
  ·rfl
  ·exact⟨Nat.le_refl _,λp=>rfl⟩
  ·intro i G b aa;have G:i<s.2.2.1.length:=by grind
   have kp:=bF (n:=(i:Int)+1) (by omega) (by omega);obtain⟨dO,e3⟩:=b;obtain⟨mA,q9⟩:=aa;change dO.length<=i at mA;change ∀ p,e3.set w.toNat p=nC s w p at q9;have lZ:bQ (dO.length+(0+1)):=by unfold bQ;omega
   have hlen:e3.length=s.2.2.2.1.length:=by
    have:=congrArg List.length (q9 0);simpa [nC]using this
   have xW:0<=w/\w<(e3.length:Int):=by omega
   rw[List.getElem_range];refine⟨?_,λbe cY=>?_⟩
   ·simp only[cX G,if_true,xW,and_self,A.br,A.dF,q9];rw[A.bq (by exact⟨s,⟨rfl,af⟩,aqG G⟩)];have az:oq (some (dt s))=s:=rfl;simp only[az,cp,hO,A.bq lZ];cases p0 s (nC s w (i:Int))<;>simp[W.ho,kp]
   ·cases cY;refine⟨?_,λp=>?_⟩
    ·grind
    ·show (nC s w (i:Int)).set w.toNat p=nC s w p;unfold nC;simp
  simp
 ·simp[I5 ak,ak]
def Bw(s:bJ)(cA:z1'):Int×Int:=if ld s (wD s cA)≠0 then (0,ld s (wD s cA)) else if (!p0 s cA)=true then (0,3) else (rV s cA,0)
abbrev I9:aO:=⟨.aB lb fR,.aB bp bp,λx=>fB x.1/\x.2.length<2 ^ 63,λx=>Bw x.1 x.2⟩
theorem aqI{s:bJ}{cA:z1'}(h:wD s cA=true):cA.length=s.2.2.2.1.length/\oo s cA:=by
 unfold wD at h;simp only[Bool.and_eq_true,List.all_eq_true,List.mem_range,decide_eq_true_eq]at h;obtain⟨E,U⟩:=h;refine⟨by omega,by omega,λp aq=>?_⟩;obtain⟨i,G,rfl⟩:=List.mem_iff_getElem.1 aq;have:=E i G;have jy:cA.getD i 0=cA[i]:=by grind
 unfold wC at this;simp only[jy,Bool.or_eq_true,decide_eq_true_eq,Bool.and_eq_true,apC]at this;omega
theorem aqJ(x):A.le (V1 Bn.sh wJ.sh IQ.sh th.sh x) (I9.sh x):=A.bw λh=>by
 obtain⟨s,cA⟩:=x;obtain⟨aD,al⟩:=h;unfold V1;show _=A.pure (Bw s cA);unfold Bw;simp only[aO.sh,A.od,A.gQ];have aq:IQ.pre (s,cA):=⟨aD,al⟩
 rw[A.bq (by exact aq),A.bq (by exact aD)];by_cases ak:ld s (wD s cA)=0
 ·have af:=Bm aD (Bl ak).1;obtain⟨aqK,xS⟩:=aqI (Bl ak).2.1;simp only[I4 ak,ak,ne_eq,not_true,decide_false,Bool.false_eq_true,if_false,A.dF];rw[A.bq (by exact⟨s,⟨rfl,af⟩,xS⟩)];have az:oq (some (dt s))=s:=rfl;simp only[az];cases ao:p0 s cA with
  | false=>simp
  | true=>
   simp only[Bool.not_true,Bool.false_eq_true,if_false];rw[A.bq (by exact⟨s,⟨rfl,af⟩,Nat.le_of_eq aqK⟩)]
 ·simp[I5 ak,ak]
def yN(s:bJ):Prop:=Pl s.1/\s.2.1.length<=2000000/\s.2.2.1.length<=2000000/\s.2.2.2.1.length<=2000000/\s.2.2.2.2.1.length<=2000000/\(∀ p∈s.2.2.1,p.2.2.2.2.length<=2000000)/\∀ x∈s.2.2.2.1,x.1.length<=2000000
theorem aqL{s:bJ}(af:mf s):yN s:=by
 have aoN:=EC af.s8.2;refine⟨⟨by omega,by omega,by omega,λm hm=>?_⟩,by have:=af.EP;omega,by have:=af.IS;omega,by have:=af.uV;omega,by have:=af.Pt;omega,λp aq=>by have:=(Pw af aq).2.1;omega,λx ai=>?_⟩
 ·have kX:=(Be af.s8.2).2.2.1 m hm;simp only[qL,Bool.and_eq_true,Bool.not_eq_true',decide_eq_false_iff_not,List.all_eq_true]at kX;refine⟨by omega,λs' sg=>?_⟩;have:=kX.2 s' sg;simp only[pU,Bool.and_eq_true,decide_eq_true_eq]at this;omega
 ·have:=af.ZF x ai;simp only[o7,bX,Bool.and_eq_true,decide_eq_true_eq]at this;omega
abbrev I_:aO:=⟨lb,lb,yN,λs=>s⟩
theorem aqM(x):A.le (VU vW.sh x) (I_.sh x):=A.bw λh=>by
 obtain⟨E,U,ah,a6,bL,dv,gl⟩:=h;unfold VU;simp only[aO.sh,A.dF];have eF:bQ (0+x.2.1.length):=by unfold bQ;omega
 have mj:bQ (0+x.2.2.1.length):=by unfold bQ;omega
 have EY:bQ (0+x.2.2.2.1.length):=by unfold bQ;omega
 have aqN:bQ (0+x.2.2.2.2.1.length):=by unfold bQ;omega
 rw[A.bq (by exact E)];simp only[hO,A.bq eF,A.bq mj,A.bq EY,A.bq aqN,List.nil_append];rw[A.ed x.2.2.1 (λi (_:Unit)=>((i:Int),x,0,0,x.1.1,x.1.2.1,x.1.2.2.1,x.1.2.2.2,x.2.2.2.2.2,x.2.1,x.2.2.1,x.2.2.2.1,x.2.2.2.2.1,())) (λp b=>.next b) (λ_=>.next (x,0,0,x.1.1,x.1.2.1,x.1.2.2.1,x.1.2.2.2,x.2.2.2.2.2,x.2.1,x.2.2.1,x.2.2.2.1,x.2.2.2.2.1,())) () ?_ ?_ ?_]
 ·rw[eL,A.aK,A.b7];rw[A.ed x.2.2.2.1 (λi (_:Unit)=>((i:Int),x,0,0,x.1.1,x.1.2.1,x.1.2.2.1,x.1.2.2.2,x.2.2.2.2.2,x.2.1,x.2.2.1,x.2.2.2.1,x.2.2.2.2.1,())) (λp b=>.next b) (λ_=>.next (0,0,x.1.1,x.1.2.1,x.1.2.2.1,x.1.2.2.2,x.2.2.2.2.2,x.2.1,x.2.2.1,x.2.2.2.1,x.2.2.2.2.1,())) () ?_ ?_ ?_]
  ·rw[eL,A.aK,A.b7]<;>rfl
  ·rfl
  ·intro i G b;have kp:=bF (n:=(i:Int)+1) (by omega) (by omega);have hc:=gl _ (List.getElem_mem G);have kB:bQ (0+x.2.2.2.1[i].1.length):=by unfold bQ;omega
   have m':x.2.2.2.1.set i (x.2.2.2.1[i].1,x.2.2.2.1[i].2)=x.2.2.2.1:=List.set_getElem_self G;simp_all
  simp
 ·rfl
 ·intro i G b;have kp:=bF (n:=(i:Int)+1) (by omega) (by omega);have hc:=dv _ (List.getElem_mem G);have kB:bQ (0+x.2.2.1[i].2.2.2.2.length):=by unfold bQ;omega
  have m':x.2.2.1.set i (x.2.2.1[i].1,x.2.2.1[i].2.1,x.2.2.1[i].2.2.1,x.2.2.1[i].2.2.2.1,x.2.2.1[i].2.2.2.2)=x.2.2.1:=List.set_getElem_self G;simp_all
 simp
def Z9(s:bJ):Int:=(s.2.2.1.map λp=>(p.2.2.2.2.length:Int)).foldl (·+·) 0
def rY(s:bJ):Bool:=
 if (k7 s.1||decide ((s.2.1.length:Int) > 40)||decide ((s.2.2.1.length:Int) > 40)||decide ((s.2.2.2.1.length:Int) > 40)||decide ((s.2.2.2.2.1.length:Int) > 40))=true then true
 else if (s.2.2.1.any λp=>decide ((p.2.2.2.2.length:Int) > 40))=true then true
 else if (s.2.2.2.1.any λx=>decide ((x.1.length:Int) > 40))=true then true
 else if ji s≠0 then false
 else decide ((s.2.2.2.1.length:Int) > 3)||decide ((s.2.2.1.length:Int) > 4)||decide ((s.2.2.2.2.1.length:Int) > 3)||decide (Z9 s > 4)
abbrev I':aO:=⟨lb,dj,fB,rY⟩
theorem aqO(x):A.le (Y_ pZ.sh wj.sh x) (I'.sh x):=A.bw λh=>by
 change fB x at h;unfold Y_;show _=A.pure (rY x);unfold rY;simp only[aO.sh,A.dF,bZ];rw[A.bq (by exact h.1)];obtain⟨g1,ew,g3,g4,g5,g6,g7⟩:=id h;by_cases E:(k7 x.1||decide ((x.2.1.length:Int) > 40)||decide ((x.2.2.1.length:Int) > 40)||decide ((x.2.2.2.1.length:Int) > 40)||decide ((x.2.2.2.2.1.length:Int) > 40))=true
 ·grind
 ·rw[if_neg E,if_neg E];simp only[Bool.or_eq_true,decide_eq_true_eq,not_or]at E;rw[A.ed x.2.2.1 (λi (_:Unit)=>((i:Int),x,())) (λp u=>if decide ((p.2.2.2.2.length:Int) > 40)=true then .done (.done true) else .next u) (λ_=>.next (x,())) () ?_ ?_ ?_]
  ·rw[sQ (p:=λp:dm=>decide ((p.2.2.2.2.length:Int) > 40))];by_cases U:(x.2.2.1.any λp=>decide ((p.2.2.2.2.length:Int) > 40))=true
   ·simp only[U,if_true,A.aK,A.pG]
   ·simp only[U,Bool.false_eq_true,if_false,A.aK,A.b7];rw[A.ed x.2.2.2.1 (λi (_:Unit)=>((i:Int),x,())) (λp u=>if decide ((p.1.length:Int) > 40)=true then .done (.done true) else .next u) (λ_=>.next (x,())) () ?_ ?_ ?_]
    ·rw[sQ (p:=λp:dB=>decide ((p.1.length:Int) > 40))];by_cases ah:(x.2.2.2.1.any λx=>decide ((x.1.length:Int) > 40))=true
     ·simp only[ah,if_true,A.aK,A.pG]
     ·simp only[ah,Bool.false_eq_true,if_false,A.aK,A.b7];rw[A.bq (by exact h)];by_cases he:ji x=0
      ·simp only[he,ne_eq,not_true,decide_false,Bool.false_eq_true,if_false];have aa:∀ p∈x.2.2.1,p.2.2.2.2.length<=40:=λp aq=>by
        grind
       rw[A.f_ x.2.2.1 (λi (n:Int)=>(n,(i:Int),x,())) (λp n=>.next (n+(p.2.2.2.2.length:Int))) (λn=>.next (n,x,())) (λi n=>0<=n/\n<=40*i) 0 ?_ ?_ ?_ ?_]
       ·rw[eL,A.aK,A.b7];unfold Z9;rw[List.foldl_map]
       ·rfl
       ·simp
       ·intro i G n ax;have kp:=bF (n:=(i:Int)+1) (by omega) (by omega);have ayK:=aa _ (List.getElem_mem G);have Bj:=bF (n:=n+(x.2.2.1[i].2.2.2.2.length:Int)) (by omega) (by omega);refine⟨?_,λbe cY=>?_⟩
        ·simp only[cX G,if_true,cP G,A.br,dk G,cp,kp,Bj];rfl
        grind
       simp
      grind
    ·rfl
    ·intro i G u;have kp:=bF (n:=(i:Int)+1) (by omega) (by omega);simp only[cX G,if_true,cP G,A.br,dk G,A.aK,cp,kp];exact nn (mk:=λ_:Unit=>((i:Int)+1,x,()))
    simp
  ·rfl
  ·intro i G u;have kp:=bF (n:=(i:Int)+1) (by omega) (by omega);simp only[cX G,if_true,cP G,A.br,dk G,A.aK,cp,kp];exact nn (mk:=λ_:Unit=>((i:Int)+1,x,()))
  simp
def Bx:bJ:=(IF,[1,0,0,0],[(1,60,0,0,[0]),(1,60,7,0,[]),(2,65,0,1,[0]),(2,60,0,0,[0,1])],[([1],(55,65),7,3,500),([1,2],(60,60),0,5,400),([2],(60,70),9,8,700),([2],(65,65),0,5,300)],[(4,2,1),(6,3,1)],2)
abbrev Ja:aO:=⟨.cU,lb,λ_=>True,λ_=>Bx⟩
theorem aqP(x):A.le (Y' Pm.sh x) (Ja.sh x):=A.bw λ_=>by
 unfold Y';simp only[aO.sh,A.dF,A.br];rfl
theorem aqQ:fB Bx:=by
 refine⟨ao7,by decide,by decide,by decide,by decide,?_,?_⟩
 ·intro p aq;simp only[Bx,List.mem_cons,List.not_mem_nil,or_false]at aq;grind
 ·intro x ai;simp only[Bx,List.mem_cons,List.not_mem_nil,or_false]at ai;grind
end Go.Fer
namespace Go.Fer.H
open A (W)
def Z_(AH:aX->A Int)(N5:List aZ->A (List aZ×Bool))(aqR:List (List aZ)->A (List aZ))(aqS:List (z1')×Unit->A (z1'×Unit))(N7:z1'×Unit->A (z1'×Unit))(aqT:z1'×Unit->A ((Nat×Nat)×z1'×Unit))(Jb:z4'->A (z4'))(x:aX×List aZ×z1'):A (aX×Int):=
 letI a:=x.1.2.2.2;A.bind (AH x.1) λy=>if decide (y≠0)=true then A.pure (([],[],[],[],0,0,0,0,0,0,0),y) else A.bind (AH (x.1.1,x.2.1,x.2.2,a)) λy=>if decide (y≠0)=true then A.pure (([],[],[],[],0,0,0,0,0,0,0),y) else A.bind (aqR [x.1.2.1,x.2.1]) λy=>A.bind (N5 y) λy=>if (!y.2)=true then A.pure (([],[],[],[],0,0,0,0,0,0,0),91) else A.bind (aqS ([x.1.2.2.1,x.2.2],())) λb2=>A.bind (N7 (b2.1,())) λdy=>A.bind (aqT (dy.1,())) λfu=>if (decide (Int.ofNat (List.length y.1) > 12)||decide (Int.ofNat (fu.1.2-fu.1.1) > 12))=true then A.pure (([],[],[],[],0,0,0,0,0,0,0),90) else A.ae (Jb x.1.1).cr (A.ae (Jb a.1).cr (A.pure ((A.val (Jb x.1.1) [],y.1,List.drop fu.1.1 (List.take fu.1.2 fu.2.1),A.val (Jb a.1) [],a.2),0)))
def Z'(aqU:Int×Unit->A (List aZ×Unit))(x:List (List aZ)):A (List aZ):=
 A.bind (A.loop (λ(D:List (List aZ)×Int×List (List aZ)×Int×Int×Unit)=>letI d:=D.2.2;letI b:=d.2.2.1;letI a:=IntKind.wrap .i64 (Add.add D.2.1 (Int.ofNat (List.length (List.getD d.1 (Int.toNat b) []))));if decide (b<d.2.1)=true then A.bind (A.ae (0<=b/\b<Int.ofNat (List.length d.1)) (if decide (a<0)=true then A.ae False (A.ae False (A.pure (W.next (D.1,a,d.1,d.2.1,b,())))) else A.pure (W.next (D.1,a,d.1,d.2.1,b,())))) (W.bC (λ(D:List (List aZ)×Int×List (List aZ)×Int×Int×Unit)=>A.pure (W.next (D.1,D.2.1,D.2.2.1,D.2.2.2.1,IntKind.wrap .i64 (Add.add D.2.2.2.2.1 1),())))) else A.bind (A.pure (W.next (D.1,D.2.1,()))) λr=>A.pure (W.done r)) (x,0,x,Int.ofNat (List.length x),0,())) (W.bC (λ(D:List (List aZ)×Int×Unit)=>A.bind (aqU (D.2.1,())) λy=>A.bind (A.loop (λ(D:List (List aZ)×Int×Int×List aZ×Unit)=>letI e:=D.2.2;letI c:=List.getD D.1 (Int.toNat e.1) [];if decide (e.1<D.2.1)=true then A.ae (0<=e.1/\e.1<Int.ofNat (List.length D.1)) (A.ae (bQ (Add.add (List.length e.2.1) (List.length c))) (A.pure (W.next (D.1,D.2.1,IntKind.wrap .i64 (Add.add e.1 1),e.2.1++c,())))) else A.bind (A.pure (W.next (e.2.1,()))) λr=>A.pure (W.done r)) (D.1,Int.ofNat (List.length D.1),0,y.1,())) (W.bC (λ(D:List aZ×Unit)=>A.pure D.1))))
def aaa(aqV:Int×Unit->A (z1'×Unit))(x:List (z1')×Unit):A (z1'×Unit):=
 A.bind (A.loop (λ(D:List (z1')×Int×List (z1')×Int×Int×Unit)=>letI d:=D.2.2;letI b:=d.2.2.1;letI a:=IntKind.wrap .i64 (Add.add D.2.1 (Int.ofNat (List.length (List.getD d.1 (Int.toNat b) []))));if decide (b<d.2.1)=true then A.bind (A.ae (0<=b/\b<Int.ofNat (List.length d.1)) (if decide (a<0)=true then A.ae False (A.ae False (A.pure (W.next (D.1,a,d.1,d.2.1,b,())))) else A.pure (W.next (D.1,a,d.1,d.2.1,b,())))) (W.bC (λ(D:List (z1')×Int×List (z1')×Int×Int×Unit)=>A.pure (W.next (D.1,D.2.1,D.2.2.1,D.2.2.2.1,IntKind.wrap .i64 (Add.add D.2.2.2.2.1 1),())))) else A.bind (A.pure (W.next (D.1,D.2.1,()))) λr=>A.pure (W.done r)) (x.1,0,x.1,Int.ofNat (List.length x.1),0,())) (W.bC (λ(D:List (z1')×Int×Unit)=>A.bind (aqV (D.2.1,())) λy=>A.bind (A.loop (λ(D:List (z1')×Int×Int×z1'×Unit)=>letI e:=D.2.2;letI c:=List.getD D.1 (Int.toNat e.1) [];if decide (e.1<D.2.1)=true then A.ae (0<=e.1/\e.1<Int.ofNat (List.length D.1)) (A.ae (bQ (Add.add (List.length e.2.1) (List.length c))) (A.pure (W.next (D.1,D.2.1,IntKind.wrap .i64 (Add.add e.1 1),e.2.1++c,())))) else A.bind (A.pure (W.next (e.2.1,()))) λr=>A.pure (W.done r)) (D.1,Int.ofNat (List.length D.1),0,y.1,())) (W.bC (λ(D:z1'×Unit)=>A.pure (D.1,())))))
def aqW(x:z1'×Unit):A ((Nat×Nat)×z1'×Unit):=
 if decide (Int.ofNat (List.length x.1)<2)=true then A.pure ((0,List.length x.1),x.1,()) else A.bind (A.loop (λ(D:Int×z1'×Unit)=>letI l:=D.1;letI j:=D.2.1;letI g:=IntKind.wrap .i64 (l-1);letI b:=Int.ofNat (List.length j);if decide (l<b)=true then A.bind (A.ae (0<=l/\l<b) (A.ae (0<=g/\g<b) (if decide (List.getD j (Int.toNat l) 0=List.getD j (Int.toNat g) 0)=true then A.ae (0<=l/\l<=b/\b<=b) (A.bind (A.loop (λ(D:Int×(Nat×Nat)×Int×z1'×Unit)=>letI k:=D.2.1;letI e:=D.2.2;letI i:=IntKind.wrap .i64 (e.1-1);letI h:=List.getD e.2.1 (Add.add k.1 (Int.toNat e.1)) 0;letI d:=Int.ofNat (k.2-k.1);if decide (e.1<d)=true then A.bind (A.ae (0<=e.1/\e.1<d) (A.ae (0<=i/\i<d) (if decide (h≠List.getD e.2.1 (Add.add k.1 (Int.toNat i)) 0)=true then A.ae (0<=e.1/\e.1<d) (A.ae (0<=D.1/\D.1<Int.ofNat (List.length e.2.1)) (A.pure (W.next (IntKind.wrap .i64 (Add.add D.1 1),k,e.1,List.set e.2.1 (Int.toNat D.1) h,())))) else A.pure (W.next (D.1,k,e.1,e.2.1,()))))) (W.bC (λ(D:Int×(Nat×Nat)×Int×z1'×Unit)=>A.pure (W.next (D.1,D.2.1,IntKind.wrap .i64 (Add.add D.2.2.1 1),D.2.2.2.1,())))) else A.bind (A.pure (W.next (D.1,e.2.1,()))) λr=>A.pure (W.done r)) (l,(Int.toNat l,Int.toNat b),1,j,())) (W.bC (λ(D:Int×z1'×Unit)=>letI f:=Int.toNat D.1;letI c:=Int.ofNat (List.length D.2.1);letI a:=List.take f D.2.1++List.replicate (Int.toNat c-f) 0++List.drop (Add.add f (List.length (List.replicate (Int.toNat c-f) (0:Int)))) D.2.1;A.ae (0<=D.1/\D.1<=c/\c<=c) (A.ae True (A.ae ((0:Int)<=0/\0<=D.1/\D.1<=Int.ofNat (List.length a)) (A.bind (A.bind (A.bind (A.pure ((Int.toNat 0,f),a,())) (λr=>A.pure (W.done r))) (λr=>A.pure (W.done r))) (λr=>A.pure (W.done r)))))))) else A.pure (W.next (l,j,()))))) (W.bC (λ(D:Int×z1'×Unit)=>A.pure (W.next (IntKind.wrap .i64 (Add.add D.1 1),D.2.1,())))) else A.bind (A.pure (W.next (j,()))) λr=>A.pure (W.done r)) (1,x.1,())) (W.bC (λ(D:z1'×Unit)=>A.pure ((0,List.length D.1),D.1,())))
def Jc(x:Int×Unit):A (z1'×Unit):=A.dR (0<=x.1/\x.1<60000) ([],())
def Jd(x:Int×Unit):A (List aZ×Unit):=A.dR (0<=x.1/\x.1<60000) ([],())
section
variable {an gC:Type}
def Je(g:Int×Unit->A (List an×Unit))(x:List (List an))(k:List an->A gC):A gC:=
 A.bind (A.loop (λ(D:List (List an)×Int×List (List an)×Int×Int×Unit)=>if decide (D.2.2.2.2.1<D.2.2.2.1)=true then A.bind (A.ae (0<=D.2.2.2.2.1/\
 D.2.2.2.2.1<Int.ofNat (List.length D.2.2.1)) (if decide (IntKind.wrap .i64 (Add.add D.2.1 (Int.ofNat (List.length (List.getD D.2.2.1 (Int.toNat D.2.2.2.2.1) [])))) <
 0)=true then A.ae False (A.ae False (A.pure (W.next (D.1,IntKind.wrap .i64 (Add.add D.2.1 (Int.ofNat (List.length (List.getD D.2.2.1 (Int.toNat D.2.2.2.2.1)
 [])))),D.2.2.1,D.2.2.2.1,D.2.2.2.2.1,())))) else A.pure (W.next (D.1,IntKind.wrap .i64 (Add.add D.2.1 (Int.ofNat (List.length (List.getD D.2.2.1 (Int.toNat
 D.2.2.2.2.1) [])))),D.2.2.1,D.2.2.2.1,D.2.2.2.2.1,())))) (W.bC λ(D:List (List an)×Int×List (List an)×Int×Int×Unit)=>A.pure (W.next (D.1,D.2.1,D.2.2.1,D.2.2.2.1,IntKind.wrap .i64 (Add.add D.2.2.2.2.1 1),()))) else A.bind (A.pure (W.next (D.1,D.2.1,()))) λr=>A.pure (W.done r)) (x,0,x,Int.ofNat
 (List.length x),0,())) (W.bC λ(D:List (List an)×Int×Unit)=>A.bind (g (D.2.1,())) λy=>A.bind (A.loop (λ(D:List (List an)×Int×Int×List an×
 Unit)=>if decide (D.2.2.1<D.2.1)=true then A.ae (0<=D.2.2.1/\D.2.2.1<Int.ofNat (List.length D.1)) (A.ae (bQ (Add.add (List.length D.2.2.2.1) (List.length
 (List.getD D.1 (Int.toNat D.2.2.1) [])))) (A.pure (W.next (D.1,D.2.1,IntKind.wrap .i64 (Add.add D.2.2.1 1),D.2.2.2.1++List.getD D.1 (Int.toNat D.2.2.1) [],())))) else A.bind (A.pure (W.next (D.2.2.2.1,()))) λr=>A.pure (W.done r)) (D.1,Int.ofNat (List.length D.1),0,y.1,())) (W.bC λ(D:List an×Unit)
 =>k D.1))
theorem aab:∀ (l:List (List an)) (b:List an),l.foldl (λb x=>b++x) b=b++l.flatten
 | [],b=>by simp
 | x::l,b=>by simp[aab l]
theorem aac(g:Int×Unit->A (List an×Unit))(ay:∀ n,0<=n->n<60000->g (n,())=A.pure ([],()))(x:List (List an))(k:List an->A gC)(E:x.length<=2)(U:∀ l∈x,l.length<=40):Je g x k=k x.flatten:=by
 unfold Je;rw[A.f_ x (λi (n:Int)=>(x,n,x,(x.length:Int),(i:Int),())) (λl n=>.next (n+(l.length:Int))) (λn=>.next (x,n,())) (λi n=>0<=n/\n<=40*(i:Int)) 0 ?_ ?_ ?_ ?_]
 ·rw[eL,A.aK,A.b7];have aD:∀ (l:List (List an)) (n:Int),0<=n->(∀ y∈l,y.length<=40)->0<=l.foldl (λn y=>n+(y.length:Int)) n/\l.foldl (λn y=>n+(y.length:Int)) n<=n+40*(l.length:Int):=by
   intro l;induction l with
   | nil=>simp
   | cons y l aL=>
    grind
  obtain⟨dO,e3⟩:=aD x 0 (Int.le_refl _) U;rw[ay _ dO (by omega),A.aK];rw[A.f_ x (λi (b:List an)=>(x,(x.length:Int),(i:Int),b,())) (λl b=>.next (b++l)) (λb=>.next (b,())) (λi b=>b.length<=40*i) [] ?_ ?_ ?_ ?_]
  ·rw[eL,A.aK,A.b7,aab];rfl
  ·rfl
  ·simp
  ·intro i G b aa;have hw:=bF (n:=(i:Int)+1) (by omega) (by omega);have al:=U _ (List.getElem_mem G);refine⟨?_,λbe cY=>?_⟩
   ·simp only[bZ,cX G,if_true,dk G,cP G,A.br,cp,hw];rw[A.bq (fw (by grind))];rfl
   grind
  simp
 ·rfl
 ·omega
 ·intro i G n ax;have hw:=bF (n:=(i:Int)+1) (by omega) (by omega);have al:=U _ (List.getElem_mem G);have gZ:=bF (n:=n+(x[i].length:Int)) (by omega) (by omega);have au:decide (n+(x[i].length:Int)<0)=false:=by grind
  refine⟨?_,λbe cY=>?_⟩
  ·simp only[bZ,cX G,if_true,dk G,cP G,A.br,cp,hw,gZ,au,Bool.false_eq_true,if_false,A.aK,A.b7];rfl
  grind
 simp
end
abbrev Jf:aO:=⟨.slice (.slice hq),.slice hq,λx=>x.length<=2/\∀ l∈x,l.length<=40,λx=>x.flatten⟩
theorem aqX(x):A.le (Z' Jd x) (Jf.sh x):=A.bw λh=>
 (show Z' Jd x=Je Jd x A.pure from rfl).trans (aac _ (λn a b=>A.bR ⟨a,b⟩ _) x _ h.1 h.2)
def Jg(x:List (z1')×Unit):A (z1'×Unit):=A.dR (x.1.length<=2/\∀ l∈x.1,l.length<=40) (x.1.flatten,())
theorem aqY(x):A.le (aaa Jc x) (Jg x):=A.bw λh=>
 (show aaa Jc x=Je Jc x.1 (λl=>A.pure (l,())) from rfl).trans (aac _ (λn a b=>A.bR ⟨a,b⟩ _) x.1 _ h.1 h.2)
def ou(l:z1')(j:Nat):Bool:=decide (j=0)||decide (l.getD j 0≠l.getD (j - 1) 0)
def fz(l:z1')(p:Nat):z1':=((List.range p).filter (ou l)).map λj=>l.getD j 0
theorem PY(l:z1')(p:Nat):fz l (p+1)=fz l p++if ou l p=true then [l.getD p 0] else []:=by
 unfold fz;rw[List.range_succ,List.filter_append,List.map_append];grind
theorem aqZ(l:z1')(p:Nat):(fz l p).length<=p:=by
 unfold fz;grind
def EZ{R:Type}:Int×(Nat×Nat)×Int×z1'×Unit->A (W (Int×(Nat×Nat)×Int×z1'×Unit) (W (Int×z1'×Unit) R)):=
 (λ(D:Int×(Nat×Nat)×Int×z1'×Unit)=>if decide (D.2.2.1<Int.ofNat (D.2.1.2 - D.2.1.1))=true then A.bind (A.ae (0<=D.2.2.1/\D.2.2.1<Int.ofNat
 (D.2.1.2 - D.2.1.1)) (A.ae (0<=IntKind.wrap .i64 (D.2.2.1 - 1)/\IntKind.wrap .i64 (D.2.2.1 - 1)<Int.ofNat (D.2.1.2 - D.2.1.1)) (if decide (List.getD D.2.2.2.1
 (Add.add D.2.1.1 (Int.toNat D.2.2.1)) 0≠List.getD D.2.2.2.1 (Add.add D.2.1.1 (Int.toNat (IntKind.wrap .i64 (D.2.2.1 - 1)))) 0)=true then A.ae (0<=D.2.2.1/\D.2.2.1
 < Int.ofNat (D.2.1.2 - D.2.1.1)) (A.ae (0<=D.1/\D.1<Int.ofNat (List.length D.2.2.2.1)) (A.pure (W.next (IntKind.wrap .i64 (Add.add D.1 1),D.2.1,D.2.2.1,List.set D.2.2.2.1 (Int.toNat D.1) (List.getD D.2.2.2.1 (Add.add D.2.1.1 (Int.toNat D.2.2.1)) 0),())))) else A.pure (W.next (D.1,D.2.1,D.2.2.1,D.2.2.2.1,())))))
 (W.bC λ(D:Int×(Nat×Nat)×Int×z1'×Unit)=>A.pure (W.next (D.1,D.2.1,IntKind.wrap .i64 (Add.add D.2.2.1 1),D.2.2.2.1,()))) else A.bind
 (A.pure (W.next (D.1,D.2.2.2.1,()))) λr=>A.pure (W.done r))
def wL:Int×z1'×Unit->A (W (Int×z1'×Unit) (W (z1'×Unit) ((Nat×Nat)×z1'×Unit))):=
 (λ(D:Int×z1'×Unit)=>if decide (D.1<Int.ofNat (List.length D.2.1))=true then A.bind (A.ae (0<=D.1/\D.1<Int.ofNat (List.length D.2.1)) (A.ae (0<=
 IntKind.wrap .i64 (D.1 - 1)/\IntKind.wrap .i64 (D.1 - 1)<Int.ofNat (List.length D.2.1)) (if decide (List.getD D.2.1 (Int.toNat D.1) 0=List.getD D.2.1 (Int.toNat
 (IntKind.wrap .i64 (D.1 - 1))) 0)=true then A.ae (0<=D.1/\D.1<=Int.ofNat (List.length D.2.1)/\Int.ofNat (List.length D.2.1)<=Int.ofNat (List.length D.2.1))
 (A.bind (A.loop EZ (D.1,(Int.toNat D.1,Int.toNat (Int.ofNat (List.length D.2.1))),1,D.2.1,())) (W.bC λ(D:Int×z1'×Unit)=>A.ae (0<=D.1/\D.1<=
 Int.ofNat (List.length D.2.1)/\Int.ofNat (List.length D.2.1)<=Int.ofNat (List.length D.2.1)) (A.ae True (A.ae ((0:Int)<=0/\0<=D.1/\D.1<=Int.ofNat (List.length
 (List.take (Int.toNat D.1) D.2.1++List.replicate (Int.toNat (Int.ofNat (List.length D.2.1)) - Int.toNat D.1) 0++List.drop (Add.add (Int.toNat D.1) (List.length
 (List.replicate (Int.toNat (Int.ofNat (List.length D.2.1)) - Int.toNat D.1) (0:Int)))) D.2.1))) (A.bind (A.bind (A.bind (A.pure ((Int.toNat 0,Int.toNat D.1),List.take
 (Int.toNat D.1) D.2.1++List.replicate (Int.toNat (Int.ofNat (List.length D.2.1)) - Int.toNat D.1) 0++List.drop (Add.add (Int.toNat D.1) (List.length (List.replicate
 (Int.toNat (Int.ofNat (List.length D.2.1)) - Int.toNat D.1) (0:Int)))) D.2.1,())) λr=>A.pure (W.done r)) λr=>A.pure (W.done r)) λr=>A.pure (W.done
 r)))))) else A.pure (W.next (D.1,D.2.1,()))))) (W.bC λ(D:Int×z1'×Unit)=>A.pure (W.next (IntKind.wrap .i64 (Add.add D.1 1),D.2.1,()))) else
 A.bind (A.pure (W.next (D.2.1,()))) λr=>A.pure (W.done r))
structure yO(l:z1')(p:Nat)(m:z1'):Prop where
 len:m.length=l.length
 Cp:m.take (fz l p).length=fz l p
 lt:(fz l p).length<p
 cj:∀ j,p<=j+1->m.getD j 0=l.getD j 0
theorem aq0{an:Type}{l:List an}{i j:Nat}{v d:an}(h:i<l.length):(l.set i v).getD j d=if j=i then v else l.getD j d:=by
 grind
theorem yO.step{l m:z1'}{p:Nat}(h:yO l p m)(aq:p<l.length):yO l (p+1) (if ou l p=true then m.set (fz l p).length (l.getD p 0) else m):=by
 have E:=h.lt;have U:=h.len;have hc:=PY l p;by_cases ak:ou l p=true
 ·rw[if_pos ak]at hc ⊢;refine⟨by grind,?_,?_,λj aG=>?_⟩
  ·rw[hc,List.length_append,List.length_singleton];have aF:=h.Cp;generalize fz l p=c at aF E;apply List.ext_getElem?;intro j;rw[List.getElem?_take,List.getElem?_append,List.getElem?_set];grind
  ·grind
  ·rw[aq0 (by omega),if_neg (by omega)];exact h.cj j (by omega)
 ·rw[if_neg ak,List.append_nil]at hc;rw[if_neg ak];refine⟨U,by rw[hc];exact h.Cp,by grind,λj aG=>h.cj j (by omega)⟩
theorem aq1{R:Type}{l m:z1'}{k p:Nat}(al:l.length<60000)(ak:k<p)(nd:0<k)(h:yO l p m)(aq:p<l.length) :
  EZ (R:=R) (((fz l p).length:Nat),(k,l.length),((p - k:Nat):Int),m,())=A.pure (.next (((fz l (p+1)).length:Nat),(k,l.length),((p+1 - k:Nat):Int),(if ou l p=true then m.set (fz l p).length (l.getD p 0) else m),())):=by
 have E:=h.lt;have U:=h.len;have hc:=PY l p;have ck:=bF (n:=((p - k:Nat):Int) - 1) (by omega) (by omega);have da:IntKind.wrap .i64 (((p - k:Nat):Int)+1)=((p+1 - k:Nat):Int):=(bF (by omega) (by omega)).trans (by omega);have eZ:=bF (n:=(((fz l p).length:Nat):Int)+1) (by omega) (by omega);have d1:decide (((p - k:Nat):Int)<((l.length - k:Nat):Int))=true:=by grind
 have b8:(0:Int)<=((p - k:Nat):Int)/\((p - k:Nat):Int)<((l.length - k:Nat):Int):=by omega
 have cw:(0:Int)<=((p - k:Nat):Int) - 1/\((p - k:Nat):Int) - 1<((l.length - k:Nat):Int):=by omega
 have ef:(0:Int)<=(((fz l p).length:Nat):Int)/\(((fz l p).length:Nat):Int)<(m.length:Int):=by omega
 have az:k+(((p - k:Nat):Int)).toNat=p:=by omega
 have aN:k+(((p - k:Nat):Int) - 1).toNat=p - 1:=by omega
 have g1:=h.cj p (by omega);have ew:=h.cj (p - 1) (by omega);have zD:ou l p=decide (l.getD p 0≠l.getD (p - 1) 0):=by
  unfold ou;grind
 unfold EZ;simp only[bZ,d1,if_true,ck,b8,cw,and_self,A.br,cp,hO,az,aN,g1,ew,<-zD];by_cases Jh:ou l p=true
 ·rw[if_pos Jh]at hc;simp only[Jh,if_true,ef,and_self,A.br,A.aK,A.b7,da,eZ,Int.toNat_natCast,decide_true];rw[hc];simp
 ·rw[if_neg Jh,List.append_nil]at hc;simp only[Jh,if_false,A.aK,A.b7,da,Bool.false_eq_true,decide_true,if_true];rw[hc]
theorem aq2{R:Type}{l:z1'}{k:Nat}(al:l.length<60000)(nd:0<k):∀ (n p:Nat) (m:z1'),l.length - p=n->p<=l.length->k<p->yO l p m->
  ∃ dA,yO l l.length dA/\A.loop (EZ (R:=R)) (((fz l p).length:Nat),(k,l.length),((p - k:Nat):Int),m,())=A.pure (.next (((fz l l.length).length:Nat),dA,())):=by
 intro n;induction n with
 | zero=>
  intro p m ax aq ak h;have:p=l.length:=by omega
  subst this;refine⟨m,h,A.r6 ?_⟩;unfold EZ;simp
 | succ n aL=>
  intro p m ax aq ak h;have aq:p<l.length:=by omega
  obtain⟨dA,E,U⟩:=aL (p+1) _ (by omega) aq (by omega) (h.step aq);exact⟨dA,E,(A.y_ (aq1 al ak nd h aq)).trans U⟩
def wM(l:z1'):(Nat×Nat)×z1'×Unit:=((0,(fz l l.length).length),fz l l.length++List.replicate (l.length - (fz l l.length).length) 0,())
theorem aq3{l:z1'}(al:l.length<60000):∀ (n p:Nat),l.length - p=n->p<=l.length->0<p->fz l p=l.take p->
  A.bind (A.loop wL ((p:Int),l,())) (W.bC λ(D:z1'×Unit)=>A.pure ((0,List.length D.1),D.1,()))=A.pure (wM l):=by
 intro n;induction n with
 | zero=>
  intro p ax aq aY hc;have:p=l.length:=by omega
  subst this;rw[List.take_length]at hc;have aa:wL ((l.length:Int),l,())=A.pure (.done (.next (l,()))):=by
   unfold wL;simp
  rw[A.r6 aa,A.aK,A.b7];unfold wM;simp_all
 | succ n aL=>
  intro p ax aq aY hc;have aq:p<l.length:=by omega
  have ck:=bF (n:=(p:Int) - 1) (by omega) (by omega);have da:=bF (n:=(p:Int)+1) (by omega) (by omega);have cw:(0:Int)<=(p:Int) - 1/\(p:Int) - 1<(l.length:Int):=by omega
  have az:((p:Int) - 1).toNat=p - 1:=by omega
  have zD:ou l p=decide (l.getD p 0≠l.getD (p - 1) 0):=by
   unfold ou;rw[show decide (p=0)=false by grind,Bool.false_or]
  have ph:=PY l p;have ZD:(l.take p).length=p:=by grind
  by_cases ak:ou l p=true
  ·have eQ:¬l.getD p 0=l.getD (p - 1) 0:=by grind
   have aa:wL ((p:Int),l,())=A.pure (.next (((p+1:Nat):Int),l,())):=by
    unfold wL;simp_all
   rw[A.y_ aa];refine aL (p+1) (by omega) aq (by omega) ?_;simp_all
  ·have heq:l.getD p 0=l.getD (p - 1) 0:=by grind
   rw[if_neg ak,List.append_nil]at ph;have eB:yO l (p+1) l:=⟨rfl,by grind,by grind,λ_ _=>rfl⟩
   obtain⟨dA,E,U⟩:=aq2 (R:=W (Int×z1'×Unit) (W (Int×z1'×Unit) (W (z1'×Unit) ((Nat×Nat)×z1'×Unit)))) al aY (l.length - (p+1)) (p+1) l rfl aq (by omega) eB;rw[show (fz l (p+1)).length=p by grind,show p+1 - p=1 from by omega]at U;have lX:=aqZ l l.length;have anq:=E.len;have kV:=E.Cp;have ef:(0:Int)<=((fz l l.length).length:Int)/\((fz l l.length).length:Int)<=(dA.length:Int):=by omega
   have jn:List.take (fz l l.length).length dA++List.replicate (dA.length - (fz l l.length).length) 0++List.drop ((fz l l.length).length+(List.replicate (dA.length - (fz l l.length).length) (0:Int)).length) dA=fz l l.length++List.replicate (l.length - (fz l l.length).length) 0:=by
    simp_all
   have aa:wL ((p:Int),l,())=A.pure (.done (.done (wM l))):=by
    unfold wL;simp only[bZ,cX aq,if_true,cP aq,A.br,ck,cw,and_self,az,Int.toNat_natCast,heq,decide_true];rw[A.bq (by omega)];erw [U];simp only[A.aK,A.b7,bZ,Int.toNat_natCast,hO,jn,A.br];rw[A.bq ⟨ef.1,ef.2,Int.le_refl _⟩,A.bq ⟨Int.le_refl _,ef.1,by grind⟩];simp only[A.aK,A.pG,jn];rfl
   rw[A.r6 aa,A.aK,A.pG]
def Ji(x:z1'×Unit):A ((Nat×Nat)×z1'×Unit):=A.dR (x.1.length<60000) (wM x.1)
theorem aq4(x):A.le (aqW x) (Ji x):=A.bw λh=>by
 obtain⟨l,u⟩:=x;change l.length<60000 at h;show (if decide (Int.ofNat l.length<2)=true then A.pure ((0,l.length),l,()) else A.bind (A.loop wL (1,l,())) (W.bC λ(D:z1'×Unit)=>A.pure ((0,List.length D.1),D.1,())))=A.pure (wM l);have nX:∀ l:z1',l.length<2->fz l l.length=l:=λl al=>by
  match l,al with
  | [],_=>rfl
  | [a],_=>rfl
 by_cases U:l.length<2
 ·have au:decide (Int.ofNat l.length<2)=true:=by grind
  rw[if_pos au];unfold wM;simp_all
 ·have au:¬decide (Int.ofNat l.length<2)=true:=by grind
  rw[if_neg au];refine aq3 h (l.length - 1) 1 rfl (by omega) (by omega) ?_;match l,U with
  | a::l,_=>rfl
  | [],U=>grind
end Go.Fer.H
namespace Go.Fer.H
open A (W)
theorem aq5{l:z1'}:∀ j,j<l.length->l.getD j 0∈fz l l.length:=by
 intro j;induction j with
 | zero=>
  intro h;unfold fz;exact List.mem_map.2 ⟨0,List.mem_filter.2 ⟨by grind,by rfl⟩,rfl⟩
 | succ j aL=>
  intro h;by_cases ak:ou l (j+1)=true
  ·unfold fz;grind
  ·have:l.getD (j+1) 0=l.getD j 0:=by
    unfold ou at ak;grind
   grind
theorem aq6{l:z1'}{x:Int}:x∈fz l l.length<->x∈l:=by
 constructor
 ·intro h;unfold fz at h;grind
 ·intro h;obtain⟨j,aG,rfl⟩:=List.mem_iff_getElem.1 h;rw[<-s4 (d:=0) aG];exact aq5 j aG
theorem aq7{l:z1'}(h:l.Pairwise (·<=·)):(fz l l.length).Pairwise (·<·):=by
 unfold fz;rw[List.pairwise_map];have M:((List.range l.length).filter (ou l)).Pairwise (·<·):=List.Pairwise.filter _ List.pairwise_lt_range;refine List.Pairwise.imp_of_mem ?_ M;intro i j G aG zI;obtain⟨aq8,jb⟩:=List.mem_filter.1 aG;have aq8:j<l.length:=by grind
 have eQ:l.getD j 0≠l.getD (j - 1) 0:=by
  unfold ou at jb;grind
 have aD:=List.pairwise_iff_getElem.1 h;grind
def gi(a b:z1'):z1':=(d_ 0 99).filter λid=>a.contains id||b.contains id
theorem PZ(a b:Int):(d_ a b).Pairwise (·<·):=by
 unfold d_;rw[List.pairwise_map];exact (List.pairwise_lt_range).imp λh=>by omega
theorem aq9{a b:z1'}(a_:a.Pairwise (·<·))(aa:b.Pairwise (·<·))(h:∀ x,x∈a<->x∈b):a=b:=by
 have aq_:a.Nodup:=a_.imp λh=>by omega
 have mC:b.Nodup:=aa.imp λh=>by omega
 have aq:=(List.perm_ext_iff_of_nodup aq_ mC).2 h;rw[<-AM (a_.imp λh=>by omega) (List.Perm.refl a)];exact AM (aa.imp λh=>by omega) aq
theorem aq'{a b:z1'}(a_:∀ x∈a,bX x 0 99=true)(aa:∀ x∈b,bX x 0 99=true):fz (fx hs (a++b)) (fx hs (a++b)).length=gi a b:=by
 refine aq9 (aq7 (Ol _)) (List.Pairwise.filter _ (PZ 0 99)) λx=>?_;rw[aq6,Xk];unfold gi;simp only[List.mem_append,List.mem_filter,oW,Bool.or_eq_true,List.contains_iff_mem];refine⟨λh=>⟨?_,h⟩,λh=>h.2⟩;rcases h with h | h
 ·exact lI.1 (a_ x h)
 ·exact lI.1 (aa x h)
abbrev wN:aX:=([],[],[],[],0,0,0,0,0,0,0)
def eo(c:aX)(more:List aZ)(ep:z1'):aX:=(c.1,more,ep,c.2.2.2)
def lf(c:aX)(more:List aZ)(ep:z1'):aX×Int:=
 if b' c≠0 then (wN,b' c) else if b' (eo c more ep)≠0 then (wN,b' (eo c more ep)) else
 if kl (c.2.1++more)=true then (wN,91) else
 if (decide (Int.ofNat (dn (c.2.1++more)).length > 12)||decide (Int.ofNat (gi c.2.2.1 ep).length > 12))=true then (wN,90) else (eo c (dn (c.2.1++more)) (gi c.2.2.1 ep),0)
abbrev By:aO:=⟨.aB iA (.aB (.slice hq) fR),.aB iA bp,λx=>jE x.1/\x.2.1.length<2 ^ 63/\x.2.2.length<2 ^ 63,λx=>lf x.1 x.2.1 x.2.2⟩
abbrev E0:aO:=⟨.slice mI,.slice mI,λx=>x.length<65536,λx=>x⟩
theorem ara(x):A.le (WO x) (E0.sh x):=A.sP λh=>by
 unfold WO;rw[A.gb];refine⟨⟨false,by simp⟩,λb aa=>?_⟩;change b=true->x=[]at aa;cases b with
 | true=>rw[aa rfl];exact A.eb.2 rfl
 | false=>
  simp only[Bool.false_eq_true,if_false];exact A.kP.2 ⟨fw (by grind),A.eb.2 (by simp)⟩
structure aad(c:aX):Prop where
 dZ:c.1.length<=3
 dP:c.2.1.length<=12
 hZ:c.2.2.1.length<=12
 n4:c.2.2.2.1.length<=4
 ids:∀ s∈c.2.1,bX s.1 0 99=true
 ep:∀ n∈c.2.2.1,bX n 0 99=true
 cl:kl c.2.1=false
theorem yP{c:aX}(h:b' c=0):aad c:=by
 unfold b' at h;by_cases hc:iS c=true
 ·rw[if_pos hc]at h;have lX:kl c.2.1=false:=by
   grind
  have G:=Ie hc;unfold iS rJ at hc;simp only[Bool.and_eq_true,List.all_eq_true,Bool.not_eq_true',Bool.or_eq_false_iff,decide_eq_false_iff_not]at hc;obtain⟨⟨⟨⟨⟨bj,_⟩,_⟩,U⟩,ah⟩,_⟩:=hc;exact⟨by omega,by omega,by omega,by omega,G.2,ah,lX⟩
 grind
theorem arb{a b:List aZ}(a_:a.length<=12)(aa:b.length<=12)(E:∀ s∈a,bX s.1 0 99=true)(U:∀ s∈b,bX s.1 0 99=true):v_ (a++b):=
 ⟨by grind,λs aD=>(List.mem_append.1 aD).elim (E s) (U s)⟩
theorem arc(x):A.le (Z_ g_.sh AS.sh Jf.sh Jg yg Ji E0.sh x) (By.sh x):=A.bw λh=>by
 obtain⟨c,more,ep⟩:=x;obtain⟨E,U,ah⟩:=h;change jE c at E;change more.length<2 ^ 63 at U;change ep.length<2 ^ 63 at ah;have tW:jE (eo c more ep):=⟨E.1,U,ah,E.2.2.2⟩
 unfold Z_;show _=A.pure (lf c more ep);unfold lf;rw[show g_.sh (c,more,ep).1=A.pure (b' c) from A.bR E _,A.aK];by_cases az:b' c=0
 ·have g1:=yP az;rw[show g_.sh ((c,more,ep).1.1,(c,more,ep).2.1,(c,more,ep).2.2,(c,more,ep).1.2.2.2)=A.pure (b' (eo c more ep)) from A.bR tW _,A.aK];by_cases aN:b' (eo c more ep)=0
  ·have ew:=yP aN;have dP:more.length<=12:=ew.dP;have hZ:ep.length<=12:=ew.hZ;have qh:=g1.dP;have mw:=g1.hZ;have G:v_ (c.2.1++more):=arb g1.dP ew.dP g1.ids ew.ids;rw[if_neg (by grind),if_neg (by grind),if_neg (by omega),if_neg (by omega)];rw[show Jf.sh [(c,more,ep).1.2.1,(c,more,ep).2.1]=A.pure (c.2.1++more) from (A.bR ⟨by simp,by grind⟩ _).trans (congrArg A.pure (by simp)),A.aK];rw[show AS.sh (c.2.1++more)=A.pure (if kl (c.2.1++more)=true then ([],false) else (dn (c.2.1++more),true)) from A.bR G _,A.aK];cases hc:kl (c.2.1++more) with
   | true=>simp
   | false=>
    simp only[Bool.false_eq_true,if_false,Bool.not_true];rw[show Jg ([c.2.2.1,ep],())=A.pure (c.2.2.1++ep,()) from (A.bR ⟨by simp,by grind⟩ _).trans (congrArg A.pure (by simp)),A.aK];rw[show yg ((c.2.2.1++ep,()):z1'×Unit)=A.pure (fx hs (c.2.2.1++ep),()) from A.bR (by grind) _,A.aK];rw[show Ji ((fx hs (c.2.2.1++ep),()):z1'×Unit)=A.pure (wM (fx hs (c.2.2.1++ep))) from A.bR (by show (fx hs (c.2.2.1++ep)).length<_;rw[H7];grind) _,A.aK];have hC:=aq' g1.ep ew.ep;unfold wM;rw[show (fz (fx hs (c.2.2.1++ep)) (fx hs (c.2.2.1++ep)).length)=gi c.2.2.1 ep from hC];simp only[Nat.sub_zero,List.drop_zero,List.take_left];rw[show E0.sh c.1=A.pure c.1 from A.bR (by have:=g1.dZ;omega) _,show E0.sh c.2.2.2.1=A.pure c.2.2.2.1 from A.bR (by have:=g1.n4;omega) _];simp only[A.iX,A.fG,A.br];split<;>rfl
  grind
 grind
end Go.Fer.H
