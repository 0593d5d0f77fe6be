/- Part 6 of the proof of TopTrials: shallow programs of Go functions, and what they compute. No condition. -/
import Derived.Test.YtplfnoecifjgeaaGreatDoorTopTrialsE
noncomputable section
set_option linter.unusedVariables false
set_option linter.unusedSimpArgs false
namespace Go.Fer
open A (V)
abbrev aU:Type:=List UInt8
abbrev bd:Type:=bG×H.a1
abbrev wi:Type:=z2'×List (List (Int×z1'×Int×Int))×Int×Int×z2'×z1'×List dk×List dB×List DV×Unit
abbrev A_:Type:=Int×Bool×Option Nat
abbrev k3(l:List (aU×A_))(a:aU)(b:A_):List (aU×A_):=lP (k:=.str) (v:=.st (.az (.int .i64) (.az .bool .eu))) l a b
def Yj(O8:H.a1->A Int)(O9:bG->A Int)(x:bd):A Int:=
 A.bind (O9 x.1) λy=>A.bind (cr (!(decide (y≠0))) (O8 x.2) 0) λb3=>if (decide (y≠0)||decide (b3≠0))=true then A.pure 120 else A.pure 0
def Yk(ant:bd->A Int)(anu:bd×Unit->A (bd×Unit))(anv:Unit->A (List (aU×Int×Bool×Option Nat)))(anw:List (aU×Int×Bool×Option Nat)×aU×bd×Unit->A (aU×bd×Unit))(x:bd×List aU):A (List aU×bd×Int):=
 letI d:=Int.ofNat (List.length x.2);A.bind (ant x.1) λy=>if decide (y≠0)=true then A.pure ([],((([],[],0,[]),[],[],[],[],0),[],[],[],[],0,0,0,0,0,0,0),y) else if decide (d > 40)=true then A.pure ([],((([],[],0,[]),[],[],[],[],0),[],[],[],[],0,0,0,0,0,0,0),2) else A.bind (anu (x.1,())) λy=>A.bind (anv ()) λb3=>A.bind (A.loop (λ(D:List (aU×Int×Bool×Option Nat)×List aU×Int×Int×List aU×Int×Int×Int×Int×Int×Int×Int×Int×Int×bd×Unit)=>letI b:=D.2.2.2;letI a:=b.2.2.2.2;letI c:=a.2.2.2.2;if decide (b.1<D.2.2.1)=true then A.ab (0<=b.1/\b.1<Int.ofNat (List.length D.2.1)) (A.bind (anw (D.1,List.getD D.2.1 (Int.toNat b.1) [],c.2.2.2.1,())) (λy=>A.ab (bQ (Add.add (List.length b.2.1) (Add.add 0 1))) (A.pure (V.next (D.1,D.2.1,D.2.2.1,IntKind.wrap .i64 (Add.add b.1 1),b.2.1++[y.1],b.2.2.1,b.2.2.2.1,a.1,a.2.1,a.2.2.1,a.2.2.2.1,c.1,c.2.1,c.2.2.1,y.2.1,()))))) else A.bind (A.pure (V.next (b.2.1,b.2.2.1,b.2.2.2.1,a.1,a.2.1,a.2.2.1,a.2.2.2.1,c.1,c.2.1,c.2.2.1,c.2.2.2.1,()))) λr=>A.pure (V.done r)) (b3,x.2,d,0,[],0,0,0,0,0,0,0,0,0,y.1,())) (V.bz (λ(D:List aU×Int×Int×Int×Int×Int×Int×Int×Int×Int×bd×Unit)=>A.ab True (A.pure (D.1,D.2.2.2.2.2.2.2.2.2.2.1,0))))
def Yl(DX:bG->A Int)(AB:H.a1->A Int)(x:bd):A Int:=
 A.bind (DX x.1) λy=>A.bind (cr (!(decide (y≠0))) (AB x.2) 0) λb3=>if (decide (y≠0)||decide (b3≠0))=true then A.pure 120 else A.pure 0
def Ym(O_:H.a1×z7'×z1'->A (H.a1×Int))(Yn:bG->A bG)(x:bd×Unit):A (bd×Unit):=
 A.bind (O_ (x.1.2,[],[])) λy=>A.ab (Yn x.1.1).cm (A.pure ((A.val (Yn x.1.1) (([],[],0,[]),[],[],[],[],0),y.1),()))
def anx(x:Unit):A (List (aU×Int×Bool×Option Nat)):=
 A.pure (k3 (k3 (k3 (k3 (k3 (k3 (k3 (k3 (k3 (k3 (k3 (k3 (k3 (k3 (k3 (k3 (k3 (k3 (k3 (k3 [] [108,101,110,100] (5,false,some 119)) [98,97,99,107] (4,false,some 120)) [118,111,105,100] (1,false,some 121)) [108,97,115,116,115] (1,false,some 122)) [102,101,101] (1,false,some 123)) [111,119,101,115] (1,false,some 124)) [104,101,108,100] (1,false,some 125)) [119,104,101,114,101] (2,false,some 126)) [109,105,115,115,105,110,103] (1,false,some 127)) [116,114,105,97,108] (4,false,some 128)) [102,105,116,115] (3,false,some 129)) [115,116,111,99,107] (2,false,some 130)) [99,111,109,101,115] (3,false,some 131)) [112,105,101,99,101] (4,true,some 132)) [119,105,115,104] (5,true,some 133)) [100,114,111,112] (1,false,some 134)) [99,97,110] (1,false,some 135)) [116,97,107,101,115] (0,true,some 136)) [109,111,115,116] (0,false,some 137)) [101,120,116,114,97] (0,false,some 138))
def Yo(anz:aU×aU->A (List aU))(anA:aU->A (Int×Bool))(anB:Nat->z1'×bd×Unit->A (aU×bd×Unit))(x:List (aU×Int×Bool×Option Nat)×aU×bd×Unit):A (aU×bd×Unit):=
 A.bind (anz (x.2.1,[32])) λy=>letI b:=Int.ofNat (List.length y);letI f:=IntKind.wrap .i64 (b-1);letI d:=List.drop (Int.toNat 1) (List.take (Int.toNat b) y);letI a:=Option.map (λx=>x.2) (List.find? (λp=>decide (List.getD y (Int.toNat 0) []=p.1)) x.1);letI c:=Option.getD a (0,false,none);A.ab ((0:Int)<=0/\0<b) (if (!(Option.isSome a)||decide (f<c.1)||decide (f > c.1)&&!c.2.1)=true then A.pure ([63],x.2.2.1,()) else A.bind (A.ab ((0:Int)<=1/\1<=b/\b<=b) (A.loop (λ(D:List aU×Int×Int×(Int×Bool×Option Nat)×z1'×bd×Unit)=>letI e:=D.2.2;if decide (e.1<D.2.1)=true then A.ab (0<=e.1/\e.1<Int.ofNat (List.length D.1)) (A.bind (anA (List.getD D.1 (Int.toNat e.1) [])) (λy=>if (!y.2)=true then A.bind (A.bind (A.pure ([63],e.2.2.2.1,())) (λr=>A.pure (V.done r))) λr=>A.pure (V.done r) else A.ab (bQ (Add.add (List.length e.2.2.1) (Add.add 0 1))) (A.pure (V.next (D.1,D.2.1,IntKind.wrap .i64 (Add.add e.1 1),e.2.1,e.2.2.1++[y.1],e.2.2.2.1,()))))) else A.bind (A.pure (V.next (e.2.1,e.2.2.1,e.2.2.2.1,()))) λr=>A.pure (V.done r)) (d,Int.ofNat (List.length d),0,c,[],x.2.2.1,()))) (V.bz (λ(D:(Int×Bool×Option Nat)×z1'×bd×Unit)=>A.bind (A.ab (∃ (k:Nat),List.Mem k [119,120,121,122,123,124,125,126,127,128,129,130,131,132,133,134,135,136,137,138]/\D.1.2.2=some k) (anB (Option.getD D.1.2.2 0) (D.2.1,D.2.2.1,()))) λy=>A.pure (y.1,y.2.1,()))))
def Yp(Ex:z7'×z1'×bd×Unit->A (aU×bd×Unit))(x:z1'×bd×Unit):A (aU×bd×Unit):=
 letI a:=Int.ofNat (List.length x.1);A.ab ((0:Int)<=0/\0<a) (A.ab ((0:Int)<=1/\1<a) (A.ab ((0:Int)<=2/\2<a) (A.ab ((0:Int)<=3/\3<a) (A.ab ((0:Int)<=4/\4<a) (A.bind (Ex ([(List.getD x.1 (Int.toNat 0) 0,List.getD x.1 (Int.toNat 1) 0,List.getD x.1 (Int.toNat 2) 0,1,List.getD x.1 (Int.toNat 3) 0,List.getD x.1 (Int.toNat 4) 0)],[],x.2.1,())) (λy=>A.pure (y.1,y.2.1,())))))))
def Yq(O_:H.a1×z7'×z1'->A (H.a1×Int))(x:z7'×z1'×bd×Unit):A (aU×bd×Unit):=
 A.ab True (A.bind (O_ (x.2.2.1.2,x.1,x.2.1)) (λy=>if decide (y.2≠0)=true then A.pure ([110,111],x.2.2.1,()) else A.ab True (A.pure ([111,107],(x.2.2.1.1,y.1),()))))
def Yr(Ex:z7'×z1'×bd×Unit->A (aU×bd×Unit))(x:z1'×bd×Unit):A (aU×bd×Unit):=
 letI a:=Int.ofNat (List.length x.1);A.ab ((0:Int)<=0/\0<a) (A.ab ((0:Int)<=1/\1<a) (A.ab ((0:Int)<=2/\2<a) (A.ab ((0:Int)<=3/\3<a) (A.bind (Ex ([(List.getD x.1 (Int.toNat 0) 0,List.getD x.1 (Int.toNat 1) 0,List.getD x.1 (Int.toNat 2) 0,2,List.getD x.1 (Int.toNat 3) 0,0)],[],x.2.1,())) (λy=>A.pure (y.1,y.2.1,()))))))
def Ys(Ex:z7'×z1'×bd×Unit->A (aU×bd×Unit))(x:z1'×bd×Unit):A (aU×bd×Unit):=
 A.bind (Ex ([],x.1,x.2.1,())) λy=>A.pure (y.1,y.2.1,())
def Yt(O':H.a1×Int->A ((Int×Int)×Int))(rH:(Int×Int)×Int->A aU)(x:z1'×bd×Unit):A (aU×bd×Unit):=
 letI a:=(x.2.1.2,List.getD x.1 (Int.toNat 0) 0);A.ab True (A.ab ((0:Int)<=0/\0<Int.ofNat (List.length x.1)) (A.ab (O' a).cm (A.ab (rH (A.val (O' a) ((0,0),0))).cm (A.pure (A.val (rH (A.val (O' a) ((0,0),0))) [],x.2.1,())))))
def Yu(n9:Int×z1'->A aU)(x:(Int×Int)×Int):A aU:=
 A.bind (n9 (x.2,[x.1.1,x.1.2])) λy=>A.pure y
def Yv(A':z1'->A aU)(x:Int×z1'):A aU:=
 if decide (x.1=0)=true then A.bind (A' x.2) λy=>A.pure y else if decide (x.1=3)=true then A.pure [110,111,110,101] else A.pure [110,111]
def Yw(anC:Int->A aU)(anD:List aU×aU->A aU)(x:z1'):A aU:=
 letI b:=Int.ofNat (List.length x);if decide (b=0)=true then A.pure [110,111,110,101] else A.bind (A.loop (λ(D:z1'×Int×Int×List aU×Unit)=>letI a:=D.2.2;if decide (a.1<D.2.1)=true then A.ab (0<=a.1/\a.1<Int.ofNat (List.length D.1)) (A.bind (anC (List.getD D.1 (Int.toNat a.1) 0)) (λy=>A.ab (bQ (Add.add (List.length a.2.1) (Add.add 0 1))) (A.pure (V.next (D.1,D.2.1,IntKind.wrap .i64 (Add.add a.1 1),a.2.1++[y],()))))) else A.bind (A.pure (V.next (a.2.1,()))) λr=>A.pure (V.done r)) (x,b,0,[],())) (V.bz (λ(D:List aU×Unit)=>A.bind (anD (D.1,[32])) λy=>A.pure y))
def Yx(Ey:H.a1×Int->A ((Int×Int)×Int))(rH:(Int×Int)×Int->A aU)(x:z1'×bd×Unit):A (aU×bd×Unit):=
 letI a:=(x.2.1.2,List.getD x.1 (Int.toNat 0) 0);A.ab True (A.ab ((0:Int)<=0/\0<Int.ofNat (List.length x.1)) (A.ab (Ey a).cm (A.ab (rH (A.val (Ey a) ((0,0),0))).cm (A.pure (A.val (rH (A.val (Ey a) ((0,0),0))) [],x.2.1,())))))
def Yy(Pa:H.a1×Int->A ((Int×Int)×Int))(rH:(Int×Int)×Int->A aU)(x:z1'×bd×Unit):A (aU×bd×Unit):=
 letI a:=(x.2.1.2,List.getD x.1 (Int.toNat 0) 0);A.ab True (A.ab ((0:Int)<=0/\0<Int.ofNat (List.length x.1)) (A.ab (Pa a).cm (A.ab (rH (A.val (Pa a) ((0,0),0))).cm (A.pure (A.val (rH (A.val (Pa a) ((0,0),0))) [],x.2.1,())))))
def Yz(Pb:H.a1×Int->A ((Int×Int)×Int))(rH:(Int×Int)×Int->A aU)(x:z1'×bd×Unit):A (aU×bd×Unit):=
 letI a:=(x.2.1.2,List.getD x.1 (Int.toNat 0) 0);A.ab True (A.ab ((0:Int)<=0/\0<Int.ofNat (List.length x.1)) (A.ab (Pb a).cm (A.ab (rH (A.val (Pb a) ((0,0),0))).cm (A.pure (A.val (rH (A.val (Pb a) ((0,0),0))) [],x.2.1,())))))
def YA(oZ:H.a1×Int×Int->A (z1'×Int))(n9:Int×z1'->A aU)(A':z1'->A aU)(x:z1'×bd×Unit):A (aU×bd×Unit):=
 letI b:=Int.ofNat (List.length x.1);letI a:=(x.2.1.2,List.getD x.1 (Int.toNat 0) 0,List.getD x.1 (Int.toNat 1) 0);A.ab True (A.ab ((0:Int)<=0/\0<b) (A.ab ((0:Int)<=1/\1<b) (A.ab (oZ a).cm (A.ab ((!(decide ((A.val (oZ a) ([],0)).2≠0)))=true->((!(decide ((A.val (oZ a) ([],0)).2≠0)))=true/\True)/\((0:Int)<=0/\0<Int.ofNat (List.length (A.val (oZ a) ([],0)).1))/\True) (if (decide ((A.val (oZ a) ([],0)).2≠0)||decide (List.getD (A.val (oZ a) ([],0)).1 (Int.toNat 0) (0:Int)>=0))=true then A.bind (n9 ((A.val (oZ a) ([],0)).2,(A.val (oZ a) ([],0)).1)) λy=>A.pure (y,x.2.1,()) else if decide (Int.ofNat (List.length (A.val (oZ a) ([],0)).1)=1)=true then A.pure ([115,104,111,112],x.2.1,()) else A.ab ((0:Int)<=1/\1<=Int.ofNat (List.length (A.val (oZ a) ([],0)).1)/\Int.ofNat (List.length (A.val (oZ a) ([],0)).1)<=Int.ofNat (List.length (A.val (oZ a) ([],0)).1)) (A.bind (A' (List.drop (Int.toNat 1) (List.take (Int.toNat (Int.ofNat (List.length (A.val (oZ a) ([],0)).1))) (A.val (oZ a) ([],0)).1))) (λy=>A.ab (bQ (Add.add (Add.add (Add.add (Add.add (Add.add (Add.add 0 1) 1) 1) 1) 1) (List.length y))) (A.pure ([115,104,111,112,32]++y,x.2.1,())))))))))
def YB(Ez:H.a1×Int->A (z1'×z1'×Int))(n9:Int×z1'->A aU)(A':z1'->A aU)(x:z1'×bd×Unit):A (aU×bd×Unit):=
 letI a:=(x.2.1.2,List.getD x.1 (Int.toNat 0) 0);A.ab True (A.ab ((0:Int)<=0/\0<Int.ofNat (List.length x.1)) (A.ab (Ez a).cm (if decide ((A.val (Ez a) ([],[],0)).2.2≠0)=true then A.bind (n9 ((A.val (Ez a) ([],[],0)).2.2,[])) λy=>A.pure (y,x.2.1,()) else A.bind (A' (A.val (Ez a) ([],[],0)).1) λy=>A.ab (bQ (Add.add (List.length y) (Add.add (Add.add (Add.add 0 1) 1) 1))) (A.bind (A' (A.val (Ez a) ([],[],0)).2.1) (λb3=>A.ab (bQ (Add.add (List.length (y++[32,47,32])) (List.length b3))) (A.pure (y++[32,47,32]++b3,x.2.1,())))))))
def YC(x7:a_×Int->A ((Int×Int)×Int))(uG:bG×Unit->A (wi))(DT:z2'×List (List (Int×z1'×Int×Int))×Int×z2'->A Int)(x:z1'×bd×Unit):A (aU×bd×Unit):=
 letI c:=List.getD x.1 (Int.toNat 0) 0;letI b:=Int.ofNat (List.length x.1);A.ab True (A.bind (uG (x.2.1.1,())) (λy=>letI d:=y.2.2.2.2;letI a:=(y.1,y.2.1,y.2.2.1,d.1++[(c,List.getD x.1 (Int.toNat 1) 0,List.getD x.1 (Int.toNat 2) 0,List.getD x.1 (Int.toNat 3) 0)]);A.ab True (A.ab ((0:Int)<=0/\0<b) (A.ab ((0:Int)<=1/\1<b) (A.ab ((0:Int)<=2/\2<b) (A.ab ((0:Int)<=3/\3<b) (A.ab (bQ (Add.add (List.length d.1) (Add.add 0 1))) (A.ab True (A.ab True (A.bind (DT a) (λb3=>if decide (b3≠0)=true then A.pure ([110,111],x.2.1,()) else A.ab True (A.ab ((0:Int)<=0/\0<b) (A.ab (x7 (a,c)).cm (if decide ((A.val (x7 (a,c)) ((0,0),0)).2≠0)=true then A.pure ([108,105,97,114],x.2.1,()) else A.ab True (A.pure ([111,107],((a,d.2.1,d.2.2.1,d.2.2.2.1,d.2.2.2.2.1,y.2.2.2.1),x.2.1.2),()))))))))))))))))
def YD(rB:a_×Int×Int×Int->A (Int×Int))(n9:Int×z1'->A aU)(x:z1'×bd×Unit):A (aU×bd×Unit):=
 letI b:=Int.ofNat (List.length x.1);letI a:=(x.2.1.1.1,List.getD x.1 (Int.toNat 0) 0,List.getD x.1 (Int.toNat 1) 0,List.getD x.1 (Int.toNat 2) 0);A.ab True (A.ab ((0:Int)<=0/\0<b) (A.ab ((0:Int)<=1/\1<b) (A.ab ((0:Int)<=2/\2<b) (A.ab (rB a).cm (if decide ((A.val (rB a) (0,0)).2≠0)=true then A.bind (n9 ((A.val (rB a) (0,0)).2,[])) λy=>A.pure (y,x.2.1,()) else A.ab (0<=(A.val (rB a) (0,0)).1/\(A.val (rB a) (0,0)).1<Int.ofNat 4) (A.pure (List.getD [[],[115,117,114,101,108,121],[110,101,118,101,114],[112,101,114,104,97,112,115]] (Int.toNat (A.val (rB a) (0,0)).1) [],x.2.1,())))))))
def YE(uG:bG×Unit->A (wi))(yp:bG×bd×Unit->A (aU×bd×Unit))(x:z1'×bd×Unit):A (aU×bd×Unit):=
 letI c:=Int.ofNat (List.length x.1);letI a:=List.getD x.1 (Int.toNat 0) 0;A.ab True (A.bind (uG (x.2.1.1,())) (λy=>letI d:=y.2.2.2.2.2;letI b:=Int.ofNat (List.length d.1);A.ab ((0:Int)<=0/\0<c) (if decide (a>=b)=true then A.pure ([110,111],x.2.1,()) else A.ab ((0:Int)<=0/\0<c) (A.ab (0<=a/\a<b) (A.ab ((0:Int)<=1/\1<c) (A.ab (0<=a/\a<b) (A.bind (yp (((y.1,y.2.1,y.2.2.1,y.2.2.2.2.1),List.set d.1 (Int.toNat a) (IntKind.wrap .i64 (Add.add (List.getD d.1 (Int.toNat a) 0) (List.getD x.1 (Int.toNat 1) 0))),d.2.1,d.2.2.1,d.2.2.2.1,y.2.2.2.1),x.2.1,())) (λy=>A.pure (y.1,y.2.1,())))))))))
def YF(DX:bG->A Int)(x:bG×bd×Unit):A (aU×bd×Unit):=
 A.bind (DX x.1) λy=>if decide (y≠0)=true then A.pure ([110,111],x.2.1,()) else A.ab True (A.pure ([111,107],(x.1,x.2.1.2),()))
def YG(uG:bG×Unit->A (wi))(yp:bG×bd×Unit->A (aU×bd×Unit))(x:z1'×bd×Unit):A (aU×bd×Unit):=
 letI a:=Int.ofNat (List.length x.1);A.ab True (A.bind (uG (x.2.1.1,())) (λy=>letI b:=y.2.2.2.2.2;A.ab ((0:Int)<=0/\0<a) (A.ab ((0:Int)<=1/\1<a) (A.ab ((0:Int)<=2/\2<a) (A.ab (bQ (Add.add (List.length b.2.2.2.1) (Add.add 0 1))) (A.bind (yp (((y.1,y.2.1,y.2.2.1,y.2.2.2.2.1),b.1,b.2.1,b.2.2.1,b.2.2.2.1++[(List.getD x.1 (Int.toNat 0) 0,List.getD x.1 (Int.toNat 1) 0,List.getD x.1 (Int.toNat 2) 0)],y.2.2.2.1),x.2.1,())) (λy=>A.pure (y.1,y.2.1,()))))))))
def YH(uG:bG×Unit->A (wi))(yp:bG×bd×Unit->A (aU×bd×Unit))(x:z1'×bd×Unit):A (aU×bd×Unit):=
 letI a:=Int.ofNat (List.length x.1);A.ab True (A.bind (uG (x.2.1.1,())) (λy=>letI b:=y.2.2.2.2.2;A.ab ((0:Int)<=0/\0<a) (A.ab ((0:Int)<=1/\1<a) (A.ab ((0:Int)<=2/\2<a) (A.ab ((0:Int)<=3/\3<a) (A.ab ((0:Int)<=4/\4<=a/\a<=a) (A.ab (bQ (Add.add (List.length b.2.1) (Add.add 0 1))) (A.bind (yp (((y.1,y.2.1,y.2.2.1,y.2.2.2.2.1),b.1,b.2.1++[(List.getD x.1 (Int.toNat 0) 0,List.getD x.1 (Int.toNat 1) 0,List.getD x.1 (Int.toNat 2) 0,List.getD x.1 (Int.toNat 3) 0,List.drop (Int.toNat 4) (List.take (Int.toNat a) x.1))],b.2.2.1,b.2.2.2.1,y.2.2.2.1),x.2.1,())) (λy=>A.pure (y.1,y.2.1,()))))))))))
def YI(uG:bG×Unit->A (wi))(yp:bG×bd×Unit->A (aU×bd×Unit))(x:z1'×bd×Unit):A (aU×bd×Unit):=
 letI a:=Int.ofNat (List.length x.1);A.ab True (A.bind (uG (x.2.1.1,())) (λy=>letI b:=y.2.2.2.2.2;A.ab ((0:Int)<=0/\0<a) (A.ab ((0:Int)<=1/\1<a) (A.ab ((0:Int)<=2/\2<a) (A.ab ((0:Int)<=3/\3<a) (A.ab ((0:Int)<=4/\4<a) (A.ab ((0:Int)<=5/\5<=a/\a<=a) (A.ab (bQ (Add.add (List.length b.2.2.1) (Add.add 0 1))) (A.bind (yp (((y.1,y.2.1,y.2.2.1,y.2.2.2.2.1),b.1,b.2.1,b.2.2.1++[(List.drop (Int.toNat 5) (List.take (Int.toNat a) x.1),(List.getD x.1 (Int.toNat 0) 0,List.getD x.1 (Int.toNat 1) 0),List.getD x.1 (Int.toNat 2) 0,List.getD x.1 (Int.toNat 3) 0,List.getD x.1 (Int.toNat 4) 0)],b.2.2.2.1,y.2.2.2.1),x.2.1,())) (λy=>A.pure (y.1,y.2.1,())))))))))))
def YJ(YK:List dB->A (List dB))(anE:Int×Int×List dB×Unit->A ((Nat×Nat)×List dB×Unit))(x:z1'×bd×Unit):A (aU×bd×Unit):=
 letI c:=x.2.1.1.2.2;letI b:=List.getD x.1 (Int.toNat 0) 0;letI a:=(0:Int)<=0/\0<Int.ofNat (List.length x.1);A.ab a (A.ab True (if decide (b>=Int.ofNat (List.length c.2.1))=true then A.pure ([110,111],x.2.1,()) else A.ab True (A.ab (YK c.2.1).cm (A.ab a (A.ab a (A.bind (anE (b,IntKind.wrap .i64 (Add.add b 1),A.val (YK c.2.1) [],())) (λy=>A.ab True (A.pure ([111,107],((x.2.1.1.1,x.2.1.1.2.1,c.1,List.drop y.1.1 (List.take y.1.2 y.2.1),c.2.2),x.2.1.2),())))))))))
def YL(Pc:bG×Int->A (z1'×Int))(n9:Int×z1'->A aU)(x:z1'×bd×Unit):A (aU×bd×Unit):=
 letI a:=(x.2.1.1,List.getD x.1 (Int.toNat 0) 0);A.ab True (A.ab ((0:Int)<=0/\0<Int.ofNat (List.length x.1)) (A.ab (Pc a).cm (A.bind (n9 ((A.val (Pc a) ([],0)).2,(A.val (Pc a) ([],0)).1)) (λy=>A.pure (y,x.2.1,())))))
def YM(anF:bG×z1'->A (Int×Int))(anG:z1'×Unit->A (z1'×Unit))(n9:Int×z1'->A aU)(x:z1'×bd×Unit):A (aU×bd×Unit):=
 A.bind (anG (x.1,())) λy=>A.bind (A.loop (λ(D:Int×Int×z1'×bd×Unit)=>letI b:=D.2;letI a:=0<=b.1/\b.1<Int.ofNat (List.length b.2.1);if decide (b.1<D.1)=true then A.ab a (A.ab a (A.pure (V.next (D.1,IntKind.wrap .i64 (Add.add b.1 1),List.set b.2.1 (Int.toNat b.1) (IntKind.wrap .i64 (List.getD b.2.1 (Int.toNat b.1) 0-1)),b.2.2.1,())))) else A.bind (A.pure (V.next (b.2.1,b.2.2.1,()))) λr=>A.pure (V.done r)) (Int.ofNat (List.length y.1),0,y.1,x.2.1,())) (V.bz (λ(D:z1'×bd×Unit)=>A.ab True (A.bind (anF (D.2.1.1,D.1)) (λy=>A.bind (n9 (y.2,[y.1])) λy=>A.pure (y,D.2.1,())))))
def YN(anH:bG->A (Int×Int))(n9:Int×z1'->A aU)(x:z1'×bd×Unit):A (aU×bd×Unit):=
 A.ab True (A.bind (anH x.2.1.1) (λy=>A.bind (n9 (y.2,[y.1])) λy=>A.pure (y,x.2.1,())))
def YO(Pd:bG->A (Int×Int))(n9:Int×z1'->A aU)(x:z1'×bd×Unit):A (aU×bd×Unit):=
 A.ab True (A.bind (Pd x.2.1.1) (λy=>A.bind (n9 (y.2,[y.1])) λy=>A.pure (y,x.2.1,())))
def YP(anI:H.a1×H.a1->A Bool)(anJ:a_×a_->A Bool)(wj:z1'×z1'->A Bool)(x:bd×bd):A Bool:=
 letI l:=x.2.1.2.2;letI k:=x.1.1.2.2;A.bind (anI (x.1.2,x.2.2)) λy=>A.bind (cr (!(!y)) (anJ (x.1.1.1,x.2.1.1)) false) λb3=>A.bind (cr (!(!y||!b3)) (wj (x.1.1.2.1,x.2.1.2.1)) false) λdF=>if (!y||!b3||!dF||decide (Int.ofNat (List.length k.1)≠Int.ofNat (List.length l.1))||decide (Int.ofNat (List.length k.2.1)≠Int.ofNat (List.length l.2.1))||decide (Int.ofNat (List.length k.2.2.1)≠Int.ofNat (List.length l.2.2.1))||decide (k.2.2.2≠l.2.2.2))=true then A.pure false else A.bind (A.loop (λ(D:Int×bG×bG×Unit)=>letI m:=D.2.2.1;letI j:=D.1<Int.ofNat (List.length D.2.1.2.2.1);letI e:=List.getD D.2.1.2.2.1 (Int.toNat D.1) (0,0,0,0,[]);letI d:=List.getD m.2.2.1 (Int.toNat D.1) (0,0,0,0,[]);letI a:=decide (e.1≠d.1)||decide (e.2.1≠d.2.1)||decide (e.2.2.1≠d.2.2.1)||decide (e.2.2.2.1≠d.2.2.2.1);if decide j=true then A.ab (0<=D.1/\j) (A.ab (0<=D.1/\D.1<Int.ofNat (List.length m.2.2.1)) (A.bind (cr (!a) (wj (e.2.2.2.2,d.2.2.2.2)) false) (λy=>if (a||!y)=true then A.bind (A.bind (A.pure false) (λr=>A.pure (V.done r))) λr=>A.pure (V.done r) else A.pure (V.next (IntKind.wrap .i64 (Add.add D.1 1),D.2.1,m,()))))) else A.bind (A.pure (V.next (D.2.1,m,()))) λr=>A.pure (V.done r)) (0,x.1.1,x.2.1,())) (V.bz (λ(D:bG×bG×Unit)=>A.bind (A.loop (λ(D:Int×bG×bG×Unit)=>letI n:=D.2.2.1;letI i:=D.1<Int.ofNat (List.length D.2.1.2.2.2.1);letI c:=List.getD D.2.1.2.2.2.1 (Int.toNat D.1) ([],(0,0),0,0,0);letI b:=List.getD n.2.2.2.1 (Int.toNat D.1) ([],(0,0),0,0,0);if decide i=true then A.ab (0<=D.1/\i) (A.ab (0<=D.1/\D.1<Int.ofNat (List.length n.2.2.2.1)) (A.bind (wj (c.1,b.1)) (λy=>if (!y||!(decide (c.2.1.1=b.2.1.1)&&decide (c.2.1.2=b.2.1.2))||decide (c.2.2.1≠b.2.2.1)||decide (c.2.2.2.1≠b.2.2.2.1)||decide (c.2.2.2.2≠b.2.2.2.2))=true then A.bind (A.bind (A.pure false) (λr=>A.pure (V.done r))) λr=>A.pure (V.done r) else A.pure (V.next (IntKind.wrap .i64 (Add.add D.1 1),D.2.1,n,()))))) else A.bind (A.pure (V.next (D.2.1,n,()))) λr=>A.pure (V.done r)) (0,D.1,D.2.1,())) (V.bz (λ(D:bG×bG×Unit)=>A.bind (A.loop (λ(D:Int×bG×bG×Unit)=>letI h:=D.1<Int.ofNat (List.length D.2.1.2.2.2.2.1);letI g:=List.getD D.2.1.2.2.2.2.1 (Int.toNat D.1) (0,0,0);letI f:=List.getD D.2.2.1.2.2.2.2.1 (Int.toNat D.1) (0,0,0);if decide h=true then A.ab (0<=D.1/\h) (A.ab (0<=D.1/\D.1<Int.ofNat (List.length D.2.2.1.2.2.2.2.1)) (if (!(decide (g.1=f.1)&&(decide (g.2.1=f.2.1)&&decide (g.2.2=f.2.2))))=true then A.bind (A.bind (A.pure false) (λr=>A.pure (V.done r))) λr=>A.pure (V.done r) else A.pure (V.next (IntKind.wrap .i64 (Add.add D.1 1),D.2.1,D.2.2.1,())))) else A.bind (A.pure (V.next ())) λr=>A.pure (V.done r)) (0,D.1,D.2.1,())) (V.bz (λ(D:Unit)=>A.pure true))))))
def YQ(wj:z1'×z1'->A Bool)(x:H.a1×H.a1):A Bool:=
 letI e:=x.2.2.2.2.2.2;letI d:=x.1.2.2.2.2.2;letI c:=decide (Int.ofNat (List.length x.1.1)≠Int.ofNat (List.length x.2.1))||decide (Int.ofNat (List.length x.1.2.1)≠Int.ofNat (List.length x.2.2.1));A.bind (cr (!c) (wj (x.1.2.2.1,x.2.2.2.1)) false) λy=>if (c||!y||decide (Int.ofNat (List.length x.1.2.2.2.1)≠Int.ofNat (List.length x.2.2.2.2.1))||!(decide (x.1.2.2.2.2.1=x.2.2.2.2.2.1)&&(decide (d.1=e.1)&&(decide (d.2.1=e.2.1)&&(decide (d.2.2.1=e.2.2.1)&&(decide (d.2.2.2.1=e.2.2.2.1)&&(decide (d.2.2.2.2.1=e.2.2.2.2.1)&&decide (d.2.2.2.2.2=e.2.2.2.2.2))))))))=true then A.pure false else A.bind (A.loop (λ(D:Int×H.a1×H.a1×Unit)=>letI m:=D.2.2.1;letI l:=D.1<Int.ofNat (List.length D.2.1.1);letI j:=List.getD D.2.1.1 (Int.toNat D.1) (0,0);letI h:=List.getD m.1 (Int.toNat D.1) (0,0);if decide l=true then A.ab (0<=D.1/\l) (A.ab (0<=D.1/\D.1<Int.ofNat (List.length m.1)) (if (!(decide (j.1=h.1)&&decide (j.2=h.2)))=true then A.bind (A.bind (A.pure false) (λr=>A.pure (V.done r))) λr=>A.pure (V.done r) else A.pure (V.next (IntKind.wrap .i64 (Add.add D.1 1),D.2.1,m,())))) else A.bind (A.pure (V.next (D.2.1,m,()))) λr=>A.pure (V.done r)) (0,x.1,x.2,())) (V.bz (λ(D:H.a1×H.a1×Unit)=>A.bind (A.loop (λ(D:Int×H.a1×H.a1×Unit)=>letI n:=D.2.2.1;letI k:=D.1<Int.ofNat (List.length D.2.1.2.1);letI b:=List.getD D.2.1.2.1 (Int.toNat D.1) (0,0,0,0,0,0);letI a:=List.getD n.2.1 (Int.toNat D.1) (0,0,0,0,0,0);if decide k=true then A.ab (0<=D.1/\k) (A.ab (0<=D.1/\D.1<Int.ofNat (List.length n.2.1)) (if (!(decide (b.1=a.1)&&(decide (b.2.1=a.2.1)&&(decide (b.2.2.1=a.2.2.1)&&(decide (b.2.2.2.1=a.2.2.2.1)&&(decide (b.2.2.2.2.1=a.2.2.2.2.1)&&decide (b.2.2.2.2.2=a.2.2.2.2.2)))))))=true then A.bind (A.bind (A.pure false) (λr=>A.pure (V.done r))) λr=>A.pure (V.done r) else A.pure (V.next (IntKind.wrap .i64 (Add.add D.1 1),D.2.1,n,())))) else A.bind (A.pure (V.next (D.2.1,n,()))) λr=>A.pure (V.done r)) (0,D.1,D.2.1,())) (V.bz (λ(D:H.a1×H.a1×Unit)=>A.bind (A.loop (λ(D:Int×H.a1×H.a1×Unit)=>letI i:=D.1<Int.ofNat (List.length D.2.1.2.2.2.1);letI g:=List.getD D.2.1.2.2.2.1 (Int.toNat D.1) (0,0);letI f:=List.getD D.2.2.1.2.2.2.1 (Int.toNat D.1) (0,0);if decide i=true then A.ab (0<=D.1/\i) (A.ab (0<=D.1/\D.1<Int.ofNat (List.length D.2.2.1.2.2.2.1)) (if (!(decide (g.1=f.1)&&decide (g.2=f.2)))=true then A.bind (A.bind (A.pure false) (λr=>A.pure (V.done r))) λr=>A.pure (V.done r) else A.pure (V.next (IntKind.wrap .i64 (Add.add D.1 1),D.2.1,D.2.2.1,())))) else A.bind (A.pure (V.next ())) λr=>A.pure (V.done r)) (0,D.1,D.2.1,())) (V.bz (λ(D:Unit)=>A.pure true))))))
def YR(x:z1'×z1'):A Bool:=
 if decide (Int.ofNat (List.length x.1)≠Int.ofNat (List.length x.2))=true then A.pure false else A.bind (A.loop (λ(D:z1'×z1'×Int×Unit)=>letI a:=D.2.2.1;letI b:=a<Int.ofNat (List.length D.1);if decide b=true then A.ab (0<=a/\b) (A.ab (0<=a/\a<Int.ofNat (List.length D.2.1)) (if decide (List.getD D.1 (Int.toNat a) 0≠List.getD D.2.1 (Int.toNat a) 0)=true then A.bind (A.bind (A.pure false) (λr=>A.pure (V.done r))) λr=>A.pure (V.done r) else A.pure (V.next (D.1,D.2.1,IntKind.wrap .i64 (Add.add a 1),())))) else A.bind (A.pure (V.next ())) λr=>A.pure (V.done r)) (x.1,x.2,0,())) (V.bz (λ(D:Unit)=>A.pure true))
def YS(wj:z1'×z1'->A Bool)(x:a_×a_):A Bool:=
 if (decide (Int.ofNat (List.length x.1.1)≠Int.ofNat (List.length x.2.1))||decide (Int.ofNat (List.length x.1.2.1)≠Int.ofNat (List.length x.2.2.1))||decide (x.1.2.2.1≠x.2.2.2.1)||decide (Int.ofNat (List.length x.1.2.2.2)≠Int.ofNat (List.length x.2.2.2.2)))=true then A.pure false else A.bind (A.loop (λ(D:Int×a_×a_×Unit)=>letI y:=D.2.2.1;letI t:=D.1<Int.ofNat (List.length D.2.1.1);letI j:=List.getD D.2.1.1 (Int.toNat D.1) (0,0,0,0);letI i:=List.getD y.1 (Int.toNat D.1) (0,0,0,0);if decide t=true then A.ab (0<=D.1/\t) (A.ab (0<=D.1/\D.1<Int.ofNat (List.length y.1)) (if (!(decide (j.1=i.1)&&(decide (j.2.1=i.2.1)&&(decide (j.2.2.1=i.2.2.1)&&decide (j.2.2.2=i.2.2.2)))))=true then A.bind (A.bind (A.pure false) (λr=>A.pure (V.done r))) λr=>A.pure (V.done r) else A.pure (V.next (IntKind.wrap .i64 (Add.add D.1 1),D.2.1,y,())))) else A.bind (A.pure (V.next (D.2.1,y,()))) λr=>A.pure (V.done r)) (0,x.1,x.2,())) (V.bz (λ(D:a_×a_×Unit)=>A.bind (A.loop (λ(D:Int×a_×a_×Unit)=>letI z:=D.2.2.1;letI q:=D.1<Int.ofNat (List.length D.2.1.2.2.2);letI h:=List.getD D.2.1.2.2.2 (Int.toNat D.1) (0,0,0,0);letI f:=List.getD z.2.2.2 (Int.toNat D.1) (0,0,0,0);if decide q=true then A.ab (0<=D.1/\q) (A.ab (0<=D.1/\D.1<Int.ofNat (List.length z.2.2.2)) (if (!(decide (h.1=f.1)&&(decide (h.2.1=f.2.1)&&(decide (h.2.2.1=f.2.2.1)&&decide (h.2.2.2=f.2.2.2)))))=true then A.bind (A.bind (A.pure false) (λr=>A.pure (V.done r))) λr=>A.pure (V.done r) else A.pure (V.next (IntKind.wrap .i64 (Add.add D.1 1),D.2.1,z,())))) else A.bind (A.pure (V.next (D.2.1,z,()))) λr=>A.pure (V.done r)) (0,D.1,D.2.1,())) (V.bz (λ(D:a_×a_×Unit)=>A.bind (A.loop (λ(D:Int×a_×a_×Unit)=>letI s:=D.1<Int.ofNat (List.length D.2.1.2.1);letI p:=Int.toNat D.1;letI v:=List.getD D.2.1.2.1 p [];letI u:=List.getD D.2.2.1.2.1 p [];if decide s=true then A.bind (A.ab (0<=D.1/\s) (A.ab (0<=D.1/\D.1<Int.ofNat (List.length D.2.2.1.2.1)) (if decide (Int.ofNat (List.length v)≠Int.ofNat (List.length u))=true then A.bind (A.bind (A.bind (A.pure false) (λr=>A.pure (V.done r))) (λr=>A.pure (V.done r))) λr=>A.pure (V.done r) else A.loop (λ(D:Int×List (Int×z1'×Int×Int)×List (Int×z1'×Int×Int)×Int×a_×a_×Unit)=>letI n:=D.2.2.2;letI l:=0<=n.1/\n.1<Int.ofNat (List.length D.2.2.1);letI k:=n.1<Int.ofNat (List.length D.2.1);letI w:=0<=n.1/\k;letI d:=List.getD D.2.1 (Int.toNat n.1) (0,[],0,0);letI c:=List.getD D.2.2.1 (Int.toNat n.1) (0,[],0,0);letI b:=decide (d.1≠c.1);letI g:=(!b)=true;letI o:=g->g/\True/\True;letI a:=b||!(decide (d.2.2.1=c.2.2.1)&&decide (d.2.2.2=c.2.2.2));letI e:=(!a)=true;letI m:=e->e/\True/\True;if decide k=true then A.ab w (A.ab l (A.ab (g->(g/\g)/\w/\True) (A.ab o (A.ab o (A.ab (g->(g/\g)/\l/\True) (A.ab o (A.ab o (A.ab (g->(g/\g)/\True/\True) (A.ab (True/\(b=false->g)) (A.ab (e->(e/\e)/\w/\True) (A.ab m (A.ab m (A.ab (e->(e/\e)/\l/\True) (A.ab m (A.ab m (A.ab (e->(e/\e/\True)/\(wj (d.2.1,c.2.1)).cm/\True) (A.ab m (A.ab (True/\(a=false->e)) (if (a||!(A.val (wj (d.2.1,c.2.1)) false))=true then A.bind (A.bind (A.bind (A.bind (A.pure false) (λr=>A.pure (V.done r))) (λr=>A.pure (V.done r))) (λr=>A.pure (V.done r))) λr=>A.pure (V.done r) else A.pure (V.next (D.1,D.2.1,D.2.2.1,IntKind.wrap .i64 (Add.add n.1 1),n.2.1,n.2.2.1,()))))))))))))))))))))) else A.bind (A.pure (V.next (D.1,n.2.1,n.2.2.1,()))) λr=>A.pure (V.done r)) (D.1,v,u,0,D.2.1,D.2.2.1,())))) (V.bz (λ(D:Int×a_×a_×Unit)=>A.pure (V.next (IntKind.wrap .i64 (Add.add D.1 1),D.2.1,D.2.2.1,())))) else A.bind (A.pure (V.next ())) λr=>A.pure (V.done r)) (0,D.1,D.2.1,())) (V.bz (λ(D:Unit)=>A.pure true))))))
def YT(Pe:bd->A Int)(anK:bG->A Bool)(anL:H.a1->A Bool)(anM:aU->A (aU×z1'×Bool))(x:bd×List aU):A Bool:=
 A.bind (anK x.1.1) λy=>A.bind (cr (!y) (anL x.1.2) false) λb3=>if (y||b3||decide (Int.ofNat (List.length x.2) > 60))=true then A.pure true else A.bind (A.loop (λ(D:List aU×Int×Int×Int×Int×Int×bd×Unit)=>letI h:=D.2.2.2;letI b:=h.2.2;letI e:=b.1<Int.ofNat (List.length b.2.1.1.2.2.1);if decide e=true then A.ab (0<=b.1/\e) (A.pure (V.next (D.1,D.2.1,D.2.2.1,h.1,IntKind.wrap .i64 (Add.add h.2.1 (Int.ofNat (List.length (List.getD b.2.1.1.2.2.1 (Int.toNat b.1) (0,0,0,0,[])).2.2.2.2))),IntKind.wrap .i64 (Add.add b.1 1),b.2.1,()))) else A.bind (A.pure (V.next (D.1,D.2.1,D.2.2.1,h.1,h.2.1,b.2.1,()))) λr=>A.pure (V.done r)) (x.2,Int.ofNat (List.length x.1.1.2.2.2.1),Int.ofNat (List.length x.1.1.2.2.1),Int.ofNat (List.length x.1.1.2.2.2.2.1),0,0,x.1,())) (V.bz (λ(D:List aU×Int×Int×Int×Int×bd×Unit)=>A.bind (A.loop (λ(D:List aU×Int×Int×Int×Int×Int×bd×Unit)=>letI j:=D.2.1;letI d:=D.2.2;letI a:=d.2.2;letI i:=a.2.1;letI g:=a.2.2.1;letI f:=List.getD D.1 (Int.toNat i) [];letI c:=i<Int.ofNat (List.length D.1);if decide c=true then A.bind (A.ab (0<=i/\c) (if decide (Int.ofNat (List.length f) > 80)=true then A.bind (A.bind (A.bind (A.pure true) (λr=>A.pure (V.done r))) (λr=>A.pure (V.done r))) λr=>A.pure (V.done r) else A.ab (0<=i/\c) (A.bind (anM f) (λy=>if (!y.2.2)=true then A.pure (V.next (D.1,j,d.1,d.2.1,a.1,i,g,())) else if decide (y.1=[119,105,115,104])=true then A.pure (V.next (D.1,IntKind.wrap .i64 (Add.add j 1),d.1,d.2.1,a.1,i,g,())) else if decide (y.1=[112,105,101,99,101])=true then A.pure (V.next (D.1,j,IntKind.wrap .i64 (Add.add d.1 1),d.2.1,IntKind.wrap .i64 (Add.add a.1 (IntKind.wrap .i64 (Int.ofNat (List.length y.2.1)-4))),i,g,())) else if decide (y.1=[99,111,109,101,115])=true then A.pure (V.next (D.1,j,d.1,IntKind.wrap .i64 (Add.add d.2.1 1),a.1,i,g,())) else A.pure (V.next (D.1,j,d.1,d.2.1,a.1,i,g,())))))) (V.bz (λ(D:List aU×Int×Int×Int×Int×Int×bd×Unit)=>letI k:=D.2.2.2;A.pure (V.next (D.1,D.2.1,D.2.2.1,k.1,k.2.1,IntKind.wrap .i64 (Add.add k.2.2.1 1),k.2.2.2.1,())))) else A.bind (A.pure (V.next (j,d.1,d.2.1,a.1,g,()))) λr=>A.pure (V.done r)) (D.1,D.2.1,D.2.2.1,D.2.2.2.1,D.2.2.2.2.1,0,D.2.2.2.2.2.1,())) (V.bz (λ(D:Int×Int×Int×Int×bd×Unit)=>A.bind (Pe D.2.2.2.2.1) λy=>A.pure (decide (y=0)&&(decide (D.1 > 3)||decide (D.2.1 > 4)||decide (D.2.2.1 > 3)||decide (D.2.2.2.1 > 4)))))))
def YU(anN:aU->A (List aU))(anO:aU->A Int)(anP:Unit->A (List aU×z1'×z1'))(x:aU):A (aU×z1'×Bool):=
 A.bind (anN x) λy=>A.bind (A.loop (λ(D:List aU×Int×z1'×Unit)=>letI j:=D.2.1<Int.ofNat (List.length D.1);if decide j=true then A.ab (0<=D.2.1/\j) (A.bind (anO (List.getD D.1 (Int.toNat D.2.1) [])) (λy=>if decide (y<0)=true then A.bind (A.bind (A.pure ([],[],false)) (λr=>A.pure (V.done r))) λr=>A.pure (V.done r) else A.ab (bQ (Add.add (List.length D.2.2.1) (Add.add 0 1))) (A.pure (V.next (D.1,IntKind.wrap .i64 (Add.add D.2.1 1),D.2.2.1++[y],()))))) else A.bind (A.pure (V.next (D.1,D.2.2.1,()))) λr=>A.pure (V.done r)) (y,1,[],())) (V.bz (λ(D:List aU×z1'×Unit)=>A.bind (anP ()) λy=>A.bind (A.loop (λ(D:List aU×List aU×z1'×z1'×Int×z1'×Unit)=>letI l:=List.getD D.1 (Int.toNat 0) [];letI h:=(0:Int)<=0/\0<Int.ofNat (List.length D.1);letI c:=D.2.2.2;letI m:=c.2.1;letI k:=Int.ofNat (List.length c.2.2.1);letI i:=m<Int.ofNat (List.length D.2.1);letI g:=Int.toNat m;letI f:=(0<=m/\m<Int.ofNat (List.length c.1))/\True;letI d:=decide (List.getD c.1 g (0:Int)<0);letI a:=decide (k>=List.getD D.2.2.1 g 0);letI e:=a=true;letI b:=(a&&!d)=true;letI n:=b->b/\True/\True;if decide i=true then A.ab (0<=m/\i) (A.ab h (if decide (List.getD D.2.1 g []=l)=true then A.ab h (A.ab (0<=m/\m<Int.ofNat (List.length D.2.2.1)) (A.ab (e->(e/\e)/\f) (A.ab (e->e/\True/\True) (A.ab (e->(e/\True)/\True/\True) (A.ab (e->True/\True/\e) (A.ab n (A.ab (b->(b/\b)/\f) (A.ab n (A.ab (b->(b/\b)/\True/\True) (A.ab (e->(e/\(d=false->b))/\True/\True) (A.ab (True/\(e->e)) (A.bind (A.bind (A.pure (l,c.2.2.1,a&&(d||decide (k<=List.getD c.1 g 0)))) (λr=>A.pure (V.done r))) (λr=>A.pure (V.done r)))))))))))))) else A.pure (V.next (D.1,D.2.1,D.2.2.1,c.1,IntKind.wrap .i64 (Add.add m 1),c.2.2.1,())))) else A.bind (A.pure (V.next ())) λr=>A.pure (V.done r)) (D.1,y.1,y.2.1,y.2.2,0,D.2.1,())) (V.bz (λ(D:Unit)=>A.pure ([],[],false)))))
def YV(x:aU):A (List aU):=
 A.bind (A.loop (λ(D:aU×Int×List aU×Unit)=>letI g:=D.2.1;letI f:=D.2.2.1;letI e:=Int.ofNat (List.length D.1);letI c:=Int.ofNat (List.length f);letI b:=IntKind.wrap .i64 (Add.add g 1);letI d:=List.drop (Int.toNat g) (List.take (Int.toNat b) D.1);letI a:=IntKind.wrap .i64 (c-1);letI h:=List.getD f (Int.toNat a) [];if decide (g<e)=true then A.bind (A.ab (0<=g/\g<e) (if decide (Int.ofNat (List.getD D.1 (Int.toNat g) 0).1.1.1=32)=true then A.ab (bQ (Add.add (List.length f) (Add.add 0 1))) (A.pure (V.next (D.1,g,f++[[]],()))) else A.ab (0<=a/\a<c) (A.ab (0<=g/\g<=b/\b<=e) (A.ab (bQ (Add.add (List.length h) (List.length d))) (A.ab (0<=a/\a<c) (A.pure (V.next (D.1,g,List.set f (Int.toNat a) (h++d),())))))))) (V.bz (λ(D:aU×Int×List aU×Unit)=>A.pure (V.next (D.1,IntKind.wrap .i64 (Add.add D.2.1 1),D.2.2.1,())))) else A.bind (A.pure (V.next (f,()))) λr=>A.pure (V.done r)) (x,0,[[]],())) (V.bz (λ(D:List aU×Unit)=>A.pure D.1))
def YW(x:aU):A Int:=
 letI b:=Int.ofNat (List.length x);letI g:=decide (b > 1);letI d:=decide (b=0)||decide (b > 6);A.ab ((!d&&g)=true->((!d&&g)=true/\True)/\((0:Int)<=0/\0<b)/\True) (if (d||g&&decide (Int.ofNat (List.getD x (Int.toNat 0) 0).1.1.1=48))=true then A.pure (-1) else A.bind (A.loop (λ(D:aU×Int×Int×Unit)=>letI h:=D.2.2.1;letI c:=h<Int.ofNat (List.length D.1);letI f:=0<=h/\c;letI a:=Int.ofNat (List.getD D.1 (Int.toNat h) 0).1.1.1;letI e:=(!(decide (a<48)))=true;if decide c=true then A.ab f (A.ab (e->(e/\e)/\f/\True) (if (decide (a<48)||decide (a > 57))=true then A.bind (A.bind (A.pure (-1)) (λr=>A.pure (V.done r))) λr=>A.pure (V.done r) else A.ab f (A.pure (V.next (D.1,IntKind.wrap .i64 (Add.add (IntKind.wrap .i64 (10*D.2.1)) (IntKind.wrap .i64 (IntKind.wrap .u8 (a-48)))),IntKind.wrap .i64 (Add.add h 1),()))))) else A.bind (A.pure (V.next (D.2.1,()))) λr=>A.pure (V.done r)) (x,0,0,())) (V.bz (λ(D:Int×Unit)=>A.pure D.1)))
def anQ(x:Unit):A (List aU×z1'×z1'):=
 A.pure ([[108,101,110,100],[98,97,99,107],[118,111,105,100],[108,97,115,116,115],[102,101,101],[111,119,101,115],[104,101,108,100],[119,104,101,114,101],[109,105,115,115,105,110,103],[116,114,105,97,108],[102,105,116,115],[115,116,111,99,107],[99,111,109,101,115],[112,105,101,99,101],[119,105,115,104],[100,114,111,112],[99,97,110],[116,97,107,101,115],[109,111,115,116],[101,120,116,114,97]],[5,4,1,1,1,1,1,2,1,4,3,2,3,4,5,1,1,0,0,0],[5,4,1,1,1,1,1,2,1,4,3,2,3,-1,-1,1,1,-1,0,0])
def Pf(anR:bd×List aU->A Bool)(Pe:bd->A Int)(anS:z2'×List (List (Int×z1'×Int×Int))×Int×z2'->A Int)(YX:Unit->A Bool)(anT:aU×z1'->A aU)(anU:bd->A bd)(Pg:bd×List aU->A (List aU×bd×Int))(anV:List aU×Int->A Bool)(anW:bd×bd->A Bool)(rB:a_×Int×Int×Int->A (Int×Int))(x7:a_×Int->A ((Int×Int)×Int))(x:bd×Int×Int×Int×Int):A Bool:=
 A.bind (anR (x.1,[])) λy=>A.bind (cr (!y) (Pe x.1) 0) λb3=>letI g:=y||decide (b3≠0);A.bind (cr (!g) (anS x.1.1.1) 0) λdF=>if (g||decide (dF≠0))=true then A.bind (YX ()) λy=>A.pure y else A.bind (A.loop (λ(D:Int×bd×(Int×Int×Int×Int)×a_×List aU×Unit)=>letI d:=D.2.2.2;letI c:=D.1<Int.ofNat (List.length d.1.2.2.2);letI a:=List.getD d.1.2.2.2 (Int.toNat D.1) (0,0,0,0);if decide c=true then A.ab (0<=D.1/\c) (A.bind (anT ([116,114,105,97,108],[a.1,a.2.1,a.2.2.1,a.2.2.2])) (λy=>A.ab (bQ (Add.add (List.length d.2.1) (Add.add 0 1))) (A.pure (V.next (IntKind.wrap .i64 (Add.add D.1 1),D.2.1,D.2.2.1,d.1,d.2.1++[y],()))))) else A.bind (A.pure (V.next (D.2.1,D.2.2.1,d.1,d.2.1,()))) λr=>A.pure (V.done r)) (0,x.1,x.2,x.1.1.1,[],())) (V.bz (λ(D:bd×(Int×Int×Int×Int)×a_×List aU×Unit)=>letI f:=D.2.1;A.bind (anU D.1) λy=>A.bind (Pg ((((y.1.1.1,y.1.1.2.1,y.1.1.2.2.1,[]),y.1.2),y.2),D.2.2.2.1)) λy=>letI e:=decide (y.2.2≠0);A.bind (cr (!e) (anV (y.1,Int.ofNat (List.length D.2.2.2.1))) false) λgB=>A.bind (cr (!(e||!gB)) (anW ((y.2.1.1,[],[],[],[],0,0,0,0,0,0,0),D.1.1,[],[],[],[],0,0,0,0,0,0,0)) false) λlz=>if (e||!gB||!lz)=true then A.pure false else A.bind (rB (D.2.2.1,f.1,f.2.1,f.2.2.1)) λvR=>A.bind (rB (y.2.1.1.1,f.1,f.2.1,f.2.2.1)) λAy=>A.bind (x7 (D.2.2.1,f.1)) λPh=>A.bind (x7 (y.2.1.1.1,f.1)) λy=>letI b:=decide (vR.1=Ay.1)&&decide (vR.2=Ay.2)&&(decide (Ph.1.1=y.1.1)&&decide (Ph.1.2=y.1.2))&&decide (Ph.2=y.2);A.bind (cr b (YX ()) false) λanX=>A.pure (b&&anX)))
def YY(Pg:bd×List aU->A (List aU×bd×Int))(Ey:H.a1×Int->A ((Int×Int)×Int))(Pd:bG->A (Int×Int))(anY:Unit->A bd)(x:Unit):A Bool:=
 A.bind (anY ()) λy=>A.bind (Pg (y,[[108,101,110,100,32,49,32,48,32,49,48,48,32,51,32,55],[98,97,99,107,32,50,32,48,32,49,55,49,32,51],[115,116,111,99,107,32,48,32,49]])) λy=>A.bind (Ey (y.2.1.2,1)) λb3=>A.bind (Pd y.2.1.1) λdF=>A.pure (decide (y.2.2=0)&&decide (b3.2=0)&&decide (dF.2=0)&&decide (Int.ofNat (List.length y.1)=3)&&(decide (b3.1.1=300)&&decide (b3.1.2=300))&&decide (dF.1=1))
def YZ(x:Int):A aU:=
 if decide (x<0)=true then A.pure [115,104,111,112] else A.ab ((10:Int)≠0) (A.bind (A.loop (λ(D:Int×aU×Unit)=>letI a:=IntKind.wrap .i64 (Int.tdiv D.1 10);if decide (D.1>=10)=true then A.ab ((10:Int)≠0) (A.ab ((10:Int)≠0) (A.ab (bQ (Add.add (Add.add 0 1) (List.length D.2.1))) (A.pure (V.next (a,[UInt8.ofNat (Int.toNat (IntKind.wrap .u8 (IntKind.wrap .i64 (Add.add 48 (Int.tmod a 10)))))]++D.2.1,()))))) else A.bind (A.pure (V.next (D.2.1,()))) λr=>A.pure (V.done r)) (x,[UInt8.ofNat (Int.toNat (IntKind.wrap .u8 (IntKind.wrap .i64 (Add.add 48 (Int.tmod x 10)))))],())) (V.bz (λ(D:aU×Unit)=>A.pure D.1)))
def Y0(Y1:bG->A bG)(Y2:H.a1->A H.a1)(x:bd):A bd:=
 A.ab (Y1 x.1).cm (A.ab (Y2 x.2).cm (A.pure (A.val (Y1 x.1) (([],[],0,[]),[],[],[],[],0),A.val (Y2 x.2) ([],[],[],[],0,0,0,0,0,0,0))))
def Y3(x:List aU×Int):A Bool:=
 A.bind (A.loop (λ(D:List aU×Int×Int×Unit)=>letI b:=D.2.2.1;letI a:=b<Int.ofNat (List.length D.1);if decide a=true then A.ab (0<=b/\a) (if decide (List.getD D.1 (Int.toNat b) []≠[111,107])=true then A.bind (A.bind (A.pure false) (λr=>A.pure (V.done r))) λr=>A.pure (V.done r) else A.pure (V.next (D.1,D.2.1,IntKind.wrap .i64 (Add.add b 1),()))) else A.bind (A.pure (V.next (D.1,D.2.1,()))) λr=>A.pure (V.done r)) (x.1,x.2,0,())) (V.bz (λ(D:List aU×Int×Unit)=>A.pure (decide (Int.ofNat (List.length D.1)=D.2.1))))
def Y4(anZ:Int->A aU)(x:aU×z1'):A aU:=
 A.bind (A.loop (λ(D:aU×z1'×Int×Unit)=>letI b:=D.2.2.1;letI a:=b<Int.ofNat (List.length D.2.1);if decide a=true then A.ab (0<=b/\a) (A.bind (anZ (List.getD D.2.1 (Int.toNat b) 0)) (λy=>A.ab (bQ (Add.add (Add.add 0 1) (List.length y))) (A.ab (bQ (Add.add (List.length D.1) (Add.add (List.length y) 1))) (A.pure (V.next (D.1++([32]++y),D.2.1,IntKind.wrap .i64 (Add.add b 1),())))))) else A.bind (A.pure (V.next (D.1,()))) λr=>A.pure (V.done r)) (x.1,x.2,0,())) (V.bz (λ(D:aU×Unit)=>A.pure D.1))
def Io{gD:Type}(c0:z2'->A (z2'))(bF:List (List (Int×z1'×Int×Int))->A (List (List (Int×z1'×Int×Int))))(c2:z2'->A (z2'))(c3:List (Int×z1'×Int×Int)×Unit->A (List (Int×z1'×Int×Int)×Unit))(c4:z1'->A (z1'))(c5:List dk->A (List dk))(lQ:List dB->A (List dB))(ov:z3'->A (z3'))(x:bG)(fin:bG->A gD):A gD:=
 A.ab True (A.ab (c0 x.1.1).cm (A.ab True (A.ab (bF x.1.2.1).cm (A.ab True (A.ab (c2 x.1.2.2.2).cm (A.ab True (A.ab True (A.ab True (A.bind (A.ab True (A.loop (λ(D:Int×Int×Int×z1'×List dk×List dB×z3'×Int×Int×Int×z2'×List (List (Int×z1'×Int×Int))×z2'×Unit)=>letI g1:=D.2;letI s:=g1.2.2.2;letI h:=Int.toNat g1.1;letI f:=s.2.2.2;letI v:=f.2.2.2.2;if decide (g1.1<D.1)=true then A.bind (A.ab True (A.ab (0<=g1.1/\g1.1<Int.ofNat (List.length v.1)) (A.ab True (A.ab (h=h) (A.bind (c3 (List.getD v.1 h [],())) (λy=>A.ab True (A.ab (h=h) (A.ab True (A.ab (h=h) (A.loop (λ(D:Nat×Int×Int×Int×Int×Int×z1'×List dk×List dB×z3'×Int×Int×Int×z2'×(List (List (Int×z1'×Int×Int))×Nat)×z2'×List (Int×z1'×Int×Int)×Unit)=>letI g:=D.2.2.2.2;letI z:=g.2.2.2;letI a:=z.2.2.2;letI k:=a.2.2.2.2;letI u:=0<=g.1/\g.1<Int.ofNat (List.length k.2.2.1);letI e:=List.getD k.2.2.1 (Int.toNat g.1) (0,[],0,0);if decide (g.1<D.2.2.2.1)=true then A.ab True (A.ab (D.1=k.1.2) (A.ab True (A.ab (D.1=k.1.2) (A.ab u (A.ab (c4 e.2.1).cm (A.ab u (A.pure (V.next (D.1,D.2.1,D.2.2.1,D.2.2.2.1,IntKind.wrap .i64 (Add.add g.1 1),g.2.1,g.2.2.1,z.1,z.2.1,z.2.2.1,a.1,a.2.1,a.2.2.1,a.2.2.2.1,k.1,k.2.1,List.set k.2.2.1 (Int.toNat g.1) (e.1,A.val (c4 e.2.1) [],e.2.2),()))))))))) else A.bind (A.pure (V.next (D.2.1,D.2.2.1,g.2.1,g.2.2.1,z.1,z.2.1,z.2.2.1,a.1,a.2.1,a.2.2.1,a.2.2.2.1,k.1,k.2.1,k.2.2.1,()))) λr=>A.pure (V.done r)) (h,D.1,g1.1,Int.ofNat (List.length y.1),0,g1.2.1,g1.2.2.1,s.1,s.2.1,s.2.2.1,f.1,f.2.1,f.2.2.1,f.2.2.2.1,(v.1,h),v.2.1,y.1,()))))))))))) (V.bz (λ(D:Int×Int×Int×z1'×List dk×List dB×z3'×Int×Int×Int×z2'×(List (List (Int×z1'×Int×Int))×Nat)×z2'×List (Int×z1'×Int×Int)×Unit)=>letI dO:=D.2.2.2.2;letI j:=dO.2.2.2;letI bF:=j.2.2.2.2;A.pure (V.next (D.1,IntKind.wrap .i64 (Add.add D.2.1 1),D.2.2.1,D.2.2.2.1,dO.1,dO.2.1,dO.2.2.1,j.1,j.2.1,j.2.2.1,j.2.2.2.1,List.set bF.1.1 bF.1.2 bF.2.2.1,bF.2.1,())))) else A.bind (A.pure (V.next (g1.2.1,g1.2.2.1,s.1,s.2.1,s.2.2.1,f.1,f.2.1,f.2.2.1,f.2.2.2.1,v.1,v.2.1,()))) λr=>A.pure (V.done r)) (Int.ofNat (List.length (A.val (bF x.1.2.1) [])),0,x.1.2.2.1,x.2.1,x.2.2.1,x.2.2.2.1,x.2.2.2.2.1,x.2.2.2.2.2,0,0,A.val (c0 x.1.1) [],A.val (bF x.1.2.1) [],A.val (c2 x.1.2.2.2) [],()))) (V.bz (λ(D:Int×z1'×List dk×List dB×z3'×Int×Int×Int×z2'×List (List (Int×z1'×Int×Int))×z2'×Unit)=>letI d1:=D.2.2;letI n:=d1.2.2;A.ab (c4 D.2.1).cm (A.ab (c5 d1.1).cm (A.ab (lQ d1.2.1).cm (A.ab (ov n.1).cm (A.bind (A.loop (λ(D:Int×Int×Int×Int×Int×Int×z2'×List (List (Int×z1'×Int×Int))×z2'×z1'×List dk×List dB×z3'×Unit)=>letI ax:=D.2;letI t:=ax.2.2.2;letI d:=t.2.2.2;letI w:=d.2.2.2;letI o:=0<=ax.1/\ax.1<Int.ofNat (List.length w.1);letI b:=List.getD w.1 (Int.toNat ax.1) (0,0,0,0,[]);if decide (ax.1<D.1)=true then A.ab o (A.ab (c4 b.2.2.2.2).cm (A.ab o (A.pure (V.next (D.1,IntKind.wrap .i64 (Add.add ax.1 1),ax.2.1,ax.2.2.1,t.1,t.2.1,t.2.2.1,d.1,d.2.1,d.2.2.1,List.set w.1 (Int.toNat ax.1) (b.1,b.2.1,b.2.2.1,b.2.2.2.1,A.val (c4 b.2.2.2.2) []),w.2.1,w.2.2.1,()))))) else A.bind (A.pure (V.next (ax.2.1,ax.2.2.1,t.1,t.2.1,t.2.2.1,d.1,d.2.1,d.2.2.1,w.1,w.2.1,w.2.2.1,()))) λr=>A.pure (V.done r)) (Int.ofNat (List.length (A.val (c5 d1.1) [])),0,D.1,n.2.1,n.2.2.1,n.2.2.2.1,n.2.2.2.2.1,n.2.2.2.2.2.1,n.2.2.2.2.2.2.1,A.val (c4 D.2.1) [],A.val (c5 d1.1) [],A.val (lQ d1.2.1) [],A.val (ov n.1) [],())) (V.bz (λ(D:Int×Int×Int×Int×z2'×List (List (Int×z1'×Int×Int))×z2'×z1'×List dk×List dB×z3'×Unit)=>letI E:=D.2.2.2;letI m:=E.2.2.2;A.bind (A.loop (λ(D:Int×Int×Int×Int×Int×Int×z2'×List (List (Int×z1'×Int×Int))×z2'×z1'×List dk×List dB×z3'×Unit)=>letI f1:=D.2;letI l:=f1.2.2.2;letI c:=l.2.2.2.2;letI b9:=c.2.2.2;letI p:=0<=f1.1/\f1.1<Int.ofNat (List.length b9.1);letI i:=List.getD b9.1 (Int.toNat f1.1) ([],(0,0),0,0,0);if decide (f1.1<D.1)=true then A.ab p (A.ab (c4 i.1).cm (A.ab p (A.pure (V.next (D.1,IntKind.wrap .i64 (Add.add f1.1 1),f1.2.1,f1.2.2.1,l.1,l.2.1,l.2.2.1,l.2.2.2.1,c.1,c.2.1,c.2.2.1,List.set b9.1 (Int.toNat f1.1) (A.val (c4 i.1) [],i.2),b9.2.1,()))))) else A.bind (A.pure (V.next (f1.2.1,f1.2.2.1,l.1,l.2.1,l.2.2.1,l.2.2.2.1,c.1,c.2.1,c.2.2.1,b9.1,b9.2.1,()))) λr=>A.pure (V.done r)) (Int.ofNat (List.length m.2.2.2.1),0,D.1,D.2.1,D.2.2.1,E.1,E.2.1,E.2.2.1,m.1,m.2.1,m.2.2.1,m.2.2.2.1,m.2.2.2.2.1,())) (V.bz (λ(D:Int×Int×Int×Int×z2'×List (List (Int×z1'×Int×Int))×z2'×z1'×List dk×List dB×z3'×Unit)=>letI q:=D.2.2.2.2.2;fin ((D.2.2.2.2.1,q.1,D.1,q.2.1),q.2.2.1,q.2.2.2.1,q.2.2.2.2.1,q.2.2.2.2.2.1,D.2.1))))))))))))))))))))
def iQ(s:bG):wi:=(s.1.1,s.1.2.1,s.1.2.2.1,s.2.2.2.2.2,s.1.2.2.2,s.2.1,s.2.2.1,s.2.2.2.1,s.2.2.2.2.1,())
def an0(c0:z2'->A (z2'))(bF:List (List (Int×z1'×Int×Int))->A (List (List (Int×z1'×Int×Int))))(c2:z2'->A (z2'))(c3:List (Int×z1'×Int×Int)×Unit->A (List (Int×z1'×Int×Int)×Unit))(c4:z1'->A (z1'))(c5:List dk->A (List dk))(lQ:List dB->A (List dB))(ov:z3'->A (z3'))(x:bG):A bG:=Io c0 bF c2 c3 c4 c5 lQ ov x A.pure
def an1(c0:z2'->A (z2'))(bF:List (List (Int×z1'×Int×Int))->A (List (List (Int×z1'×Int×Int))))(c2:z2'->A (z2'))(c3:List (Int×z1'×Int×Int)×Unit->A (List (Int×z1'×Int×Int)×Unit))(c4:z1'->A (z1'))(c5:List dk->A (List dk))(lQ:List dB->A (List dB))(ov:z3'->A (z3'))(x:bG×Unit):A wi:=Io c0 bF c2 c3 c4 c5 lQ ov x.1 λs=>A.pure (iQ s)
def Y5(O9:bG->A Int)(an2:z2'×List (List (Int×z1'×Int×Int))×Int×z2'->A Bool)(x:bG):A Bool:=
 A.bind (an2 x.1) λy=>if (y||decide (Int.ofNat (List.length x.2.1) > 40)||decide (Int.ofNat (List.length x.2.2.1) > 40)||decide (Int.ofNat (List.length x.2.2.2.1) > 40)||decide (Int.ofNat (List.length x.2.2.2.2.1) > 40))=true then A.pure true else A.bind (A.loop (λ(D:Int×bG×Unit)=>letI c:=D.1<Int.ofNat (List.length D.2.1.2.2.1);if decide c=true then A.ab (0<=D.1/\c) (if decide (Int.ofNat (List.length (List.getD D.2.1.2.2.1 (Int.toNat D.1) (0,0,0,0,[])).2.2.2.2) > 40)=true then A.bind (A.bind (A.pure true) (λr=>A.pure (V.done r))) λr=>A.pure (V.done r) else A.pure (V.next (IntKind.wrap .i64 (Add.add D.1 1),D.2.1,()))) else A.bind (A.pure (V.next (D.2.1,()))) λr=>A.pure (V.done r)) (0,x,())) (V.bz (λ(D:(a_×z1'×List dk×List dB×z3'×Int)×Unit)=>A.bind (A.loop (λ(D:Int×(a_×z1'×List (Int×Int×Int×Int×z1')×List dB×z3'×Int)×Unit)=>letI b:=D.1<Int.ofNat (List.length D.2.1.2.2.2.1);if decide b=true then A.ab (0<=D.1/\b) (if decide (Int.ofNat (List.length (List.getD D.2.1.2.2.2.1 (Int.toNat D.1) ([],(0,0),0,0,0)).1) > 40)=true then A.bind (A.bind (A.pure true) (λr=>A.pure (V.done r))) λr=>A.pure (V.done r) else A.pure (V.next (IntKind.wrap .i64 (Add.add D.1 1),D.2.1,()))) else A.bind (A.pure (V.next (D.2.1,()))) λr=>A.pure (V.done r)) (0,D.1,())) (V.bz (λ(D:(a_×z1'×List dk×List (z1'×(Int×Int)×Int×Int×Int)×z3'×Int)×Unit)=>A.bind (O9 D.1) λy=>if decide (y≠0)=true then A.pure false else A.bind (A.loop (λ(D:Int×Int×(a_×z1'×List dk×List dB×z3'×Int)×Unit)=>letI d:=D.2.2.1;letI a:=D.2.1<Int.ofNat (List.length d.2.2.1);if decide a=true then A.ab (0<=D.2.1/\a) (A.pure (V.next (IntKind.wrap .i64 (Add.add D.1 (Int.ofNat (List.length (List.getD d.2.2.1 (Int.toNat D.2.1) (0,0,0,0,[])).2.2.2.2))),IntKind.wrap .i64 (Add.add D.2.1 1),d,()))) else A.bind (A.pure (V.next (D.1,d,()))) λr=>A.pure (V.done r)) (0,0,D.1,())) (V.bz (λ(D:Int×(a_×z1'×List dk×List (z1'×(Int×Int)×Int×Int×Int)×z3'×Int)×Unit)=>A.pure (decide (Int.ofNat (List.length D.2.1.2.2.2.1) > 3)||decide (Int.ofNat (List.length D.2.1.2.2.1) > 4)||decide (Int.ofNat (List.length D.2.1.2.2.2.2.1) > 3)||decide (D.1 > 4))))))))
def Y6(an3:Unit->A a_)(x:Unit):A (bG):=
 A.bind (an3 ()) λy=>A.pure (y,[1,0,0,0],[(1,60,0,0,[0]),(1,60,7,0,[]),(2,65,0,1,[0]),(2,60,0,0,[0,1])],[([1],(55,65),7,3,500),([1,2],(60,60),0,5,400),([2],(60,70),9,8,700),([2],(65,65),0,5,300)],[(4,2,1),(6,3,1)],2)
abbrev bw:ad:=.int .i64
abbrev de:ad:=.bool
abbrev fF:ad:=.slice bw
abbrev mG:ad:=.st (.az bw bw)
abbrev kI:ad:=.st (.az bw (.az bw mG))
abbrev qC:ad:=.st (.az bw (.az fF mG))
abbrev k4:ad:=.st (.slice qC)
abbrev jW:ad:=.st (.az bw (.az bw (.az bw bw)))
abbrev iv:ad:=.st (.az (.slice kI) (.az (.slice k4) (.az bw (.slice jW))))
attribute [simp] qw Vo vN A.dv A.Fo A.Rj A.gA A.fC A.mD A.jd A.kF A.bZ A.py cj hY No V.hn
abbrev cg:aL:=⟨.az bw (.az bw bw),de,λ_=>True,λx=>decide (x.2.1<=x.1)&&decide (x.1<=x.2.2)⟩
theorem an4(x):A.le (ajx x) (cg.sh x):=A.br λ_=>rfl
abbrev mH:aL:=⟨.az fF bw,de,λx=>x.1.length<2 ^ 63,λx=>x.1.contains x.2⟩
theorem an5(l:z1')(n:Int):(l.any λy=>y == n)=l.contains n:=by grind
theorem an6(l:z1')(n:Int)(h:l.length<2 ^ 63):Nv (l,n)=A.pure (l.contains n):=by
 unfold Nv;rw[A.du l (λi (_:Unit)=>(l,n,(i:Int),())) (λy b=>if (y == n)=true then .done (.done true) else .next b) (λ_=>.next ()) () ?_ ?_ ?_]
 ·rw[rz,an5];cases l.contains n<;>simp
 ·rfl
 ·intro i G b;have hw:=bA (n:=(i:Int)+1) (by omega) (by omega);simp[G,hw];grind
 simp
theorem an7(x):A.le (Nv x) (mH.sh x):=A.br λh=>an6 x.1 x.2 h
abbrev Ip:Type:=Int×Int×Int×Int
abbrev wk:Type:=Int×z1'×Int×Int
abbrev k5:Type:=Int×Int×Int×Int
def gg(w:a_):Prop:=w.1.length<2 ^ 63/\w.2.1.length<2 ^ 63/\w.2.2.2.length<2 ^ 63/\∀ m∈w.2.1,m.length<2 ^ 63/\∀ s∈m,s.2.1.length<2 ^ 63
def fG(w:a_)(n:Int):Bool:=decide (0<=n)&&decide (n<(w.1.length:Int))
def n_(w:a_)(n:Int):Bool:=decide (0<=n)&&decide (n<(w.2.1.length:Int))
def iS(w:a_)(m:Int):List wk:=w.2.1.getD m.toNat []
def iw(w:a_)(m k:Int):Bool:=n_ w m&&(decide (0<=k)&&decide (k<((iS w m).length:Int)))
theorem qD{w:a_}{n:Int}:fG w n=true<->0<=n/\n<(w.1.length:Int):=by simp[fG]
theorem Iq{w:a_}{n:Int}:n_ w n=true<->0<=n/\n<(w.2.1.length:Int):=by simp[n_]
theorem yq{w:a_}{m k:Int}:iw w m k=true<->(0<=m/\m<(w.2.1.length:Int))/\0<=k/\k<((iS w m).length:Int):=by simp[iw,n_]
theorem Ir{w:a_}(hw:gg w)(m:Int):(iS w m).length<2 ^ 63:=by
 unfold iS;rw[List.getD_eq_getElem?_getD];cases h:w.2.1[m.toNat]? with
 | none=>simp
 | some x=>exact (hw.2.2.2 x (List.mem_of_getElem? h)).1
theorem rI(n m:Int):decide (n<=m - 1)=decide (n<m):=by
 grind
abbrev pK:aL:=⟨.az iv bw,de,λx=>gg x.1,λx=>fG x.1 x.2⟩
theorem Y7(w:a_)(n:Int)(h:gg w):Nw cg.sh (w,n)=A.pure (fG w n):=by
 unfold Nw;have aj:=h.1;have hw:=bA (n:=(w.1.length:Int) - 1) (by omega) (by omega);simp[aL.sh,cg,hw,fG,rI]
theorem an8(x):A.le (Nw cg.sh x) (pK.sh x):=A.br λh=>Y7 x.1 x.2 h
abbrev Ba:aL:=⟨.az iv bw,de,λx=>gg x.1,λx=>n_ x.1 x.2⟩
theorem an9(w:a_)(n:Int)(h:gg w):NB cg.sh (w,n)=A.pure (n_ w n):=by
 unfold NB;have aj:=h.2.1;have hw:=bA (n:=(w.2.1.length:Int) - 1) (by omega) (by omega);simp[aL.sh,cg,hw,n_,rI]
theorem an_(x):A.le (NB cg.sh x) (Ba.sh x):=A.br λh=>an9 x.1 x.2 h
abbrev rJ:aL:=⟨.az iv (.az bw bw),de,λx=>gg x.1,λx=>iw x.1 x.2.1 x.2.2⟩
theorem Y8(w:a_)(m k:Int)(h:gg w):HG cg.sh Ba.sh (w,m,k)=A.pure (iw w m k):=by
 unfold HG;have aj:=Ir h m;have hw:=bA (n:=((iS w m).length:Int) - 1) (by omega) (by omega);unfold iS at hw;simp only[aL.sh,cg,Ba,A.dv,A.jd,bW,hw,rI,A.bu h];rw[A.bu,A.bu (by simp)]
 ·simp only[iw,iS];simp
 ·intro hm;exact⟨⟨hm,hm⟩,Iq.1 hm,trivial⟩
theorem an'(x):A.le (HG cg.sh Ba.sh x) (rJ.sh x):=A.br λh=>Y8 x.1 x.2.1 x.2.2 h
def wm(s:Int×Int):Bool:=(decide (0<=s.1)&&decide (s.1<=s.2))&&decide (s.2<=999)
abbrev o0:aL:=⟨mG,de,λ_=>True,wm⟩
theorem Y9(s:Int×Int):NH cg.sh s=A.pure (wm s):=by
 unfold NH;simp[aL.sh,cg,wm]
theorem aoa(x):A.le (NH cg.sh x) (o0.sh x):=A.br λ_=>Y9 x
def rF(l:z1'):Bool:=(List.range (l.length - 1)).all λi=>decide (l.getD i 0<l.getD (i+1) 0)
abbrev uH:aL:=⟨fF,de,λx=>x.length<2 ^ 63,rF⟩
theorem Y_(l:z1')(h:l.length<2 ^ 63):NA l=A.pure (rF l):=by
 unfold NA;rw[A.du (List.range (l.length - 1)) (λi (_:Unit)=>(l,((i+1:Nat):Int),())) (λi b=>if (decide (l.getD i 0<l.getD (i+1) 0))=true then .next b else .done (.done false)) (λ_=>.next ()) () ?_ ?_ ?_]
 ·rw[HB];unfold rF;cases (List.range (l.length - 1)).all λi=>decide (l.getD i 0<l.getD (i+1) 0)<;>simp
 ·simp
 ·intro i G b;have dL:i+1<l.length:=by grind
  have hw:=bA (n:=(i:Int)+1+1) (by omega) (by omega);have gX:=bA (n:=(i:Int)+1 - 1) (by omega) (by omega);have ax:((i:Int)+1).toNat=i+1:=by omega
  have aO:((i:Int)+1 - 1).toNat=i:=by omega
  have b5:(0:Int)<=(i:Int)+1/\(i:Int)+1<(l.length:Int):=by omega
  have cw:(0:Int)<=(i:Int)+1 - 1/\(i:Int)+1 - 1<(l.length:Int):=by omega
  simp only[bW,Int.natCast_add,Int.cast_ofNat_Int,hw,gX,b5,cw,A.bu,ax,aO,cj,List.getElem_range,decide_eq_true_eq,if_true,A.aG,decide_true,and_self,Int.natCast_one];generalize l.getD i 0=aM;generalize l.getD (i+1) 0=B;by_cases hc:aM<B
  ·simp[hc,Int.not_le.2 hc]
  ·simp[hc,Int.not_lt.1 hc]
 ·intro b;have:¬(((List.range (l.length - 1)).length:Int)+1<(l.length:Int)):=by grind
  simp[this];omega
theorem aob(x):A.le (NA x) (uH.sh x):=A.br λh=>Y_ x h
def qE(n:Int):Bool:=decide (0<=n)&&decide (n<=9)
def pL(s:wk):Bool:=s.2.1.all qE&&(qE s.1&&decide ((s.2.1.length:Int)<=4)&&rF s.2.1&&wm s.2.2)
def rK(s:Ip):Bool:=qE s.1&&qE s.2.1&&wm s.2.2
def rL(w:a_)(t:k5):Bool:=fG w t.1&&iw w t.2.1 t.2.2.1&&(decide (0<=t.2.2.2)&&decide (t.2.2.2<=1))
def pM(m:List wk):Bool:=!decide ((m.length:Int) > 4)&&m.all pL
def s8(w:a_):Bool:=!(decide ((w.1.length:Int) > 10)||decide ((w.2.1.length:Int) > 6)||!(decide (0<=w.2.2.1)&&decide (w.2.2.1<=99))||decide ((w.2.2.2.length:Int) > 30))
def jX(w:a_):Bool:=s8 w&&w.1.all rK&&w.2.1.all pM&&w.2.2.2.all (rL w)
abbrev s9:aL:=⟨qC,de,λx=>x.2.1.length<2 ^ 63,pL⟩
theorem aoc(s:wk)(h:s.2.1.length<2 ^ 63):NI uH.sh cg.sh o0.sh s=A.pure (pL s):=by
 unfold NI;rw[A.du s.2.1 (λi (_:Unit)=>((i:Int),s,())) (λn b=>if qE n=true then .next b else .done (.done false)) (λ_=>.next (s,())) () ?_ ?_ ?_]
 ·rw[HB];unfold pL;cases s.2.1.all qE with
  | false=>simp
  | true=>
   simp only[aL.sh,cg,uH,o0,A.bu h,qE,if_true,A.aG,A.bZ,A.dv,A.jd,A.bq,bW,h,implies_true,Bool.true_and];simp
 ·rfl
 ·intro i G b;have hw:=bA (n:=(i:Int)+1) (by omega) (by omega);simp[aL.sh,cg,G,hw,qE];grind
 simp
theorem aod(x):A.le (NI uH.sh cg.sh o0.sh x) (s9.sh x):=A.br λh=>aoc x h
abbrev s_:aL:=⟨iv,de,gg,jX⟩
theorem aoe(w:a_)(h:gg w):NC pK.sh rJ.sh cg.sh o0.sh s9.sh w=A.pure (jX w):=by
 have aE:=h;obtain⟨E,U,ag,a6⟩:=h;unfold NC;simp only[aL.sh,cg,A.jd,A.dv,implies_true,A.bq,bW,qw];split
 ·rename_i hc;have:s8 w=false:=by unfold s8;grind
  simp[jX,this]
 ·rename_i hc;have cW:s8 w=true:=by unfold s8;grind
  have ayx:w.2.1.length<=6:=by grind
  rw[A.du w.1 (λi (_:Unit)=>((i:Int),w,())) (λn b=>if (!qE n.1||!qE n.2.1||!wm n.2.2)=true then .done (.done false) else .next b) (λ_=>.next (w,())) () ?_ ?_ ?_]
  ·rw[kh (q:=rK) _ _ (λt=>by simp only[rK,Bool.not_and])];cases ik:w.1.all rK with
   | false=>simp[jX,ik]
   | true=>
    simp only[A.aG,if_true,A.bZ];rw[A.du w.2.1 (λi (_:Unit)=>((i:Int),w,())) (λm b=>if pM m=true then .next b else .done (.done false)) (λ_=>.next (w,())) () ?_ ?_ ?_]
    ·rw[HB];cases aT:w.2.1.all pM with
     | false=>simp[jX,aT]
     | true=>
      simp only[A.aG,if_true,A.bZ];rw[A.du w.2.2.2 (λi (_:Unit)=>((i:Int),w,())) (λt b=>if (!fG w t.1||!iw w t.2.1 t.2.2.1||!(decide (0<=t.2.2.2)&&decide (t.2.2.2<=1)))=true then .done (.done false) else .next b) (λ_=>.next ()) () ?_ ?_ ?_]
      ·rw[kh (q:=rL w) _ _ (λt=>by simp only[rL,Bool.not_and])];cases jo:w.2.2.2.all (rL w)<;>simp[jX,ik,aT,jo,cW]
      ·rfl
      ·intro i G b;have hw:=bA (n:=(i:Int)+1) (by omega) (by omega);simp only[bW,cV G,if_true,dh G,cN G,A.bq,aL.sh,pK,rJ,A.dv,A.jd,aE,implies_true,qw,A.aG,cj,hw];exact l3 (mk:=λ_:Unit=>((i:Int)+1,w,()))
      simp
    ·rfl
    ·intro i G b;have hw:=bA (n:=(i:Int)+1) (by omega) (by omega);obtain⟨kg,pr⟩:=a6 w.2.1[i] (List.getElem_mem G);simp only[bW,Int.ofNat_lt,G,decide_true,if_true,dh G,Int.natCast_nonneg,and_self,A.bq];by_cases hlen:(w.2.1[i].length:Int) > 4
     ·simp[hlen,pM]
     ·simp only[hlen,decide_false,Bool.false_eq_true,if_false];rw[A.du w.2.1[i] (λk (_:Unit)=>((i:Int),(k:Int),w,())) (λs b=>if (!pL s)=true then .done (.done (.done (.done false))) else .next b) (λ_=>.next ((i:Int),w,())) () ?_ ?_ ?_]
      ·rw[kh (q:=pL) _ _ (λ_=>rfl)];cases Pj:w.2.1[i].all pL<;>simp[pM,Pj,hlen,hw]
      ·rfl
      ·intro k an b;have l9:=bA (n:=(k:Int)+1) (by omega) (by omega);have Bb:=pr w.2.1[i][k] (List.getElem_mem an);simp only[bW,cV an,cV G,if_true,dh G,dh an,cN G,cN an,A.bq,s9,A.dv,Bb,A.bu Bb,A.aG,cj,l9];exact l3 (mk:=λ_:Unit=>((i:Int),(k:Int)+1,w,()))
      simp_all
    simp
  ·rfl
  ·intro i G b;have hw:=bA (n:=(i:Int)+1) (by omega) (by omega);simp only[bW,cV G,if_true,dh G,cN G,A.bq,aL.sh,o0,A.dv,A.jd,implies_true,qw,A.aG,cj,hw,Bool.not_not];exact l3 (mk:=λ_:Unit=>((i:Int)+1,w,()))
  simp
theorem aof(x):A.le (NC pK.sh rJ.sh cg.sh o0.sh s9.sh x) (s_.sh x):=A.br λh=>aoe x h
abbrev o1:k5:=(0,0,0,0)
def np(a b:k5):Bool:=decide (a.1=b.1)&&decide (a.2.1=b.2.1)&&decide (a.2.2.1=b.2.2.1)&&decide (a.2.2.2≠b.2.2.2)
def l2(l:List k5):Bool:=(List.range l.length).all λi=>(List.range i).all λk=>!np (l.getD k o1) (l.getD i o1)
def cx(w:a_):Int:=if jX w=true then (if l2 w.2.2.2=true then 0 else 71) else 70
theorem Y'{a b:Nat}(h:a<b):((0:Int)<=(a:Int)/\(a:Int)<(b:Int))=True:=cN h
abbrev hs:aL:=⟨iv,bw,gg,cx⟩
theorem aog(w:a_)(h:gg w):Nx s_.sh w=A.pure (cx w):=by
 have aE:=h;obtain⟨E,U,ag,a6⟩:=h;unfold Nx;simp only[aL.sh,s_,A.dv,A.bu aE];unfold cx;cases hw:jX w with
 | false=>simp
 | true=>
  simp only[Bool.not_true,Bool.false_eq_true,if_false,if_true];rw[A.du (List.range w.2.2.2.length) (λi (_:Unit)=>((i:Int),w,())) (λi b=>if (List.range i).any (λk=>np (w.2.2.2.getD k o1) (w.2.2.2.getD i o1))=true then .done (.done (71:Int)) else .next b) (λ_=>.next ()) () ?_ ?_ ?_]
  ·rw[kh (q:=λi=>(List.range i).all λk=>!np (w.2.2.2.getD k o1) (w.2.2.2.getD i o1)) _ _ (λi=>Vp (λk=>by simp) _)];have e:((List.range w.2.2.2.length).all λi=>(List.range i).all λk=>!np (w.2.2.2.getD k o1) (w.2.2.2.getD i o1))=l2 w.2.2.2:=rfl;rw[e];cases l2 w.2.2.2<;>simp
  ·rfl
  ·intro i G b;have G:i<w.2.2.2.length:=by grind
   have gR:=bA (n:=(i:Int)+1) (by omega) (by omega);simp only[bW,cV G,if_true,List.getElem_range];rw[A.du (List.range i) (λk (_:Unit)=>((i:Int),(k:Int),w,())) (λk b=>if np (w.2.2.2.getD k o1) (w.2.2.2.getD i o1)=true then .done (.done (.done (.done (71:Int)))) else .next b) (λ_=>.next ((i:Int),w,())) () ?_ ?_ ?_]
   ·rw[rz];cases (List.range i).any (λk=>np (w.2.2.2.getD k o1) (w.2.2.2.getD i o1))<;>simp[gR]
   ·rfl
   ·intro k an b;have an:k<i:=by grind
    have rD:k<w.2.2.2.length:=by omega
    have l9:=bA (n:=(k:Int)+1) (by omega) (by omega);simp only[cV an,if_true,List.getElem_range,Y' rD,Y' G,A.bq,Int.toNat_natCast,A.aG,cj,l9];exact l3 (mk:=λ_:Unit=>((i:Int),(k:Int)+1,w,()))
   simp
  simp
theorem aoh(x):A.le (Nx s_.sh x) (hs.sh x):=A.br λh=>aog x h
def er(w:a_)(i:Int):Ip:=w.1.getD i.toNat (0,0,0,0)
def uI(w:a_)(m k:Int):wk:=(iS w m).getD k.toNat (0,[],0,0)
theorem aoi{w:a_}{i:Int}(h:fG w i=true):er w i∈w.1:=by
 rw[qD]at h;exact x5 h.1 h.2
theorem Pk{w:a_}{m k:Int}(h:iw w m k=true):iS w m∈w.2.1:=by
 rw[yq]at h;exact x5 h.1.1 h.1.2
theorem Za{w:a_}{m k:Int}(h:iw w m k=true):uI w m k∈iS w m:=by
 rw[yq]at h;exact x5 h.2.1 h.2.2
theorem Bc{w:a_}(h:jX w=true):s8 w=true/\(∀ s∈w.1,rK s=true)/\(∀ m∈w.2.1,pM m=true)/\∀ t∈w.2.2.2,rL w t=true:=by
 simp only[jX,Bool.and_eq_true,List.all_eq_true]at h;grind
theorem wo{w:a_}(h:jX w=true):w.1.length<=10/\w.2.1.length<=6/\(0<=w.2.2.1/\w.2.2.1<=99)/\w.2.2.2.length<=30:=by
 have:=(Bc h).1;simp[s8]at this;omega
theorem aoj{w:a_}(h:jX w=true){m k:Int}(hm:iw w m k=true):(iS w m).length<=4:=by
 have:=(Bc h).2.2.1 _ (Pk hm);simp[pM]at this;omega
theorem aok{w:a_}(h:jX w=true){m k:Int}(hm:iw w m k=true):pL (uI w m k)=true:=by
 have:=(Bc h).2.2.1 _ (Pk hm);simp only[pM,Bool.and_eq_true,List.all_eq_true]at this;exact this.2 _ (Za hm)
theorem aol{s:wk}(h:pL s=true):0<=s.2.2.1/\s.2.2.1<=s.2.2.2/\s.2.2.2<=999:=by
 simp only[pL,wm,Bool.and_eq_true,decide_eq_true_eq]at h;omega
theorem Pl{w:a_}(h:jX w=true){i:Int}(G:fG w i=true):0<=(er w i).2.2.1/\(er w i).2.2.1<=(er w i).2.2.2/\(er w i).2.2.2<=999:=by
 have:=(Bc h).2.1 _ (aoi G);simp only[rK,wm,Bool.and_eq_true,decide_eq_true_eq]at this;omega
theorem Zb{w:a_}(h:jX w=true){t:k5}(aI:t∈w.2.2.2):fG w t.1=true/\iw w t.2.1 t.2.2.1=true:=by
 have:=(Bc h).2.2.2 _ aI;simp only[rL,Bool.and_eq_true]at this;grind
def uJ(w:a_)(i n m k:Int):Bool:=
 decide ((er w i).1=(uI w m k).1)&&(uI w m k).2.1.contains (er w i).2.1&&(decide ((uI w m k).2.2.1<=n)&&decide (n<=(uI w m k).2.2.2+w.2.2.1))
def l_(w:a_):Prop:=gg w/\jX w=true
abbrev ta:aL:=⟨.az iv (.az bw (.az bw (.az bw bw))),de,λx=>l_ x.1/\fG x.1 x.2.1=true/\iw x.1 x.2.2.2.1 x.2.2.2.2=true,λx=>uJ x.1 x.2.1 x.2.2.1 x.2.2.2.1 x.2.2.2.2⟩
theorem Zc(w:a_)(i n m k:Int)(hw:l_ w)(G:fG w i=true)(hm:iw w m k=true):Nz mH.sh cg.sh (w,i,n,m,k)=A.pure (uJ w i n m k):=by
 unfold Nz;have b5:=qD.1 G;have cw:=yq.1 hm;have fm:=aol (aok hw.2 hm);have R8:=(wo hw.2).2.2.1;have Bb:(uI w m k).2.1.length<2 ^ 63:=(hw.1.2.2.2 _ (Pk hm)).2 _ (Za hm);have gR:=bA (n:=(uI w m k).2.2.2+w.2.2.1) (by omega) (by omega);unfold uJ;simp only[uI,iS,er]at *
 simp only[aL.sh,mH,cg,A.jd,A.dv,bW,b5,cw,and_self,A.bq,implies_true,cj,gR,vN,A.bu (λ_=>Bb),Bb];rfl
theorem aom(x):A.le (Nz mH.sh cg.sh x) (ta.sh x):=A.br λh=>Zc x.1 x.2.1 x.2.2.1 x.2.2.2.1 x.2.2.2.2 h.1 h.2.1 h.2.2
def qF(w:a_)(i n:Int)(t:k5):Bool:=!(decide (t.1=i)&&!decide (uJ w i n t.2.1 t.2.2.1=decide (t.2.2.2=1)))
def uK(w:a_)(i n:Int):Bool:=w.2.2.2.all (qF w i n)&&(decide ((er w i).2.2.1<=n)&&decide (n<=(er w i).2.2.2))
abbrev EA:aL:=⟨.az iv (.az bw bw),de,λx=>l_ x.1/\fG x.1 x.2.1=true,λx=>uK x.1 x.2.1 x.2.2⟩
theorem aon(w:a_)(i n:Int)(hw:l_ w)(G:fG w i=true):Ny ta.sh cg.sh (w,i,n)=A.pure (uK w i n):=by
 unfold Ny;have b5:=qD.1 G;have aj:=(wo hw.2).2.2.2;rw[A.du w.2.2.2 (λj (_:Unit)=>(i,n,(j:Int),w,())) (λt b=>if (decide (t.1=i)&&!decide (uJ w i n t.2.1 t.2.2.1=decide (t.2.2.2=1)))=true then .done (.done false) else .next b) (λ_=>.next (i,n,w,())) () ?_ ?_ ?_]
 ·rw[kh (q:=qF w i n) _ _ (λt=>by simp only[qF,Bool.not_not])];unfold uK;cases w.2.2.2.all (qF w i n) with
  | false=>simp
  | true=>simp only[if_true,A.aG,A.bZ,aL.sh,cg,A.mD,A.gA,bW,b5,and_self,A.bq,Bool.true_and,er];rfl
 ·rfl
 ·intro j aF b;have gR:=bA (n:=(j:Int)+1) (by omega) (by omega);have aI:=Zb hw.2 (List.getElem_mem aF);have ao:decide (w.2.2.2[j].1=i)=true->(l_ w/\fG w i=true/\iw w w.2.2.2[j].2.1 w.2.2.2[j].2.2.1=true):=λ_=>⟨hw,G,aI.2⟩
  simp only[bW,cV aF,if_true,dh aF,cN aF,A.bq,aL.sh,ta,A.mD,A.gA,A.aG,cj,gR,and_true,true_and,and_self,implies_true,imp_self];rw[A.bu (λh=>⟨h,ao h⟩)];exact l3 (mk:=λ_:Unit=>(i,n,(j:Int)+1,w,()))
 simp
theorem aoo(x):A.le (Ny ta.sh cg.sh x) (EA.sh x):=A.br λh=>aon x.1 x.2.1 x.2.2 h.1 h.2
def fo(w:a_)(i:Int):z1':=(ei (er w i).2.2.1 (er w i).2.2.2).filter (uK w i)
theorem Zd{w:a_}{i:Int}(hw:l_ w)(G:fG w i=true):(fo w i).length<=1000:=by
 have:=Pl hw.2 G;have U:=List.length_filter_le (uK w i) (ei (er w i).2.2.1 (er w i).2.2.2);rw[sL]at U;unfold fo;omega
abbrev EB:aL:=⟨.az iv bw,fF,λx=>l_ x.1/\fG x.1 x.2=true,λx=>fo x.1 x.2⟩
theorem aop(w:a_)(i:Int)(hw:l_ w)(G:fG w i=true):NG EA.sh (w,i)=A.pure (fo w i):=by
 unfold NG;have b5:=qD.1 G;have aj:=Pl hw.2 G;simp only[bW,b5,and_self,A.bq];rw[A.f' (ei (er w i).2.2.1 (er w i).2.2.2) (λk (l:z1')=>(i,(er w i).2.2.1+(k:Int),w,l,())) (λn l=>.next (if uK w i n=true then l++[n] else l)) (λl=>.next (l,())) (λk l=>l.length<=k) [] ?_ ?_ ?_ ?_]
 ·rw[dQ,Np];simp only[A.aG,A.bZ,List.nil_append];rfl
 ·simp[er]
 ·simp
 ·intro k an l Is;have rD:k<1000:=by rw[sL]at an;omega
  have qb:(er w i).2.2.1+(k:Int)<=(er w i).2.2.2:=by rw[sL]at an;omega
  have gR:=bA (n:=(er w i).2.2.1+(k:Int)+1) (by omega) (by omega);have yr:=bA (n:=(er w i).2.2.1+((k:Int)+1)) (by omega) (by omega);refine⟨?_,λbf W=>?_⟩
  ·have aC:List.getD w.1 i.toNat (0,0,0,0)=er w i:=rfl;have kS:bQ (l.length+(0+1)):=by unfold bQ;omega
   have ax:(((k+1:Nat):Int))=(k:Int)+1:=by omega
   simp only[b5,and_self,A.bq,aC,qb,decide_true,if_true,aL.sh,EA,A.dv,hw,G,Ar,cj,hY,No,A.bu kS];cases uK w i ((er w i).2.2.1+(k:Int))<;>simp[yr,Int.add_assoc]
  grind
 ·intro l Is;have aC:List.getD w.1 i.toNat (0,0,0,0)=er w i:=rfl;have:¬(er w i).2.2.1+((ei (er w i).2.2.1 (er w i).2.2.2).length:Int)<=(er w i).2.2.2:=by rw[sL];omega
  simp only[b5,and_self,A.bq,aC,this,decide_false,Bool.false_eq_true,if_false,A.aG]
theorem aoq(x):A.le (NG EA.sh x) (EB.sh x):=A.br λh=>aop x.1 x.2 h.1 h.2
theorem Ze{w:a_}{i:Nat}(h:i<w.1.length):fG w (i:Int)=true:=by rw[qD];omega
def pN(w:a_):Bool:=(List.range w.1.length).all λi=>!decide (((fo w (i:Int)).length:Int)=0)
def dN(w:a_)(b7:Bool):Int:=if cx w≠0 then cx w else if b7=false then 1 else if pN w=true then 0 else 3
theorem Bd{w:a_}(h:cx w=0):jX w=true:=by
 unfold cx at h;grind
abbrev It:aL:=⟨.az iv de,bw,λx=>gg x.1,λx=>dN x.1 x.2⟩
theorem aor(w:a_)(b7:Bool)(h:gg w):NF hs.sh EB.sh (w,b7)=A.pure (dN w b7):=by
 unfold NF dN;simp only[aL.sh,hs,A.dv,A.bu h];by_cases hc:cx w=0
 ·have hw:l_ w:=⟨h,Bd hc⟩
  have Zf:=wo hw.2;simp only[hc,ne_eq,not_true,decide_false,Bool.false_eq_true,if_false];cases b7 with
  | false=>simp
  | true=>
   simp only[Bool.not_true,Bool.false_eq_true,if_false,Bool.true_eq_false];rw[A.du (List.range w.1.length) (λi (_:Unit)=>((i:Int),w,())) (λi b=>if decide (((fo w (i:Int)).length:Int)=0)=true then .done (.done (3:Int)) else .next b) (λ_=>.next ()) () ?_ ?_ ?_]
   ·rw[kh (q:=λ(i:Nat)=>!decide (((fo w (i:Int)).length:Int)=0)) _ _ (λi=>by simp)];have e:((List.range w.1.length).all λ(i:Nat)=>!decide (((fo w (i:Int)).length:Int)=0))=pN w:=rfl;rw[e];cases pN w<;>simp
   ·rfl
   ·intro i G b;have G:i<w.1.length:=by grind
    have gR:=bA (n:=(i:Int)+1) (by omega) (by omega);simp only[bW,cV G,if_true,List.getElem_range,EB,hw,Ze G,and_self,A.dv,A.bq,A.aG,cj,gR];exact l3 (mk:=λ_:Unit=>((i:Int)+1,w,()))
   simp
 grind
theorem aos(x):A.le (NF hs.sh EB.sh x) (It.sh x):=A.br λh=>aor x.1 x.2 h
abbrev Be:aL:=⟨iv,bw,gg,λw=>dN w true⟩
theorem aot(x):A.le (Vz It.sh x) (Be.sh x):=A.br λh=>by
 unfold Vz;simp only[aL.sh,It,A.dv,A.bu (show gg x from h),Be]
theorem uL{w:a_}{b7:Bool}(h:dN w b7=0):cx w=0/\b7=true/\pN w=true:=by
 unfold dN at h;grind
theorem Zg{w:a_}{b7:Bool}(aE:gg w)(h:dN w b7=0):l_ w:=⟨aE,Bd (uL h).1⟩
theorem aou{w:a_}(h:pN w=true){i:Int}(G:fG w i=true):0<(fo w i).length:=by
 rw[qD]at G;have:=List.all_eq_true.1 h i.toNat (by grind);grind
def rM(w:a_)(i:Int):(Int×Int)×Int:=if dN w (fG w i)≠0 then ((0,0),dN w (fG w i)) else (((fo w i).getD 0 0,(fo w i).getD ((fo w i).length - 1) 0),0)
abbrev tb:aL:=⟨.az iv bw,.az mG bw,λx=>gg x.1,λx=>rM x.1 x.2⟩
def Iu(some many:Int):Int:=if some=many then 1 else if some=0 then 2 else 3
abbrev Iv:aL:=⟨.az bw bw,bw,λ_=>True,λx=>Iu x.1 x.2⟩
theorem Zh{ak:Type}{p:ak->Bool}:∀ (l:List ak) (n:Int),l.foldl (λn x=>if p x=true then n+1 else n) n=n+(l.countP p:Int)
 | [],n=>by simp
 | x::l,n=>by
  simp only[List.foldl_cons,List.countP_cons];rw[Zh l];grind
def uM(w:a_)(i m k:Int):Int:=Iu ((fo w i).countP λn=>uJ w i n m k:Int) ((fo w i).length:Int)
def pO(w:a_)(i m k:Int):Int×Int:=if dN w (fG w i&&iw w m k)≠0 then (0,dN w (fG w i&&iw w m k)) else (uM w i m k,0)
abbrev uN:aL:=⟨.az iv (.az bw (.az bw bw)),.az bw bw,λx=>gg x.1,λx=>pO x.1 x.2.1 x.2.2.1 x.2.2.2⟩
section
variable {ak:Type}
def yb(d:ak)(x:List ak×(ak->A Bool)):A Int:=
 A.bind (A.loop (λ(D:List ak×(ak->A Bool)×Int×Int×Unit)=>if decide (D.2.2.2.1<D.2.2.1)=true then A.ab (0<=D.2.2.2.1/\
 D.2.2.2.1<Int.ofNat (List.length D.1)) (A.bind (D.2.1 (List.getD D.1 (Int.toNat D.2.2.2.1) d)) λy=>if y=true then A.bind (A.bind (A.pure
 D.2.2.2.1) λr=>A.pure (V.done r)) λr=>A.pure (V.done r) else A.pure (V.next (D.1,D.2.1,D.2.2.1,IntKind.wrap .i64 (Add.add
 D.2.2.2.1 1),()))) else A.bind (A.pure (V.next ())) λr=>A.pure (V.done r)) (x.1,x.2,Int.ofNat (List.length x.1),0,())) (V.bz λ(D
 : Unit)=>A.pure (-1))
def D_(c:List ak×(ak->A Bool)->A Int)(x:List ak×(ak->A Bool)):A Bool:=A.bind (c x) λy=>A.pure (decide (y>=0))
def Zi(c:List ak×(ak->A Bool)->A Bool)(bF:ak×Option (ak->A Bool)->A Bool)(x:List ak×(ak->A Bool)):A Bool:=
 A.bind (c (x.1,λhz=>bF (hz,some x.2))) λy=>A.pure !y
def Zj(x:ak×Option (ak->A Bool)):A Bool:=A.bind (Option.getD x.2 (λx=>{ cm:=False,bL:=λx=>False }) x.1) λy=>A.pure !y
def hO(p:ak->Bool):List ak->Int->Int
 | [],_=>-1
 | x::l,i=>if p x=true then i else hO p l (i+1)
theorem AE(p:ak->Bool):∀ (l:List ak) (i:Int),0<=i->(decide (hO p l i>=0))=l.any p
 | [],i,_=>by rfl
 | x::l,i,h=>by
  simp only[hO,List.any_cons];by_cases ah:p x=true
  ·grind
  ·have:=AE p l (i+1) (by omega);grind
theorem AF(p:ak->Bool):∀ (l:List ak) (i:Int),eZ (λx (i:Int)=>if p x=true then (.done (.done i):V Int (V Unit Int)) else .next (i+1)) (λ_=>.next ()) l i=if l.any p=true then .done (hO p l i) else .next ()
 | [],i=>by rfl
 | x::l,i=>by
  simp only[eZ,List.any_cons,hO];by_cases ah:p x=true
  ·grind
  ·have:=AF p l (i+1);grind
theorem D'{p:ak->Bool}:∀ (l:List ak) (i:Int),¬l.any p=true->hO p l i=-1
 | [],_,_=>rfl
 | x::l,i,aB=>by
  simp only[List.any_cons,Bool.or_eq_true,not_or]at aB;simp only[hO,aB.1,Bool.false_eq_true,if_false];exact D' l _ aB.2
theorem Oj(d:ak)(l:List ak)(f:ak->A Bool)(h:l.length<2 ^ 63)(aq:∀ y∈l,∃ b,f y=A.pure b):yb d (l,f)=A.pure (hO (λy=>(f y).val false) l 0):=by
 unfold yb;rw[A.f' l (λi (b:Int)=>(l,f,(l.length:Int),b,())) (λy (i:Int)=>if (f y).val false=true then (.done (.done i):V Int (V Unit Int)) else .next (i+1)) (λ_=>.next ()) (λi b=>b=(i:Int)) 0 ?_ ?_ ?_ ?_]
 ·rw[AF (λy=>(f y).val false)];by_cases bb:(l.any λy=>(f y).val false)=true
  ·simp[bb]
  ·have:hO (λy=>(f y).val false) l 0=-1:=by
    have:∀ (l:List ak) (i:Int),¬(l.any λy=>(f y).val false)=true->hO (λy=>(f y).val false) l i=-1:=by
     intro l;induction l with
     | nil=>intro i _;rfl
     | cons x l aK=>
      intro i aB;simp only[List.any_cons,Bool.or_eq_true,not_or]at aB;simp only[hO,aB.1,Bool.false_eq_true,if_false];grind
    grind
   simp[bb,this]
 ·rfl
 ·rfl
 ·intro i G b W;subst W;have hw:=bA (n:=(i:Int)+1) (by omega) (by omega);refine⟨?_,λbf dc=>?_⟩
  ·obtain⟨b,W⟩:=aq _ (List.getElem_mem G);simp only[bW,cV G,if_true,dh G,cN G,A.bq,W,A.fC,A.aG,cj,hw];split<;>rfl
  grind
 simp
end
abbrev k0(e:ad):aL:=⟨.az (.slice e) (.fn e .bool),bw,λx=>x.1.length<2 ^ 63/\∀ y∈x.1,∃ b,x.2 y=A.pure b,λx=>hO (λy=>(x.2 y).val false) x.1 0⟩
theorem sR(e:ad)(x):A.le (yb e.df x) ((k0 e).sh x):=A.br λh=>Oj e.df x.1 x.2 h.1 h.2
abbrev je(e:ad):aL:=⟨.az (.slice e) (.fn e .bool),de,λx=>x.1.length<2 ^ 63/\∀ y∈x.1,∃ b,x.2 y=A.pure b,λx=>x.1.any λy=>(x.2 y).val false⟩
theorem sS(e:ad)(x):A.le (D_ (k0 e).sh x) ((je e).sh x):=A.br λh=>by
 unfold D_;simp only[aL.sh,k0,A.dv];rw[A.bu (by exact h)];exact congrArg A.pure (AE (λy=>(x.2 y).val false) x.1 0 (by omega))
abbrev wq(e:ad):aL:=⟨.az e (.bI (.fn e .bool)),de,λx=>∃ f,x.2=some f/\∃ b,f x.1=A.pure b,λx=>!((x.2.getD λ_=>A.fail) x.1).val false⟩
theorem EC(e:ad)(x):A.le (Zj x) ((wq e).sh x):=A.br λh=>by
 obtain⟨y,o⟩:=x;obtain⟨f,aq,b,W⟩:=h;change o=some f at aq;subst aq;change f y=A.pure b at W;unfold Zj;simp_all
abbrev jz(e:ad):aL:=⟨.az (.slice e) (.fn e .bool),de,λx=>x.1.length<2 ^ 63/\∀ y∈x.1,∃ b,x.2 y=A.pure b,λx=>x.1.all λy=>(x.2 y).val false⟩
theorem ED(e:ad)(x):A.le (Zi (je e).sh (wq e).sh x) ((jz e).sh x):=A.br λh=>by
 obtain⟨l,f⟩:=x;obtain⟨E,U⟩:=h;unfold Zi;have hc:∀ y∈l,(wq e).sh (y,some f)=A.pure (!(f y).val false):=λy aR=>by
  obtain⟨b,W⟩:=U y aR;exact A.bS ⟨f,rfl,b,W⟩ _
 simp only[aL.sh,je,A.dv];rw[A.bu ⟨E,λy aR=>⟨_,hc y aR⟩⟩];refine congrArg A.pure ?_;rw[List.not_any_eq_all_not];simp
end Go.Fer
namespace Go.Fer
open A (V)
theorem Iw{ak:Type}{p q:ak->Bool}:∀ {l:List ak},(∀ x∈l,p x=q x)->l.all p=l.all q
 | [],_=>rfl
 | x::l,h=>by
  grind
theorem aov(x):A.le (ajS x) (cg.sh x):=A.br λ_=>rfl
theorem aow(x):A.le (ajT cg.sh x) (o0.sh x):=A.br λ_=>Y9 x
abbrev yt:aL:=⟨bw,de,λ_=>True,qE⟩
theorem aox(x):A.le (VG cg.sh x) (yt.sh x):=A.br λ_=>by
 unfold VG;simp only[aL.sh,cg,A.dv,A.bq,yt,qE]
theorem aoy(x):A.le (ajP cg.sh x) (pK.sh x):=A.br λh=>Y7 x.1 x.2 h
theorem aoz(x):A.le (VE cg.sh x) (rJ.sh x):=A.br λh=>by
 obtain⟨w,m,k⟩:=x;change gg w at h;have:=Y8 w m k h;unfold HG at this;unfold VE;simp only[aL.sh,Ba,A.dv,A.bu h,cg,A.bq,bW]at this ⊢;have aj:=h.2.1;have hw:=bA (n:=(w.2.1.length:Int) - 1) (by omega) (by omega);simp only[hw,rI];exact this
theorem aoA(x):A.le (ajR x) (uH.sh x):=A.br λh=>Y_ x h
theorem aoB(l:z1')(n:Int)(h:l.length<2 ^ 63):NJ (l,n)=A.pure (hO (λy=>decide (n=y)) l 0):=by
 unfold NJ;rw[A.f' l (λi (b:Int)=>(l,n,(l.length:Int),b,())) (λy (i:Int)=>if decide (n=y)=true then (.done (.done i):V Int (V Unit Int)) else .next (i+1)) (λ_=>.next ()) (λi b=>b=(i:Int)) 0 ?_ ?_ ?_ ?_]
 ·rw[AF (λy=>decide (n=y))];by_cases bb:(l.any λy=>decide (n=y))=true
  ·simp_all
  ·rw[if_neg bb,D' l 0 bb];simp
 ·rfl
 ·rfl
 ·intro i G b W;subst W;have hw:=bA (n:=(i:Int)+1) (by omega) (by omega);refine⟨?_,λbf dc=>?_⟩
  ·simp only[bW,cV G,if_true,dh G,cN G,A.bq,A.aG,cj,hw];split<;>rfl
  grind
 simp
abbrev Ix:aL:=⟨.az fF bw,bw,λx=>x.1.length<2 ^ 63,λx=>hO (λy=>decide (x.2=y)) x.1 0⟩
theorem aoC(x):A.le (NJ x) (Ix.sh x):=A.br λh=>aoB x.1 x.2 h
theorem aoD(x):A.le (VB Ix.sh x) (mH.sh x):=A.br λh=>by
 unfold VB;simp only[aL.sh,Ix,A.dv];rw[A.bu (by exact h),AE _ _ _ (by omega)];grind
theorem aoE(x):A.le (VF yt.sh o0.sh x) ((⟨kI,de,λ_=>True,rK⟩:aL).sh x):=A.br λ_=>by
 unfold VF;simp only[aL.sh,yt,o0,A.dv,A.jd,A.bq,implies_true,vN,rK]
abbrev Iy:aL:=⟨kI,de,λ_=>True,rK⟩
theorem aoF(x):A.le (VH uH.sh (jz bw).sh yt.sh o0.sh x) (s9.sh x):=A.br λh=>by
 unfold VH;simp only[aL.sh,uH,o0,jz,yt,A.dv,A.jd,A.bq,implies_true,A.gA];rw[A.bu (by exact λ_=>⟨h,λy _=>⟨_,A.bS trivial _⟩⟩),A.bu (by omega)];simp only[vN,bW];refine congrArg A.pure ?_;show _=pL x;unfold pL;grind
abbrev Bf:aL:=⟨.az k4 (.bI (.fn qC .bool)),de,λx=>∃ f,x.2=some f/\x.1.length<2 ^ 63/\∀ y∈x.1,∃ b,f y=A.pure b,λx=>decide ((x.1.length:Int)<=4)&&x.1.all λy=>((x.2.getD λ_=>A.fail) y).val false⟩
theorem aoG(x):A.le (VI (jz qC).sh x) (Bf.sh x):=A.br λh=>by
 obtain⟨m,o⟩:=x;obtain⟨f,aq,E,U⟩:=h;change o=some f at aq;subst aq;unfold VI;simp only[aL.sh,jz,A.dv,A.jd,Option.getD_some];simp_all
abbrev Bg:aL:=⟨.az jW (.bI iv),de,λx=>∃ w,x.2=some w/\gg w,λx=>rL (x.2.getD ([],[],0,[])) x.1⟩
theorem aoH(x):A.le (VJ pK.sh rJ.sh cg.sh x) (Bg.sh x):=A.br λh=>by
 obtain⟨t,o⟩:=x;obtain⟨w,aq,E⟩:=h;change o=some w at aq;subst aq;unfold VJ;simp only[aL.sh,pK,rJ,cg,A.dv,A.jd,Option.getD_some,A.bu E,E,implies_true,A.bq,vN,Bg,rL]
theorem aoI(x):A.le (VD cg.sh (jz kI).sh (jz k4).sh (jz jW).sh Bf.sh Bg.sh Iy.sh s9.sh x) (s_.sh x):=A.br λh=>by
 have aY:gg x:=h;obtain⟨E,U,ag,a6⟩:=(h:gg x)
 unfold VD;have d1:∀ s,Iy.sh s=A.pure (rK s):=λ_=>rfl;have d2:∀ m∈x.2.1,Bf.sh (m,some s9.sh)=A.pure (pM m):=λm hm=>by
  refine (A.bS ⟨_,rfl,(a6 m hm).1,λy aR=>⟨_,A.bS ((a6 m hm).2 y aR) _⟩⟩ _).trans (congrArg A.pure ?_);simp only[Bf,Option.getD_some,pM,aL.sh,A.gA];grind
 have d3:∀ t,Bg.sh (t,some x)=A.pure (rL x t):=λt=>A.bS ⟨_,rfl,aY⟩ _;have b9:(x.1.all λy=>(Iy.sh y).val false)=x.1.all rK:=Iw λs _=>A.gA;have a2:(x.2.1.all λy=>(Bf.sh (y,some s9.sh)).val false)=x.2.1.all pM:=Iw λm hm=>(congrArg (λz:A Bool=>z.val false) (d2 m hm)).trans A.fC;have a3:(x.2.2.2.all λy=>(Bg.sh (y,some x)).val false)=x.2.2.2.all (rL x):=Iw λt _=>A.gA;have ax:∀ y,(jz kI).sh y=A.dS ((jz kI).pre y) ((jz kI).g y):=λ_=>rfl;have aO:∀ y,(jz k4).sh y=A.dS ((jz k4).pre y) ((jz k4).g y):=λ_=>rfl;have cF:∀ y,(jz jW).sh y=A.dS ((jz jW).pre y) ((jz jW).g y):=λ_=>rfl;have ee:∀ y,cg.sh y=A.pure (cg.g y):=λ_=>rfl;simp only[ax,aO,cF,ee,A.dv,A.jd,A.kF,A.aG];rw[A.bu (by grind),A.bu (by grind),A.bu (by exact λ_=>⟨ag,λy _=>⟨_,d3 y⟩⟩)];simp only[vN,bW];refine congrArg A.pure ?_;show _=jX x;rw[b9,a2,a3];unfold jX s8;grind
def o2(m:z5')(k:Int×Int×Int):Option Int:=Option.map (λx=>x.2) (List.find? (λp=>decide (k.1=p.1.1)&&(decide (k.2.1=p.1.2.1)&&decide (k.2.2=p.1.2.2))) m)
def uO(m:z4')(k:Int):Option Int:=Option.map (λx=>x.2) (List.find? (λp=>decide (k=p.1)) m)
theorem Iz{a b:Int×Int×Int}:(decide (a.1=b.1)&&(decide (a.2.1=b.2.1)&&decide (a.2.2=b.2.2)))=decide (a=b):=by
 grind
theorem aoJ(k):o2 [] k=none:=rfl
theorem Zk(k:Int×Int×Int)(v:Int)(k':Int×Int×Int):∀ m,o2 (vP m k v) k'=if k'=k then some v else o2 m k'
 | []=>by
  show o2 [(k,v)] k'=_;by_cases h:k'=k<;>simp[o2,Iz,h]
 | p::m=>by
  have aK:=Zk k v k' m;show o2 (if (decide (k.1=p.1.1)&&(decide (k.2.1=p.1.2.1)&&decide (k.2.2=p.1.2.2)))=true then (p.1,v)::m else p::vP m k v) k'=_;rw[Iz];by_cases h:k=p.1
  ·subst h;by_cases dt:k'=p.1<;>simp[o2,Iz,dt]
  ·simp only[h,decide_false,Bool.false_eq_true,if_false];simp only[o2,Iz,List.find?_cons]at aK ⊢;grind
theorem Zl(k v k':Int):∀ m,uO (fe m k v) k'=if k'=k then some v else uO m k'
 | []=>by
  show uO [(k,v)] k'=_;by_cases h:k'=k<;>simp[uO,h]
 | p::m=>by
  have aK:=Zl k v k' m;show uO (if decide (k=p.1)=true then (p.1,v)::m else p::fe m k v) k'=_;by_cases h:k=p.1
  ·subst h;by_cases dt:k'=p.1<;>simp[uO,dt]
  ·simp only[h,decide_false,Bool.false_eq_true,if_false];simp only[uO,List.find?_cons]at aK ⊢;grind
def pP(t:k5):Int×Int×Int:=(t.1,t.2.1,t.2.2.1)
theorem IA{a b:k5}:np a b=true<->pP a=pP b/\a.2.2.2≠b.2.2.2:=by
 simp only[np,Bool.and_eq_true,decide_eq_true_eq,pP,Prod.mk.injEq];omega
theorem Zm(l:List k5):l2 l=true<->l.Pairwise λa b=>np a b=false:=by
 unfold l2;rw[List.pairwise_iff_getElem];simp only[List.all_eq_true,List.mem_range,Bool.not_eq_true'];grind
def IB(m:z5')(pre:List k5):Prop:=∀ k v,o2 m k=some v<->(∃ t∈pre,pP t=k/\t.2.2.2=v)
def EE(m:z5')(t:k5):Bool:=Option.isSome (o2 m (pP t))&&decide (Option.getD (o2 m (pP t)) 0≠t.2.2.2)
theorem Zn{m pre}(h:IB m pre)(ao:pre.Pairwise λa b=>np a b=false)(t:k5):EE m t=true<->∃ a∈pre,np a t=true:=by
 unfold EE;cases aj:o2 m (pP t) with
 | none=>
  simp only[Option.isSome_none,Bool.false_and,Bool.false_eq_true,false_iff];rintro⟨a,bb,hc⟩;have:=(h (pP t) a.2.2.2).2 ⟨a,bb,(IA.1 hc).1,rfl⟩;grind
 | some v=>
  simp only[Option.isSome_some,Bool.true_and,Option.getD_some,decide_eq_true_eq];obtain⟨b,W,an,ae⟩:=(h _ _).1 aj;constructor
  ·intro eO;exact⟨b,W,IA.2 ⟨an,by omega⟩⟩
  ·rintro⟨a,bb,hc⟩ rfl;obtain⟨bF,c2⟩:=IA.1 hc;have:=(h (pP t) a.2.2.2).2 ⟨a,bb,bF,rfl⟩;grind
theorem aoK{m pre}(h:IB m pre){t:k5}(W:∀ a∈pre,np a t=false):IB (vP m (pP t) t.2.2.2) (pre++[t]):=by
 intro k v;rw[Zk];by_cases an:k=pP t
 ·rw[if_pos an];constructor
  ·grind
  ·rintro⟨a,bb,E,U⟩;rcases List.mem_append.1 bb with bb | bb
   ·have hc:=W a bb;have:¬np a t=true:=by grind
    rw[IA]at this;grind
   grind
 ·rw[if_neg an,h];grind
theorem Zo:∀ (cn:List k5) (m) (pre:List k5),IB m pre->(pre.Pairwise λa b=>np a b=false)->
  eZ (λt m=>if EE m t=true then (.done (.done 71):V _ (V Unit Int)) else .next (vP m (pP t) t.2.2.2)) (λ_=>.next ()) cn m=if l2 (pre++cn)=true then .next () else .done 71
 | [],m,pre,h,ao=>by
  have:=(Zm pre).2 ao;simp[eZ,this]
 | t::cn,m,pre,h,ao=>by
  simp only[eZ];by_cases W:EE m t=true
  ·simp only[W,if_true];obtain⟨a,bb,hc⟩:=(Zn h ao t).1 W;have:¬l2 (pre++t::cn)=true:=by
    rw[Zm,List.pairwise_append];grind
   grind
  ·have aB:∀ a∈pre,np a t=false:=λa bb=>by
    have:=λhc=>W ((Zn h ao t).2 ⟨a,bb,hc⟩);grind
   simp only[W,Bool.false_eq_true,if_false];have Cd:(pre++[t]).Pairwise λa b=>np a b=false:=by
    grind
   have:=Zo cn _ (pre++[t]) (aoK h aB) Cd;grind
theorem aoL(w:a_)(h:gg w):NK s_.sh w=A.pure (cx w):=by
 have aE:=h;obtain⟨E,U,ag,a6⟩:=h;unfold NK;simp only[aL.sh,s_,A.dv,A.bu aE];unfold cx;cases hw:jX w with
 | false=>simp
 | true=>
  simp only[Bool.not_true,Bool.false_eq_true,if_false,if_true];rw[A.du w.2.2.2 (λi (m:z5')=>(w.2.2.2,(w.2.2.2.length:Int),(i:Int),m,())) (λt m=>if EE m t=true then (.done (.done 71):V _ (V Unit Int)) else .next (vP m (pP t) t.2.2.2)) (λ_=>.next ()) [] ?_ ?_ ?_]
  ·rw[Zo w.2.2.2 [] [] (λk v=>by simp[aoJ]) (by simp)];simp only[List.nil_append];by_cases aI:l2 w.2.2.2=true<;>simp[aI]
  ·rfl
  ·intro i G m;have gR:=bA (n:=(i:Int)+1) (by omega) (by omega);simp only[bW,cV G,if_true,dh G,cN G,A.bq,A.aG,cj,gR];exact Vq (mk:=λm=>(w.2.2.2,(w.2.2.2.length:Int),(i:Int)+1,m,()))
  simp
theorem aoM(x):A.le (NK s_.sh x) (hs.sh x):=A.br λh=>aoL x h
theorem aoN(w:a_)(i n m k:Int)(hw:l_ w)(G:fG w i=true)(hm:iw w m k=true):VL cg.sh mH.sh (w,i,n,m,k)=A.pure (uJ w i n m k):=Zc w i n m k hw G hm
theorem aoO(x):A.le (VL cg.sh mH.sh x) (ta.sh x):=A.br λh=>aoN x.1 x.2.1 x.2.2.1 x.2.2.2.1 x.2.2.2.2 h.1 h.2.1 h.2.2
abbrev yu:aL:=⟨.az jW (.az (.bI bw) (.az (.bI iv) (.bI bw))),de,λx=>∃ i w n,x.2=(some i,some w,some n)/\l_ w/\fG w i=true/\iw w x.1.2.1 x.1.2.2.1=true,λx=>qF (x.2.2.1.getD ([],[],0,[])) (x.2.1.getD 0) (x.2.2.2.getD 0) x.1⟩
theorem aoP(x):A.le (VK ta.sh x) (yu.sh x):=A.br λh=>by
 obtain⟨t,o⟩:=x;obtain⟨i,w,n,aq,hw,G,hm⟩:=h;change o=_ at aq;subst aq;unfold VK;simp only[aL.sh,A.mD,A.gA,Option.getD_some,and_true,true_and,and_self,imp_self,A.bq,ne_eq];by_cases aI:t.1=i
 ·have ao:l_ w/\fG w i=true/\iw w t.2.1 t.2.2.1=true:=⟨hw,G,hm⟩
  simp[qF,aI,ao,A.bu ao]
 ·simp[qF,aI]
def pQ(w:a_):List (z1'):=(List.range w.1.length).map λ(i:Nat)=>fo w (i:Int)
def ix(w:a_)(b7:Bool):Option qx×Int:=if dN w b7≠0 then (none,dN w b7) else (some (w,pQ w),0)
abbrev Bh:aL:=⟨.az iv de,.az (.bI (.st (.az iv (.slice fF)))) bw,λx=>gg x.1,λx=>ix x.1 x.2⟩
theorem aoQ{w:a_}{i:Int}:fo w i=(ei (er w i).2.2.1 (er w i).2.2.2).filter λn=>w.2.2.2.all (qF w i n):=by
 unfold fo;refine List.filter_congr λn aB=>?_;rw[sM]at aB;simp[uK,aB]
theorem Zp{w:a_}:∀ (l:List Nat) (acc:List (z1')),eZ (λ(i:Nat) (acc:List (z1'))=>if decide (((fo w (i:Int)).length:Int)=0)=true then (.done (.done (none,(3:Int))):V _ (V (List Ip×List (List wk)×Int×List k5×List (z1')×Unit) (Option qx×Int))) else .next (acc++[fo w (i:Int)])) (λacc=>.next (w.1,w.2.1,w.2.2.1,w.2.2.2,acc,())) l acc
  =if (l.all λ(i:Nat)=>!decide (((fo w (i:Int)).length:Int)=0))=true then .next (w.1,w.2.1,w.2.2.1,w.2.2.2,acc++l.map (λ(i:Nat)=>fo w (i:Int)),()) else .done (none,3)
 | [],acc=>by simp[eZ]
 | i::l,acc=>by
  simp only[eZ,List.all_cons,List.map_cons];by_cases h:((fo w (i:Int)).length:Int)=0
  ·simp[h]
  ·simp only[h,decide_false,Bool.false_eq_true,if_false,Bool.not_false,Bool.true_and];rw[Zp l];simp
theorem aoR(w:a_)(b7:Bool)(h:gg w):NO hs.sh (jz jW).sh yu.sh (w,b7)=A.pure (ix w b7):=by
 unfold NO ix dN;simp only[aL.sh,A.dv,A.bu h];by_cases hc:cx w=0
 ·have hw:l_ w:=⟨h,Bd hc⟩
  have Zf:=wo hw.2;simp only[hc,ne_eq,not_true,decide_false,Bool.false_eq_true,if_false];cases b7 with
  | false=>simp
  | true=>
   simp only[Bool.not_true,Bool.false_eq_true,if_false,Bool.true_eq_false];rw[A.f' (List.range w.1.length) (λi (acc:List (z1'))=>(w.1,(w.1.length:Int),(i:Int),w,w.1,w.2.1,w.2.2.1,w.2.2.2,acc,())) (λ(i:Nat) (acc:List (z1'))=>if decide (((fo w (i:Int)).length:Int)=0)=true then (.done (.done (none,(3:Int))):V _ (V (List Ip×List (List wk)×Int×List k5×List (z1')×Unit) (Option qx×Int))) else .next (acc++[fo w (i:Int)])) (λacc=>.next (w.1,w.2.1,w.2.2.1,w.2.2.2,acc,())) (λi acc=>acc.length<=i) [] ?_ ?_ ?_ ?_]
   ·rw[Zp];have e:((List.range w.1.length).all λ(i:Nat)=>!decide (((fo w (i:Int)).length:Int)=0))=pN w:=rfl;rw[e];by_cases aI:pN w=true<;>simp[aI,pQ]
   ·rfl
   ·simp
   ·intro i G acc Pm;have G:i<w.1.length:=by grind
    have n3:=Ze G;have aj:=Pl hw.2 n3;have gR:=bA (n:=(i:Int)+1) (by omega) (by omega);have aC:w.1[i]=er w (i:Int):=by simp[er,List.getD_eq_getElem?_getD,G]
    refine⟨?_,λbf W=>?_⟩
    ·simp only[bW,cV G,if_true,dh G,cN G,A.bq,aC,List.getElem_range];rw[A.f' (ei (er w (i:Int)).2.2.1 (er w (i:Int)).2.2.2) (λk (l:z1')=>(w.1,(w.1.length:Int),(i:Int),w,(i:Int),er w (i:Int),l,(er w (i:Int)).2.2.1+(k:Int),w.1,w.2.1,w.2.2.1,w.2.2.2,acc,())) (λn l=>.next (if w.2.2.2.all (qF w (i:Int) n)=true then l++[n] else l)) (λl=>.next (w.1,(w.1.length:Int),(i:Int),w,l,w.1,w.2.1,w.2.2.1,w.2.2.2,acc,())) (λk l=>l.length<=k) [] ?_ ?_ ?_ ?_]
     ·rw[dQ,Np];simp only[A.aG,A.bZ,List.nil_append];rw[<-aoQ];by_cases bl:((fo w (i:Int)).length:Int)=0
      ·simp[bl]
      ·have kS:bQ (acc.length+(0+1)):=by unfold bQ;omega
       simp_all
     ·simp
     ·simp
     ·intro k an l Is;have rD:k<1000:=by rw[sL]at an;omega
      have qb:(er w (i:Int)).2.2.1+(k:Int)<=(er w (i:Int)).2.2.2:=by rw[sL]at an;omega
      have yr:=bA (n:=(er w (i:Int)).2.2.1+((k:Int)+1)) (by omega) (by omega);have kS:bQ (l.length+(0+1)):=by unfold bQ;omega
      refine⟨?_,λbf W=>?_⟩
      ·have lR:∀ t∈w.2.2.2,yu.sh (t,some (i:Int),some w,some ((er w (i:Int)).2.2.1+(k:Int)))=A.pure (qF w (i:Int) ((er w (i:Int)).2.2.1+(k:Int)) t):=λt aI=>A.bS ⟨_,_,_,rfl,hw,n3,(Zb hw.2 aI).2⟩ _;simp only[qb,decide_true,if_true,Ar];rw[A.bu (by exact⟨h.2.2.1,λt aI=>⟨_,lR t aI⟩⟩)];have e:(w.2.2.2.all λy=>(A.dS (yu.pre (y,some (i:Int),some w,some ((er w (i:Int)).2.2.1+(k:Int)))) (yu.g (y,some (i:Int),some w,some ((er w (i:Int)).2.2.1+(k:Int))))).val false)=w.2.2.2.all (qF w (i:Int) ((er w (i:Int)).2.2.1+(k:Int))):=Iw λt aI=>A.gA;rw[e];by_cases W:w.2.2.2.all (qF w (i:Int) ((er w (i:Int)).2.2.1+(k:Int)))=true
       ·simp only[W,if_true,cj,hY,A.bu kS,A.aG,A.bZ,yr,V.hn,Int.natCast_add,Int.natCast_one,Int.add_assoc]
       ·simp only[W,Bool.false_eq_true,if_false,cj,hY,A.aG,A.bZ,yr,V.hn,Int.natCast_add,Int.natCast_one,Int.add_assoc]
      grind
     ·intro l Is;have:¬(er w (i:Int)).2.2.1+((ei (er w (i:Int)).2.2.1 (er w (i:Int)).2.2.2).length:Int)<=(er w (i:Int)).2.2.2:=by rw[sL];omega
      simp only[this,decide_false,Bool.false_eq_true,if_false,A.aG]
    grind
   simp
 grind
theorem aoS(x):A.le (NO hs.sh (jz jW).sh yu.sh x) (Bh.sh x):=A.br λh=>aoR x.1 x.2 h
theorem aoT(x):A.le (VM x) (Iv.sh x):=A.br λ_=>by
 unfold VM;simp only[Iu,decide_eq_true_eq];grind
theorem Zq(w:a_):(pQ w).length=w.1.length:=by simp[pQ]
theorem Pn{w:a_}{i:Int}(h:fG w i=true):List.getD (pQ w) i.toNat []=fo w i:=by
 rw[qD]at h;have:i.toNat<w.1.length:=by omega
 have e:((i.toNat:Nat):Int)=i:=by omega
 simp[pQ,List.getD_eq_getElem?_getD,this,e]
abbrev aoU:ad:=.bI (.st (.az iv (.slice fF)))
def aoV(o:Option qx)(w:a_):Prop:=o=some (w,pQ w)/\l_ w
abbrev IC:aL:=⟨.az aoU (.az bw (.az bw bw)),bw,λx=>∃ w,aoV x.1 w/\fG w x.2.1=true/\iw w x.2.2.1 x.2.2.2=true,λx=>uM ((x.1.getD (([],[],0,[]),[])).1) x.2.1 x.2.2.1 x.2.2.2⟩
theorem aoW(w:a_)(i m k:Int)(hw:l_ w)(G:fG w i=true)(hm:iw w m k=true):NP ta.sh Iv.sh (some (w,pQ w),i,m,k)=A.pure (uM w i m k):=by
 unfold NP;have kS:=Zd hw G;have b5:0<=i/\i<((pQ w).length:Int):=by rw[Zq];exact qD.1 G
 simp only[Option.isSome_some,Option.getD_some,A.bq,bW,Pn G,A.bu b5];rw[A.f' (fo w i) (λj (n:Int)=>(some (w,pQ w),i,m,k,n,fo w i,((fo w i).length:Int),(j:Int),())) (λx n=>.next (if uJ w i x m k=true then n+1 else n)) (λn=>.next (some (w,pQ w),i,n,())) (λj n=>0<=n/\n<=(j:Int)) 0 ?_ ?_ ?_ ?_]
 ·rw[dQ,Zh];simp only[A.aG,A.bZ,Option.isSome_some,Option.getD_some,A.bq,A.bu b5,Pn G,aL.sh,A.dv,Int.zero_add];rfl
 ·rfl
 ·simp
 ·intro j aF n aB;have aoX:=bA (n:=(j:Int)+1) (by omega) (by omega);have Bi:=bA (n:=n+1) (by omega) (by omega);have ao:l_ w/\fG w i=true/\iw w m k=true:=⟨hw,G,hm⟩
  refine⟨?_,λbf W=>?_⟩
  ·simp only[cV aF,if_true,dh aF,cN aF,A.bq,Option.isSome_some,Option.getD_some,aL.sh,A.dv,A.bu ao,cj,Bi];cases uJ w i (fo w i)[j] m k<;>simp[aoX]
  grind
 simp
theorem aoY(x):A.le (NP ta.sh Iv.sh x) (IC.sh x):=A.br λh=>by
 obtain⟨o,i,m,k⟩:=x;obtain⟨w,⟨aq,hw⟩,G,hm⟩:=h;change o=_ at aq;subst aq;exact aoW w i m k hw G hm
theorem Zr{w:a_}{b7:Bool}(h:dN w b7=0):ix w b7=(some (w,pQ w),0):=by simp[ix,h]
theorem Zs{w:a_}{b7:Bool}(h:dN w b7≠0):ix w b7=(none,dN w b7):=by simp[ix,h]
theorem aoZ(w:a_)(i:Int)(h:gg w):NL Bh.sh pK.sh (w,i)=A.pure (rM w i):=by
 unfold NL rM;simp only[aL.sh,A.mD,A.gA,h,A.bq];by_cases an:dN w (fG w i)=0
 ·have hw:=Zg h an;have G:=(uL an).2.1;have ao:=aou (uL an).2.2 G;have kS:=Zd hw G;have gR:=bA (n:=((fo w i).length:Int) - 1) (by omega) (by omega);have ax:(((fo w i).length:Int) - 1).toNat=(fo w i).length - 1:=by omega
  have sI:0<=i/\i<((pQ w).length:Int):=by rw[Zq];exact qD.1 G
  have b5:(0:Int)<=0/\(0:Int)<((fo w i).length:Int):=by omega
  have cw:(0:Int)<=((fo w i).length:Int) - 1/\((fo w i).length:Int) - 1<((fo w i).length:Int):=by omega
  simp only[Zr an,an,ne_eq,not_true,decide_false,Bool.false_eq_true,if_false,Option.isSome_some,Option.getD_some,A.bq,bW,Pn G,A.bu sI,gR,ax,A.bu cw];simp_all
 ·simp[Zs an,an]
theorem ao0(x):A.le (NL Bh.sh pK.sh x) (tb.sh x):=A.br λh=>aoZ x.1 x.2 h
theorem ao1(w:a_)(i m k:Int)(h:gg w):NM Bh.sh pK.sh rJ.sh IC.sh (w,i,m,k)=A.pure (pO w i m k):=by
 unfold NM pO;simp only[aL.sh,A.mD,A.gA,h,A.bq,and_true,and_self,imp_self,true_and];by_cases an:dN w (fG w i&&iw w m k)=0
 ·have hw:=Zg h an;have G:=(uL an).2.1;simp only[Bool.and_eq_true]at G;simp only[Zr an,an,ne_eq,not_true,decide_false,Bool.false_eq_true,if_false,A.dv];rw[A.bu (by exact⟨w,⟨rfl,hw⟩,G.1,G.2⟩)];rfl
 ·simp[Zs an,an]
theorem ao2(x):A.le (NM Bh.sh pK.sh rJ.sh IC.sh x) (uN.sh x):=A.br λh=>ao1 x.1 x.2.1 x.2.2.1 x.2.2.2 h
theorem Po{n:Int}(E:0<=n)(U:n<18446744073709551616):IntKind.u64.wrap n=n:=by
 show (if (false&&decide (n % 2 ^ 64>=(2 ^ (64 - 1):Int)))=true then n % 2 ^ 64 - 2 ^ 64 else n % 2 ^ 64)=n;grind
theorem Pp:∀ (n:Nat) (l:z1'),l.Nodup->(∀ x∈l,0<=x/\x<(n:Int))->l.length<=n
 | 0,l,_,h=>by
  cases l with
  | nil=>simp
  | cons x l=>have:=h x (by simp);omega
 | n+1,l,aB,h=>by
  have U:=Pp n (l.erase (n:Int)) (aB.erase _) λx ah=>by
   grind
  grind
def ao3(l:z1'):Prop:=∀ x∈l,0<=x/\x<16
def Zt(l:z1'):Prop:=l.Nodup/\ao3 l
theorem Zt.len{l:z1'}(h:Zt l):l.length<=16:=Pp 16 l h.1 h.2
theorem A.ao4{D aJ:Type}{body:D->A (V D aJ)}{p:aJ->Prop}{s0:D}(n:Nat)(I:Nat->D->Prop)(aY:I 0 s0)
  (aE:∀ i,i<n->∀ s,I i s->A.cy (body s) λst=>match st with | .next s'=>I (i+1) s' | .done r=>p r)
  (aq:∀ s,I n s->A.cy (body s) λst=>match st with | .next _=>False | .done r=>p r):A.cy (A.loop body s0) p:=by
 have key:∀ k i s,n - i=k->i<=n->I i s->A.cy (A.loop body s) p:=by
  intro k;induction k with
  | zero=>
   intro i s an G h;have:i=n:=by omega
   subst this;rw[A.BS,A.gh];refine (aq s h).mono λy aR=>?_;cases y with
   | next s'=>grind
   | done r=>exact A.eb.2 aR
  | succ k aK=>
   intro i s an G h;rw[A.BS,A.gh];refine (aE i (by omega) s h).mono λy aR=>?_;cases y with
   | next s'=>grind
   | done r=>exact A.eb.2 aR
 grind
def Pq(x:Int×Int):Int:=IntKind.wrap .u64
 (Add.add (IntKind.wrap .u64 (Add.add (IntKind.wrap .u64 (jj .u64 x.1 32*jj .u64 x.2 32)) (jj .u64 (IntKind.wrap .u64 (Add.add (IntKind.wrap
 .u64 (jj .u64 x.1 32*lO .u64 x.2 4294967295)) (jj .u64 (IntKind.wrap .u64 (lO .u64 x.1 4294967295*lO .u64 x.2 4294967295)) 32))) 32)))
 (jj .u64 (IntKind.wrap .u64 (Add.add (lO .u64 (IntKind.wrap .u64 (Add.add (IntKind.wrap .u64 (jj .u64 x.1 32*lO .u64 x.2 4294967295)) (jj
 .u64 (IntKind.wrap .u64 (lO .u64 x.1 4294967295*lO .u64 x.2 4294967295)) 32))) 4294967295) (IntKind.wrap .u64 (lO .u64 x.1 4294967295*jj
 .u64 x.2 32)))) 32))
def ID:Nat->Bool
 | 0=>true
 | n+1=>decide (Pq (1,(n:Int))=0)&&ID n
theorem Zu:∀ (N n:Nat),ID N=true->n<N->Pq (1,(n:Int))=0
 | 0,n,_,h=>by omega
 | N+1,n,hc,h=>by
  simp only[ID,Bool.and_eq_true,decide_eq_true_eq]at hc;by_cases e:n=N
  ·grind
  ·exact Zu N n hc.2 (by omega)
def Pr(work:z1')(s:Int):z1':=((List.range work.length).filter λj=>decide (work.getD j 0=s)).map λ(j:Nat)=>(j:Int)
theorem ao5{ak β aJ:Type}{f:ak->β->V β aJ}{fin:β->aJ}(I:Nat->β->Prop)(Q:aJ->Prop)(l:List ak)(b:β)(aY:I 0 b)
  (aE:∀ i (h:i<l.length) b,I i b->match f l[i] b with | .next bf=>I (i+1) bf | .done r=>Q r) (aq:∀ b,I l.length b->Q (fin b)):Q (eZ f fin l b):=by
 have key:∀ (k:Nat) (r:List ak) (b:β),k<=l.length->r=l.drop k->I k b->Q (eZ f fin r b):=by
  intro k r;induction r generalizing k with
  | nil=>
   intro b an M eB;have:k=l.length:=by have:=congrArg List.length M;grind
   subst this;exact aq b eB
  | cons x r aK=>
   intro b an M eB;have cc:k<l.length:=by
    grind
   rw[List.drop_eq_getElem_cons cc]at M;injection M with ah M
   have E:=aE k cc b eB;rw[<-ah]at E;simp only[eZ];grind
 grind
def cT(m:z4')(k:Int):Int:=(uO m k).getD 0
theorem ao6(m:z4')(k:Int):Option.getD (Option.map (λx=>x.2) (List.find? (λp=>decide (k=p.1)) m)) 0=cT m k:=rfl
theorem Bj(k v k':Int)(m:z4'):cT (fe m k v) k'=if k'=k then v else cT m k':=by
 unfold cT;rw[Zl];grind
def rN(n:Nat)(m:z4'):Nat:=(List.range n).countP λ(s:Nat)=>decide (cT m (s:Int)=0)
theorem Zv{p q:Nat->Bool}{s:Nat}(h:∀ x,x≠s->p x=q x)(ao:p s=true)(bt:q s=false):∀ (l:List Nat),l.Nodup->s∈l->l.countP p=l.countP q+1
 | [],_,aE=>by cases aE
 | x::l,aB,aE=>by
  rw[List.nodup_cons]at aB;rw[List.countP_cons,List.countP_cons];by_cases e:x=s
  ·subst e;have:l.countP p=l.countP q:=List.countP_congr λy aR=>by
    grind
   grind
  ·have:=Zv h ao bt l aB.2 (by grind);grind
theorem Zw{n:Nat}{m:z4'}{s v:Int}(aY:0<=s)(aB:s<(n:Int))(hm:cT m s=0)(ae:v≠0):rN n m=rN n (fe m s v)+1:=by
 unfold rN;refine Zv (s:=s.toNat) (λx ah=>?_) ?_ ?_ _ List.nodup_range (by grind)
 ·rw[Bj,if_neg (by omega)]
 ·grind
 ·rw[Bj,if_pos (by omega)];grind
theorem Zx{n:Nat}{a b:z4'}(h:∀ k,0<=cT a k/\cT a k<=cT b k):rN n b<=rN n a:=by
 unfold rN;refine List.countP_mono_left λx _ ah=>?_;grind
abbrev k6:=z1'×z4'
def V.uP{β aJ js:Type}(g:aJ->js):V β aJ->V β js
 | .next b=>.next b
 | .done r=>.done (g r)
def yv{ak β aJ:Type}(f:ak->β->V β aJ):List ak->β->V β aJ
 | [],b=>.next b
 | x::l,b=>match f x b with
  | .next bf=>yv f l bf
  | .done r=>.done r
def V.fin{β aJ:Type}(n:β->aJ):V β aJ->aJ
 | .next b=>n b
 | .done r=>r
theorem Ps{ak β aJ:Type}{f:ak->β->V β aJ}{n:β->aJ}:∀ (l:List ak) (b:β),eZ f n l b=V.fin n (yv f l b)
 | [],b=>rfl
 | x::l,b=>by
  simp only[eZ,yv];cases f x b with
  | next bf=>exact Ps l bf
  | done r=>rfl
theorem Zy{ak β aJ js:Type}{f:ak->β->V β aJ}{g:aJ->js}:∀ (l:List ak) (b:β),yv (λx b=>V.uP g (f x b)) l b=V.uP g (yv f l b)
 | [],b=>rfl
 | x::l,b=>by
  simp only[yv];cases f x b with
  | next bf=>exact Zy l bf
  | done r=>rfl
def Pt(w:a_):Prop:=w.1.length<=2000000/\w.2.1.length<=2000000/\w.2.2.2.length<=2000000/\∀ m∈w.2.1,m.length<=2000000/\∀ s∈m,s.2.1.length<=2000000
abbrev vW:aL:=⟨iv,iv,Pt,λw=>w⟩
theorem ao7(w:a_)(h:Pt w):Nu w=A.pure w:=by
 obtain⟨E,U,ag,a6⟩:=h;unfold Nu;have b5:bQ (0+w.1.length):=by unfold bQ;omega
 have cw:bQ (0+w.2.2.2.length):=by unfold bQ;omega
 simp only[hY,A.bu b5,A.bu cw,List.nil_append];rw[A.f' w.2.1 (λi (bL:List (List (Int×z1'×Int×Int)))=>((i:Int),w,0,w.2.2.1,w.1,w.2.2.2,bL,())) (λm bL=>.next (bL++[m])) (λbL=>.next (0,w.2.2.1,w.1,w.2.2.2,bL,())) (λi bL=>bL.length<=i) [] ?_ ?_ ?_ ?_]
 ·rw[dQ,uq (g:=λm=>m)];simp
 ·rfl
 ·simp
 ·intro i G bL pt;have hm:=a6 w.2.1[i] (List.getElem_mem G);have km:=bA (n:=(i:Int)+1) (by omega) (by omega);have eg:bQ (0+w.2.1[i].length):=by have:=hm.1;unfold bQ;omega
  have lk:bQ (bL.length+(0+1)):=by unfold bQ;omega
  refine⟨?_,λbf dc=>?_⟩
  ·simp only[bW,cV G,if_true,cN G,A.bq,dh G,A.bu eg];rw[A.du w.2.1[i] (λk (_:Unit)=>((i:Int),(k:Int),w,0,w.2.2.1,w.1,w.2.2.2,w.2.1[i],bL,())) (λs u=>.next u) (λ_=>.next ((i:Int),w,0,w.2.2.1,w.1,w.2.2.2,w.2.1[i],bL,())) () ?_ ?_ ?_]
   ·rw[dQ];simp_all
   ·rfl
   ·intro k an u;have aE:=hm.2 _ (List.getElem_mem an);have Is:=hm.1;have l9:=bA (n:=(k:Int)+1) (by omega) (by omega);have ky:bQ (0+(w.2.1[i])[k].2.1.length):=by unfold bQ;omega
    have mV:(w.2.1[i]).set k ((w.2.1[i])[k].1,(w.2.1[i])[k].2.1,(w.2.1[i])[k].2.2)=w.2.1[i]:=List.set_getElem_self an;simp_all
   simp
  grind
 simp
theorem Ol(x):A.le (Nu x) (vW.sh x):=A.br λh=>ao7 x h
def yw(m:List (Int×z1'×Int×Int)):Bool:=decide ((m.length:Int) > 20)||m.any λs=>decide ((s.2.1.length:Int) > 20)
def k2(w:a_):Bool:=
 if (decide ((w.1.length:Int) > 40)||decide ((w.2.1.length:Int) > 40)||decide ((w.2.2.2.length:Int) > 60))=true then true
 else if w.2.1.any yw=true then true
 else if cx w≠0 then false
 else if (w.1.any λs=>decide (IntKind.i64.wrap (s.2.2.2 - s.2.2.1)>=50))=true then true
 else decide ((w.1.length:Int) > 6)||decide ((w.2.1.length:Int) > 4)||decide ((w.2.2.2.length:Int) > 10)
abbrev wh:aL:=⟨iv,de,gg,k2⟩
theorem ao8(w:a_)(h:gg w):NR hs.sh w=A.pure (k2 w):=by
 unfold NR k2;simp only[bW];by_cases E:(decide ((w.1.length:Int) > 40)||decide ((w.2.1.length:Int) > 40)||decide ((w.2.2.2.length:Int) > 60))=true
 ·grind
 ·rw[if_neg E,if_neg E];have aj:=h;obtain⟨dz,dP,ox,uQ⟩:=h;rw[A.du w.2.1 (λi (_:Unit)=>((i:Int),w,())) (λm u=>if yw m=true then .done (.done true) else .next u) (λ_=>.next (w,())) () ?_ ?_ ?_]
  ·rw[rz];by_cases U:w.2.1.any yw=true
   ·simp only[U,if_true,A.aG,A.py]
   ·simp only[U,Bool.false_eq_true,if_false,A.aG,A.bZ,aL.sh,A.dv,A.bu aj];by_cases ag:cx w=0
    ·simp only[ag,ne_eq,not_true,decide_false,Bool.false_eq_true,if_false];rw[A.du w.1 (λi (_:Unit)=>((i:Int),w,())) (λs u=>if decide (IntKind.i64.wrap (s.2.2.2 - s.2.2.1)>=50)=true then .done (.done true) else .next u) (λ_=>.next (w,())) () ?_ ?_ ?_]
     ·rw[rz];by_cases a6:(w.1.any λs=>decide (IntKind.i64.wrap (s.2.2.2 - s.2.2.1)>=50))=true
      ·simp_all
      ·simp only[a6,Bool.false_eq_true,if_false,A.aG,A.bZ]
     ·rfl
     ·intro i G u;have km:=bA (n:=(i:Int)+1) (by omega) (by omega);simp only[bW,cV G,if_true,cN G,A.bq,dh G,A.aG,cj,km];exact l3 (mk:=λ_:Unit=>((i:Int)+1,w,()))
     simp
    grind
  ·rfl
  ·intro i G u;have km:=bA (n:=(i:Int)+1) (by omega) (by omega);have hm:=uQ _ (List.getElem_mem G);simp only[bW,cV G,if_true,cN G,A.bq,dh G,A.aG];by_cases bM:decide ((w.2.1[i].length:Int) > 20)=true
   ·have aq:yw w.2.1[i]=true:=by unfold yw;grind
    simp_all
   ·have aq:yw w.2.1[i]=w.2.1[i].any λs=>decide ((s.2.1.length:Int) > 20):=by unfold yw;grind
    rw[if_neg bM];rw[A.du w.2.1[i] (λk (_:Unit)=>((i:Int),(k:Int),w,())) (λs u=>if decide ((s.2.1.length:Int) > 20)=true then .done (.done (.done (.done true))) else .next u) (λ_=>.next ((i:Int),w,())) () ?_ ?_ ?_]
    ·rw[rz,aq];by_cases dn:(w.2.1[i].any λs=>decide ((s.2.1.length:Int) > 20))=true
     ·simp_all
     ·simp only[dn,Bool.false_eq_true,if_false,A.aG,A.bZ,cj,km];rfl
    ·rfl
    ·intro k an u;have l9:=bA (n:=(k:Int)+1) (by omega) (by omega);simp only[cN G,A.bq,dh G,cV an,if_true,cN an,dh an,A.aG,cj,l9];exact l3 (mk:=λ_:Unit=>((i:Int),(k:Int)+1,w,()))
    simp_all
  simp
theorem ao9(x):A.le (NR hs.sh x) (wh.sh x):=A.br λh=>ao8 x h
def IE:a_:=([(1,2,300,310),(1,3,305,305),(2,1,50,60),(1,2,320,330)],[[(1,[2,3],300,306),(2,[1],40,58)],[(1,[2],310,326)]],5,[(0,1,0,0)])
abbrev Pu:aL:=⟨.cU,iv,λ_=>True,λ_=>IE⟩
theorem ao_(x):A.le (ajX x) (Pu.sh x):=A.br λ_=>rfl
theorem ao':gg IE:=by
 refine⟨by decide,by decide,by decide,?_⟩;intro m hm;simp only[IE,List.mem_cons,List.not_mem_nil,or_false]at hm;grind
abbrev nq:ad:=.st (.az bw (.az bw (.az bw (.az bw fF))))
abbrev mJ:ad:=.st (.az fF (.az mG (.az bw (.az bw bw))))
abbrev pR:ad:=.st (.az bw (.az bw bw))
abbrev k7:ad:=.st (.az iv (.az fF (.az (.slice nq) (.az (.slice mJ) (.az (.slice pR) bw)))))
def e8(s:bG):Prop:=gg s.1/\s.2.1.length<2 ^ 63/\s.2.2.1.length<2 ^ 63/\s.2.2.2.1.length<2 ^ 63/\s.2.2.2.2.1.length<2 ^ 63/\(∀ p∈s.2.2.1,p.2.2.2.2.length<2 ^ 63)/\∀ x∈s.2.2.2.1,x.1.length<2 ^ 63
def b4(n aZ G:Int):Bool:=decide (aZ<=n)&&decide (n<=G)
def jY(n:Int):Bool:=b4 n 0 99
def jZ(p:Int->Bool)(l:z1'):Bool:=(List.range l.length).all λi=>p (l.getD i 0)&&!(decide (0<i)&&decide (l.getD i 0<=l.getD (i - 1) 0))
def EF(w:a_)(m:Int)(n:Int):Bool:=decide (0<=n)&&decide (n<((iS w m).length:Int))
def pS(w:a_)(p:dk):Bool:=jY p.1&&jY p.2.1&&jY p.2.2.1&&n_ w p.2.2.2.1&&jZ (EF w p.2.2.2.1) p.2.2.2.2
def o3(x:dB):Bool:=b4 (x.1.length:Int) 1 8&&jZ jY x.1&&jY x.2.1.1&&jY x.2.1.2&&decide (x.2.1.1<=x.2.1.2)&&jY x.2.2.1&&jY x.2.2.2.1&&b4 x.2.2.2.2 0 100000
def o4(w:a_)(d:DV):Bool:=jY d.1&&fG w d.2.1&&b4 d.2.2 1 10
def nr(s:bG):Bool:=decide ((s.2.1.length:Int)=(s.1.1.length:Int))&&(s.2.1.all λn=>b4 n 0 10)&&decide ((s.2.2.1.length:Int)<=8)&&s.2.2.1.all (pS s.1)&&decide ((s.2.2.2.1.length:Int)<=6)&&s.2.2.2.1.all o3&&decide ((s.2.2.2.2.1.length:Int)<=8)&&s.2.2.2.2.1.all (o4 s.1)&&jY s.2.2.2.2.2
def iT(s:bG):Int:=if cx s.1≠0 then cx s.1 else if nr s=true then 0 else 80
theorem apa(x):A.le (aki x) (cg.sh x):=A.br λ_=>rfl
theorem apb(x):A.le (akc x) (cg.sh x):=A.br λ_=>rfl
abbrev rO:aL:=⟨bw,de,λ_=>True,jY⟩
theorem apc(x):A.le (V6 cg.sh x) (rO.sh x):=A.br λ_=>by
 unfold V6;simp[aL.sh,cg,jY,b4]
theorem apd(x):A.le (V_ cg.sh x) (rO.sh x):=A.br λ_=>by
 unfold V_;simp[aL.sh,cg,jY,b4]
abbrev IF:aL:=⟨.az fF (.fn bw .bool),de,λx=>x.1.length<2 ^ 63/\∀ y∈x.1,∃ b,x.2 y=A.pure b,λx=>jZ (λy=>(x.2 y).val false) x.1⟩
theorem ape(x):A.le (V7 x) (IF.sh x):=A.br λh=>by
 obtain⟨l,f⟩:=x;obtain⟨E,U⟩:=h;change l.length<2 ^ 63 at E;change ∀ y∈l,∃ b,f y=A.pure b at U;unfold V7;rw[A.du (List.range l.length) (λi (_:Unit)=>(l,f,l,(l.length:Int),(i:Int),())) (λi b=>if (!((f (l.getD i 0)).val false&&!(decide (0<i)&&decide (l.getD i 0<=l.getD (i - 1) 0))))=true then .done (.done false) else .next b) (λ_=>.next ()) () ?_ ?_ ?_]
 ·rw[kh (q:=λi=>(f (l.getD i 0)).val false&&!(decide (0<i)&&decide (l.getD i 0<=l.getD (i - 1) 0))) _ _ (λ_=>rfl)];show _=A.pure (jZ (λy=>(f y).val false) l);unfold jZ;cases (List.range l.length).all λi=>(f (l.getD i 0)).val false&&!(decide (0<i)&&decide (l.getD i 0<=l.getD (i - 1) 0))<;>simp
 ·rfl
 ·intro i G b;have G:i<l.length:=by grind
  have hw:=bA (n:=(i:Int)+1) (by omega) (by omega);have gX:=bA (n:=(i:Int) - 1) (by omega) (by omega);have aO:((i:Int) - 1).toNat=i - 1:=by omega
  obtain⟨c,hc⟩:=U _ (List.getElem_mem G);have jw:l.getD i 0=l[i]:=by grind
  have sW:(decide ((i:Int) > 0))=decide (0<i):=by simp
  simp only[bW,cV G,if_true,List.getElem_range,dh G,cN G,A.bq,jw,hc,A.fC,A.aG,cj,hw,gX,aO,sW];rw[A.bu (by grind)];cases c<;>cases (decide (0<i)&&decide (l[i]<=l.getD (i - 1) 0))<;>rfl
 simp
abbrev IG:aL:=⟨.az fF bw,de,λx=>x.1.length<2 ^ 63,λx=>jZ (λn=>b4 n 0 x.2) x.1⟩
theorem apf(x):A.le (Wb x) (IG.sh x):=A.br λh=>by
 obtain⟨l,m⟩:=x;change l.length<2 ^ 63 at h;unfold Wb;rw[A.du (List.range l.length) (λi (_:Unit)=>(l,m,(i:Int),())) (λi b=>if (!(b4 (l.getD i 0) 0 m&&!(decide (0<i)&&decide (l.getD i 0<=l.getD (i - 1) 0))))=true then .done (.done false) else .next b) (λ_=>.next ()) () ?_ ?_ ?_]
 ·rw[kh (q:=λi=>b4 (l.getD i 0) 0 m&&!(decide (0<i)&&decide (l.getD i 0<=l.getD (i - 1) 0))) _ _ (λ_=>rfl)];show _=A.pure (jZ (λn=>b4 n 0 m) l);unfold jZ;cases (List.range l.length).all λi=>b4 (l.getD i 0) 0 m&&!(decide (0<i)&&decide (l.getD i 0<=l.getD (i - 1) 0))<;>simp
 ·rfl
 ·intro i G b;have G:i<l.length:=by grind
  have hw:=bA (n:=(i:Int)+1) (by omega) (by omega);have gX:=bA (n:=(i:Int) - 1) (by omega) (by omega);have aO:((i:Int) - 1).toNat=i - 1:=by omega
  have jw:l.getD i 0=l[i]:=by grind
  have sW:(decide ((i:Int) > 0))=decide (0<i):=by simp
  simp only[bW,cV G,if_true,List.getElem_range,dh G,cN G,A.bq,jw,A.aG,cj,hw,gX,aO,sW];have sI:0<i->(0:Int)<=(i:Int) - 1/\(i:Int) - 1<(l.length:Int):=by omega
  generalize l.getD (i - 1) 0=B;generalize l[i]=aM;by_cases ik:aM<0<;>by_cases tT:aM > m<;>by_cases aY:0<i<;>by_cases aT:aM<=B<;>simp_all[b4,V.hn,A.bu]<;>(grind)<;>(grind)
 simp
theorem Pv{p q:Int->Bool}{l:z1'}(h:∀ y∈l,p y=q y):jZ p l=jZ q l:=by
 unfold jZ;grind
theorem apg(n:Int)(k:Nat):b4 n 0 ((k:Int) - 1)=(decide (0<=n)&&decide (n<(k:Int))):=by
 unfold b4;grind
theorem aph(a b:Int):decide (a > b)=!decide (a<=b):=by grind
abbrev EG:aL:=⟨.az bw (.az (.bI iv) (.bI nq)),de,λx=>∃ w p,x.2=(some w,some p)/\gg w/\n_ w p.2.2.2.1=true,λx=>EF (x.2.1.getD ([],[],0,[])) (x.2.2.getD (0,0,0,0,[])).2.2.2.1 x.1⟩
theorem api(x):A.le (V8 cg.sh x) (EG.sh x):=A.br λh=>by
 obtain⟨n,o⟩:=x;obtain⟨w,p,aq,hw,hm⟩:=h;change o=_ at aq;subst aq;unfold V8;have r:=Iq.1 hm;have aj:=Ir hw p.2.2.2.1;have gR:=bA (n:=((iS w p.2.2.2.1).length:Int) - 1) (by omega) (by omega);unfold iS at gR;simp only[aL.sh,cg,Option.getD_some,bW,r,and_self,A.bq,gR,A.dv,rI];rfl
abbrev EH:aL:=⟨.az nq (.bI iv),de,λx=>x.1.2.2.2.2.length<2 ^ 63/\∃ w,x.2=some w/\gg w,λx=>!pS (x.2.getD ([],[],0,[])) x.1⟩
theorem apj(x):A.le (V5 cg.sh rO.sh IF.sh EG.sh x) (EH.sh x):=A.br λh=>by
 obtain⟨p,o⟩:=x;obtain⟨ao,w,aq,hw⟩:=h;change o=_ at aq;change p.2.2.2.2.length<2 ^ 63 at ao;subst aq;unfold V5;have aj:=hw.2.1;have gR:=bA (n:=((w.2.1.length:Int)) - 1) (by omega) (by omega);have ax:(decide (0<=p.2.2.2.1)&&decide (p.2.2.2.1<(w.2.1.length:Int)))=n_ w p.2.2.2.1:=rfl;simp only[aL.sh,cg,Option.getD_some,bW,A.bq,gR,A.dv,A.jd,rI,implies_true,qw,ax];have key:n_ w p.2.2.2.1=true->(jZ (λy=>(A.dS (EG.pre (y,some w,some p)) (EG.g (y,some w,some p))).val false) p.2.2.2.2)=jZ (EF w p.2.2.2.1) p.2.2.2.2:=λhm=>Pv λy aR=>A.gA;rw[A.bu]
 ·show A.pure _=A.pure _;congr 1;show _=!pS w p;unfold pS;simp
 ·intro cW;have hm:n_ w p.2.2.2.1=true:=by
   grind
  exact⟨ao,λy aR=>⟨_,A.bS ⟨w,p,rfl,hw,hm⟩ _⟩⟩
abbrev EI:aL:=⟨mJ,de,λx=>x.1.length<2 ^ 63,λx=>!o3 x⟩
theorem apk(x):A.le (V9 cg.sh rO.sh IF.sh rO.sh x) (EI.sh x):=A.br λh=>by
 unfold V9;have key:(jZ (λy=>(A.dS (rO.pre y) (rO.g y)).val false) x.1)=jZ jY x.1:=Pv λy aR=>A.gA;simp only[aL.sh,cg,bW,A.bq,A.dv,A.jd,implies_true,qw];rw[A.bu]
 ·show A.pure _=A.pure (!o3 x);congr 1;unfold o3;rw[key];have e:decide (x.2.1.1 > x.2.1.2)=!decide (x.2.1.1<=x.2.1.2):=by grind
  rw[e];show _=!(b4 (x.1.length:Int) 1 8&&_&&_&&_&&_&&_&&_&&_);unfold b4;simp
 ·exact λ_=>⟨h,λy aR=>⟨_,A.bS trivial _⟩⟩
abbrev EJ:aL:=⟨.az pR (.bI iv),de,λx=>∃ w,x.2=some w/\gg w,λx=>!o4 (x.2.getD ([],[],0,[])) x.1⟩
theorem apl(x):A.le (V' cg.sh rO.sh x) (EJ.sh x):=A.br λh=>by
 obtain⟨d,o⟩:=x;obtain⟨w,aq,hw⟩:=h;change o=_ at aq;subst aq;unfold V';have aj:=hw.1;have gR:=bA (n:=((w.1.length:Int)) - 1) (by omega) (by omega);simp only[aL.sh,cg,Option.getD_some,bW,A.bq,gR,A.dv,A.jd,rI,implies_true,qw];show A.pure _=A.pure (!o4 w d);congr 1;unfold o4 fG b4;simp
abbrev EK:aL:=⟨bw,de,λ_=>True,λn=>!b4 n 0 10⟩
theorem apm(x):A.le (Wa cg.sh x) (EK.sh x):=A.br λ_=>by
 unfold Wa;simp[aL.sh,cg,b4]
theorem IH{ak:Type}{p q:ak->Bool}{l:List ak}(h:∀ x∈l,p x=!q x):l.any p=!l.all q:=by
 grind
abbrev Pw:aL:=⟨k7,de,e8,nr⟩
theorem apn(x):A.le (VY rO.sh (je bw).sh (je nq).sh (je mJ).sh (je pR).sh EH.sh EJ.sh EI.sh EK.sh x) (Pw.sh x):=A.br λh=>by
 obtain⟨E,U,ag,a6,bM,dn,fT⟩:=h;unfold VY;simp only[aL.sh,bW,A.bq,A.dv,A.jd,implies_true];have aQ:(x.2.1.any λy=>(A.dS (EK.pre y) (EK.g y)).val false)=!x.2.1.all λn=>b4 n 0 10:=IH λy _=>A.gA;have aS:(x.2.2.1.any λy=>(A.dS (EH.pre (y,some x.1)) (EH.g (y,some x.1))).val false)=!x.2.2.1.all (pS x.1):=IH λy _=>A.gA;have bP:(x.2.2.2.1.any λy=>(A.dS (EI.pre y) (EI.g y)).val false)=!x.2.2.2.1.all o3:=IH λy _=>A.gA;have gy:(x.2.2.2.2.1.any λy=>(A.dS (EJ.pre (y,some x.1)) (EJ.g (y,some x.1))).val false)=!x.2.2.2.2.1.all (o4 x.1):=IH λy _=>A.gA;rw[A.bu,A.bu,A.bu,A.bu]
 ·show A.pure _=A.pure (nr x);congr 1;unfold nr;grind
 ·exact λ_=>⟨bM,λy aR=>⟨_,A.bS ⟨_,rfl,E⟩ _⟩⟩
 ·exact λ_=>⟨a6,λy aR=>⟨_,A.bS (fT y aR) _⟩⟩
 ·exact λ_=>⟨ag,λy aR=>⟨_,A.bS ⟨dn y aR,_,rfl,E⟩ _⟩⟩
 ·exact λ_=>⟨U,λy aR=>⟨_,A.bS trivial _⟩⟩
abbrev pT:aL:=⟨k7,bw,e8,iT⟩
theorem apo(x):A.le (VR hs.sh Pw.sh x) (pT.sh x):=A.br λh=>by
 unfold VR;simp only[aL.sh,A.dv,A.bu h.1];show _=A.pure (iT x);unfold iT;by_cases hc:cx x.1=0
 ·simp only[hc,ne_eq,not_true,decide_false,Bool.false_eq_true,if_false,A.bu h];grind
 grind
abbrev II:aL:=⟨.az k7 nq,de,λx=>e8 x.1/\x.2.2.2.2.2.length<2 ^ 63,λx=>pS x.1.1 x.2⟩
theorem apq(x):A.le (VZ cg.sh IG.sh x) (II.sh x):=A.br λh=>by
 obtain⟨s,p⟩:=x;obtain⟨aE,ao⟩:=h;change e8 s at aE;change p.2.2.2.2.length<2 ^ 63 at ao;unfold VZ;have aj:=aE.1.2.1;have gw:=Ir aE.1 p.2.2.2.1;have gR:=bA (n:=((s.1.2.1.length:Int)) - 1) (by omega) (by omega);have yr:=bA (n:=((iS s.1 p.2.2.2.1).length:Int) - 1) (by omega) (by omega);unfold iS at yr;have ax:(decide (0<=p.2.2.2.1)&&decide (p.2.2.2.1<(s.1.2.1.length:Int)))=n_ s.1 p.2.2.2.1:=rfl;simp only[aL.sh,cg,bW,A.bq,gR,yr,A.dv,A.jd,rI,implies_true,qw,ax,A.mD,A.gA];show _=A.pure (pS s.1 p);unfold pS;have Ee:jZ (λn=>b4 n 0 (((List.getD s.1.2.1 (Int.toNat p.2.2.2.1) []).length:Int) - 1)) p.2.2.2.2=jZ (EF s.1 p.2.2.2.1) p.2.2.2.2:=Pv λy _=>apg y _;rw[Ee];cases hm:n_ s.1 p.2.2.2.1
 ·simp
 ·have r:=Iq.1 hm;rw[A.bu r,A.bu (by exact ao)];unfold jY b4;grind
abbrev IJ:aL:=⟨mJ,de,λx=>x.1.length<2 ^ 63,o3⟩
theorem apr(x):A.le (V0 cg.sh IG.sh x) (IJ.sh x):=A.br λh=>by
 unfold V0;simp only[aL.sh,cg,bW,A.bq,A.dv,A.jd,implies_true];rw[A.bu (by omega)];show A.pure _=A.pure (o3 x);congr 1;unfold o3;have Ee:jZ (λn=>b4 n 0 99) x.1=jZ jY x.1:=rfl;rw[Ee];unfold jY b4;grind
theorem aps(x):A.le (VS hs.sh cg.sh II.sh IJ.sh x) (pT.sh x):=A.br λh=>by
 have aE:=h;obtain⟨E,U,ag,a6,bM,dn,fT⟩:=h;unfold VS;simp only[aL.sh,A.dv,A.bu E];show _=A.pure (iT x);unfold iT;by_cases hc:cx x.1=0
 ·simp only[hc,ne_eq,not_true,decide_false,Bool.false_eq_true,if_false,cg,A.jd,A.dv,implies_true,A.bq,bW,qw,decide_not];have e:(!decide ((x.2.1.length:Int)=(x.1.1.length:Int))||decide ((x.2.2.1.length:Int) > 8)||decide ((x.2.2.2.1.length:Int) > 6)||decide ((x.2.2.2.2.1.length:Int) > 8)||!(decide (0<=x.2.2.2.2.2)&&decide (x.2.2.2.2.2<=99)))=!(decide ((x.2.1.length:Int)=(x.1.1.length:Int))&&decide ((x.2.2.1.length:Int)<=8)&&decide ((x.2.2.2.1.length:Int)<=6)&&decide ((x.2.2.2.2.1.length:Int)<=8)&&jY x.2.2.2.2.2):=by
   simp only[aph,jY,b4,Bool.not_and]
  rw[e];by_cases cW:(decide ((x.2.1.length:Int)=(x.1.1.length:Int))&&decide ((x.2.2.1.length:Int)<=8)&&decide ((x.2.2.2.1.length:Int)<=6)&&decide ((x.2.2.2.2.1.length:Int)<=8)&&jY x.2.2.2.2.2)=true
  ·rw[if_neg (by grind)]
   ·rw[A.du x.2.1 (λi (_:Unit)=>((i:Int),x,())) (λn b=>if (!b4 n 0 10)=true then .done (.done (80:Int)) else .next b) (λ_=>.next (x,())) () ?_ ?_ ?_]
    ·rw[kh (q:=λn=>b4 n 0 10) _ _ (λ_=>rfl)];cases ik:x.2.1.all λn=>b4 n 0 10 with
     | false=>simp[nr,ik]
     | true=>
      simp only[A.aG,if_true,A.bZ];rw[A.du x.2.2.1 (λi (_:Unit)=>((i:Int),x,())) (λp b=>if (!pS x.1 p)=true then .done (.done (80:Int)) else .next b) (λ_=>.next (x,())) () ?_ ?_ ?_]
      ·rw[kh (q:=pS x.1) _ _ (λ_=>rfl)];cases aT:x.2.2.1.all (pS x.1) with
       | false=>simp[nr,aT]
       | true=>
        simp only[A.aG,if_true,A.bZ];rw[A.du x.2.2.2.1 (λi (_:Unit)=>((i:Int),x,())) (λp b=>if (!o3 p)=true then .done (.done (80:Int)) else .next b) (λ_=>.next (x,())) () ?_ ?_ ?_]
        ·rw[kh (q:=o3) _ _ (λ_=>rfl)];cases jo:x.2.2.2.1.all o3 with
         | false=>simp[nr,jo]
         | true=>
          simp only[A.aG,if_true,A.bZ];rw[A.du x.2.2.2.2.1 (λi (_:Unit)=>((i:Int),x,())) (λp b=>if (!o4 x.1 p)=true then .done (.done (80:Int)) else .next b) (λ_=>.next ()) () ?_ ?_ ?_]
          ·rw[kh (q:=o4 x.1) _ _ (λ_=>rfl)];simp only[Bool.and_eq_true]at cW;cases Pj:x.2.2.2.2.1.all (o4 x.1)<;>simp[nr,ik,aT,jo,Pj,cW]
          ·rfl
          ·intro i G b;have hw:=bA (n:=(i:Int)+1) (by omega) (by omega);have aj:=E.1;have gR:=bA (n:=((x.1.1.length:Int)) - 1) (by omega) (by omega);simp only[bW,cV G,if_true,dh G,cN G,A.bq,A.aG,cj,hw,gR,qw,rI];have e:(!(decide (0<=(x.2.2.2.2.1[i]).1)&&decide ((x.2.2.2.2.1[i]).1<=99))||!(decide (0<=(x.2.2.2.2.1[i]).2.1)&&decide ((x.2.2.2.2.1[i]).2.1<(x.1.1.length:Int)))||!(decide (1<=(x.2.2.2.2.1[i]).2.2)&&decide ((x.2.2.2.2.1[i]).2.2<=10)))=!o4 x.1 x.2.2.2.2.1[i]:=by
            unfold o4 jY fG b4;simp
           rw[e];exact l3 (mk:=λ_:Unit=>((i:Int)+1,x,()))
          simp
        ·rfl
        ·intro i G b;have hw:=bA (n:=(i:Int)+1) (by omega) (by omega);simp only[bW,cV G,if_true,dh G,cN G,A.bq,A.aG,cj,hw,A.bu (show IJ.pre x.2.2.2.1[i] from fT _ (List.getElem_mem G))];exact l3 (mk:=λ_:Unit=>((i:Int)+1,x,()))
        simp
      ·rfl
      ·intro i G b;have hw:=bA (n:=(i:Int)+1) (by omega) (by omega);simp only[bW,cV G,if_true,dh G,cN G,A.bq,A.aG,cj,hw,A.mD,A.gA,A.bu (show II.pre (x,x.2.2.1[i]) from⟨aE,dn _ (List.getElem_mem G)⟩)];exact l3 (mk:=λ_:Unit=>((i:Int)+1,x,()))
      simp
    ·rfl
    ·intro i G b;have hw:=bA (n:=(i:Int)+1) (by omega) (by omega);simp only[bW,cV G,if_true,dh G,cN G,A.bq,A.aG,cj,hw];exact l3 (mk:=λ_:Unit=>((i:Int)+1,x,()))
    simp
  ·rw[if_pos (by grind)]
   ·have:nr x=false:=by
     unfold nr;grind
    grind
 grind
theorem apt:ID 201=true:=by decide +kernel
abbrev tc:aL:=⟨.az (.int .u64) (.int .u64),.az (.int .u64) (.int .u64),λx=>x.1=1/\0<=x.2/\x.2<=200,λx=>(0,x.2)⟩
theorem apu(x):A.le (VC x) (tc.sh x):=A.br λh=>by
 obtain⟨a,b⟩:=x;obtain⟨E,U,ag⟩:=h;change a=1 at E;change 0<=b at U;change b<=200 at ag;subst E;have aY:=Zu 201 b.toNat apt (by omega);rw[Int.toNat_of_nonneg U]at aY;have hw:=Po (n:=1*b) (by omega) (by omega);have apv:((0:Int)<=32)=True:=by simp
 unfold VC;simp only[apv,A.bq];show A.pure (Pq (1,b),IntKind.wrap .u64 (1*b))=_;grind
theorem apw(apx)(x):A.le (VA apx tc.sh x) (tc.sh x):=A.br λh=>by
 unfold VA;simp only[aL.sh,A.dv];simp_all
section
variable {ak β:Type}
theorem apy(a d:ak)(m J:Nat)(E:1<=m)(U:m<J) :
  List.take m (List.replicate m a++List.replicate (J - m) d)++List.take (J - m) (List.take m (List.replicate m a++List.replicate (J - m) d))++
   List.drop (m+(List.take (J - m) (List.take m (List.replicate m a++List.replicate (J - m) d))).length) (List.replicate m a++List.replicate (J - m) d)
  =List.replicate (m+min (J - m) m) a++List.replicate (J - (m+min (J - m) m)) d:=by
 have ax:List.take m (List.replicate m a++List.replicate (J - m) d)=List.replicate m a:=by
  simp
 rw[ax,List.take_replicate,List.replicate_append_replicate,List.length_replicate,List.drop_append,List.length_replicate];have aO:List.drop (m+min (J - m) m) (List.replicate m a)=[]:=by simp
 grind
def Zz(d:ak)(fin:List ak->A β)(x9:Int×Int->A (Int×Int))(x:List ak)(n:Int):A β:=
 A.bind (if decide (n<0)=true then A.ab False (A.ab False (A.pure (V.next (x,n,())))) else A.pure (V.next (x,n,())))
 (V.bz λ(D:List ak×Int×Unit)=>A.bind (x9 (IntKind.wrap .u64 (Int.ofNat (List.length D.1)),IntKind.wrap .u64 D.2.1)) λy
 =>A.bind (if (decide (y.1 > 0)||decide (y.2 > 9223372036854775807))=true then A.ab False (A.ab False (A.pure (V.next (D.1,y.2,())))) else
 A.pure (V.next (D.1,y.2,()))) (V.bz λ(D:List ak×Int×Unit)=>A.ab (0<=IntKind.wrap .i64 D.2.1/\IntKind.wrap .i64 D.2.1=
 IntKind.wrap .i64 D.2.1/\bQ (Int.toNat (IntKind.wrap .i64 D.2.1))) (A.ab True (A.bind (A.loop (λ(D:Int×List ak×Unit)=>if decide (D.1
 < Int.ofNat (List.length D.2.1))=true then A.ab (0<=D.1/\D.1<=Int.ofNat (List.length D.2.1)/\Int.ofNat (List.length D.2.1)<=Int.ofNat
 (List.length D.2.1)) (A.ab ((0:Int)<=0/\0<=D.1/\D.1<=Int.ofNat (List.length D.2.1)) (A.ab True (A.pure (V.next (IntKind.wrap .i64
 (Add.add D.1 (Int.ofNat (if Int.toNat (Int.ofNat (List.length D.2.1)) - Int.toNat D.1<=List.length (List.take (Int.toNat D.1) D.2.1) then Int.toNat
 (Int.ofNat (List.length D.2.1)) - Int.toNat D.1 else List.length (List.take (Int.toNat D.1) D.2.1)))),List.take (Int.toNat D.1) D.2.1++List.take
 (Int.toNat (Int.ofNat (List.length D.2.1)) - Int.toNat D.1) (List.take (Int.toNat D.1) D.2.1)++List.drop (Add.add (Int.toNat D.1) (List.length
 (List.take (Int.toNat (Int.ofNat (List.length D.2.1)) - Int.toNat D.1) (List.take (Int.toNat D.1) D.2.1)))) D.2.1,()))))) else A.bind (A.pure
 (V.next (D.2.1,()))) λr=>A.pure (V.done r)) (Int.ofNat (if List.length (List.replicate (Int.toNat (IntKind.wrap .i64 D.2.1)) d) - 0<=
 List.length D.1 then List.length (List.replicate (Int.toNat (IntKind.wrap .i64 D.2.1)) d) - 0 else List.length D.1),[]++List.take (List.length
 (List.replicate (Int.toNat (IntKind.wrap .i64 D.2.1)) d) - 0) D.1++List.drop (Add.add 0 (List.length (List.take (List.length (List.replicate
 (Int.toNat (IntKind.wrap .i64 D.2.1)) d) - 0) D.1))) (List.replicate (Int.toNat (IntKind.wrap .i64 D.2.1)) d),())) (V.bz λ(D:List ak×
 Unit)=>fin D.1)))))
theorem Px(d a:ak)(Mj:List ak->β)(n:Int)(U:0<=n)(ag:n<=200):A.cy (Zz d (λl=>A.pure (Mj l)) tc.sh [a] n) λy=>y=Mj (List.replicate n.toNat a):=by
 obtain⟨J,rfl⟩:=Int.eq_ofNat_of_zero_le U;have IK:decide ((J:Int)<0)=false:=by simp
 have lU:IntKind.u64.wrap (Int.ofNat ([a]:List ak).length)=1:=Po (by simp) (by simp);have apz:=Po (n:=(J:Int)) (by omega) (by omega);have km:=bA (n:=(J:Int)) (by omega) (by omega);have ao:tc.pre (1,(J:Int)):=⟨rfl,U,ag⟩
 have apA:decide ((J:Int) > 9223372036854775807)=false:=by grind
 have kS:bQ J:=by unfold bQ;omega
 have M:0<=(J:Int)/\True/\bQ (Int.toNat (J:Int)):=⟨U,trivial,by grind⟩
 unfold Zz;simp only[IK,Bool.false_eq_true,if_false,A.aG,A.bZ,lU,apz,aL.sh,A.dv];rw[A.bu (by grind)];simp only[gt_iff_lt,Int.lt_irrefl,decide_false,Bool.false_or,Bool.false_eq_true,if_false,A.aG,A.bZ,km];have apB:decide ((9223372036854775807:Int)<(J:Int))=false:=apA;simp only[apB,Bool.false_eq_true,if_false,A.aG,A.bZ,km];rw[A.bu M];simp only[A.bq,A.gh,Int.toNat_natCast,List.length_replicate,Nat.sub_zero,List.nil_append,List.length_singleton,bW,hY,Nat.zero_add];refine A.BT (λs=>∃ m:Nat,(1<=m\/J=0)/\m<=J/\s=((m:Int),List.replicate m a++List.replicate (J - m) d,())) (λs=>J - s.1.toNat) ?_ _ ?_
 ·rintro s ⟨m,hm,ayy,rfl⟩;have hlen:(List.replicate m a++List.replicate (J - m) d).length=J:=by grind
  simp only[hlen];by_cases cc:m<J
  ·have gO:0<=(m:Int)/\(m:Int)<=(J:Int)/\(J:Int)<=(J:Int):=by omega
   have cO:(0:Int)<=0/\0<=(m:Int)/\(m:Int)<=(J:Int):=by omega
   have kg:1<=m:=by omega
   have ZA:(List.take m (List.replicate m a++List.replicate (J - m) d)).length=m:=by simp
   simp only[cV cc,if_true,A.bu gO,A.bu cO,A.bq,Int.toNat_natCast,ZA,cj];rw[A.eb,apy a d m J kg cc];have apC:(if J - m<=m then J - m else m)=min (J - m) m:=by rfl
   rw[apC];have gX:=bA (n:=(m:Int)+((min (J - m) m:Nat):Int)) (by omega) (by omega);refine⟨⟨m+min (J - m) m,.inl (by omega),by omega,?_⟩,?_⟩
   ·rw[gX];simp
   ·simp only[gX];omega
  ·have:m=J:=by omega
   subst this;simp only[Int.lt_irrefl,decide_false,Bool.false_eq_true,if_false,A.aG,A.eb,A.bZ,Nat.sub_self,List.replicate_zero,List.append_nil]
 ·by_cases ayz:J=0
  ·grind
  ·refine⟨1,.inl (Nat.le_refl _),by omega,?_⟩;grind
end
abbrev IL:aL:=⟨.az fF bw,fF,λx=>x.1=[-1]/\0<=x.2/\x.2<=200,λx=>List.replicate x.2.toNat (-1)⟩
theorem apD(x):A.le (aj6 tc.sh x) (IL.sh x):=A.sK λh=>by
 obtain⟨l,n⟩:=x;obtain⟨E,U,ag⟩:=h;change l=[-1]at E;subst E;exact Px (0:Int) (-1) (λl=>l) n U ag
def wu(x:z1'×Int×Unit):A (z1'×Unit):=A.dS (x.1=[-1]/\0<=x.2.1/\x.2.1<=200) (List.replicate x.2.1.toNat (-1),())
theorem ZB(x):A.le (akk tc.sh x) (wu x):=A.sK λh=>by
 obtain⟨l,n,u⟩:=x;obtain⟨E,U,ag⟩:=h;change l=[-1]at E;subst E;exact Px (0:Int) (-1) (λl=>(l,())) n U ag
abbrev IM:ad:=.st (.az bw bw)
abbrev IN:aL:=⟨.az (.slice IM) bw,.slice IM,λx=>x.1.length=1/\0<=x.2/\x.2<=200,λx=>List.replicate x.2.toNat (x.1.getD 0 (0,0))⟩
theorem apE(x):A.le (akh tc.sh x) (IN.sh x):=A.sK λh=>by
 obtain⟨l,n⟩:=x;obtain⟨E,U,ag⟩:=h;change l.length=1 at E;obtain⟨a,rfl⟩:=List.length_eq_one_iff.1 E;exact Px ((0,0):Int×Int) a (λl=>l) n U ag
end Go.Fer
namespace Go.Fer
open A (V)
def yx(s:bG)(n:Int):Bool:=decide (0<=n)&&decide (n<(s.2.2.2.1.length:Int))
def yy(s:bG)(n:Int):Bool:=decide (0<=n)&&decide (n<(s.2.2.1.length:Int))
theorem apF{s:bG}{n:Int}:yx s n=true<->0<=n/\n<(s.2.2.2.1.length:Int):=by simp[yx]
theorem apG{s:bG}{n:Int}:yy s n=true<->0<=n/\n<(s.2.2.1.length:Int):=by simp[yy]
abbrev Py:aL:=⟨.az k7 bw,de,λx=>e8 x.1,λx=>yx x.1 x.2⟩
abbrev Pz:aL:=⟨.az k7 bw,de,λx=>e8 x.1,λx=>yy x.1 x.2⟩
theorem apH(x):A.le (VW cg.sh x) (Py.sh x):=A.br λh=>by
 have aj:=h.2.2.2.1;have hw:=bA (n:=(x.1.2.2.2.1.length:Int) - 1) (by omega) (by omega);unfold VW;simp[aL.sh,cg,hw,yx,rI]
theorem apI(x):A.le (V1 cg.sh x) (Pz.sh x):=A.br λh=>by
 have aj:=h.2.2.1;have hw:=bA (n:=(x.1.2.2.1.length:Int) - 1) (by omega) (by omega);unfold V1;simp[aL.sh,cg,hw,yy,rI]
def td(x:dB)(p:dk):Int:=if (!x.1.contains p.1||!b4 p.2.1 x.2.1.1 x.2.1.2)=true then 0 else if p.2.2.1=x.2.2.1 then 1 else if p.2.2.1=0 then 2 else 0
abbrev wv:aL:=⟨.az mJ nq,bw,λx=>x.1.1.length<2 ^ 63,λx=>td x.1 x.2⟩
theorem apJ(x):A.le (V2 cg.sh mH.sh x) (wv.sh x):=A.br λh=>by
 unfold V2;simp only[aL.sh,cg,mH,A.dv,A.jd,implies_true,A.bq,qw];rw[A.bu (by exact h)];show _=A.pure (td x.1 x.2);unfold td b4;grind
def wx(s:bG)(l:z1')(i:Nat):Bool:=decide (l.getD i 0=-1)||(yy s (l.getD i 0)&&!(l.take i).contains (l.getD i 0))
def wy(s:bG)(l:z1'):Bool:=((List.range l.length).all (wx s l))&&decide ((l.length:Int)=(s.2.2.2.1.length:Int))
abbrev IP:aL:=⟨.az k7 fF,de,λx=>e8 x.1/\x.2.length<2 ^ 63,λx=>wy x.1 x.2⟩
theorem apK(x):A.le (V3 Pz.sh mH.sh x) (IP.sh x):=A.br λh=>by
 obtain⟨s,l⟩:=x;obtain⟨aE,aj⟩:=h;change e8 s at aE;change l.length<2 ^ 63 at aj;unfold V3;rw[A.du (List.range l.length) (λi (_:Unit)=>(l,l,(l.length:Int),(i:Int),s,())) (λi b=>if (!wx s l i)=true then .done (.done false) else .next b) (λ_=>.next (l,s,())) () ?_ ?_ ?_]
 ·rw[kh (q:=wx s l) _ _ (λ_=>rfl)];show _=A.pure (wy s l);unfold wy;cases (List.range l.length).all (wx s l)<;>simp
 ·simp
 ·intro i G b;have G:i<l.length:=by grind
  have hw:=bA (n:=(i:Int)+1) (by omega) (by omega);obtain⟨aM,jw⟩:∃ aM,l.getD i 0=aM:=⟨_,rfl⟩
  have cM:wx s l i=(decide (aM=-1)||(yy s aM&&!(l.take i).contains aM)):=by unfold wx;rw[jw]
  simp only[bW,cV G,if_true,List.getElem_range,cN G,A.bq,aL.sh,A.dv,A.jd,Int.toNat_natCast,jw];rw[A.bu (by grind),A.bu,A.bu]
  ·simp only[A.aG,cj,hw,wx,jw];by_cases E:aM=-1
   ·simp_all
   ·cases U:yy s aM<;>cases ag:(l.take i).contains aM<;>simp[E,U,ag,V.hn]
  ·intro _;show (l.take i).length<2 ^ 63;rw[List.length_take];omega
  ·intro cW;exact⟨⟨cW,trivial,cW⟩,⟨by omega,by omega,by omega⟩,trivial⟩
 simp
def k8(s:bG)(b7:Bool):Int:=if iT s≠0 then iT s else if b7=false then 1 else dN s.1 true
theorem IQ{s:bG}(h:iT s=0):cx s.1=0/\nr s=true:=by
 unfold iT at h;grind
theorem Bk{s:bG}{b7:Bool}(h:k8 s b7=0):iT s=0/\b7=true/\dN s.1 true=0/\pN s.1=true:=by
 unfold k8 at h;by_cases he:iT s=0
 ·rw[if_neg (by omega)]at h;cases b7 with
  | false=>grind
  | true=>
   simp only[Bool.true_eq_false,if_false]at h;exact⟨he,rfl,h,(uL h).2.2⟩
 omega
structure l'(s:bG):Prop where
 fL:e8 s
 s5:l_ s.1
 EL:s.2.1.length=s.1.1.length
 qG:∀ n∈s.2.1,0<=n/\n<=10
 IS:s.2.2.1.length<=8
 apL:∀ p∈s.2.2.1,pS s.1 p=true
 uR:s.2.2.2.1.length<=6
 ZC:∀ x∈s.2.2.2.1,o3 x=true
 PA:s.2.2.2.2.1.length<=8
 ZD:∀ d∈s.2.2.2.2.1,o4 s.1 d=true
 apM:0<=s.2.2.2.2.2/\s.2.2.2.2.2<=99
theorem Bl{s:bG}(aE:e8 s)(h:iT s=0):l' s:=by
 obtain⟨E,U⟩:=IQ h;simp only[nr,Bool.and_eq_true,decide_eq_true_eq,List.all_eq_true,b4,jY]at U;obtain⟨⟨⟨⟨⟨⟨⟨⟨aQ,aS⟩,bP⟩,gy⟩,oA⟩,vx⟩,Dz⟩,Af⟩,ML⟩:=U;exact⟨aE,⟨aE.1,Bd E⟩,by omega,aS,by omega,gy,by omega,vx,by omega,Af,ML⟩
theorem l'.ZE{s:bG}(h:l' s):s.1.1.length<=10:=(wo h.s5.2).1
def IT(w:a_)(t:z5')(q:Int×Int×Int):z5':=if uM w q.1 q.2.1 q.2.2=1 then vP t q (IntKind.i64.wrap ((o2 t q).getD 0+1)) else t
def ZF(w:a_)(i m:Nat)(t:z5'):z5':=(List.range (iS w (m:Int)).length).foldl (λt (k:Nat)=>IT w t ((i:Int),(m:Int),(k:Int))) t
def ZG(w:a_)(i:Nat)(t:z5'):z5':=(List.range w.2.1.length).foldl (λt m=>ZF w i m t) t
def uS(w:a_)(n:Nat):z5':=(List.range n).foldl (λt i=>ZG w i t) []
def lG(p:Int×Int)(n:Int):z4':=List.replicate n.toNat p
def EM(l:z1'):z4':=(List.range l.length).flatMap λ(i:Nat)=>lG ((i:Int),0) (l.getD i 0)
def ZH(l:List DV):z4':=l.flatMap λd=>lG (d.2.1,d.1) d.2.2
def PB(s:bG):z4':=EM s.2.1++ZH s.2.2.2.2.1
def dr(s:bG):dx:=(s,PB s,uS s.1 s.2.1.length)
def yz(s:bG)(b7:Bool):Option dx×Int:=if k8 s b7≠0 then (none,k8 s b7) else (some (dr s),0)
theorem PC{ak β:Type}(f:ak->List β):∀ (l:List ak) (b:List β),l.foldl (λb x=>b++f x) b=b++l.flatMap f
 | [],b=>by simp
 | x::l,b=>by rw[List.foldl_cons,PC f l,List.flatMap_cons,List.append_assoc]
abbrev apN:ad:=.st (.az bw (.az bw bw))
abbrev wz:ad:=.bI (.st (.az k7 (.az (.slice IM) (.map apN bw))))
abbrev Bm:aL:=⟨.az k7 de,.az wz bw,λx=>e8 x.1,λx=>yz x.1 x.2⟩
theorem apO(s:bG)(b7:Bool)(aE:e8 s):NV pT.sh tb.sh uN.sh IN.sh (s,b7)=A.pure (yz s b7):=by
 unfold NV yz k8;simp only[aL.sh,A.dv,A.bu aE];by_cases he:iT s=0
 ·have ae:=Bl aE he;simp only[he,ne_eq,not_true,decide_false,Bool.false_eq_true,if_false];cases b7 with
  | false=>simp
  | true=>
   simp only[Bool.not_true,Bool.false_eq_true,if_false,Bool.true_eq_false];refine Eq.trans (congrArg (λm=>A.bind m _) (show _=(if dN s.1 true≠0 then A.pure (V.done ((none:Option dx),dN s.1 true)) else A.pure (V.next (s,([]:z5'),s.1.1,s.1.2.1,s.1.2.2.1,s.1.2.2.2,s.2.1,s.2.2.1,s.2.2.2.1,s.2.2.2.2.1,s.2.2.2.2.2,()))) from ?_)) ?_
   ·by_cases bl:s.2.1.length=0
    ·have aI:dN s.1 true=0:=by
      unfold dN;have aY:s.1.1.length=0:=by rw[<-ae.EL];exact bl
      have:pN s.1=true:=by unfold pN;grind
      simp[(IQ he).1,this]
     grind
    ·have E:decide (Int.ofNat (List.length s.2.1) > 0)=true:=by grind
     have U:fG s.1 0=true:=by rw[qD];have:=ae.EL;omega
     rw[if_pos E,A.bu aE.1];unfold rM;rw[U];by_cases an:dN s.1 true=0
     ·simp[an]
     ·simp[an]
   by_cases y6:dN s.1 true=0
   ·simp only[y6,ne_eq,not_true,if_false,A.aG,A.bZ];have ayA:=ae.ZE;have fm:=ae.EL;have apP:s.1.2.1.length<=6:=(wo ae.s5.2).2.1;rw[A.du (List.range s.2.1.length) (λi t=>((s.2.1.length:Int),(i:Int),s,t,s.1.1,s.1.2.1,s.1.2.2.1,s.1.2.2.2,s.2.1,s.2.2.1,s.2.2.2.1,s.2.2.2.2.1,s.2.2.2.2.2,())) (λi t=>.next (ZG s.1 i t)) (λt=>.next (s,t,s.1.1,s.1.2.1,s.1.2.2.1,s.1.2.2.2,s.2.1,s.2.2.1,s.2.2.2.1,s.2.2.2.2.1,s.2.2.2.2.2,())) [] ?_ ?_ ?_]
    ·rw[dQ];simp only[A.aG,A.bZ];rw[A.f' (List.range s.2.1.length) (λi acc=>(s.2.1,(s.2.1.length:Int),(i:Int),s,uS s.1 s.2.1.length,s.1.1,s.1.2.1,s.1.2.2.1,s.1.2.2.2,s.2.1,s.2.2.1,s.2.2.2.1,s.2.2.2.2.1,s.2.2.2.2.2,acc,())) (λi acc=>.next (acc++lG ((i:Int),0) (s.2.1.getD i 0))) (λacc=>.next (s,uS s.1 s.2.1.length,s.1.1,s.1.2.1,s.1.2.2.1,s.1.2.2.2,s.2.1,s.2.2.1,s.2.2.2.1,s.2.2.2.2.1,s.2.2.2.2.2,acc,())) (λi acc=>acc.length<=10*i) [] ?_ ?_ ?_ ?_]
     ·rw[dQ,PC];simp only[A.aG,A.bZ,List.nil_append];have gz:(EM s.2.1).length<=100:=by
       have:∀ (l:List Nat),(∀ i∈l,i<s.2.1.length)->(l.flatMap λ(i:Nat)=>lG ((i:Int),0) (s.2.1.getD i 0)).length<=10*l.length:=by
        intro l;induction l with
        | nil=>simp
        | cons i l aK=>
         intro aj;have E:=aK λj aF=>aj j (by grind);have U:=aj i (by simp);have ag:=ae.qG _ (List.getElem_mem U);have jw:s.2.1.getD i 0=s.2.1[i]:=by grind
         rw[List.flatMap_cons,List.length_append,List.length_cons,jw];simp only[lG,List.length_replicate];simp only[lG]at E;omega
       have:=this (List.range s.2.1.length) (λi G=>by grind);rw[List.length_range]at this;unfold EM;omega
      rw[A.f' s.2.2.2.2.1 (λi acc=>(s.2.2.2.2.1,(s.2.2.2.2.1.length:Int),(i:Int),uS s.1 s.2.1.length,s.1.1,s.1.2.1,s.1.2.2.1,s.1.2.2.2,s.2.1,s.2.2.1,s.2.2.2.1,s.2.2.2.2.1,s.2.2.2.2.2,acc,())) (λd acc=>.next (acc++lG (d.2.1,d.1) d.2.2)) (λacc=>.next (uS s.1 s.2.1.length,s.1.1,s.1.2.1,s.1.2.2.1,s.1.2.2.2,s.2.1,s.2.2.1,s.2.2.2.1,s.2.2.2.2.1,s.2.2.2.2.2,acc,())) (λi acc=>acc.length<=100+10*i) (EM s.2.1) ?_ ?_ ?_ ?_]
      ·rw[dQ,PC,A.aG,A.bZ];rfl
      ·rfl
      ·omega
      ·intro i G acc Pm;have ayB:=ae.PA;have gR:=bA (n:=(i:Int)+1) (by omega) (by omega);have aw:=ae.ZD _ (List.getElem_mem G);have De:1<=s.2.2.2.2.1[i].2.2/\s.2.2.2.2.1[i].2.2<=10:=by
        simp only[o4,b4,Bool.and_eq_true,decide_eq_true_eq]at aw;omega
       have hlen:(lG (s.2.2.2.2.1[i].2.1,s.2.2.2.2.1[i].1) s.2.2.2.2.1[i].2.2).length<=10:=by simp only[lG,List.length_replicate];omega
       have kS:bQ (acc.length+(lG (s.2.2.2.2.1[i].2.1,s.2.2.2.2.1[i].1) s.2.2.2.2.1[i].2.2).length):=by unfold bQ;omega
       refine⟨?_,λbf W=>?_⟩
       ·simp only[bW,cV G,if_true,dh G,cN G,A.bq,A.mD,A.gA,cj,hY,gR];rw[A.bu (by grind),A.bu (by exact kS)];rfl
       grind
      simp
     ·rfl
     ·simp
     ·intro i G acc Pm;have G:i<s.2.1.length:=by grind
      have gR:=bA (n:=(i:Int)+1) (by omega) (by omega);have jw:s.2.1.getD i 0=s.2.1[i]:=by grind
      have De:=ae.qG _ (List.getElem_mem G);have hlen:(lG ((i:Int),0) s.2.1[i]).length<=10:=by simp only[lG,List.length_replicate];omega
      have kS:bQ (acc.length+(lG ((i:Int),0) s.2.1[i]).length):=by unfold bQ;omega
      refine⟨?_,λbf W=>?_⟩
      ·simp only[bW,cV G,if_true,dh G,cN G,A.bq,A.mD,A.gA,cj,hY,gR,List.getElem_range,jw];rw[A.bu (by grind),A.bu (by exact kS)];rfl
      grind
     simp
    ·simp
    ·intro i G t;have G:i<s.2.1.length:=by grind
     have gR:=bA (n:=(i:Int)+1) (by omega) (by omega);simp only[bW,cV G,if_true,List.getElem_range];rw[A.du (List.range s.1.2.1.length) (λm t=>((i:Int),(s.2.1.length:Int),(i:Int),s.1.2.1,(s.1.2.1.length:Int),(m:Int),s,t,s.1.1,s.1.2.1,s.1.2.2.1,s.1.2.2.2,s.2.1,s.2.2.1,s.2.2.2.1,s.2.2.2.2.1,s.2.2.2.2.2,())) (λm t=>.next (ZF s.1 i m t)) (λt=>.next ((s.2.1.length:Int),(i:Int),s,t,s.1.1,s.1.2.1,s.1.2.2.1,s.1.2.2.2,s.2.1,s.2.2.1,s.2.2.2.1,s.2.2.2.2.1,s.2.2.2.2.2,())) t ?_ ?_ ?_]
     ·rw[dQ];simp only[A.aG,A.bZ,cj,gR];rfl
     ·rfl
     ·intro m hm t;have hm:m<s.1.2.1.length:=by grind
      have IU:=bA (n:=(m:Int)+1) (by omega) (by omega);have apQ:s.1.2.1[m]=iS s.1 (m:Int):=by simp[iS,List.getD_eq_getElem?_getD,hm]
      simp only[bW,cV hm,if_true,List.getElem_range,cN hm,A.bq,dh hm,apQ];have Bb:=Ir aE.1 (m:Int);rw[A.du (List.range (iS s.1 (m:Int)).length) (λk t=>((i:Int),(m:Int),(s.2.1.length:Int),(i:Int),s.1.2.1,(s.1.2.1.length:Int),(m:Int),((iS s.1 (m:Int)).length:Int),(k:Int),s,t,s.1.1,s.1.2.1,s.1.2.2.1,s.1.2.2.2,s.2.1,s.2.2.1,s.2.2.2.1,s.2.2.2.2.1,s.2.2.2.2.2,())) (λk t=>.next (IT s.1 t ((i:Int),(m:Int),(k:Int)))) (λt=>.next ((i:Int),(s.2.1.length:Int),(i:Int),s.1.2.1,(s.1.2.1.length:Int),(m:Int),s,t,s.1.1,s.1.2.1,s.1.2.2.1,s.1.2.2.2,s.2.1,s.2.2.1,s.2.2.2.1,s.2.2.2.2.1,s.2.2.2.2.2,())) t ?_ ?_ ?_]
      ·rw[dQ];simp only[A.aG,A.bZ,cj,IU];rfl
      ·rfl
      ·intro k an t;have an:k<(iS s.1 (m:Int)).length:=by grind
       have l9:=bA (n:=(k:Int)+1) (by omega) (by omega);have n3:fG s.1 (i:Int)=true:=by rw[qD];omega
       have apR:iw s.1 (m:Int) (k:Int)=true:=by rw[yq];omega
       have aq:pO s.1 (i:Int) (m:Int) (k:Int)=(uM s.1 (i:Int) (m:Int) (k:Int),0):=by simp[pO,n3,apR,y6]
       simp only[cV an,if_true,List.getElem_range];simp only[aq,A.bu aE.1,decide_eq_true_eq];by_cases E:uM s.1 (i:Int) (m:Int) (k:Int)=1
       ·simp only[E,if_true,and_self,A.bq,A.aG,A.bZ,cj,l9,V.hn,IT];rfl
       ·simp only[E,if_false,A.aG,A.bZ,cj,l9,V.hn,IT];rfl
      simp
     simp
    simp
   ·simp[y6]
 grind
theorem apS(x):A.le (NV pT.sh tb.sh uN.sh IN.sh x) (Bm.sh x):=A.br λh=>apO x.1 x.2 h
theorem apT{p:Int->Bool}{l:z1'}(h:jZ p l=true):∀ x∈l,p x=true:=by
 intro x ah;obtain⟨i,G,rfl⟩:=List.mem_iff_getElem.1 ah;unfold jZ at h;simp_all
theorem apU{p:Int->Bool}{l:z1'}(h:jZ p l=true):l.Pairwise (·<·):=by
 unfold jZ at h;rw[List.all_eq_true]at h;have step:∀ i,i+1<l.length->l.getD i 0<l.getD (i+1) 0:=λi G=>by
  grind
 have key:∀ j i,i<j->j<l.length->l.getD i 0<l.getD j 0:=by
  intro j;induction j with
  | zero=>omega
  | succ j aK=>
   grind
 rw[List.pairwise_iff_getElem];grind
theorem PD{s:bG}(ae:l' s){p:dk}(ao:p∈s.2.2.1):n_ s.1 p.2.2.2.1=true/\p.2.2.2.2.length<=4/\∀ k∈p.2.2.2.2,iw s.1 p.2.2.2.1 k=true:=by
 have h:=ae.apL p ao;simp only[pS,Bool.and_eq_true]at h;obtain⟨⟨_,hm⟩,M⟩:=h;have fU:∀ k∈p.2.2.2.2,iw s.1 p.2.2.2.1 k=true:=λk an=>by
  have:=apT M k an;rw[yq];simp only[EF,Bool.and_eq_true,decide_eq_true_eq]at this;exact⟨Iq.1 hm,this⟩
 refine⟨hm,?_,fU⟩;have apV:=apU M;have tP:p.2.2.2.2.Nodup:=apV.imp λh e=>by omega
 cases W:p.2.2.2.2 with
 | nil=>simp
 | cons k l=>
  rw[<-W];have a6:=aoj ae.s5.2 (fU k (by grind));have:=Pp (iS s.1 p.2.2.2.1).length p.2.2.2.2 tP λk an=>by
   have:=yq.1 (fU k an);omega
  omega
abbrev rP:Type:=Int×Int×Int
abbrev apW:dB:=([],(0,0),0,0,0)
abbrev apX:dk:=(0,0,0,0,[])
abbrev yA:dx:=((([],[],0,[]),[],[],[],[],0),[],[])
def mK(s:bG)(i:Int):dB:=s.2.2.2.1.getD i.toNat apW
def ns(s:bG)(i:Int):dk:=s.2.2.1.getD i.toNat apX
def wA(s:bG)(x:dB)(p:dk):Option Int:=if td x p=0 then none else if (if td x p=2 then x.2.2.2.1 - s.2.2.2.2.2 else x.2.2.2.1)<0 then none else some (if td x p=2 then x.2.2.2.1 - s.2.2.2.2.2 else x.2.2.2.1)
def o5(s:bG)(cA:z1')(i:Nat):Option (List rP):=if cA.getD i 0<0 then some [] else (wA s (mK s (i:Int)) (ns s (cA.getD i 0))).map λd=>(ns s (cA.getD i 0)).2.2.2.2.map λk=>((ns s (cA.getD i 0)).2.2.2.1,k,d)
def lH(s:bG)(cA:z1'):List rP×Bool:=if ((List.range cA.length).all λi=>(o5 s cA i).isSome)=true then ((List.range cA.length).flatMap λi=>(o5 s cA i).getD [],true) else ([],false)
def n'(s:bG)(cA:z1'):Prop:=cA.length<=s.2.2.2.1.length/\∀ p∈cA,p<(s.2.2.1.length:Int)
def oa(o:Option dx):bG:=(o.getD yA).1
def wB(o:Option dx)(s:bG):Prop:=o=some (dr s)/\l' s
theorem PE{s:bG}{i:Nat}(h:i<s.2.2.2.1.length):mK s (i:Int)∈s.2.2.2.1:=by
 simp[mK,List.getD_eq_getElem?_getD,h]
theorem ZI{s:bG}{i:Int}(aY:0<=i)(h:i<(s.2.2.1.length:Int)):ns s i∈s.2.2.1:=x5 aY h
theorem ZJ{s:bG}(ae:l' s){x:dB}(ah:x∈s.2.2.2.1):(0<=x.2.2.2.1/\x.2.2.2.1<=99)/\(0<=x.2.2.2.2/\x.2.2.2.2<=100000):=by
 have:=ae.ZC x ah;simp only[o3,jY,b4,Bool.and_eq_true,decide_eq_true_eq]at this;omega
theorem ZK{s:bG}(ae:l' s){cA:z1'}(ao:n' s cA){i:Nat}(G:i<cA.length){l:List rP}(h:o5 s cA i=some l):l.length<=4:=by
 unfold o5 at h;split at h
 ·grind
 ·rename_i IK;rw[Option.map_eq_some_iff]at h;obtain⟨d,_,rfl⟩:=h;rw[List.length_map];have hm:cA.getD i 0∈cA:=by grind
  exact (PD ae (ZI (by omega) (ao.2 _ hm))).2.1
def Bn{ak β aJ:Type}(f:ak->Option (List β))(r:aJ)(x:ak)(b:List β):V (List β) aJ:=if (f x).isSome=true then .next (b++(f x).getD []) else .done r
theorem EN{ak β aJ:Type}{f:ak->Option (List β)}{r:aJ}{x:ak}{b y:List β}(h:f x=some y):Bn f r x b=.next (b++y):=by simp[Bn,h]
theorem IV{ak β aJ:Type}{f:ak->Option (List β)}{r:aJ}{x:ak}{b:List β}(h:f x=none):Bn f r x b=.done r:=by simp[Bn,h]
theorem ZL{ak β aJ:Type}{f:ak->Option (List β)}{r:aJ}{fin:List β->aJ}:∀ (l:List ak) (b:List β),eZ (Bn f r) fin l b=if (l.all λx=>(f x).isSome)=true then fin (b++l.flatMap λx=>(f x).getD []) else r
 | [],b=>by simp[eZ]
 | x::l,b=>by
  simp only[eZ];cases h:f x with
  | none=>simp[IV h,h]
  | some y=>
   have:=ZL (f:=f) (r:=r) (fin:=fin) l (b++y);simp only[EN h,List.all_cons,h,Option.isSome_some,Bool.true_and,List.flatMap_cons,Option.getD_some];grind
abbrev IW:ad:=.st (.az bw (.az bw bw))
abbrev IX:aL:=⟨.az wz fF,.az (.slice IW) de,λx=>∃ s,wB x.1 s/\n' s x.2,λx=>lH (oa x.1) x.2⟩
theorem apY(s:bG)(ae:l' s)(cA:z1')(ao:n' s cA):NW wv.sh (some (dr s),cA)=A.pure (lH s cA):=by
 unfold NW;have Bo:=ae.uR;have ayC:=ao.1;simp only[Option.isSome_some,Option.getD_some,A.bq];rw[A.f' (List.range cA.length) (λi acc=>(some (dr s),cA,(cA.length:Int),(i:Int),acc,())) (Bn (o5 s cA) (.done ([],false))) (λacc=>.next (acc,())) (λi acc=>acc.length<=4*i) [] ?_ ?_ ?_ ?_]
 ·rw[ZL];unfold lH;by_cases h:((List.range cA.length).all λi=>(o5 s cA i).isSome)=true
  ·simp[h]
  ·simp[h]
 ·rfl
 ·simp
 ·intro i G acc Pm;have G:i<cA.length:=by grind
  have te:i<s.2.2.2.1.length:=by omega
  have gR:=bA (n:=(i:Int)+1) (by omega) (by omega);have IY:=PE te;rw[List.getElem_range];obtain⟨aM,apZ⟩:∃ aM,cA.getD i 0=aM:=⟨_,rfl⟩
  have ap0:aM∈cA:=by grind
  refine⟨?_,λbf W=>?_⟩
  ·simp only[bW,cV G,if_true,Int.toNat_natCast,apZ,cN G,A.bq,Option.isSome_some,Option.getD_some];by_cases IK:aM<0
   ·have mY:o5 s cA i=some []:=by unfold o5;grind
    rw[EN mY];simp_all
   ·have ik:aM<(s.2.2.1.length:Int):=ao.2 aM ap0;have ap1:=ZI (s:=s) (by omega) ik;have gO:0<=aM/\aM<(s.2.2.1.length:Int):=⟨by omega,ik⟩
    have gz:(dr s).1=s:=rfl;have Bp:List.getD s.2.2.2.1 i ([],(0,0),0,0,0)=mK s (i:Int):=rfl;have PF:List.getD s.2.2.1 aM.toNat (0,0,0,0,[])=ns s aM:=rfl;simp only[IK,decide_false,Bool.false_eq_true,if_false,gz,cN te,A.bu gO,A.bq,aL.sh,A.dv,Bp,PF];have mY:o5 s cA i=(wA s (mK s (i:Int)) (ns s aM)).map λd=>(ns s aM).2.2.2.2.map λk=>((ns s aM).2.2.2.1,k,d):=by unfold o5;grind
    rw[A.bu (show wv.pre (mK s (i:Int),ns s aM) from ae.fL.2.2.2.2.2.2 _ IY)];obtain⟨ayD,_⟩:=ZJ ae IY;have lV:=ae.apM;obtain⟨apP,iE,C8⟩:=PD ae ap1;have ap2:=bA (n:=(mK s (i:Int)).2.2.2.1 - s.2.2.2.2.2) (by omega) (by omega);generalize mK s (i:Int)=x at *
    generalize ns s aM=p at *
    by_cases aY:td x p=0
    ·have aw:wA s x p=none:=by unfold wA;grind
     rw[aw]at mY;rw[IV mY];simp only[aY,decide_true,if_true,A.aG,A.py,V.hn]
    ·by_cases U:td x p=2;all_goals simp only[aY,U,decide_true,decide_false,Bool.false_eq_true,if_false,if_true,A.aG,A.bZ,ap2,Int.reduceEq]
     ·have aw:wA s x p=(if x.2.2.2.1 - s.2.2.2.2.2<0 then none else some (x.2.2.2.1 - s.2.2.2.2.2)):=by unfold wA;grind
      generalize x.2.2.2.1 - s.2.2.2.2.2=d at *
      by_cases rk:d<0
      ·rw[if_pos rk]at aw;rw[aw]at mY;rw[IV mY];simp_all
      ·rw[if_neg rk]at aw;rw[aw]at mY;rw[EN mY];simp only[rk,decide_false,Bool.false_eq_true,if_false];rw[A.f' p.2.2.2.2 (λk acc=>(some (dr s),d,cA,(cA.length:Int),(i:Int),p.2.2.2.2,(p.2.2.2.2.length:Int),(k:Int),acc,p,())) (λk acc=>.next (acc++[(p.2.2.2.1,k,d)])) (λacc=>.next (some (dr s),cA,(cA.length:Int),(i:Int),acc,())) (λk yB=>yB.length<=4*i+k) acc ?_ ?_ ?_ ?_]
       ·rw[dQ,uq];simp_all
       ·rfl
       ·omega
       ·intro k an yB ap3;have l9:=bA (n:=(k:Int)+1) (by omega) (by omega);have kS:bQ (yB.length+(0+1)):=by unfold bQ;omega
        refine⟨?_,λbf W=>?_⟩
        ·simp_all
        grind
       simp
     ·have aw:wA s x p=(if x.2.2.2.1<0 then none else some x.2.2.2.1):=by unfold wA;grind
      generalize x.2.2.2.1=d at *
      by_cases rk:d<0
      ·omega
      ·rw[if_neg rk]at aw;rw[aw]at mY;rw[EN mY];simp only[rk,decide_false,Bool.false_eq_true,if_false];rw[A.f' p.2.2.2.2 (λk acc=>(some (dr s),d,cA,(cA.length:Int),(i:Int),p.2.2.2.2,(p.2.2.2.2.length:Int),(k:Int),acc,p,())) (λk acc=>.next (acc++[(p.2.2.2.1,k,d)])) (λacc=>.next (some (dr s),cA,(cA.length:Int),(i:Int),acc,())) (λk yB=>yB.length<=4*i+k) acc ?_ ?_ ?_ ?_]
       ·rw[dQ,uq];simp_all
       ·rfl
       ·omega
       ·intro k an yB ap3;have l9:=bA (n:=(k:Int)+1) (by omega) (by omega);have kS:bQ (yB.length+(0+1)):=by unfold bQ;omega
        refine⟨?_,λbf W=>?_⟩
        ·simp_all
        grind
       simp
  ·cases mY:o5 s cA i with
   | none=>rw[IV mY]at W;cases W
   | some y=>
    rw[EN mY]at W;cases W;have:=ZK ae ao G mY;grind
 simp
theorem ap4(x):A.le (NW wv.sh x) (IX.sh x):=A.br λh=>by
 obtain⟨o,cA⟩:=x;obtain⟨s,⟨aq,ae⟩,ao⟩:=h;change o=_ at aq;subst aq;exact apY s ae cA ao
def rQ(s:bG)(cA:z1'):Int:=((List.range cA.length).map λ(i:Nat)=>if cA.getD i 0=-1 then 0 else (mK s (i:Int)).2.2.2.2).foldl (·+·) 0
abbrev tf:aL:=⟨.az wz fF,bw,λx=>∃ s,wB x.1 s/\x.2.length<=s.2.2.2.1.length,λx=>rQ (oa x.1) x.2⟩
theorem ap5(s:bG)(ae:l' s)(cA:z1')(ao:cA.length<=s.2.2.2.1.length):N2 (some (dr s),cA)=A.pure (rQ s cA):=by
 unfold N2;have Bo:=ae.uR;rw[A.f' (List.range cA.length) (λi (n:Int)=>(some (dr s),n,cA,(cA.length:Int),(i:Int),())) (λ(i:Nat) n=>.next (n+if cA.getD i 0=-1 then 0 else (mK s (i:Int)).2.2.2.2)) (λn=>.next (n,())) (λi n=>0<=n/\n<=100000*i) 0 ?_ ?_ ?_ ?_]
 ·rw[dQ];unfold rQ;rw[List.foldl_map,A.aG,A.bZ]
 ·rfl
 ·simp
 ·intro i G n aB;have G:i<cA.length:=by grind
  have te:i<s.2.2.2.1.length:=by omega
  have gR:=bA (n:=(i:Int)+1) (by omega) (by omega);obtain⟨_,oH⟩:=ZJ ae (PE te);have Bp:List.getD s.2.2.2.1 i ([],(0,0),0,0,0)=mK s (i:Int):=rfl;have Bi:=bA (n:=n+(mK s (i:Int)).2.2.2.2) (by omega) (by omega);have gz:(dr s).1=s:=rfl;rw[List.getElem_range];refine⟨?_,λbf W=>?_⟩
  ·simp only[bW,cV G,if_true,Int.toNat_natCast,cN G,cN te,A.bq,Option.isSome_some,Option.getD_some,cj,gz,Bp];by_cases E:cA.getD i 0=-1
   ·simp only[E,ne_eq,not_true,decide_false,Bool.false_eq_true,if_false,if_true,A.aG,A.bZ,gR,Int.add_zero,V.hn];rfl
   ·simp only[E,ne_eq,not_false_iff,decide_true,if_false,if_true,cN te,A.bq,A.aG,A.bZ,gR,Bi,V.hn];rfl
  grind
 simp
theorem ap6(x):A.le (N2 x) (tf.sh x):=A.br λh=>by
 obtain⟨o,cA⟩:=x;obtain⟨s,⟨aq,ae⟩,ao⟩:=h;change o=_ at aq;subst aq;exact ap5 s ae cA ao
theorem EO{l:z1'}{j i:Nat}{s:Int}(aF:j<l.length):(l.set j s).getD i 0=if i=j then s else l.getD i 0:=by
 grind
abbrev ZM(fit:List (z1'))(j:Int):z1':=fit.getD j.toNat []
def ap7(qG work:z1')(s:Int):Prop:=qG.getD s.toNat 0<=((Pr work s).length:Int)
def ap8(fit:List (z1'))(qG work:z1')(C:Int->Prop):Prop:=∀ j,C j->∀ s∈ZM fit j,ap7 qG work s/\∀ h∈Pr work s,C h
def ap9(n:Nat)(qG work:z1'):Prop:=∀ s,0<=s->s<(n:Int)->((Pr work s).length:Int)<=qG.getD s.toNat 0
structure ayE(n:Nat)(fit:List (z1'))(qG:z1')(k:Nat)(work:z1'):Prop where
 len:work.length=fit.length
 val:ap9 n qG work
 mem:∀ i:Nat,i<fit.length->work.getD i 0=-1\/work.getD i 0∈ZM fit (i:Int)
 cn:∀ i:Nat,k<=i->i<fit.length->work.getD i 0=-1
 PG:∃ C,ap8 fit qG work C/\(∀ c,C c->0<=c/\c<(k:Int))/\∀ i:Nat,i<k->work.getD i 0=-1->C (i:Int)
theorem ap_{J i:Nat}(h:i<J):(List.replicate J (-1:Int)).getD i 0=-1:=by
 grind
theorem ZN(a b:Int):(if a=b then 1 else 0)=(if b=a then 1 else (0:Nat)):=by
 grind
def gS(g:z1')(j:Int):Nat:=g.countP λx=>decide (x=j)
theorem PH:∀ {g:z1'} {i:Nat} {x:Int} (j:Int),i<g.length->gS (g.set i x) j+(if g.getD i 0=j then 1 else 0)=gS g j+(if x=j then 1 else 0)
 | [],i,x,j,h=>by grind
 | y::g,0,x,j,h=>by
  unfold gS;grind
 | y::g,i+1,x,j,h=>by
  have:=PH (g:=g) (i:=i) (x:=x) j (by grind);unfold gS at *
  grind
theorem ap'{g:z1'}{i:Nat}{j:Int}(G:i<g.length)(h:g.getD i 0=j):0<gS g j:=by
 unfold gS;grind
def ob(gd:Nat->Int->Bool)(rec:Int->k6->Bool×k6)(al:Int)(i:Nat)(st:k6):V k6 (Bool×k6):=
 if (decide (cT st.2 (i:Int) > 0)||!gd i al)=true then .next st
 else if decide (st.1.getD i 0=-1)=true then .done (true,(st.1.set i al,fe st.2 (i:Int) (cT st.2 (i:Int)+1)))
 else if (rec (st.1.getD i 0) (st.1,fe st.2 (i:Int) (cT st.2 (i:Int)+1))).1=true then .done (true,((rec (st.1.getD i 0) (st.1,fe st.2 (i:Int) (cT st.2 (i:Int)+1))).2.1.set i al,(rec (st.1.getD i 0) (st.1,fe st.2 (i:Int) (cT st.2 (i:Int)+1))).2.2))
 else .next (rec (st.1.getD i 0) (st.1,fe st.2 (i:Int) (cT st.2 (i:Int)+1))).2
def j0(gd:Nat->Int->Bool)(m:Nat):Nat->Int->k6->Bool×k6
 | 0=>λ_ st=>(false,st)
 | f+1=>λal st=>eZ (ob gd (j0 gd m f) al) (λst=>(false,st)) (List.range m) st
def PI(m J:Nat)(g:z1'):Prop:=∀ i,i<m->g.getD i 0=-1\/(0<=g.getD i 0/\g.getD i 0<(J:Int))
structure yC(m J f:Nat)(st:k6):Prop where
 len:st.1.length=m
 ma:PI m J st.1
 seen:∀ k,0<=cT st.2 k/\cT st.2 k<=1
 ck:rN m st.2<f
structure PJ(m J:Nat)(st r:k6):Prop where
 len:r.1.length=m
 ma:PI m J r.1
 seen:∀ k,cT st.2 k<=cT r.2 k/\cT r.2 k<=1
def ZO(gd:Nat->Int->Bool)(m:Nat)(g:z1')(C:Int->Prop):Prop:=∀ j,C j->∀ i,i<m->gd i j=true->g.getD i 0≠-1/\C (g.getD i 0)
def ZP(gd:Nat->Int->Bool)(m:Nat)(g:z1')(s s':z4'):Prop:=∀ i,i<m->cT s (i:Int)=0->1<=cT s' (i:Int)->g.getD i 0≠-1/\∀ k,k<m->gd k (g.getD i 0)=true->1<=cT s' (k:Int)
structure PK(gd:Nat->Int->Bool)(m:Nat)(al:Int)(st:k6)(r:Bool×k6):Prop where
 PL:r.1=false->r.2.1=st.1/\(∀ i,i<m->gd i al=true->1<=cT r.2.2 (i:Int))/\ZP gd m st.1 st.2 r.2.2
 ZQ:r.1=true->(∀ i,i<m->r.2.1.getD i 0=st.1.getD i 0\/(cT st.2 (i:Int)=0/\gd i (r.2.1.getD i 0)=true))/\∀ j,j≠-1->gS r.2.1 j=gS st.1 j+(if j=al then 1 else 0)
 cl:∀ C,ZO gd m st.1 C->(C al->r.1=false)/\(r.1=true->∀ i,i<m->r.2.1.getD i 0≠st.1.getD i 0->∀ c,C c->gd i c=false)
def ZR(gd:Nat->Int->Bool)(m J f:Nat)(rec:Int->k6->Bool×k6):Prop:=∀ al st,0<=al->al<(J:Int)->yC m J f st->PJ m J st (rec al st).2/\PK gd m al st (rec al st)
theorem aqa{gd:Nat->Int->Bool}{m J f:Nat}{rec:Int->k6->Bool×k6}(Eo:ZR gd m J f rec){al:Int}(ZS:0<=al)(ZT:al<(J:Int)){st:k6}(aY:yC m J (f+1) st) :
  PJ m J st (eZ (ob gd rec al) (λst=>(false,st)) (List.range m) st).2/\PK gd m al st (eZ (ob gd rec al) (λst=>(false,st)) (List.range m) st):=by
 refine ao5 (λk b=>b.1=st.1/\(∀ q,cT st.2 q<=cT b.2 q/\cT b.2 q<=1)/\(∀ i,i<k->i<m->gd i al=true->1<=cT b.2 (i:Int))/\ZP gd m st.1 st.2 b.2)
  (λr:Bool×k6=>PJ m J st r.2/\PK gd m al st r) (List.range m) st ⟨rfl,λq=>⟨Int.le_refl _,(aY.seen q).2⟩,λi G=>by omega,λi _ E U=>by omega⟩ (λi G b W=>?_) λb W=>?_
 ·obtain⟨hw,nm,IZ,ln⟩:=W;have G:i<m:=by grind
  rw[List.getElem_range];have vw:∀ q,0<=cT b.2 q:=λq=>Int.le_trans (aY.seen q).1 (nm q).1;unfold ob;by_cases hc:(decide (cT b.2 (i:Int) > 0)||!gd i al)=true
  ·grind
  ·rw[if_neg hc];simp only[Bool.or_eq_true,not_or,decide_eq_true_eq,Bool.not_eq_true',Bool.not_eq_false]at hc;obtain⟨bl,aC⟩:=hc;have bl:cT b.2 (i:Int)=0:=by grind
   have KX:cT st.2 (i:Int)=0:=by have:=(nm i).1;have:=(aY.seen i).1;omega
   have qd:i<st.1.length:=by rw[aY.len];exact G
   have kg:∀ q,cT b.2 q<=cT (fe b.2 (i:Int) (cT b.2 (i:Int)+1)) q/\cT (fe b.2 (i:Int) (cT b.2 (i:Int)+1)) q<=1:=λq=>by
    have:=nm q;rw[Bj];omega
   have ayF:cT (fe b.2 (i:Int) (cT b.2 (i:Int)+1)) (i:Int)=1:=by rw[Bj,if_pos rfl,bl];rfl
   by_cases aq:st.1.getD i 0=-1
   ·rw[hw,if_pos (by grind)];refine⟨⟨by show (st.1.set i al).length=m;rw[List.length_set];exact aY.len,λk an=>?_,λq=>⟨Int.le_trans (nm q).1 (kg q).1,(kg q).2⟩⟩,λh=>(by cases h),λ_=>⟨λk an=>?_,λj aF=>?_⟩,λC jo=>⟨λPM=>?_,λ_ k an eO c hc=>?_⟩⟩
    ·show (st.1.set i al).getD k 0=-1\/(0<=(st.1.set i al).getD k 0/\(st.1.set i al).getD k 0<(J:Int))
     rw[EO qd];split
     ·omega
     ·exact aY.ma k an
    ·grind
    ·have:=PH (x:=al) j qd;grind
    ·exact absurd aq (jo al PM i G aC).1
    ·change (st.1.set i al).getD k 0≠_ at eO;rw[EO qd]at eO;split at eO
     ·rename_i e;subst e;cases PN:gd k c with
      | false=>rfl
      | true=>exact absurd aq (jo c hc k G PN).1
     omega
   ·rw[hw,if_neg (by grind)];have iM:=(aY.ma i G).resolve_left aq;have wC:yC m J f (st.1,fe b.2 (i:Int) (cT b.2 (i:Int)+1)):=by
     refine⟨aY.len,aY.ma,λq=>⟨Int.le_trans (vw q) (kg q).1,(kg q).2⟩,?_⟩;have E:=Zw (n:=m) (m:=b.2) (s:=(i:Int)) (v:=cT b.2 (i:Int)+1) (by omega) (by omega) bl (by omega);have U:=Zx (n:=m) (a:=st.2) (b:=b.2) λk=>⟨(aY.seen k).1,(nm k).1⟩
     have ag:=aY.ck;grind
    obtain⟨ao,M⟩:=Eo (st.1.getD i 0) _ iM.1 iM.2 wC;revert ao M;generalize rec (st.1.getD i 0) (st.1,fe b.2 (i:Int) (cT b.2 (i:Int)+1))=r;intro ao M;have xP:∀ q,cT (fe b.2 (i:Int) (cT b.2 (i:Int)+1)) q<=cT r.2.2 q:=λq=>(ao.seen q).1;by_cases bM:r.1=true
    ·rw[if_pos bM];obtain⟨kU,Bq⟩:=M.ZQ bM;have tV:i<r.2.1.length:=by rw[ao.len];exact G
     have Cx:r.2.1.getD i 0=st.1.getD i 0:=by
      grind
     refine⟨⟨by show (r.2.1.set i al).length=m;rw[List.length_set];exact ao.len,λk an=>?_,λq=>⟨Int.le_trans (nm q).1 (Int.le_trans (kg q).1 (xP q)),(ao.seen q).2⟩⟩,λh=>(by cases h),λ_=>⟨λk an=>?_,λj aF=>?_⟩,λC jo=>⟨λPM=>?_,λ_ k an eO c hc=>?_⟩⟩
     ·show (r.2.1.set i al).getD k 0=-1\/(0<=(r.2.1.set i al).getD k 0/\(r.2.1.set i al).getD k 0<(J:Int))
      rw[EO tV];split
      ·omega
      ·exact ao.ma k an
     ·show (r.2.1.set i al).getD k 0=_\/(_/\gd k ((r.2.1.set i al).getD k 0)=true)
      rw[EO tV];split
      ·grind
      ·rcases kU k an with e | ⟨ax,aO⟩
       ·grind
       ·right;refine⟨?_,aO⟩;have a:=(kg (k:Int)).1;have d:=nm (k:Int);have c:=(aY.seen (k:Int)).1;grind
     ·have a:=PH (x:=al) j tV;have d:=Bq j aF;change gS r.2.1 j=gS st.1 j+_ at d;rw[Cx]at a;show gS (r.2.1.set i al) j=_;rw[ZN j al];rw[ZN j (st.1.getD i 0)]at d;omega
     ·have:=(M.cl C jo).1 (jo al PM i G aC).2;grind
     ·change (r.2.1.set i al).getD k 0≠_ at eO;rw[EO tV]at eO;split at eO
      ·rename_i e;subst e;cases PN:gd k c with
       | false=>rfl
       | true=>
        have:=(M.cl C jo).1 (jo c hc k G PN).2;grind
      ·exact (M.cl C jo).2 bM k an eO c hc
    ·rw[if_neg bM];have C0:r.1=false:=by grind
     obtain⟨C3,ayG,aqb⟩:=M.PL C0;refine⟨C3,λq=>⟨Int.le_trans (nm q).1 (Int.le_trans (kg q).1 (xP q)),(ao.seen q).2⟩,λk an PO GX=>?_,λk PO bH ax=>?_⟩
     ·grind
     ·by_cases e:k=i
      ·grind
      ·by_cases aO:1<=cT b.2 (k:Int)
       ·obtain⟨a,c⟩:=ln k PO bH aO;grind
       ·refine aqb k PO ?_ ax;show cT (fe b.2 (i:Int) (cT b.2 (i:Int)+1)) (k:Int)=0;rw[Bj,if_neg (by omega)];grind
 ·obtain⟨hw,nm,IZ,ln⟩:=W;rw[List.length_range]at IZ;refine⟨⟨by rw[hw];exact aY.len,by rw[hw];exact aY.ma,nm⟩,λ_=>⟨hw,λi G aC=>IZ i G G aC,ln⟩,λh=>(by cases h),λC jo=>⟨λ_=>rfl,λh=>(by cases h)⟩⟩
theorem PQ{gd:Nat->Int->Bool}{m J:Nat}:∀ f,ZR gd m J f (j0 gd m f)
 | 0=>λal st _ _ h=>absurd h.ck (by omega)
 | f+1=>λal st aY E h=>aqa (PQ f) aY E h
def yD(gd:Nat->Int->Bool)(m F:Nat)(st:z1'×Int)(j:Nat):z1'×Int:=((j0 gd m F (j:Int) (st.1,[])).2.1,if (j0 gd m F (j:Int) (st.1,[])).1=true then st.2 else st.2+1)
def PR(gd:Nat->Int->Bool)(m J F:Nat):z1'×Int:=(List.range J).foldl (yD gd m F) (List.replicate m (-1),0)
structure EP(gd:Nat->Int->Bool)(m J k:Nat)(st:z1'×Int):Prop where
 len:st.1.length=m
 ma:∀ i,i<m->st.1.getD i 0=-1\/(0<=st.1.getD i 0/\st.1.getD i 0<(k:Int)/\gd i (st.1.getD i 0)=true)
 one:∀ j,0<=j->gS st.1 j<=1
 num:st.2=(((List.range k).countP λ(j:Nat)=>decide (gS st.1 (j:Int)=0):Nat):Int)
 PG:∃ C,ZO gd m st.1 C/\(∀ c,C c->0<=c/\c<(k:Int))/\∀ j:Nat,j<k->gS st.1 (j:Int)=0->C (j:Int)
theorem ZU{gd:Nat->Int->Bool}{m J F k:Nat}(bp:m<F)(an:k<J){st:z1'×Int}(h:EP gd m J k st):EP gd m J (k+1) (yD gd m F st k):=by
 obtain⟨g,n⟩:=st;have hu:rN m []<=m:=by
  unfold rN;exact Nat.le_trans List.countP_le_length (by simp)
 have wC:yC m J F (g,[]):=⟨h.len,λi G=>by have:=h.ma i G;grind,λq=>⟨Int.le_refl _,by show (0:Int)<=1;decide⟩,by grind⟩
 obtain⟨ao,M⟩:=PQ F (k:Int) (g,[]) (by omega) (by omega) wC;unfold yD;revert ao M;generalize j0 gd m F (k:Int) (g,[])=r;intro ao M;have mZ:gS g (k:Int)=0:=by
  unfold gS;rw[List.countP_eq_zero];intro x ah;obtain⟨i,G,rfl⟩:=List.mem_iff_getElem.1 ah;have:=h.ma i (by rw[<-h.len];exact G);grind
 obtain⟨C,jo,ayH,ayI⟩:=h.PG;by_cases W:r.1=true
 ·obtain⟨kU,Bq⟩:=M.ZQ W;have ayJ:=(M.cl C jo).2 W;refine⟨ao.len,λi G=>?_,λj aF=>?_,?_,C,λc uc i G ER=>?_,λc uc=>?_,λj aF hu=>?_⟩
  ·show r.2.1.getD i 0=-1\/_;rcases kU i G with e | ⟨ax,aO⟩
   ·rw[e];rcases h.ma i G with a | a
    ·exact .inl a
    ·exact .inr ⟨a.1,by have:=a.2.1;show g.getD i 0<_;change g.getD i 0<_ at this;omega,a.2.2⟩
   ·by_cases kg:r.2.1.getD i 0=-1
    ·omega
    ·refine .inr ⟨?_,?_,aO⟩
     ·have:=(ao.ma i G).resolve_left kg;grind
     ·have E:=Bq _ kg;have U:0<gS r.2.1 (r.2.1.getD i 0):=ap' (by rw[ao.len];exact G) rfl;by_cases e:r.2.1.getD i 0=(k:Int)
      ·grind
      ·rw[if_neg e]at E;have ag:0<gS g (r.2.1.getD i 0):=by grind
       unfold gS at ag;rw[List.countP_pos_iff]at ag;obtain⟨x,ah,e'⟩:=ag;obtain⟨q,bt,rfl⟩:=List.mem_iff_getElem.1 ah;have:=h.ma q (by rw[<-h.len];exact bt);grind
  ·have E:=Bq j (by omega);have U:=h.one j aF;change gS r.2.1 j=gS g j+_ at E;change gS g j<=1 at U;show gS r.2.1 j<=1;by_cases e:j=(k:Int)
   ·subst e;rw[if_pos rfl]at E;omega
   ·rw[if_neg e]at E;omega
  ·rw[if_pos W];have E:=h.num;change n=_ at E;show n=_;rw[E,List.range_succ,List.countP_append];have U:∀ j:Nat,j<k->gS r.2.1 (j:Int)=gS g (j:Int):=λj aF=>by
    have:=Bq (j:Int) (by omega);rw[if_neg (by omega)]at this;omega
   have ag:gS r.2.1 (k:Int)=1:=by
    grind
   have a6:(List.range k).countP (λ(j:Nat)=>decide (gS r.2.1 (j:Int)=0))=(List.range k).countP (λ(j:Nat)=>decide (gS g (j:Int)=0)):=List.countP_congr λj aF=>by grind
   simp_all
  ·show r.2.1.getD i 0≠-1/\C (r.2.1.getD i 0);by_cases e:r.2.1.getD i 0=g.getD i 0
   ·rw[e];exact jo c uc i G ER
   grind
  ·grind
  ·change gS r.2.1 (j:Int)=0 at hu;have E:=Bq (j:Int) (by omega);change gS r.2.1 _=gS g _+_ at E;by_cases e:j=k
   ·grind
   ·rw[if_neg (by omega)]at E;grind
 ·have C0:r.1=false:=by grind
  obtain⟨hw,IZ,ln⟩:=M.PL C0;change r.2.1=g at hw;simp only[hw];refine⟨h.len,λi G=>?_,h.one,?_,λc=>C c\/c=(k:Int)\/∃ i,i<m/\1<=cT r.2.2 (i:Int)/\c=g.getD i 0,λc uc i G ER=>?_,λc uc=>?_,λj aF hu=>?_⟩
  ·rcases h.ma i G with a | a
   ·exact .inl a
   ·exact .inr ⟨a.1,by have:=a.2.1;show g.getD i 0<_;change g.getD i 0<_ at this;omega,a.2.2⟩
  ·rw[if_neg W];have E:=h.num;change n=_ at E;show n+1=_;rw[E,List.range_succ,List.countP_append];grind
  ·have aB:1<=cT r.2.2 (i:Int)->g.getD i 0≠-1/\(C (g.getD i 0)\/g.getD i 0=(k:Int)\/∃ q,q<m/\1<=cT r.2.2 (q:Int)/\g.getD i 0=g.getD q 0):=λaE=>⟨(ln i G rfl aE).1,.inr (.inr ⟨i,G,aE,rfl⟩)⟩
   rcases uc with e | e | ⟨q,bt,aE,e⟩
   ·exact⟨(jo c e i G ER).1,.inl (jo c e i G ER).2⟩
   ·grind
   ·subst e;exact aB ((ln q bt rfl aE).2 i G ER)
  ·rcases uc with e | e | ⟨q,bt,aE,e⟩
   ·grind
   ·omega
   ·have:=(h.ma q bt).resolve_left (ln q bt rfl aE).1;grind
  grind
theorem aqc(gd:Nat->Int->Bool)(m J F:Nat)(bp:m<F):EP gd m J J (PR gd m J F):=by
 unfold PR;have key:∀ k,k<=J->EP gd m J k ((List.range k).foldl (yD gd m F) (List.replicate m (-1),0)):=by
  intro k;induction k with
  | zero=>
   intro _;refine⟨by simp,λi G=>.inl (ap_ G),λj aF=>?_,by simp,λ_=>False,λ_ h=>h.elim,λ_ h=>h.elim,λj aF=>by omega⟩;show gS (List.replicate m (-1)) j<=1;have:gS (List.replicate m (-1)) j=0:=by
    unfold gS;grind
   omega
  | succ k aK=>
   intro an;rw[List.range_succ,List.foldl_append];exact ZU bp (by omega) (aK (by omega))
 grind
def rR(t:dx)(sp:Int×Int)(j:rP):Bool:=decide (sp.2<=j.2.2)&&decide ((o2 t.2.2 (sp.1,j.1,j.2.1)).getD 0 > 0)
abbrev Br:aL:=⟨.az wz (.az IM IW),de,λx=>∃ t,x.1=some t,λx=>rR (x.1.getD yA) x.2.1 x.2.2⟩
theorem aqd(x):A.le (V4 x) (Br.sh x):=A.br λh=>by
 obtain⟨o,sp,j⟩:=x;obtain⟨t,aq⟩:=h;change o=_ at aq;subst aq;unfold V4;simp only[Option.isSome_some,Option.getD_some,and_true,true_and,and_self,imp_self,implies_true,A.bq];rfl
def ES(t:dx)(l:List rP):Bool:=l.all λj=>(List.range t.1.2.1.length).any λ(i:Nat)=>rR t ((i:Int),0) j
abbrev PS:aL:=⟨.az wz (.slice IW),de,λx=>∃ t,x.1=some t/\t.1.2.1.length<2 ^ 63/\x.2.length<2 ^ 63,λx=>ES (x.1.getD yA) x.2⟩
theorem aqe(t:dx)(l:List rP)(E:t.1.2.1.length<2 ^ 63)(U:l.length<2 ^ 63):NX Br.sh (some t,l)=A.pure (ES t l):=by
 unfold NX;rw[A.du l (λi (_:Unit)=>(some t,l,(l.length:Int),(i:Int),())) (λj b=>if (!(List.range t.1.2.1.length).any λ(i:Nat)=>rR t ((i:Int),0) j)=true then .done (.done false) else .next b) (λ_=>.next ()) () ?_ ?_ ?_]
 ·rw[kh (q:=λj=>(List.range t.1.2.1.length).any λ(i:Nat)=>rR t ((i:Int),0) j) _ _ (λ_=>rfl)];unfold ES;cases l.all λj=>(List.range t.1.2.1.length).any λ(i:Nat)=>rR t ((i:Int),0) j<;>simp
 ·rfl
 ·intro i G b;have hw:=bA (n:=(i:Int)+1) (by omega) (by omega);simp only[bW,cV G,if_true,dh G,cN G,A.bq,Option.isSome_some,Option.getD_some];rw[A.du (List.range t.1.2.1.length) (λk (b:Bool)=>(some t,b,l,(l.length:Int),(i:Int),(t.1.2.1.length:Int),(k:Int),l[i],())) (λ(k:Nat) b=>.next (b||rR t ((k:Int),0) l[i])) (λb=>.next (some t,b,l,(l.length:Int),(i:Int),())) false ?_ ?_ ?_]
  ·rw[dQ];have e:∀ (r:List Nat) (b:Bool),r.foldl (λ(b:Bool) (k:Nat)=>b||rR t ((k:Int),0) l[i]) b=(b||r.any λ(k:Nat)=>rR t ((k:Int),0) l[i]):=by
    intro r;induction r with
    | nil=>simp
    | cons k r aK=>grind
   rw[e,Bool.false_or];simp only[A.aG,A.bZ];cases (List.range t.1.2.1.length).any λ(k:Nat)=>rR t ((k:Int),0) l[i]<;>simp[V.hn,hw]
  ·rfl
  ·intro k an b;have an:k<t.1.2.1.length:=by grind
   have l9:=bA (n:=(k:Int)+1) (by omega) (by omega);simp only[cV an,if_true,List.getElem_range,aL.sh,A.jd,A.dv];rw[A.bu (by simp)];simp only[Option.getD_some,cj,l9,V.hn];grind
  simp
 simp
theorem aqf(x):A.le (NX Br.sh x) (PS.sh x):=A.br λh=>by
 obtain⟨o,l⟩:=x;obtain⟨t,aq,E,U⟩:=h;change o=_ at aq;subst aq;exact aqe t l E U
def hb(t:dx)(l:List rP)(i:Nat)(j:Int):Bool:=rR t (t.2.1.getD i (0,0)) (l.getD j.toNat (0,0,0))
abbrev PT:=Option dx×List rP×Int×z4'×z1'×Unit
abbrev ZV:=Bool×z4'×z1'×Unit
def uT(r:Bool×k6):ZV:=(r.1,r.2.2,r.2.1,())
def PU(f:Nat)(x:PT):Prop:=∃ t,x.1=some t/\t.2.1.length<=200/\x.2.1.length<=1000/\0<=x.2.2.1/\x.2.2.1<(x.2.1.length:Int)/\yC t.2.1.length x.2.1.length f (x.2.2.2.2.1,x.2.2.2.1)
def uU(f:Nat)(x:PT):A ZV:=A.dS (PU f x) (uT (j0 (hb (x.1.getD yA) x.2.1) (x.1.getD yA).2.1.length f x.2.2.1 (x.2.2.2.2.1,x.2.2.2.1)))
theorem aqg{t:dx}{l:List rP}(hm:t.2.1.length<=200)(aj:l.length<=1000){f:Nat}{al:Int}(ZS:0<=al)(ZT:al<(l.length:Int)){st:k6}(aY:yC t.2.1.length l.length (f+1) st) :
  N4 Br.sh (uU f) (some t,l,al,st.2,st.1,())=A.pure (uT (j0 (hb t l) t.2.1.length (f+1) al st)):=by
 have Eo:=PQ (gd:=hb t l) (m:=t.2.1.length) (J:=l.length) f;unfold N4;simp only[bW,A.bq,ao6,Option.isSome_some,Option.getD_some];rw[A.f' (List.range t.2.1.length) (λi (b:k6)=>(some t,l,al,t.2.1,(t.2.1.length:Int),(i:Int),b.2,b.1,())) (λi b=>V.uP (λr=>.done (uT r)) (ob (hb t l) (j0 (hb t l) t.2.1.length f) al i b)) (λb=>.next (b.2,b.1,())) (λi b=>b.1=st.1/\∀ q,cT st.2 q<=cT b.2 q/\cT b.2 q<=1) st ?_ ?_ ?_ ?_]
 ·show _=A.pure (uT (eZ (ob (hb t l) (j0 (hb t l) t.2.1.length f) al) (λst=>(false,st)) (List.range t.2.1.length) st));rw[Ps,Ps,Zy];cases yv (ob (hb t l) (j0 (hb t l) t.2.1.length f) al) (List.range t.2.1.length) st<;>(simp only[V.uP,V.fin,A.aG,A.bZ,A.py];try rfl)
 ·rfl
 ·exact⟨rfl,λq=>⟨Int.le_refl _,(aY.seen q).2⟩⟩
 ·intro i G b W;have G:i<t.2.1.length:=by grind
  have km:=bA (n:=(i:Int)+1) (by omega) (by omega);rw[List.getElem_range];have aqh:b.1.length=t.2.1.length:=by rw[W.1];exact aY.len
  have eM:i<b.1.length:=by omega
  have aqi:0<=al/\al<(l.length:Int):=⟨ZS,ZT⟩
  have kU:=W.2 (i:Int);have nf:=aY.seen (i:Int);simp only[bW,cV G,if_true,cN G,cN eM,A.bq,aqi,aL.sh,A.mD,A.gA,Int.toNat_natCast,Option.getD_some];have zq:rR t (t.2.1.getD i (0,0)) (l.getD al.toNat (0,0,0))=hb t l i al:=rfl;rw[zq];have aqj:(∃ cY,(some t:Option dx)=some cY)=True:=by simp
  simp only[aqj,and_true,true_and,and_self,imp_self,implies_true,A.bq];by_cases I0:cT b.2 (i:Int) > 0
  ·have hu:ob (hb t l) (j0 (hb t l) t.2.1.length f) al i b=.next b:=by unfold ob;grind
   rw[hu];refine⟨?_,λbf dc=>by cases dc;exact W⟩;simp only[I0,decide_true,Bool.true_or,if_true,A.aG,A.bZ,cj,km,V.hn,V.uP,Bool.not_true,Bool.false_eq_true,false_imp_iff,Bool.true_eq_false,A.bq,and_self,implies_true];rfl
  ·by_cases aC:hb t l i al=true
   ·have bl:cT b.2 (i:Int)=0:=by omega
    have IU:=bA (n:=cT b.2 (i:Int)+1) (by omega) (by omega);have kg:∀ q,cT b.2 q<=cT (fe b.2 (i:Int) (cT b.2 (i:Int)+1)) q/\cT (fe b.2 (i:Int) (cT b.2 (i:Int)+1)) q<=1:=λq=>by
     have:=W.2 q;rw[Bj];omega
    have Kz:¬(decide (cT b.2 (i:Int) > 0)||!hb t l i al)=true:=by grind
    by_cases aq:b.1.getD i 0=-1
    ·have hu:ob (hb t l) (j0 (hb t l) t.2.1.length f) al i b=.done (true,(b.1.set i al,fe b.2 (i:Int) (cT b.2 (i:Int)+1))):=by
      unfold ob;grind
     rw[hu];refine⟨?_,λbf dc=>by cases dc⟩;simp only[I0,aC,aq,decide_true,decide_false,Bool.not_true,Bool.not_false,Bool.or_self,Bool.false_eq_true,if_false,if_true,false_imp_iff,Bool.true_eq_false,Bool.true_or,A.bq,A.aG,A.py,cj,IU,cN eM,V.hn,V.uP,and_self,implies_true,true_imp_iff];rfl
    ·have ayK:=aY.ma i G;have aF:0<=b.1.getD i 0/\b.1.getD i 0<(l.length:Int):=by grind
     have wC:yC t.2.1.length l.length f (b.1,fe b.2 (i:Int) (cT b.2 (i:Int)+1)):=by
      refine⟨aqh,?_,λk=>⟨?_,(kg k).2⟩,?_⟩
      ·show PI _ _ b.1;rw[W.1];exact aY.ma
      ·have:=(kg k).1;have:=W.2 k;have:=(aY.seen k).1;grind
      ·have E:=Zw (n:=t.2.1.length) (m:=b.2) (s:=(i:Int)) (v:=cT b.2 (i:Int)+1) (by omega) (by omega) bl (by omega);have U:=Zx (n:=t.2.1.length) (a:=st.2) (b:=b.2) λk=>⟨(aY.seen k).1,(W.2 k).1⟩
       have ag:=aY.ck;grind
     obtain⟨Ag,aqk⟩:=Eo (b.1.getD i 0) (b.1,fe b.2 (i:Int) (cT b.2 (i:Int)+1)) aF.1 aF.2 wC;have gN:PU f (some t,l,b.1.getD i 0,fe b.2 (i:Int) (cT b.2 (i:Int)+1),b.1,()):=⟨t,rfl,hm,aj,aF.1,aF.2,wC⟩
     have vH:uU f (some t,l,b.1.getD i 0,fe b.2 (i:Int) (cT b.2 (i:Int)+1),b.1,())=A.pure (uT (j0 (hb t l) t.2.1.length f (b.1.getD i 0) (b.1,fe b.2 (i:Int) (cT b.2 (i:Int)+1)))):=A.bS gN _;simp only[I0,aC,aq,decide_true,decide_false,Bool.not_true,Bool.not_false,Bool.or_self,Bool.false_eq_true,if_false,if_true,false_imp_iff,Bool.true_eq_false,Bool.false_or,A.bq,cj,IU,and_self,implies_true,true_imp_iff,vH,A.aG];have tV:(j0 (hb t l) t.2.1.length f (b.1.getD i 0) (b.1,fe b.2 (i:Int) (cT b.2 (i:Int)+1))).2.1.length=t.2.1.length:=Ag.len;have ayL:=Ag.seen;have ayM:=aqk.PL;have ZW:ob (hb t l) (j0 (hb t l) t.2.1.length f) al i b=if (j0 (hb t l) t.2.1.length f (b.1.getD i 0) (b.1,fe b.2 (i:Int) (cT b.2 (i:Int)+1))).1=true then .done (true,((j0 (hb t l) t.2.1.length f (b.1.getD i 0) (b.1,fe b.2 (i:Int) (cT b.2 (i:Int)+1))).2.1.set i al,(j0 (hb t l) t.2.1.length f (b.1.getD i 0) (b.1,fe b.2 (i:Int) (cT b.2 (i:Int)+1))).2.2)) else .next (j0 (hb t l) t.2.1.length f (b.1.getD i 0) (b.1,fe b.2 (i:Int) (cT b.2 (i:Int)+1))).2:=by
      unfold ob;grind
     rw[ZW];clear ZW vH;generalize j0 (hb t l) t.2.1.length f (b.1.getD i 0) (b.1,fe b.2 (i:Int) (cT b.2 (i:Int)+1))=r at *
     obtain⟨ok,g',s'⟩:=r;have qd:i<g'.length:=by grind
     cases ok with
     | true=>
      refine⟨?_,λbf dc=>by cases dc⟩;simp only[uT,if_true,cN qd,A.bq,A.aG,A.py,V.hn,V.uP]
     | false=>
      refine⟨?_,λbf dc=>?_⟩
      ·simp only[uT,Bool.false_eq_true,if_false,A.aG,A.bZ,cj,km,V.hn,V.uP];rfl
      ·cases dc;grind
   ·have hu:ob (hb t l) (j0 (hb t l) t.2.1.length f) al i b=.next b:=by unfold ob;grind
    rw[hu];refine⟨?_,λbf dc=>by cases dc;exact W⟩;simp only[I0,aC,decide_false,Bool.not_false,Bool.or_true,if_true,A.aG,A.bZ,cj,km,V.hn,V.uP,Bool.false_eq_true,A.bq,and_self,implies_true];rfl
 simp
theorem aql(f:Nat)(x):A.le (N4 Br.sh (uU f) x) (uU (f+1) x):=A.br λh=>by
 obtain⟨o,l,al,seen,g,u⟩:=x;obtain⟨t,aq,hm,aj,aY,E,wC⟩:=h;change o=_ at aq;subst aq;exact aqg (st:=(g,seen)) hm aj aY E wC
theorem aqm(x:PT):¬(uU 0 x).cm:=λ⟨_,_,_,_,_,_,h⟩=>absurd h.ck (by omega)
def yE(t:dx)(l:List rP):Int:=(PR (hb t l) t.2.1.length l.length 201).2
abbrev I1:aL:=⟨.az wz (.slice IW),bw,λx=>∃ t,x.1=some t/\t.2.1.length<=200/\x.2.length<=1000,λx=>yE (x.1.getD yA) x.2⟩
theorem aqn(t:dx)(l:List rP)(hm:t.2.1.length<=200)(aj:l.length<=1000):NY wu (uU 201) (some t,l)=A.pure (yE t l):=by
 unfold NY;simp only[bW,Option.isSome_some,Option.getD_some,A.bq];unfold wu;simp only[A.dv];rw[A.bu (by grind)];simp only[Int.toNat_natCast];rw[A.f' (List.range l.length) (λi (b:z1'×Int)=>(some t,l,b.2,(l.length:Int),(i:Int),b.1,())) (λi b=>.next (yD (hb t l) t.2.1.length 201 b i)) (λb=>.next (b.2,())) (λi b=>EP (hb t l) t.2.1.length l.length i b/\0<=b.2/\b.2<=(i:Int)) (List.replicate t.2.1.length (-1),0) ?_ ?_ ?_ ?_]
 ·rw[dQ,A.aG,A.bZ];rfl
 ·rfl
 ·refine⟨?_,by simp⟩;have:=aqc (hb t l) t.2.1.length 0 201 (by omega);exact⟨this.len,this.ma,this.one,this.num,this.PG⟩
 ·intro i G b W;have G:i<l.length:=by grind
  have km:=bA (n:=(i:Int)+1) (by omega) (by omega);rw[List.getElem_range];obtain⟨g,n⟩:=b;obtain⟨W,sk,qe⟩:=W;change 0<=n at sk;change n<=(i:Int) at qe;have Bi:=bA (n:=n+1) (by omega) (by omega);have gN:PU 201 (some t,l,(i:Int),[],g,()):=by
   refine⟨t,rfl,hm,aj,Int.natCast_nonneg i,Int.ofNat_lt.2 G,W.len,λk an=>?_,λk=>by show 0<=cT [] k/\cT [] k<=1;simp[cT,uO],?_⟩
   ·rcases W.ma k an with h | h
    ·exact .inl h
    ·exact .inr ⟨h.1,Int.lt_trans h.2.1 (Int.ofNat_lt.2 G)⟩
   ·have:rN t.2.1.length []<=t.2.1.length:=by
     unfold rN;exact Nat.le_trans List.countP_le_length (by simp)
    grind
  have vH:uU 201 (some t,l,(i:Int),[],g,())=A.pure (uT (j0 (hb t l) t.2.1.length 201 (i:Int) (g,[]))):=A.bS gN _;have Di:=ZU (F:=201) (by omega) G W;refine⟨?_,λbf dc=>?_⟩
  ·simp only[cV G,if_true,vH,A.aG,uT];unfold yD;cases cM:(j0 (hb t l) t.2.1.length 201 (i:Int) (g,[])).1 with
   | true=>
    simp_all
   | false=>
    simp_all
  ·cases dc;refine⟨Di,?_⟩;have ax:(0:Int)<=n+1:=by omega
   have aO:n+1<=((i+1:Nat):Int):=by omega
   have cF:n<=((i+1:Nat):Int):=by omega
   unfold yD;omega
 simp
theorem aqo(x):A.le (NY wu (uU 201) x) (I1.sh x):=A.br λh=>by
 obtain⟨o,l⟩:=x;obtain⟨t,aq,E,U⟩:=h;change o=_ at aq;subst aq;exact aqn t l E U
theorem ZX{s:bG}(ae:l' s):(PB s).length<=200:=by
 have E:∀ (l:List Nat),(∀ i∈l,i<s.2.1.length)->(l.flatMap λ(i:Nat)=>lG ((i:Int),0) (s.2.1.getD i 0)).length<=10*l.length:=by
  intro l;induction l with
  | nil=>simp
  | cons i l aK=>
   intro aj;have E:=aK λj aF=>aj j (by grind);have U:=aj i (by simp);have ag:=ae.qG _ (List.getElem_mem U);have jw:s.2.1.getD i 0=s.2.1[i]:=by grind
   rw[List.flatMap_cons,List.length_append,List.length_cons,jw];simp only[lG,List.length_replicate];simp only[lG]at E;omega
 have U:∀ (l:List DV),(∀ d∈l,o4 s.1 d=true)->(l.flatMap λd=>lG (d.2.1,d.1) d.2.2).length<=10*l.length:=by
  intro l;induction l with
  | nil=>simp
  | cons d l aK=>
   intro aj;have E:=aK λj aF=>aj j (by grind);have ag:=aj d (by simp);simp only[o4,b4,Bool.and_eq_true,decide_eq_true_eq]at ag;rw[List.flatMap_cons,List.length_append,List.length_cons];simp only[lG,List.length_replicate];simp only[lG]at E;omega
 have a:=E (List.range s.2.1.length) λi G=>by grind
 have b:=U s.2.2.2.2.1 ae.ZD;have c:=ae.ZE;have d:=ae.PA;have e:=ae.EL;unfold PB EM ZH;grind
theorem ZY{s:bG}(ae:l' s){cA:z1'}(ao:n' s cA):(lH s cA).1.length<=24:=by
 unfold lH;split
 ·have:∀ (l:List Nat),(∀ i∈l,i<cA.length)->(l.flatMap λi=>(o5 s cA i).getD []).length<=4*l.length:=by
   intro l;induction l with
   | nil=>simp
   | cons i l aK=>
    intro aj;have E:=aK λj aF=>aj j (by grind);have U:=aj i (by simp);rw[List.flatMap_cons,List.length_append,List.length_cons];have:((o5 s cA i).getD []).length<=4:=by
     cases h:o5 s cA i with
     | none=>simp
     | some y=>exact ZK ae ao U h
    omega
  have a:=this (List.range cA.length) λi G=>by grind
  rw[List.length_range]at a;have:=ao.1;have:=ae.uR;grind
 ·simp
def pU(s:bG)(cA:z1'):Bool:=(lH s cA).2&&decide (yE (dr s) (lH s cA).1=0)
abbrev wD:aL:=⟨.az wz fF,de,λx=>∃ s,wB x.1 s/\n' s x.2,λx=>pU (oa x.1) x.2⟩
theorem aqp(x):A.le (VX IX.sh I1.sh x) (wD.sh x):=A.br λh=>by
 obtain⟨o,cA⟩:=x;obtain⟨s,⟨aq,ae⟩,ao⟩:=h;change o=_ at aq;subst aq;unfold VX;simp only[aL.sh,A.dv,A.jd];rw[A.bu (by exact⟨s,⟨rfl,ae⟩,ao⟩),A.bu (by exact λ_=>⟨dr s,rfl,ZX ae,Nat.le_trans (ZY ae ao) (by omega)⟩)];show A.pure ((lH s cA).2&&decide ((if (lH s cA).2=true then yE (dr s) (lH s cA).1 else 0)=0))=A.pure (pU s cA);unfold pU;grind
def Bs(s:bG)(first:z1')(p:Nat):Bool:=!(first.contains (p:Int)||decide (td (mK s (first.length:Int)) (ns s (p:Int))=0))
def kn(s:bG)(e:Int):Nat->z1'->List (z1')
 | 0,first=>[first]
 | n+1,first=>((List.range s.2.2.1.length).flatMap λp=>if Bs s first p=true then kn s e n (first++[(p:Int)]) else [])++(if e=0 then [] else kn s e n (first++[-1]))
abbrev ZZ:Type:=Nat×(List (z1')->Prop)×List (z1')×Bool
abbrev PV:Type:=Option dx×z1'×Int×Nat×ZZ×Unit
abbrev Z0:Type:=Bool×ZZ×Unit
structure PW(f:Nat)(x:PV)(s:bG)(n:Nat)(a b:List (z1')):Prop where
 ayN:wB x.1 s
 len:x.2.1.length+n=s.2.2.2.1.length
 ck:n<f
 ayO:x.2.2.2.2.1.1=x.2.2.2.1
 bz:x.2.2.2.2.1.2.2.2=false
 seq:x.2.2.2.2.1.2.1=λT=>T=a++kn s x.2.2.1 n x.2.1++b
 pos:x.2.2.2.2.1.2.2.1=a
def aqq(x:PV)(y:Z0):Prop:=y.2.1.1=x.2.2.2.1/\y.2.1.2.1=x.2.2.2.2.1.2.1/\(y.1=true->y.2.1.2.2.2=false/\y.2.1.2.2.1=x.2.2.2.2.1.2.2.1++kn (oa x.1) x.2.2.1 ((oa x.1).2.2.2.1.length - x.2.1.length) x.2.1)/\(y.1=false->y.2.1.2.2.2=true)
def rS(f:Nat)(x:PV):A Z0:=⟨∃ s n a b,PW f x s n a b,aqq x⟩
def mb(s:bG)(e:Int)(n:Nat)(first:z1')(k:Nat):List (z1'):=(List.range k).flatMap λp=>if Bs s first p=true then kn s e n (first++[(p:Int)]) else []
theorem I2(s:bG)(e:Int)(n:Nat)(first:z1')(k:Nat):mb s e n first (k+1)=mb s e n first k++(if Bs s first k=true then kn s e n (first++[(k:Int)]) else []):=by
 unfold mb;rw[List.range_succ,List.flatMap_append];simp
theorem aqr(s:bG)(e:Int)(n:Nat)(first:z1'){k m:Nat}(h:k<=m):∃ t,mb s e n first m=mb s e n first k++t:=by
 induction m with
 | zero=>simp_all
 | succ m aK=>
  by_cases an:k=m+1
  ·simp_all
  ·obtain⟨t,aI⟩:=aK (by omega);rw[I2,aI,List.append_assoc];simp
theorem aqs{f:Nat}{s:bG}(ae:l' s){first:z1'}{e:Int}{l:Nat}{L:List (z1')->Prop}{n:Nat}(hlen:first.length+n=s.2.2.2.1.length)(aq:n<f+1){a b:List (z1')}(iL:L=λT=>T=a++kn s e n first++b) :
  A.cy (N5 wv.sh (rS f) mH.sh (some (dr s),first,e,l,(l,L,a,false),())) λy=>y.2.1.1=l/\y.2.1.2.1=L/\(y.1=true->y.2.1.2.2.2=false/\y.2.1.2.2.1=a++kn s e n first)/\(y.1=false->y.2.1.2.2.2=true):=by
 have gz:(dr s).1=s:=rfl;have Bo:=ae.uR;have aqt:=ae.IS;unfold N5;simp only[Option.isSome_some,Option.getD_some,A.bq,bW,gz];cases n with
 | zero=>
  have aw:decide ((first.length:Int)=(s.2.2.2.1.length:Int))=true:=by grind
  have aC:∃ T,L (a++first::T):=⟨b,by rw[iL];show _=_;simp[kn]⟩
  simp only[aw,if_true,true_and,and_self];rw[A.bu aC,A.gh];refine⟨⟨true,trivial⟩,λy _=>A.eb.2 ?_⟩;refine⟨rfl,rfl,λh=>?_,λh=>?_⟩
  ·change y=true at h;subst h;exact⟨rfl,rfl⟩
  grind
 | succ n=>
  have aw:decide ((first.length:Int)=(s.2.2.2.1.length:Int))=false:=by grind
  simp only[aw,Bool.false_eq_true,if_false,A.gh];obtain⟨z,bl⟩:∃ z,kn s e (n+1) first=mb s e n first s.2.2.1.length++z:=⟨_,rfl⟩
  refine A.ao4 s.2.2.1.length (λk q=>q=(some (dr s),first,e,l,(first.length:Int),s.2.2.1,(s.2.2.1.length:Int),(k:Int),(l,L,a++mb s e n first k,false),())) ?_ ?_ ?_
  ·show _=_;simp[mb]
  ·rintro k an q rfl;have l9:=bA (n:=(k:Int)+1) (by omega) (by omega);have fY:first.length<2 ^ 63:=by omega
   have te:first.length<s.2.2.2.1.length:=by omega
   have IY:=PE te;have Bp:List.getD s.2.2.2.1 first.length ([],(0,0),0,0,0)=mK s (first.length:Int):=rfl
   have PF:s.2.2.1[k]=ns s (k:Int):=by simp[ns,List.getD_eq_getElem?_getD,an]
   have n3:wv.pre (mK s (first.length:Int),ns s (k:Int)):=ae.fL.2.2.2.2.2.2 _ IY;have aqu:(first.length<2 ^ 63)=True:=by grind
   simp only[cV an,if_true,cN an,dh an,A.bq,aL.sh,A.mD,A.gA,aqu,gz,Int.toNat_natCast,cN te,Bp,PF,and_true,true_and,and_self,imp_self,implies_true];have aqv:((mK s (first.length:Int)).1.length<2 ^ 63)=True:=by grind
   have aqw:List.getD s.2.2.1 k (0,0,0,0,[])=ns s (k:Int):=rfl;have eO:first.contains (k:Int)=false->(!first.contains (k:Int))=true:=λh=>by grind
   have iM:((0:Int)<=0/\0<=(first.length:Int)/\(first.length:Int)<=(first.length:Int))=True:=by simp
   have kR:List.take first.length first=first:=List.take_length
   have kS:(0<Add.add 0 1/\bQ (Add.add first.length (Add.add 0 1))):=⟨by decide,by show bQ (first.length+1);unfold bQ;omega⟩
   have ik:(first.contains (k:Int)||decide (td (mK s (first.length:Int)) (ns s (k:Int))=0))=!Bs s first k:=by unfold Bs;simp
   have jN:first.contains (k:Int)=first.contains (k:Int):=rfl
   simp only[Option.isSome_some,Option.getD_some,gz,cN te,Bp,aqw,aqv,and_true,true_and,and_self,imp_self,implies_true,A.bq,A.bu eO,ik,iM,kR];rw[A.bu (by omega)];obtain⟨t,aI⟩:=aqr s e n first (show k+1<=s.2.2.1.length by omega)
   cases aB:Bs s first k with
   | false=>
    simp only[Bool.not_false,if_true,A.aG,A.bZ,A.eb,cj,l9];show _=_;rw[I2,aB];simp
   | true=>
    rw[I2,aB,if_pos rfl]at aI;simp only[Bool.not_true,Bool.false_eq_true,if_false,A.gh];have Er:PW f (some (dr s),first++[(k:Int)],e,l,(l,L,a++mb s e n first k,false),()) s n (a++mb s e n first k) (t++z++b):=by
     refine⟨⟨rfl,ae⟩,by grind,by omega,rfl,rfl,?_,rfl⟩;grind
    refine⟨⟨s,n,_,_,Er⟩,λy aR=>?_⟩;obtain⟨Kg,⟨Z1,Z2,PX,ys⟩,aqx⟩:=y;obtain⟨dz,dP,ox,uQ⟩:=aR;change Z1=l at dz;change Z2=L at dP;subst dz;subst dP;cases Kg with
    | false=>
     have a6:ys=true:=uQ rfl;subst a6;simp only[Bool.not_false,if_true,A.aG,A.eb,A.py];simp
    | true=>
     obtain⟨bM,dn⟩:=ox rfl;change ys=false at bM;change PX=(a++mb s e n first k)++kn s e (s.2.2.2.1.length - (first++[(k:Int)]).length) (first++[(k:Int)]) at dn;have vw:s.2.2.2.1.length - (first++[(k:Int)]).length=n:=by grind
     rw[vw]at dn;subst bM;subst dn;simp only[Bool.not_true,Bool.false_eq_true,if_false,A.aG,A.eb,A.bZ,cj,l9];show _=_;rw[I2,aB,if_pos rfl];simp
  ·rintro q rfl;have kR:List.take first.length first=first:=List.take_length
   have iM:((0:Int)<=0/\0<=(first.length:Int)/\(first.length:Int)=(first.length:Int)/\(first.length:Int)<=(first.length:Int))=True:=by simp
   have kS:(0<Add.add 0 1/\bQ (Add.add first.length (Add.add 0 1))):=⟨by decide,by show bQ (first.length+1);unfold bQ;omega⟩
   simp only[Int.lt_irrefl,decide_false,Bool.false_eq_true,if_false,A.aG,A.eb,A.bZ,iM,kR,Int.toNat_natCast,and_true];by_cases he:e=0
   ·have zo:kn s e (n+1) first=mb s e n first s.2.2.1.length:=by
     show mb s e n first s.2.2.1.length++(if e=0 then [] else kn s e n (first++[-1]))=_
     grind
    simp only[he,decide_true,Bool.not_true,Bool.false_eq_true,if_false,false_imp_iff,A.bq,Bool.true_or,A.eb,Bool.true_eq_false,and_self,implies_true];grind
   ·have zo:kn s e (n+1) first=mb s e n first s.2.2.1.length++kn s e n (first++[-1]):=by
     show mb s e n first s.2.2.1.length++(if e=0 then [] else kn s e n (first++[-1]))=_
     grind
    simp only[he,decide_false,Bool.not_false,if_true,true_imp_iff,A.bq,Bool.false_or,and_self,implies_true];rw[A.bu (by simp),A.bu (by omega)];have Er:PW f (some (dr s),first++[-1],e,l,(l,L,a++mb s e n first s.2.2.1.length,false),()) s n (a++mb s e n first s.2.2.1.length) b:=by
     refine⟨⟨rfl,ae⟩,by grind,by omega,rfl,rfl,?_,rfl⟩;grind
    rw[A.gh];refine⟨⟨s,n,_,_,Er⟩,λy aR=>A.eb.2 ?_⟩;obtain⟨Kg,⟨Z1,Z2,PX,ys⟩,aqx⟩:=y;obtain⟨dz,dP,ox,uQ⟩:=aR;refine⟨dz,dP,λh=>?_,uQ⟩;obtain⟨bM,dn⟩:=ox h;change PX=(a++mb s e n first s.2.2.1.length)++kn s e (s.2.2.2.1.length - (first++[(-1:Int)]).length) (first++[-1]) at dn;grind
theorem aqy(f:Nat)(x):A.le (N5 wv.sh (rS f) mH.sh x) (rS (f+1) x):=λh=>by
 obtain⟨o,first,e,l,⟨dI,L,p,st⟩,u⟩:=x;obtain⟨s,n,a,b,ao⟩:=h;obtain⟨⟨aq,ae⟩,E,U,ag,a6,bM,dn⟩:=ao;change o=_ at aq;change dI=l at ag;change st=false at a6;change p=a at dn;change L=_ at bM;change first.length+n=_ at E
 change _ at bM;subst aq;subst ag;subst a6;subst dn;have vw:(oa (some (dr s))).2.2.2.1.length - first.length=n:=by show s.2.2.2.1.length - first.length=n;omega
 refine A.cy.mono (aqs ae E U bM) λy aR=>⟨aR.1,aR.2.1,λh=>?_,aR.2.2.2⟩
 obtain⟨aQ,aS⟩:=aR.2.2.1 h;refine⟨aQ,?_⟩;rw[aS];show _=p++kn (oa (some (dr s))) e ((oa (some (dr s))).2.2.2.1.length - first.length) first
 rw[vw];rfl
theorem aqz(x):¬(rS 0 x).cm:=λ⟨s,n,a,b,h⟩=>by have:=h.ck;omega
def lI(e:Int)(s:bG):List (z1'):=kn s e s.2.2.2.1.length []
def yF(o:Option dx):Prop:=∃ s,wB o s
def I3(o:Option dx):List (z1'):=lI 1 (oa o)
def PY(o:Option dx):List (z1'):=lI 0 (oa o)
theorem aqA(s:bG)(ae:l' s)(l:Nat):A.cy (HL (rS 10) (some (dr s),l,(l,(λT=>T=lI 1 s),[],false),())) λy=>y.1.1=l/\y.1.2.1=(λT=>T=lI 1 s)/\(y.1.2.2.2=false->y.1.2.2.1=lI 1 s):=by
 unfold HL;rw[A.gh];have Bo:=ae.uR;refine⟨⟨s,s.2.2.2.1.length,[],[],⟨rfl,ae⟩,by simp,by omega,rfl,rfl,by show (λT=>T=lI 1 s)=_;simp[lI],rfl⟩,λy aR=>A.eb.2 ?_⟩;obtain⟨dz,dP,ox,uQ⟩:=aR;refine⟨dz,dP,λh=>?_⟩;cases E:y.1 with
 | false=>grind
 | true=>
  obtain⟨_,ag⟩:=ox E;show y.2.1.2.2.1=_;rw[ag];rfl
theorem aqB(s:bG)(ae:l' s)(l:Nat):A.cy (HM (rS 10) (some (dr s),l,(l,(λT=>T=lI 0 s),[],false),())) λy=>y.1.1=l/\y.1.2.1=(λT=>T=lI 0 s)/\(y.1.2.2.2=false->y.1.2.2.1=lI 0 s):=by
 unfold HM;rw[A.gh];have Bo:=ae.uR;refine⟨⟨s,s.2.2.2.1.length,[],[],⟨rfl,ae⟩,by simp,by omega,rfl,rfl,by show (λT=>T=lI 0 s)=_;simp[lI],rfl⟩,λy aR=>A.eb.2 ?_⟩;obtain⟨dz,dP,ox,uQ⟩:=aR;refine⟨dz,dP,λh=>?_⟩;cases E:y.1 with
 | false=>grind
 | true=>
  obtain⟨_,ag⟩:=ox E;show y.2.1.2.2.1=_;rw[ag];rfl
theorem PZ{D ak:Type}{body:D->ak->A (dj×D)}(g:D->ak->D)(I:D->Prop):∀ (l:List ak) (s:D),I s->(∀ x∈l,∀ s,I s->body s x=A.pure (dj.normal,g s x)/\I (g s x))->jM body l s=A.pure (dj.normal,l.foldl g s)
 | [],s,_,_=>rfl
 | x::l,s,eB,h=>by
  obtain⟨E,U⟩:=h x (by simp) s eB;unfold jM;rw[E,A.aG];exact PZ g I l (g s x) U λy aR=>h y (List.mem_cons_of_mem _ aR)
theorem P0{s:bG}{e:Int}:∀ {n:Nat} {first y:z1'},y∈kn s e n first->y.length=first.length+n/\∀ p∈y,p∈first\/p=-1\/(0<=p/\p<(s.2.2.1.length:Int))
 | 0,first,y,h=>by
  simp only[kn,List.mem_singleton]at h;grind
 | n+1,first,y,h=>by
  simp only[kn,List.mem_append,List.mem_flatMap,List.mem_range]at h;rcases h with⟨p,ao,h⟩ | h
  ·split at h
   ·obtain⟨E,U⟩:=P0 h;grind
   grind
  ·split at h
   ·cases h
   ·obtain⟨E,U⟩:=P0 h;grind
theorem P1{s:bG}{e:Int}{y:z1'}(h:y∈lI e s):y.length=s.2.2.2.1.length/\n' s y:=by
 obtain⟨E,U⟩:=P0 h;have E:y.length=s.2.2.2.1.length:=by grind
 refine⟨E,by omega,λp ao=>?_⟩;grind
theorem aqC(s:bG):n' s (List.replicate s.2.2.2.1.length (-1)):=⟨by simp,λp ao=>by grind⟩
def th(s:bG)(b y:z1'):z1':=if (decide (rQ s y > rQ s b)&&pU s y)=true then y else b
def ET(s:bG):z1':=(lI 1 s).foldl (th s) (List.replicate s.2.2.2.1.length (-1))
theorem Z3{s:bG}:∀ (l:List (z1')) (b:z1'),(∀ y∈l,y.length=s.2.2.2.1.length/\n' s y)->(b.length=s.2.2.2.1.length/\n' s b)->((l.foldl (th s) b).length=s.2.2.2.1.length/\n' s (l.foldl (th s) b))
 | [],b,_,W=>W
 | y::l,b,aj,W=>by
  rw[List.foldl_cons];refine Z3 l _ (λz bl=>aj z (List.mem_cons_of_mem _ bl)) ?_;unfold th;grind
theorem aqD(s:bG):(ET s).length=s.2.2.2.1.length/\n' s (ET s):=Z3 _ _ (λ_ h=>P1 h) ⟨by simp,aqC s⟩
abbrev P2:aL:=⟨wz,fF,λo=>∃ s,wB o s,λo=>ET (oa o)⟩
theorem aqE(s:bG)(ae:l' s):N1 IL.sh wD.sh tf.sh yF I3 (some (dr s))=A.pure (ET s):=by
 unfold N1;have Bo:=ae.uR;have gz:(dr s).1=s:=rfl;have gN:yF (some (dr s)):=⟨s,rfl,ae⟩
 have P3:I3 (some (dr s))=lI 1 s:=rfl;simp only[Option.isSome_some,Option.getD_some,A.bq,bW,gz,aL.sh,A.dv,P3];rw[A.bu (by grind),A.bu gN];simp only[Int.toNat_natCast];rw[PZ (λ(b:Option dx×z1'×Unit) (y:z1')=>(some (dr s),th s b.2.1 y,())) (λb=>b.1=some (dr s)/\b.2.1.length=s.2.2.2.1.length) (lI 1 s) (some (dr s),List.replicate s.2.2.2.1.length (-1),()) ⟨rfl,by simp⟩ ?_]
 ·have aq:∀ (l:List (z1')) (b:z1'),l.foldl (λ(b:Option dx×z1'×Unit) (y:z1')=>(some (dr s),th s b.2.1 y,())) (some (dr s),b,())=(some (dr s),l.foldl (th s) b,()):=by
   intro l;induction l with
   | nil=>simp
   | cons y l aK=>grind
  rw[aq,A.aG];rfl
 ·intro y aR b W;obtain⟨dO,e1,aqF⟩:=b;obtain⟨mx,q3⟩:=W;change dO=_ at mx;change e1.length=_ at q3;subst mx;obtain⟨xN,sz⟩:=P1 aR;have jI:tf.pre (some (dr s),y):=⟨s,⟨rfl,ae⟩,by grind⟩
  have qa:tf.pre (some (dr s),e1):=⟨s,⟨rfl,ae⟩,by grind⟩
  have mr:wD.pre (some (dr s),y):=⟨s,⟨rfl,ae⟩,sz⟩
  have ax:tf.g (some (dr s),y)=rQ s y:=rfl;have aO:tf.g (some (dr s),e1)=rQ s e1:=rfl;have cF:wD.g (some (dr s),y)=pU s y:=rfl;refine⟨?_,rfl,?_⟩
  ·simp only[A.mD,A.gA,A.bu jI,A.bu qa,ax,aO,cF,mr,and_true,true_and,and_self,imp_self,implies_true,A.bq,th];have dz:∀ c:Prop,(c->c/\(∃ nu,wB (some (dr s)) nu/\n' nu y)):=λc h=>⟨h,mr⟩
   rw[A.bu (dz _)];have ax:oa (some (dr s))=s:=rfl;simp only[ax];cases hc:(decide (rQ s y > rQ s e1)&&pU s y)<;>simp
  ·show (th s e1 y).length=_;unfold th;grind
theorem aqG(x):A.le (N1 IL.sh wD.sh tf.sh yF I3 x) (P2.sh x):=A.br λh=>by
 obtain⟨s,aq,ae⟩:=h;subst aq;exact aqE s ae
theorem I4{s:bG}{b7:Bool}(h:k8 s b7=0):yz s b7=(some (dr s),0):=by simp[yz,h]
theorem I5{s:bG}{b7:Bool}(h:k8 s b7≠0):yz s b7=(none,k8 s b7):=by simp[yz,h]
def yG(s:bG)(b7:Bool):Int×Int:=if k8 s b7≠0 then (0,k8 s b7) else (rQ s (ET s),0)
abbrev P4:aL:=⟨.az k7 de,.az bw bw,λx=>e8 x.1,λx=>yG x.1 x.2⟩
theorem aqH(x):A.le (VV Bm.sh P2.sh tf.sh x) (P4.sh x):=A.br λh=>by
 unfold VV;show _=A.pure (yG x.1 x.2);unfold yG;simp only[aL.sh,A.dv];rw[A.bu (by exact h)];by_cases an:k8 x.1 x.2=0
 ·have ae:=Bl h (Bk an).1;simp only[I4 an,an,ne_eq,not_true,decide_false,Bool.false_eq_true,if_false];rw[A.bu (by exact⟨x.1,rfl,ae⟩),A.bu (by exact⟨x.1,⟨rfl,ae⟩,Nat.le_of_eq (aqD x.1).1⟩)];rfl
 ·simp[I5 an,an]
abbrev I6:aL:=⟨k7,.az bw bw,e8,λs=>yG s true⟩
theorem aqI(x):A.le (VO P4.sh x) (I6.sh x):=A.br λh=>by
 unfold VO;simp only[aL.sh,A.dv];simp_all
def Bt(s:bG)(n:Int)(y:z1'):Int:=if (!(lH s y).2||!ES (dr s) (lH s y).1)=true then n else if (decide (n=-1)||decide (yE (dr s) (lH s y).1<n))=true then yE (dr s) (lH s y).1 else n
def I7(s:bG):Int:=(lI 0 s).foldl (Bt s) (-1)
def wF(s:bG):Int×Int:=if k8 s true≠0 then (0,k8 s true) else if I7 s=-1 then (0,3) else (I7 s,0)
abbrev Bu:aL:=⟨k7,.az bw bw,e8,wF⟩
theorem aqJ(x):A.le (VP Bm.sh yF PY IX.sh PS.sh I1.sh x) (Bu.sh x):=A.br λh=>by
 unfold VP;show _=A.pure (wF x);unfold wF;simp only[aL.sh,A.dv];rw[A.bu (by exact h)];by_cases an:k8 x true=0
 ·have ae:=Bl h (Bk an).1;have gN:yF (some (dr x)):=⟨x,rfl,ae⟩
  have P3:PY (some (dr x))=lI 0 x:=rfl;simp only[I4 an,an,ne_eq,not_true,decide_false,Bool.false_eq_true,if_false,P3];rw[A.bu gN];rw[PZ (λ(b:Option dx×Int×Unit) (y:z1')=>(some (dr x),Bt x b.2.1 y,())) (λb=>b.1=some (dr x)) (lI 0 x) (some (dr x),-1,()) rfl ?_]
  ·have aq:∀ (l:List (z1')) (b:Int),l.foldl (λ(b:Option dx×Int×Unit) (y:z1')=>(some (dr x),Bt x b.2.1 y,())) (some (dr x),b,())=(some (dr x),l.foldl (Bt x) b,()):=by
    intro l;induction l with
    | nil=>simp
    | cons y l aK=>grind
   rw[aq,A.aG];show (if decide (I7 x=-1)=true then A.pure ((0:Int),(3:Int)) else A.pure (I7 x,0))=_;grind
  ·intro y aR b W;obtain⟨dO,e1,aqF⟩:=b;change dO=_ at W;subst W;obtain⟨xN,sz⟩:=P1 aR;refine⟨?_,rfl⟩;have z':=ZY ae sz;have jI:∃ nu,wB (some (dr x)) nu/\n' nu y:=⟨x,⟨rfl,ae⟩,sz⟩
   have fm:(dr x).1.2.1.length<2 ^ 63:=h.2.1;have qa:∃ t,some (dr x)=some t/\t.1.2.1.length<2 ^ 63/\(lH x y).1.length<2 ^ 63:=⟨_,rfl,fm,by omega⟩
   have mr:∃ t,some (dr x)=some t/\t.2.1.length<=200/\(lH x y).1.length<=1000:=⟨_,rfl,ZX ae,by omega⟩
   have ax:oa (some (dr x))=x:=rfl;have aO:Option.getD (some (dr x)) yA=dr x:=rfl;simp only[A.jd,A.dv,ax,aO];rw[A.bu jI];simp only[qa,implies_true,A.bq];rw[A.bu (by exact mr)];show _=A.pure (dj.normal,some (dr x),Bt x e1 y,());unfold Bt;cases E:(lH x y).2
   ·simp
   ·cases U:ES (dr x) (lH x y).1
    ·simp
    ·simp only[Bool.not_true,Bool.not_false,if_true,Bool.or_self,Bool.false_eq_true,if_false];cases ag:(decide (e1=-1)||decide (yE (dr x) (lH x y).1<e1))<;>simp
 ·simp[I5 an,an]
def nv(s:bG)(w p:Int):z1':=(List.replicate s.2.2.2.1.length (-1)).set w.toNat p
def Z4(s:bG)(w:Int):z1':=((List.range s.2.2.1.length).filter λ(p:Nat)=>pU s (nv s w (p:Int))).map λ(p:Nat)=>(p:Int)
def uV(s:bG)(w:Int):z1'×Int:=if k8 s (yx s w)≠0 then ([],k8 s (yx s w)) else (Z4 s w,0)
abbrev I8:aL:=⟨.az k7 bw,.az fF bw,λx=>e8 x.1,λx=>uV x.1 x.2⟩
theorem Z5{ak β:Type}{p:ak->Bool}{g:ak->β}:∀ (l:List ak) (b:List β),l.foldl (λb x=>if p x=true then b++[g x] else b) b=b++(l.filter p).map g
 | [],b=>by simp
 | x::l,b=>by
  simp only[List.foldl_cons,List.filter_cons];rw[Z5 l];grind
theorem aqK{s:bG}{w:Int}{p:Nat}(ao:p<s.2.2.1.length):n' s (nv s w (p:Int)):=by
 refine⟨by simp[nv],λq bt=>?_⟩;unfold nv at bt;grind
theorem aqL(x):A.le (VQ Bm.sh Py.sh wu wD.sh x) (I8.sh x):=A.br λh=>by
 obtain⟨s,w⟩:=x;change e8 s at h;unfold VQ;show _=A.pure (uV s w);unfold uV;simp only[aL.sh,A.mD,A.gA];rw[A.bu (by exact h),A.bu (by exact h)];by_cases an:k8 s (yx s w)=0
 ·have ae:=Bl h (Bk an).1;have hw:=apF.1 (Bk an).2.1;have Bo:=ae.uR;have aqt:=ae.IS;simp only[I4 an,an,ne_eq,not_true,decide_false,Bool.false_eq_true,if_false];unfold wu;simp only[A.dv,bW];rw[A.bu (by grind)];simp only[Int.toNat_natCast];rw[A.f' (List.range s.2.2.1.length) (λi (b:z1'×z1')=>(w,some (dr s),(s.2.2.1.length:Int),(i:Int),b.1,b.2,())) (λ(p:Nat) b=>.next (if pU s (nv s w (p:Int))=true then b.1++[(p:Int)] else b.1,nv s w (p:Int))) (λb=>.next (b.1,())) (λi b=>b.1.length<=i/\∀ p,b.2.set w.toNat p=nv s w p) ([],List.replicate s.2.2.2.1.length (-1)) ?_ ?_ ?_ ?_]
  ·rw[dQ];have aq:∀ (l:List Nat) (b:z1'×z1'),(l.foldl (λb (p:Nat)=>(if pU s (nv s w (p:Int))=true then b.1++[(p:Int)] else b.1,nv s w (p:Int))) b).1=l.foldl (λb (p:Nat)=>if pU s (nv s w (p:Int))=true then b++[(p:Int)] else b) b.1:=by
    intro l;induction l with
    | nil=>simp
    | cons p l aK=>grind
   rw[aq,Z5,A.aG,A.bZ];rfl
  ·rfl
  ·exact⟨Nat.le_refl _,λp=>rfl⟩
  ·intro i G b W;have G:i<s.2.2.1.length:=by grind
   have km:=bA (n:=(i:Int)+1) (by omega) (by omega);obtain⟨dO,e1⟩:=b;obtain⟨mx,q3⟩:=W;change dO.length<=i at mx;change ∀ p,e1.set w.toNat p=nv s w p at q3;have kS:bQ (dO.length+(0+1)):=by unfold bQ;omega
   have hlen:e1.length=s.2.2.2.1.length:=by
    have:=congrArg List.length (q3 0);simpa [nv]using this
   have xT:0<=w/\w<(e1.length:Int):=by omega
   rw[List.getElem_range];refine⟨?_,λbf dc=>?_⟩
   ·simp only[cV G,if_true,xT,and_self,A.bq,A.dv,q3];rw[A.bu (by exact⟨s,⟨rfl,ae⟩,aqK G⟩)];have ax:oa (some (dr s))=s:=rfl;simp only[ax,cj,hY,A.bu kS];cases pU s (nv s w (i:Int))<;>simp[V.hn,km]
   ·cases dc;refine⟨?_,λp=>?_⟩
    ·grind
    ·show (nv s w (i:Int)).set w.toNat p=nv s w p;unfold nv;simp
  simp
 ·simp[I5 an,an]
def Bv(s:bG)(cA:z1'):Int×Int:=if k8 s (wy s cA)≠0 then (0,k8 s (wy s cA)) else if (!pU s cA)=true then (0,3) else (rQ s cA,0)
abbrev I9:aL:=⟨.az k7 fF,.az bw bw,λx=>e8 x.1/\x.2.length<2 ^ 63,λx=>Bv x.1 x.2⟩
theorem aqM{s:bG}{cA:z1'}(h:wy s cA=true):cA.length=s.2.2.2.1.length/\n' s cA:=by
 unfold wy at h;simp only[Bool.and_eq_true,List.all_eq_true,List.mem_range,decide_eq_true_eq]at h;obtain⟨E,U⟩:=h;refine⟨by omega,by omega,λp ao=>?_⟩;obtain⟨i,G,rfl⟩:=List.mem_iff_getElem.1 ao;have:=E i G;have jw:cA.getD i 0=cA[i]:=by grind
 unfold wx at this;simp only[jw,Bool.or_eq_true,decide_eq_true_eq,Bool.and_eq_true,apG]at this;omega
theorem aqN(x):A.le (VU Bm.sh wD.sh IP.sh tf.sh x) (I9.sh x):=A.br λh=>by
 obtain⟨s,cA⟩:=x;obtain⟨aE,aj⟩:=h;unfold VU;show _=A.pure (Bv s cA);unfold Bv;simp only[aL.sh,A.mD,A.gA];have ao:IP.pre (s,cA):=⟨aE,aj⟩
 rw[A.bu (by exact ao),A.bu (by exact aE)];by_cases an:k8 s (wy s cA)=0
 ·have ae:=Bl aE (Bk an).1;obtain⟨aqO,xP⟩:=aqM (Bk an).2.1;simp only[I4 an,an,ne_eq,not_true,decide_false,Bool.false_eq_true,if_false,A.dv];rw[A.bu (by exact⟨s,⟨rfl,ae⟩,xP⟩)];have ax:oa (some (dr s))=s:=rfl;simp only[ax];cases aq:pU s cA with
  | false=>simp
  | true=>
   simp only[Bool.not_true,Bool.false_eq_true,if_false];rw[A.bu (by exact⟨s,⟨rfl,ae⟩,Nat.le_of_eq aqO⟩)]
 ·simp[I5 an,an]
def yH(s:bG):Prop:=Pt s.1/\s.2.1.length<=2000000/\s.2.2.1.length<=2000000/\s.2.2.2.1.length<=2000000/\s.2.2.2.2.1.length<=2000000/\(∀ p∈s.2.2.1,p.2.2.2.2.length<=2000000)/\∀ x∈s.2.2.2.1,x.1.length<=2000000
theorem aqP{s:bG}(ae:l' s):yH s:=by
 have Zf:=wo ae.s5.2;refine⟨⟨by omega,by omega,by omega,λm hm=>?_⟩,by have:=ae.EL;omega,by have:=ae.IS;omega,by have:=ae.uR;omega,by have:=ae.PA;omega,λp ao=>by have:=(PD ae ao).2.1;omega,λx ah=>?_⟩
 ·have kU:=(Bc ae.s5.2).2.2.1 m hm;simp only[pM,Bool.and_eq_true,Bool.not_eq_true',decide_eq_false_iff_not,List.all_eq_true]at kU;refine⟨by omega,λs' sd=>?_⟩;have:=kU.2 s' sd;simp only[pL,Bool.and_eq_true,decide_eq_true_eq]at this;omega
 ·have:=ae.ZC x ah;simp only[o3,b4,Bool.and_eq_true,decide_eq_true_eq]at this;omega
abbrev I_:aL:=⟨k7,k7,yH,λs=>s⟩
theorem aqQ(x):A.le (VN vW.sh x) (I_.sh x):=A.br λh=>by
 obtain⟨E,U,ag,a6,bM,dn,fT⟩:=h;unfold VN;simp only[aL.sh,A.dv];have e2:bQ (0+x.2.1.length):=by unfold bQ;omega
 have oj:bQ (0+x.2.2.1.length):=by unfold bQ;omega
 have EU:bQ (0+x.2.2.2.1.length):=by unfold bQ;omega
 have aqR:bQ (0+x.2.2.2.2.1.length):=by unfold bQ;omega
 rw[A.bu (by exact E)];simp only[hY,A.bu e2,A.bu oj,A.bu EU,A.bu aqR,List.nil_append];rw[A.du x.2.2.1 (λi (_:Unit)=>((i:Int),x,0,0,x.1.1,x.1.2.1,x.1.2.2.1,x.1.2.2.2,x.2.2.2.2.2,x.2.1,x.2.2.1,x.2.2.2.1,x.2.2.2.2.1,())) (λp b=>.next b) (λ_=>.next (x,0,0,x.1.1,x.1.2.1,x.1.2.2.1,x.1.2.2.2,x.2.2.2.2.2,x.2.1,x.2.2.1,x.2.2.2.1,x.2.2.2.2.1,())) () ?_ ?_ ?_]
 ·rw[dQ,A.aG,A.bZ];rw[A.du x.2.2.2.1 (λi (_:Unit)=>((i:Int),x,0,0,x.1.1,x.1.2.1,x.1.2.2.1,x.1.2.2.2,x.2.2.2.2.2,x.2.1,x.2.2.1,x.2.2.2.1,x.2.2.2.2.1,())) (λp b=>.next b) (λ_=>.next (0,0,x.1.1,x.1.2.1,x.1.2.2.1,x.1.2.2.2,x.2.2.2.2.2,x.2.1,x.2.2.1,x.2.2.2.1,x.2.2.2.2.1,())) () ?_ ?_ ?_]
  ·rw[dQ,A.aG,A.bZ]<;>rfl
  ·rfl
  ·intro i G b;have km:=bA (n:=(i:Int)+1) (by omega) (by omega);have hc:=fT _ (List.getElem_mem G);have ky:bQ (0+x.2.2.2.1[i].1.length):=by unfold bQ;omega
   have mV:x.2.2.2.1.set i (x.2.2.2.1[i].1,x.2.2.2.1[i].2)=x.2.2.2.1:=List.set_getElem_self G;simp_all
  simp
 ·rfl
 ·intro i G b;have km:=bA (n:=(i:Int)+1) (by omega) (by omega);have hc:=dn _ (List.getElem_mem G);have ky:bQ (0+x.2.2.1[i].2.2.2.2.length):=by unfold bQ;omega
  have mV:x.2.2.1.set i (x.2.2.1[i].1,x.2.2.1[i].2.1,x.2.2.1[i].2.2.1,x.2.2.1[i].2.2.2.1,x.2.2.1[i].2.2.2.2)=x.2.2.1:=List.set_getElem_self G;simp_all
 simp
def Z6(s:bG):Int:=(s.2.2.1.map λp=>(p.2.2.2.2.length:Int)).foldl (·+·) 0
def rT(s:bG):Bool:=
 if (k2 s.1||decide ((s.2.1.length:Int) > 40)||decide ((s.2.2.1.length:Int) > 40)||decide ((s.2.2.2.1.length:Int) > 40)||decide ((s.2.2.2.2.1.length:Int) > 40))=true then true
 else if (s.2.2.1.any λp=>decide ((p.2.2.2.2.length:Int) > 40))=true then true
 else if (s.2.2.2.1.any λx=>decide ((x.1.length:Int) > 40))=true then true
 else if iT s≠0 then false
 else decide ((s.2.2.2.1.length:Int) > 3)||decide ((s.2.2.1.length:Int) > 4)||decide ((s.2.2.2.2.1.length:Int) > 3)||decide (Z6 s > 4)
abbrev I':aL:=⟨k7,de,e8,rT⟩
theorem aqS(x):A.le (Y5 pT.sh wh.sh x) (I'.sh x):=A.br λh=>by
 change e8 x at h;unfold Y5;show _=A.pure (rT x);unfold rT;simp only[aL.sh,A.dv,bW];rw[A.bu (by exact h.1)];obtain⟨g1,ey,g3,g4,g5,g6,g7⟩:=id h;by_cases E:(k2 x.1||decide ((x.2.1.length:Int) > 40)||decide ((x.2.2.1.length:Int) > 40)||decide ((x.2.2.2.1.length:Int) > 40)||decide ((x.2.2.2.2.1.length:Int) > 40))=true
 ·grind
 ·rw[if_neg E,if_neg E];simp only[Bool.or_eq_true,decide_eq_true_eq,not_or]at E;rw[A.du x.2.2.1 (λi (_:Unit)=>((i:Int),x,())) (λp u=>if decide ((p.2.2.2.2.length:Int) > 40)=true then .done (.done true) else .next u) (λ_=>.next (x,())) () ?_ ?_ ?_]
  ·rw[rz (p:=λp:dk=>decide ((p.2.2.2.2.length:Int) > 40))];by_cases U:(x.2.2.1.any λp=>decide ((p.2.2.2.2.length:Int) > 40))=true
   ·simp only[U,if_true,A.aG,A.py]
   ·simp only[U,Bool.false_eq_true,if_false,A.aG,A.bZ];rw[A.du x.2.2.2.1 (λi (_:Unit)=>((i:Int),x,())) (λp u=>if decide ((p.1.length:Int) > 40)=true then .done (.done true) else .next u) (λ_=>.next (x,())) () ?_ ?_ ?_]
    ·rw[rz (p:=λp:dB=>decide ((p.1.length:Int) > 40))];by_cases ag:(x.2.2.2.1.any λx=>decide ((x.1.length:Int) > 40))=true
     ·simp only[ag,if_true,A.aG,A.py]
     ·simp only[ag,Bool.false_eq_true,if_false,A.aG,A.bZ];rw[A.bu (by exact h)];by_cases he:iT x=0
      ·simp only[he,ne_eq,not_true,decide_false,Bool.false_eq_true,if_false];have W:∀ p∈x.2.2.1,p.2.2.2.2.length<=40:=λp ao=>by
        grind
       rw[A.f' x.2.2.1 (λi (n:Int)=>(n,(i:Int),x,())) (λp n=>.next (n+(p.2.2.2.2.length:Int))) (λn=>.next (n,x,())) (λi n=>0<=n/\n<=40*i) 0 ?_ ?_ ?_ ?_]
       ·rw[dQ,A.aG,A.bZ];unfold Z6;rw[List.foldl_map]
       ·rfl
       ·simp
       ·intro i G n aB;have km:=bA (n:=(i:Int)+1) (by omega) (by omega);have ayP:=W _ (List.getElem_mem G);have Bi:=bA (n:=n+(x.2.2.1[i].2.2.2.2.length:Int)) (by omega) (by omega);refine⟨?_,λbf dc=>?_⟩
        ·simp only[cV G,if_true,cN G,A.bq,dh G,cj,km,Bi];rfl
        grind
       simp
      grind
    ·rfl
    ·intro i G u;have km:=bA (n:=(i:Int)+1) (by omega) (by omega);simp only[cV G,if_true,cN G,A.bq,dh G,A.aG,cj,km];exact l3 (mk:=λ_:Unit=>((i:Int)+1,x,()))
    simp
  ·rfl
  ·intro i G u;have km:=bA (n:=(i:Int)+1) (by omega) (by omega);simp only[cV G,if_true,cN G,A.bq,dh G,A.aG,cj,km];exact l3 (mk:=λ_:Unit=>((i:Int)+1,x,()))
  simp
def Bw:bG:=(IE,[1,0,0,0],[(1,60,0,0,[0]),(1,60,7,0,[]),(2,65,0,1,[0]),(2,60,0,0,[0,1])],[([1],(55,65),7,3,500),([1,2],(60,60),0,5,400),([2],(60,70),9,8,700),([2],(65,65),0,5,300)],[(4,2,1),(6,3,1)],2)
abbrev Ja:aL:=⟨.cU,k7,λ_=>True,λ_=>Bw⟩
theorem aqT(x):A.le (Y6 Pu.sh x) (Ja.sh x):=A.br λ_=>by
 unfold Y6;simp only[aL.sh,A.dv,A.bq];rfl
theorem aqU:e8 Bw:=by
 refine⟨ao',by decide,by decide,by decide,by decide,?_,?_⟩
 ·intro p ao;simp only[Bw,List.mem_cons,List.not_mem_nil,or_false]at ao;grind
 ·intro x ah;simp only[Bw,List.mem_cons,List.not_mem_nil,or_false]at ah;grind
end Go.Fer
namespace Go.Fer.H
open A (V)
def Z7(AB:a1->A Int)(N_:List ba->A (List ba×Bool))(aqV:List (List ba)->A (List ba))(aqW:List (z1')×Unit->A (z1'×Unit))(Oa:z1'×Unit->A (z1'×Unit))(aqX:z1'×Unit->A ((Nat×Nat)×z1'×Unit))(Jb:z4'->A (z4'))(x:a1×List ba×z1'):A (a1×Int):=
 letI a:=x.1.2.2.2;A.bind (AB x.1) λy=>if decide (y≠0)=true then A.pure (([],[],[],[],0,0,0,0,0,0,0),y) else A.bind (AB (x.1.1,x.2.1,x.2.2,a)) λy=>if decide (y≠0)=true then A.pure (([],[],[],[],0,0,0,0,0,0,0),y) else A.bind (aqV [x.1.2.1,x.2.1]) λy=>A.bind (N_ y) λy=>if (!y.2)=true then A.pure (([],[],[],[],0,0,0,0,0,0,0),91) else A.bind (aqW ([x.1.2.2.1,x.2.2],())) λb3=>A.bind (Oa (b3.1,())) λdF=>A.bind (aqX (dF.1,())) λgB=>if (decide (Int.ofNat (List.length y.1) > 12)||decide (Int.ofNat (gB.1.2-gB.1.1) > 12))=true then A.pure (([],[],[],[],0,0,0,0,0,0,0),90) else A.ab (Jb x.1.1).cm (A.ab (Jb a.1).cm (A.pure ((A.val (Jb x.1.1) [],y.1,List.drop gB.1.1 (List.take gB.1.2 gB.2.1),A.val (Jb a.1) [],a.2),0)))
def Z8(aqY:Int×Unit->A (List ba×Unit))(x:List (List ba)):A (List ba):=
 A.bind (A.loop (λ(D:List (List ba)×Int×List (List ba)×Int×Int×Unit)=>letI d:=D.2.2;letI b:=d.2.2.1;letI a:=IntKind.wrap .i64 (Add.add D.2.1 (Int.ofNat (List.length (List.getD d.1 (Int.toNat b) []))));if decide (b<d.2.1)=true then A.bind (A.ab (0<=b/\b<Int.ofNat (List.length d.1)) (if decide (a<0)=true then A.ab False (A.ab False (A.pure (V.next (D.1,a,d.1,d.2.1,b,())))) else A.pure (V.next (D.1,a,d.1,d.2.1,b,())))) (V.bz (λ(D:List (List ba)×Int×List (List ba)×Int×Int×Unit)=>A.pure (V.next (D.1,D.2.1,D.2.2.1,D.2.2.2.1,IntKind.wrap .i64 (Add.add D.2.2.2.2.1 1),())))) else A.bind (A.pure (V.next (D.1,D.2.1,()))) λr=>A.pure (V.done r)) (x,0,x,Int.ofNat (List.length x),0,())) (V.bz (λ(D:List (List ba)×Int×Unit)=>A.bind (aqY (D.2.1,())) λy=>A.bind (A.loop (λ(D:List (List ba)×Int×Int×List ba×Unit)=>letI e:=D.2.2;letI c:=List.getD D.1 (Int.toNat e.1) [];if decide (e.1<D.2.1)=true then A.ab (0<=e.1/\e.1<Int.ofNat (List.length D.1)) (A.ab (bQ (Add.add (List.length e.2.1) (List.length c))) (A.pure (V.next (D.1,D.2.1,IntKind.wrap .i64 (Add.add e.1 1),e.2.1++c,())))) else A.bind (A.pure (V.next (e.2.1,()))) λr=>A.pure (V.done r)) (D.1,Int.ofNat (List.length D.1),0,y.1,())) (V.bz (λ(D:List ba×Unit)=>A.pure D.1))))
def Z9(aqZ:Int×Unit->A (z1'×Unit))(x:List (z1')×Unit):A (z1'×Unit):=
 A.bind (A.loop (λ(D:List (z1')×Int×List (z1')×Int×Int×Unit)=>letI d:=D.2.2;letI b:=d.2.2.1;letI a:=IntKind.wrap .i64 (Add.add D.2.1 (Int.ofNat (List.length (List.getD d.1 (Int.toNat b) []))));if decide (b<d.2.1)=true then A.bind (A.ab (0<=b/\b<Int.ofNat (List.length d.1)) (if decide (a<0)=true then A.ab False (A.ab False (A.pure (V.next (D.1,a,d.1,d.2.1,b,())))) else A.pure (V.next (D.1,a,d.1,d.2.1,b,())))) (V.bz (λ(D:List (z1')×Int×List (z1')×Int×Int×Unit)=>A.pure (V.next (D.1,D.2.1,D.2.2.1,D.2.2.2.1,IntKind.wrap .i64 (Add.add D.2.2.2.2.1 1),())))) else A.bind (A.pure (V.next (D.1,D.2.1,()))) λr=>A.pure (V.done r)) (x.1,0,x.1,Int.ofNat (List.length x.1),0,())) (V.bz (λ(D:List (z1')×Int×Unit)=>A.bind (aqZ (D.2.1,())) λy=>A.bind (A.loop (λ(D:List (z1')×Int×Int×z1'×Unit)=>letI e:=D.2.2;letI c:=List.getD D.1 (Int.toNat e.1) [];if decide (e.1<D.2.1)=true then A.ab (0<=e.1/\e.1<Int.ofNat (List.length D.1)) (A.ab (bQ (Add.add (List.length e.2.1) (List.length c))) (A.pure (V.next (D.1,D.2.1,IntKind.wrap .i64 (Add.add e.1 1),e.2.1++c,())))) else A.bind (A.pure (V.next (e.2.1,()))) λr=>A.pure (V.done r)) (D.1,Int.ofNat (List.length D.1),0,y.1,())) (V.bz (λ(D:z1'×Unit)=>A.pure (D.1,())))))
def aq0(x:z1'×Unit):A ((Nat×Nat)×z1'×Unit):=
 if decide (Int.ofNat (List.length x.1)<2)=true then A.pure ((0,List.length x.1),x.1,()) else A.bind (A.loop (λ(D:Int×z1'×Unit)=>letI l:=D.1;letI j:=D.2.1;letI g:=IntKind.wrap .i64 (l-1);letI b:=Int.ofNat (List.length j);if decide (l<b)=true then A.bind (A.ab (0<=l/\l<b) (A.ab (0<=g/\g<b) (if decide (List.getD j (Int.toNat l) 0=List.getD j (Int.toNat g) 0)=true then A.ab (0<=l/\l<=b/\b<=b) (A.bind (A.loop (λ(D:Int×(Nat×Nat)×Int×z1'×Unit)=>letI k:=D.2.1;letI e:=D.2.2;letI i:=IntKind.wrap .i64 (e.1-1);letI h:=List.getD e.2.1 (Add.add k.1 (Int.toNat e.1)) 0;letI d:=Int.ofNat (k.2-k.1);if decide (e.1<d)=true then A.bind (A.ab (0<=e.1/\e.1<d) (A.ab (0<=i/\i<d) (if decide (h≠List.getD e.2.1 (Add.add k.1 (Int.toNat i)) 0)=true then A.ab (0<=e.1/\e.1<d) (A.ab (0<=D.1/\D.1<Int.ofNat (List.length e.2.1)) (A.pure (V.next (IntKind.wrap .i64 (Add.add D.1 1),k,e.1,List.set e.2.1 (Int.toNat D.1) h,())))) else A.pure (V.next (D.1,k,e.1,e.2.1,()))))) (V.bz (λ(D:Int×(Nat×Nat)×Int×z1'×Unit)=>A.pure (V.next (D.1,D.2.1,IntKind.wrap .i64 (Add.add D.2.2.1 1),D.2.2.2.1,())))) else A.bind (A.pure (V.next (D.1,e.2.1,()))) λr=>A.pure (V.done r)) (l,(Int.toNat l,Int.toNat b),1,j,())) (V.bz (λ(D:Int×z1'×Unit)=>letI f:=Int.toNat D.1;letI c:=Int.ofNat (List.length D.2.1);letI a:=List.take f D.2.1++List.replicate (Int.toNat c-f) 0++List.drop (Add.add f (List.length (List.replicate (Int.toNat c-f) (0:Int)))) D.2.1;A.ab (0<=D.1/\D.1<=c/\c<=c) (A.ab True (A.ab ((0:Int)<=0/\0<=D.1/\D.1<=Int.ofNat (List.length a)) (A.bind (A.bind (A.bind (A.pure ((Int.toNat 0,f),a,())) (λr=>A.pure (V.done r))) (λr=>A.pure (V.done r))) (λr=>A.pure (V.done r)))))))) else A.pure (V.next (l,j,()))))) (V.bz (λ(D:Int×z1'×Unit)=>A.pure (V.next (IntKind.wrap .i64 (Add.add D.1 1),D.2.1,())))) else A.bind (A.pure (V.next (j,()))) λr=>A.pure (V.done r)) (1,x.1,())) (V.bz (λ(D:z1'×Unit)=>A.pure ((0,List.length D.1),D.1,())))
end Go.Fer.H
