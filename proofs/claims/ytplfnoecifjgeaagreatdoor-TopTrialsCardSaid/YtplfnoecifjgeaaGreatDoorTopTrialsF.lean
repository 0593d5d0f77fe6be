/- Part 6 of the proof of TopTrials: shallow programs of Go functions, and what they compute. No condition. -/
import Derived.Test.YtplfnoecifjgeaaGreatDoorTopTrialsE
noncomputable section
set_option linter.unusedVariables false
set_option linter.unusedSimpArgs false
namespace Go.Fer
open A (V)
abbrev aT:Type:=List UInt8
abbrev bc:Type:=bF×H.aZ
abbrev wc:Type:=z2'×List (List (Int×z1'×Int×Int))×Int×Int×z2'×z1'×List dj×List dA×List DR×Unit
abbrev A6:Type:=Int×Bool×Option Nat
abbrev k2(l:List (aT×A6))(a:aT)(b:A6):List (aT×A6):=lN (k:=.str) (v:=.st (.ay (.int .i64) (.ay .bool .et))) l a b
def Yf(O4:H.aZ->A Int)(O5:bF->A Int)(x:bc):A Int:=
 A.bind (O5 x.1) λy=>A.bind (cq (!(decide (y≠0))) (O4 x.2) 0) λb2=>if (decide (y≠0)||decide (b2≠0))=true then A.pure 120 else A.pure 0
def Yg(anp:bc->A Int)(anq:bc×Unit->A (bc×Unit))(anr:Unit->A (List (aT×Int×Bool×Option Nat)))(ans:List (aT×Int×Bool×Option Nat)×aT×bc×Unit->A (aT×bc×Unit))(x:bc×List aT):A (List aT×bc×Int):=
 letI d:=Int.ofNat (List.length x.2);A.bind (anp x.1) λy=>if decide (y≠0)=true then A.pure ([],((([],[],0,[]),[],[],[],[],0),[],[],[],[],0,0,0,0,0,0,0),y) else if decide (d > 40)=true then A.pure ([],((([],[],0,[]),[],[],[],[],0),[],[],[],[],0,0,0,0,0,0,0),2) else A.bind (anq (x.1,())) λy=>A.bind (anr ()) λb2=>A.bind (A.loop (λ(D:List (aT×Int×Bool×Option Nat)×List aT×Int×Int×List aT×Int×Int×Int×Int×Int×Int×Int×Int×Int×bc×Unit)=>letI b:=D.2.2.2;letI a:=b.2.2.2.2;letI c:=a.2.2.2.2;if decide (b.1<D.2.2.1)=true then A.ab (0<=b.1/\b.1<Int.ofNat (List.length D.2.1)) (A.bind (ans (D.1,List.getD D.2.1 (Int.toNat b.1) [],c.2.2.2.1,())) (λy=>A.ab (bP (Add.add (List.length b.2.1) (Add.add 0 1))) (A.pure (V.next (D.1,D.2.1,D.2.2.1,IntKind.wrap .i64 (Add.add b.1 1),b.2.1++[y.1],b.2.2.1,b.2.2.2.1,a.1,a.2.1,a.2.2.1,a.2.2.2.1,c.1,c.2.1,c.2.2.1,y.2.1,()))))) else A.bind (A.pure (V.next (b.2.1,b.2.2.1,b.2.2.2.1,a.1,a.2.1,a.2.2.1,a.2.2.2.1,c.1,c.2.1,c.2.2.1,c.2.2.2.1,()))) λr=>A.pure (V.done r)) (b2,x.2,d,0,[],0,0,0,0,0,0,0,0,0,y.1,())) (V.bx (λ(D:List aT×Int×Int×Int×Int×Int×Int×Int×Int×Int×bc×Unit)=>A.ab True (A.pure (D.1,D.2.2.2.2.2.2.2.2.2.2.1,0))))
def Yh(DT:bF->A Int)(Ax:H.aZ->A Int)(x:bc):A Int:=
 A.bind (DT x.1) λy=>A.bind (cq (!(decide (y≠0))) (Ax x.2) 0) λb2=>if (decide (y≠0)||decide (b2≠0))=true then A.pure 120 else A.pure 0
def Yi(O6:H.aZ×z7'×z1'->A (H.aZ×Int))(Yj:bF->A bF)(x:bc×Unit):A (bc×Unit):=
 A.bind (O6 (x.1.2,[],[])) λy=>A.ab (Yj x.1.1).ck (A.pure ((A.val (Yj x.1.1) (([],[],0,[]),[],[],[],[],0),y.1),()))
def ant(x:Unit):A (List (aT×Int×Bool×Option Nat)):=
 A.pure (k2 (k2 (k2 (k2 (k2 (k2 (k2 (k2 (k2 (k2 (k2 (k2 (k2 (k2 (k2 (k2 (k2 (k2 (k2 (k2 [] [108,101,110,100] (5,false,some 119)) [98,97,99,107] (4,false,some 120)) [118,111,105,100] (1,false,some 121)) [108,97,115,116,115] (1,false,some 122)) [102,101,101] (1,false,some 123)) [111,119,101,115] (1,false,some 124)) [104,101,108,100] (1,false,some 125)) [119,104,101,114,101] (2,false,some 126)) [109,105,115,115,105,110,103] (1,false,some 127)) [116,114,105,97,108] (4,false,some 128)) [102,105,116,115] (3,false,some 129)) [115,116,111,99,107] (2,false,some 130)) [99,111,109,101,115] (3,false,some 131)) [112,105,101,99,101] (4,true,some 132)) [119,105,115,104] (5,true,some 133)) [100,114,111,112] (1,false,some 134)) [99,97,110] (1,false,some 135)) [116,97,107,101,115] (0,true,some 136)) [109,111,115,116] (0,false,some 137)) [101,120,116,114,97] (0,false,some 138))
def Yk(anu:aT×aT->A (List aT))(anv:aT->A (Int×Bool))(anw:Nat->z1'×bc×Unit->A (aT×bc×Unit))(x:List (aT×Int×Bool×Option Nat)×aT×bc×Unit):A (aT×bc×Unit):=
 A.bind (anu (x.2.1,[32])) λy=>letI b:=Int.ofNat (List.length y);letI f:=IntKind.wrap .i64 (b-1);letI d:=List.drop (Int.toNat 1) (List.take (Int.toNat b) y);letI a:=Option.map (λx=>x.2) (List.find? (λp=>decide (List.getD y (Int.toNat 0) []=p.1)) x.1);letI c:=Option.getD a (0,false,none);A.ab ((0:Int)<=0/\0<b) (if (!(Option.isSome a)||decide (f<c.1)||decide (f > c.1)&&!c.2.1)=true then A.pure ([63],x.2.2.1,()) else A.bind (A.ab ((0:Int)<=1/\1<=b/\b<=b) (A.loop (λ(D:List aT×Int×Int×(Int×Bool×Option Nat)×z1'×bc×Unit)=>letI e:=D.2.2;if decide (e.1<D.2.1)=true then A.ab (0<=e.1/\e.1<Int.ofNat (List.length D.1)) (A.bind (anv (List.getD D.1 (Int.toNat e.1) [])) (λy=>if (!y.2)=true then A.bind (A.bind (A.pure ([63],e.2.2.2.1,())) (λr=>A.pure (V.done r))) λr=>A.pure (V.done r) else A.ab (bP (Add.add (List.length e.2.2.1) (Add.add 0 1))) (A.pure (V.next (D.1,D.2.1,IntKind.wrap .i64 (Add.add e.1 1),e.2.1,e.2.2.1++[y.1],e.2.2.2.1,()))))) else A.bind (A.pure (V.next (e.2.1,e.2.2.1,e.2.2.2.1,()))) λr=>A.pure (V.done r)) (d,Int.ofNat (List.length d),0,c,[],x.2.2.1,()))) (V.bx (λ(D:(Int×Bool×Option Nat)×z1'×bc×Unit)=>A.bind (A.ab (∃ (k:Nat),List.Mem k [119,120,121,122,123,124,125,126,127,128,129,130,131,132,133,134,135,136,137,138]/\D.1.2.2=some k) (anw (Option.getD D.1.2.2 0) (D.2.1,D.2.2.1,()))) λy=>A.pure (y.1,y.2.1,()))))
def Yl(Et:z7'×z1'×bc×Unit->A (aT×bc×Unit))(x:z1'×bc×Unit):A (aT×bc×Unit):=
 letI a:=Int.ofNat (List.length x.1);A.ab ((0:Int)<=0/\0<a) (A.ab ((0:Int)<=1/\1<a) (A.ab ((0:Int)<=2/\2<a) (A.ab ((0:Int)<=3/\3<a) (A.ab ((0:Int)<=4/\4<a) (A.bind (Et ([(List.getD x.1 (Int.toNat 0) 0,List.getD x.1 (Int.toNat 1) 0,List.getD x.1 (Int.toNat 2) 0,1,List.getD x.1 (Int.toNat 3) 0,List.getD x.1 (Int.toNat 4) 0)],[],x.2.1,())) (λy=>A.pure (y.1,y.2.1,())))))))
def Ym(O6:H.aZ×z7'×z1'->A (H.aZ×Int))(x:z7'×z1'×bc×Unit):A (aT×bc×Unit):=
 A.ab True (A.bind (O6 (x.2.2.1.2,x.1,x.2.1)) (λy=>if decide (y.2≠0)=true then A.pure ([110,111],x.2.2.1,()) else A.ab True (A.pure ([111,107],(x.2.2.1.1,y.1),()))))
def Yn(Et:z7'×z1'×bc×Unit->A (aT×bc×Unit))(x:z1'×bc×Unit):A (aT×bc×Unit):=
 letI a:=Int.ofNat (List.length x.1);A.ab ((0:Int)<=0/\0<a) (A.ab ((0:Int)<=1/\1<a) (A.ab ((0:Int)<=2/\2<a) (A.ab ((0:Int)<=3/\3<a) (A.bind (Et ([(List.getD x.1 (Int.toNat 0) 0,List.getD x.1 (Int.toNat 1) 0,List.getD x.1 (Int.toNat 2) 0,2,List.getD x.1 (Int.toNat 3) 0,0)],[],x.2.1,())) (λy=>A.pure (y.1,y.2.1,()))))))
def Yo(Et:z7'×z1'×bc×Unit->A (aT×bc×Unit))(x:z1'×bc×Unit):A (aT×bc×Unit):=
 A.bind (Et ([],x.1,x.2.1,())) λy=>A.pure (y.1,y.2.1,())
def Yp(O7:H.aZ×Int->A ((Int×Int)×Int))(rD:(Int×Int)×Int->A aT)(x:z1'×bc×Unit):A (aT×bc×Unit):=
 letI a:=(x.2.1.2,List.getD x.1 (Int.toNat 0) 0);A.ab True (A.ab ((0:Int)<=0/\0<Int.ofNat (List.length x.1)) (A.ab (O7 a).ck (A.ab (rD (A.val (O7 a) ((0,0),0))).ck (A.pure (A.val (rD (A.val (O7 a) ((0,0),0))) [],x.2.1,())))))
def Yq(n6:Int×z1'->A aT)(x:(Int×Int)×Int):A aT:=
 A.bind (n6 (x.2,[x.1.1,x.1.2])) λy=>A.pure y
def Yr(A7:z1'->A aT)(x:Int×z1'):A aT:=
 if decide (x.1=0)=true then A.bind (A7 x.2) λy=>A.pure y else if decide (x.1=3)=true then A.pure [110,111,110,101] else A.pure [110,111]
def Ys(anx:Int->A aT)(anz:List aT×aT->A aT)(x:z1'):A aT:=
 letI b:=Int.ofNat (List.length x);if decide (b=0)=true then A.pure [110,111,110,101] else A.bind (A.loop (λ(D:z1'×Int×Int×List aT×Unit)=>letI a:=D.2.2;if decide (a.1<D.2.1)=true then A.ab (0<=a.1/\a.1<Int.ofNat (List.length D.1)) (A.bind (anx (List.getD D.1 (Int.toNat a.1) 0)) (λy=>A.ab (bP (Add.add (List.length a.2.1) (Add.add 0 1))) (A.pure (V.next (D.1,D.2.1,IntKind.wrap .i64 (Add.add a.1 1),a.2.1++[y],()))))) else A.bind (A.pure (V.next (a.2.1,()))) λr=>A.pure (V.done r)) (x,b,0,[],())) (V.bx (λ(D:List aT×Unit)=>A.bind (anz (D.1,[32])) λy=>A.pure y))
def Yt(Eu:H.aZ×Int->A ((Int×Int)×Int))(rD:(Int×Int)×Int->A aT)(x:z1'×bc×Unit):A (aT×bc×Unit):=
 letI a:=(x.2.1.2,List.getD x.1 (Int.toNat 0) 0);A.ab True (A.ab ((0:Int)<=0/\0<Int.ofNat (List.length x.1)) (A.ab (Eu a).ck (A.ab (rD (A.val (Eu a) ((0,0),0))).ck (A.pure (A.val (rD (A.val (Eu a) ((0,0),0))) [],x.2.1,())))))
def Yu(O8:H.aZ×Int->A ((Int×Int)×Int))(rD:(Int×Int)×Int->A aT)(x:z1'×bc×Unit):A (aT×bc×Unit):=
 letI a:=(x.2.1.2,List.getD x.1 (Int.toNat 0) 0);A.ab True (A.ab ((0:Int)<=0/\0<Int.ofNat (List.length x.1)) (A.ab (O8 a).ck (A.ab (rD (A.val (O8 a) ((0,0),0))).ck (A.pure (A.val (rD (A.val (O8 a) ((0,0),0))) [],x.2.1,())))))
def Yv(O9:H.aZ×Int->A ((Int×Int)×Int))(rD:(Int×Int)×Int->A aT)(x:z1'×bc×Unit):A (aT×bc×Unit):=
 letI a:=(x.2.1.2,List.getD x.1 (Int.toNat 0) 0);A.ab True (A.ab ((0:Int)<=0/\0<Int.ofNat (List.length x.1)) (A.ab (O9 a).ck (A.ab (rD (A.val (O9 a) ((0,0),0))).ck (A.pure (A.val (rD (A.val (O9 a) ((0,0),0))) [],x.2.1,())))))
def Yw(oW:H.aZ×Int×Int->A (z1'×Int))(n6:Int×z1'->A aT)(A7:z1'->A aT)(x:z1'×bc×Unit):A (aT×bc×Unit):=
 letI b:=Int.ofNat (List.length x.1);letI a:=(x.2.1.2,List.getD x.1 (Int.toNat 0) 0,List.getD x.1 (Int.toNat 1) 0);A.ab True (A.ab ((0:Int)<=0/\0<b) (A.ab ((0:Int)<=1/\1<b) (A.ab (oW a).ck (A.ab ((!(decide ((A.val (oW a) ([],0)).2≠0)))=true->((!(decide ((A.val (oW a) ([],0)).2≠0)))=true/\True)/\((0:Int)<=0/\0<Int.ofNat (List.length (A.val (oW a) ([],0)).1))/\True) (if (decide ((A.val (oW a) ([],0)).2≠0)||decide (List.getD (A.val (oW a) ([],0)).1 (Int.toNat 0) (0:Int)>=0))=true then A.bind (n6 ((A.val (oW a) ([],0)).2,(A.val (oW a) ([],0)).1)) λy=>A.pure (y,x.2.1,()) else if decide (Int.ofNat (List.length (A.val (oW a) ([],0)).1)=1)=true then A.pure ([115,104,111,112],x.2.1,()) else A.ab ((0:Int)<=1/\1<=Int.ofNat (List.length (A.val (oW a) ([],0)).1)/\Int.ofNat (List.length (A.val (oW a) ([],0)).1)<=Int.ofNat (List.length (A.val (oW a) ([],0)).1)) (A.bind (A7 (List.drop (Int.toNat 1) (List.take (Int.toNat (Int.ofNat (List.length (A.val (oW a) ([],0)).1))) (A.val (oW a) ([],0)).1))) (λy=>A.ab (bP (Add.add (Add.add (Add.add (Add.add (Add.add (Add.add 0 1) 1) 1) 1) 1) (List.length y))) (A.pure ([115,104,111,112,32]++y,x.2.1,())))))))))
def Yx(Ev:H.aZ×Int->A (z1'×z1'×Int))(n6:Int×z1'->A aT)(A7:z1'->A aT)(x:z1'×bc×Unit):A (aT×bc×Unit):=
 letI a:=(x.2.1.2,List.getD x.1 (Int.toNat 0) 0);A.ab True (A.ab ((0:Int)<=0/\0<Int.ofNat (List.length x.1)) (A.ab (Ev a).ck (if decide ((A.val (Ev a) ([],[],0)).2.2≠0)=true then A.bind (n6 ((A.val (Ev a) ([],[],0)).2.2,[])) λy=>A.pure (y,x.2.1,()) else A.bind (A7 (A.val (Ev a) ([],[],0)).1) λy=>A.ab (bP (Add.add (List.length y) (Add.add (Add.add (Add.add 0 1) 1) 1))) (A.bind (A7 (A.val (Ev a) ([],[],0)).2.1) (λb2=>A.ab (bP (Add.add (List.length (y++[32,47,32])) (List.length b2))) (A.pure (y++[32,47,32]++b2,x.2.1,())))))))
def Yy(x3:a8×Int->A ((Int×Int)×Int))(uC:bF×Unit->A (wc))(DP:z2'×List (List (Int×z1'×Int×Int))×Int×z2'->A Int)(x:z1'×bc×Unit):A (aT×bc×Unit):=
 letI c:=List.getD x.1 (Int.toNat 0) 0;letI b:=Int.ofNat (List.length x.1);A.ab True (A.bind (uC (x.2.1.1,())) (λy=>letI d:=y.2.2.2.2;letI a:=(y.1,y.2.1,y.2.2.1,d.1++[(c,List.getD x.1 (Int.toNat 1) 0,List.getD x.1 (Int.toNat 2) 0,List.getD x.1 (Int.toNat 3) 0)]);A.ab True (A.ab ((0:Int)<=0/\0<b) (A.ab ((0:Int)<=1/\1<b) (A.ab ((0:Int)<=2/\2<b) (A.ab ((0:Int)<=3/\3<b) (A.ab (bP (Add.add (List.length d.1) (Add.add 0 1))) (A.ab True (A.ab True (A.bind (DP a) (λb2=>if decide (b2≠0)=true then A.pure ([110,111],x.2.1,()) else A.ab True (A.ab ((0:Int)<=0/\0<b) (A.ab (x3 (a,c)).ck (if decide ((A.val (x3 (a,c)) ((0,0),0)).2≠0)=true then A.pure ([108,105,97,114],x.2.1,()) else A.ab True (A.pure ([111,107],((a,d.2.1,d.2.2.1,d.2.2.2.1,d.2.2.2.2.1,y.2.2.2.1),x.2.1.2),()))))))))))))))))
def Yz(rv:a8×Int×Int×Int->A (Int×Int))(n6:Int×z1'->A aT)(x:z1'×bc×Unit):A (aT×bc×Unit):=
 letI b:=Int.ofNat (List.length x.1);letI a:=(x.2.1.1.1,List.getD x.1 (Int.toNat 0) 0,List.getD x.1 (Int.toNat 1) 0,List.getD x.1 (Int.toNat 2) 0);A.ab True (A.ab ((0:Int)<=0/\0<b) (A.ab ((0:Int)<=1/\1<b) (A.ab ((0:Int)<=2/\2<b) (A.ab (rv a).ck (if decide ((A.val (rv a) (0,0)).2≠0)=true then A.bind (n6 ((A.val (rv a) (0,0)).2,[])) λy=>A.pure (y,x.2.1,()) else A.ab (0<=(A.val (rv a) (0,0)).1/\(A.val (rv a) (0,0)).1<Int.ofNat 4) (A.pure (List.getD [[],[115,117,114,101,108,121],[110,101,118,101,114],[112,101,114,104,97,112,115]] (Int.toNat (A.val (rv a) (0,0)).1) [],x.2.1,())))))))
def YA(uC:bF×Unit->A (wc))(yl:bF×bc×Unit->A (aT×bc×Unit))(x:z1'×bc×Unit):A (aT×bc×Unit):=
 letI c:=Int.ofNat (List.length x.1);letI a:=List.getD x.1 (Int.toNat 0) 0;A.ab True (A.bind (uC (x.2.1.1,())) (λy=>letI d:=y.2.2.2.2.2;letI b:=Int.ofNat (List.length d.1);A.ab ((0:Int)<=0/\0<c) (if decide (a>=b)=true then A.pure ([110,111],x.2.1,()) else A.ab ((0:Int)<=0/\0<c) (A.ab (0<=a/\a<b) (A.ab ((0:Int)<=1/\1<c) (A.ab (0<=a/\a<b) (A.bind (yl (((y.1,y.2.1,y.2.2.1,y.2.2.2.2.1),List.set d.1 (Int.toNat a) (IntKind.wrap .i64 (Add.add (List.getD d.1 (Int.toNat a) 0) (List.getD x.1 (Int.toNat 1) 0))),d.2.1,d.2.2.1,d.2.2.2.1,y.2.2.2.1),x.2.1,())) (λy=>A.pure (y.1,y.2.1,())))))))))
def YB(DT:bF->A Int)(x:bF×bc×Unit):A (aT×bc×Unit):=
 A.bind (DT x.1) λy=>if decide (y≠0)=true then A.pure ([110,111],x.2.1,()) else A.ab True (A.pure ([111,107],(x.1,x.2.1.2),()))
def YC(uC:bF×Unit->A (wc))(yl:bF×bc×Unit->A (aT×bc×Unit))(x:z1'×bc×Unit):A (aT×bc×Unit):=
 letI a:=Int.ofNat (List.length x.1);A.ab True (A.bind (uC (x.2.1.1,())) (λy=>letI b:=y.2.2.2.2.2;A.ab ((0:Int)<=0/\0<a) (A.ab ((0:Int)<=1/\1<a) (A.ab ((0:Int)<=2/\2<a) (A.ab (bP (Add.add (List.length b.2.2.2.1) (Add.add 0 1))) (A.bind (yl (((y.1,y.2.1,y.2.2.1,y.2.2.2.2.1),b.1,b.2.1,b.2.2.1,b.2.2.2.1++[(List.getD x.1 (Int.toNat 0) 0,List.getD x.1 (Int.toNat 1) 0,List.getD x.1 (Int.toNat 2) 0)],y.2.2.2.1),x.2.1,())) (λy=>A.pure (y.1,y.2.1,()))))))))
def YD(uC:bF×Unit->A (wc))(yl:bF×bc×Unit->A (aT×bc×Unit))(x:z1'×bc×Unit):A (aT×bc×Unit):=
 letI a:=Int.ofNat (List.length x.1);A.ab True (A.bind (uC (x.2.1.1,())) (λy=>letI b:=y.2.2.2.2.2;A.ab ((0:Int)<=0/\0<a) (A.ab ((0:Int)<=1/\1<a) (A.ab ((0:Int)<=2/\2<a) (A.ab ((0:Int)<=3/\3<a) (A.ab ((0:Int)<=4/\4<=a/\a<=a) (A.ab (bP (Add.add (List.length b.2.1) (Add.add 0 1))) (A.bind (yl (((y.1,y.2.1,y.2.2.1,y.2.2.2.2.1),b.1,b.2.1++[(List.getD x.1 (Int.toNat 0) 0,List.getD x.1 (Int.toNat 1) 0,List.getD x.1 (Int.toNat 2) 0,List.getD x.1 (Int.toNat 3) 0,List.drop (Int.toNat 4) (List.take (Int.toNat a) x.1))],b.2.2.1,b.2.2.2.1,y.2.2.2.1),x.2.1,())) (λy=>A.pure (y.1,y.2.1,()))))))))))
def YE(uC:bF×Unit->A (wc))(yl:bF×bc×Unit->A (aT×bc×Unit))(x:z1'×bc×Unit):A (aT×bc×Unit):=
 letI a:=Int.ofNat (List.length x.1);A.ab True (A.bind (uC (x.2.1.1,())) (λy=>letI b:=y.2.2.2.2.2;A.ab ((0:Int)<=0/\0<a) (A.ab ((0:Int)<=1/\1<a) (A.ab ((0:Int)<=2/\2<a) (A.ab ((0:Int)<=3/\3<a) (A.ab ((0:Int)<=4/\4<a) (A.ab ((0:Int)<=5/\5<=a/\a<=a) (A.ab (bP (Add.add (List.length b.2.2.1) (Add.add 0 1))) (A.bind (yl (((y.1,y.2.1,y.2.2.1,y.2.2.2.2.1),b.1,b.2.1,b.2.2.1++[(List.drop (Int.toNat 5) (List.take (Int.toNat a) x.1),(List.getD x.1 (Int.toNat 0) 0,List.getD x.1 (Int.toNat 1) 0),List.getD x.1 (Int.toNat 2) 0,List.getD x.1 (Int.toNat 3) 0,List.getD x.1 (Int.toNat 4) 0)],b.2.2.2.1,y.2.2.2.1),x.2.1,())) (λy=>A.pure (y.1,y.2.1,())))))))))))
def YF(YG:List dA->A (List dA))(anA:Int×Int×List dA×Unit->A ((Nat×Nat)×List dA×Unit))(x:z1'×bc×Unit):A (aT×bc×Unit):=
 letI c:=x.2.1.1.2.2;letI b:=List.getD x.1 (Int.toNat 0) 0;letI a:=(0:Int)<=0/\0<Int.ofNat (List.length x.1);A.ab a (A.ab True (if decide (b>=Int.ofNat (List.length c.2.1))=true then A.pure ([110,111],x.2.1,()) else A.ab True (A.ab (YG c.2.1).ck (A.ab a (A.ab a (A.bind (anA (b,IntKind.wrap .i64 (Add.add b 1),A.val (YG c.2.1) [],())) (λy=>A.ab True (A.pure ([111,107],((x.2.1.1.1,x.2.1.1.2.1,c.1,List.drop y.1.1 (List.take y.1.2 y.2.1),c.2.2),x.2.1.2),())))))))))
def YH(O_:bF×Int->A (z1'×Int))(n6:Int×z1'->A aT)(x:z1'×bc×Unit):A (aT×bc×Unit):=
 letI a:=(x.2.1.1,List.getD x.1 (Int.toNat 0) 0);A.ab True (A.ab ((0:Int)<=0/\0<Int.ofNat (List.length x.1)) (A.ab (O_ a).ck (A.bind (n6 ((A.val (O_ a) ([],0)).2,(A.val (O_ a) ([],0)).1)) (λy=>A.pure (y,x.2.1,())))))
def YI(anB:bF×z1'->A (Int×Int))(anC:z1'×Unit->A (z1'×Unit))(n6:Int×z1'->A aT)(x:z1'×bc×Unit):A (aT×bc×Unit):=
 A.bind (anC (x.1,())) λy=>A.bind (A.loop (λ(D:Int×Int×z1'×bc×Unit)=>letI b:=D.2;letI a:=0<=b.1/\b.1<Int.ofNat (List.length b.2.1);if decide (b.1<D.1)=true then A.ab a (A.ab a (A.pure (V.next (D.1,IntKind.wrap .i64 (Add.add b.1 1),List.set b.2.1 (Int.toNat b.1) (IntKind.wrap .i64 (List.getD b.2.1 (Int.toNat b.1) 0-1)),b.2.2.1,())))) else A.bind (A.pure (V.next (b.2.1,b.2.2.1,()))) λr=>A.pure (V.done r)) (Int.ofNat (List.length y.1),0,y.1,x.2.1,())) (V.bx (λ(D:z1'×bc×Unit)=>A.ab True (A.bind (anB (D.2.1.1,D.1)) (λy=>A.bind (n6 (y.2,[y.1])) λy=>A.pure (y,D.2.1,())))))
def YJ(anD:bF->A (Int×Int))(n6:Int×z1'->A aT)(x:z1'×bc×Unit):A (aT×bc×Unit):=
 A.ab True (A.bind (anD x.2.1.1) (λy=>A.bind (n6 (y.2,[y.1])) λy=>A.pure (y,x.2.1,())))
def YK(O':bF->A (Int×Int))(n6:Int×z1'->A aT)(x:z1'×bc×Unit):A (aT×bc×Unit):=
 A.ab True (A.bind (O' x.2.1.1) (λy=>A.bind (n6 (y.2,[y.1])) λy=>A.pure (y,x.2.1,())))
def YL(anE:H.aZ×H.aZ->A Bool)(anF:a8×a8->A Bool)(we:z1'×z1'->A Bool)(x:bc×bc):A Bool:=
 letI l:=x.2.1.2.2;letI k:=x.1.1.2.2;A.bind (anE (x.1.2,x.2.2)) λy=>A.bind (cq (!(!y)) (anF (x.1.1.1,x.2.1.1)) false) λb2=>A.bind (cq (!(!y||!b2)) (we (x.1.1.2.1,x.2.1.2.1)) false) λdE=>if (!y||!b2||!dE||decide (Int.ofNat (List.length k.1)≠Int.ofNat (List.length l.1))||decide (Int.ofNat (List.length k.2.1)≠Int.ofNat (List.length l.2.1))||decide (Int.ofNat (List.length k.2.2.1)≠Int.ofNat (List.length l.2.2.1))||decide (k.2.2.2≠l.2.2.2))=true then A.pure false else A.bind (A.loop (λ(D:Int×bF×bF×Unit)=>letI m:=D.2.2.1;letI j:=D.1<Int.ofNat (List.length D.2.1.2.2.1);letI e:=List.getD D.2.1.2.2.1 (Int.toNat D.1) (0,0,0,0,[]);letI d:=List.getD m.2.2.1 (Int.toNat D.1) (0,0,0,0,[]);letI a:=decide (e.1≠d.1)||decide (e.2.1≠d.2.1)||decide (e.2.2.1≠d.2.2.1)||decide (e.2.2.2.1≠d.2.2.2.1);if decide j=true then A.ab (0<=D.1/\j) (A.ab (0<=D.1/\D.1<Int.ofNat (List.length m.2.2.1)) (A.bind (cq (!a) (we (e.2.2.2.2,d.2.2.2.2)) false) (λy=>if (a||!y)=true then A.bind (A.bind (A.pure false) (λr=>A.pure (V.done r))) λr=>A.pure (V.done r) else A.pure (V.next (IntKind.wrap .i64 (Add.add D.1 1),D.2.1,m,()))))) else A.bind (A.pure (V.next (D.2.1,m,()))) λr=>A.pure (V.done r)) (0,x.1.1,x.2.1,())) (V.bx (λ(D:bF×bF×Unit)=>A.bind (A.loop (λ(D:Int×bF×bF×Unit)=>letI n:=D.2.2.1;letI i:=D.1<Int.ofNat (List.length D.2.1.2.2.2.1);letI c:=List.getD D.2.1.2.2.2.1 (Int.toNat D.1) ([],(0,0),0,0,0);letI b:=List.getD n.2.2.2.1 (Int.toNat D.1) ([],(0,0),0,0,0);if decide i=true then A.ab (0<=D.1/\i) (A.ab (0<=D.1/\D.1<Int.ofNat (List.length n.2.2.2.1)) (A.bind (we (c.1,b.1)) (λy=>if (!y||!(decide (c.2.1.1=b.2.1.1)&&decide (c.2.1.2=b.2.1.2))||decide (c.2.2.1≠b.2.2.1)||decide (c.2.2.2.1≠b.2.2.2.1)||decide (c.2.2.2.2≠b.2.2.2.2))=true then A.bind (A.bind (A.pure false) (λr=>A.pure (V.done r))) λr=>A.pure (V.done r) else A.pure (V.next (IntKind.wrap .i64 (Add.add D.1 1),D.2.1,n,()))))) else A.bind (A.pure (V.next (D.2.1,n,()))) λr=>A.pure (V.done r)) (0,D.1,D.2.1,())) (V.bx (λ(D:bF×bF×Unit)=>A.bind (A.loop (λ(D:Int×bF×bF×Unit)=>letI h:=D.1<Int.ofNat (List.length D.2.1.2.2.2.2.1);letI g:=List.getD D.2.1.2.2.2.2.1 (Int.toNat D.1) (0,0,0);letI f:=List.getD D.2.2.1.2.2.2.2.1 (Int.toNat D.1) (0,0,0);if decide h=true then A.ab (0<=D.1/\h) (A.ab (0<=D.1/\D.1<Int.ofNat (List.length D.2.2.1.2.2.2.2.1)) (if (!(decide (g.1=f.1)&&(decide (g.2.1=f.2.1)&&decide (g.2.2=f.2.2))))=true then A.bind (A.bind (A.pure false) (λr=>A.pure (V.done r))) λr=>A.pure (V.done r) else A.pure (V.next (IntKind.wrap .i64 (Add.add D.1 1),D.2.1,D.2.2.1,())))) else A.bind (A.pure (V.next ())) λr=>A.pure (V.done r)) (0,D.1,D.2.1,())) (V.bx (λ(D:Unit)=>A.pure true))))))
def YM(we:z1'×z1'->A Bool)(x:H.aZ×H.aZ):A Bool:=
 letI e:=x.2.2.2.2.2.2;letI d:=x.1.2.2.2.2.2;letI c:=decide (Int.ofNat (List.length x.1.1)≠Int.ofNat (List.length x.2.1))||decide (Int.ofNat (List.length x.1.2.1)≠Int.ofNat (List.length x.2.2.1));A.bind (cq (!c) (we (x.1.2.2.1,x.2.2.2.1)) false) λy=>if (c||!y||decide (Int.ofNat (List.length x.1.2.2.2.1)≠Int.ofNat (List.length x.2.2.2.2.1))||!(decide (x.1.2.2.2.2.1=x.2.2.2.2.2.1)&&(decide (d.1=e.1)&&(decide (d.2.1=e.2.1)&&(decide (d.2.2.1=e.2.2.1)&&(decide (d.2.2.2.1=e.2.2.2.1)&&(decide (d.2.2.2.2.1=e.2.2.2.2.1)&&decide (d.2.2.2.2.2=e.2.2.2.2.2))))))))=true then A.pure false else A.bind (A.loop (λ(D:Int×H.aZ×H.aZ×Unit)=>letI m:=D.2.2.1;letI l:=D.1<Int.ofNat (List.length D.2.1.1);letI j:=List.getD D.2.1.1 (Int.toNat D.1) (0,0);letI h:=List.getD m.1 (Int.toNat D.1) (0,0);if decide l=true then A.ab (0<=D.1/\l) (A.ab (0<=D.1/\D.1<Int.ofNat (List.length m.1)) (if (!(decide (j.1=h.1)&&decide (j.2=h.2)))=true then A.bind (A.bind (A.pure false) (λr=>A.pure (V.done r))) λr=>A.pure (V.done r) else A.pure (V.next (IntKind.wrap .i64 (Add.add D.1 1),D.2.1,m,())))) else A.bind (A.pure (V.next (D.2.1,m,()))) λr=>A.pure (V.done r)) (0,x.1,x.2,())) (V.bx (λ(D:H.aZ×H.aZ×Unit)=>A.bind (A.loop (λ(D:Int×H.aZ×H.aZ×Unit)=>letI n:=D.2.2.1;letI k:=D.1<Int.ofNat (List.length D.2.1.2.1);letI b:=List.getD D.2.1.2.1 (Int.toNat D.1) (0,0,0,0,0,0);letI a:=List.getD n.2.1 (Int.toNat D.1) (0,0,0,0,0,0);if decide k=true then A.ab (0<=D.1/\k) (A.ab (0<=D.1/\D.1<Int.ofNat (List.length n.2.1)) (if (!(decide (b.1=a.1)&&(decide (b.2.1=a.2.1)&&(decide (b.2.2.1=a.2.2.1)&&(decide (b.2.2.2.1=a.2.2.2.1)&&(decide (b.2.2.2.2.1=a.2.2.2.2.1)&&decide (b.2.2.2.2.2=a.2.2.2.2.2)))))))=true then A.bind (A.bind (A.pure false) (λr=>A.pure (V.done r))) λr=>A.pure (V.done r) else A.pure (V.next (IntKind.wrap .i64 (Add.add D.1 1),D.2.1,n,())))) else A.bind (A.pure (V.next (D.2.1,n,()))) λr=>A.pure (V.done r)) (0,D.1,D.2.1,())) (V.bx (λ(D:H.aZ×H.aZ×Unit)=>A.bind (A.loop (λ(D:Int×H.aZ×H.aZ×Unit)=>letI i:=D.1<Int.ofNat (List.length D.2.1.2.2.2.1);letI g:=List.getD D.2.1.2.2.2.1 (Int.toNat D.1) (0,0);letI f:=List.getD D.2.2.1.2.2.2.1 (Int.toNat D.1) (0,0);if decide i=true then A.ab (0<=D.1/\i) (A.ab (0<=D.1/\D.1<Int.ofNat (List.length D.2.2.1.2.2.2.1)) (if (!(decide (g.1=f.1)&&decide (g.2=f.2)))=true then A.bind (A.bind (A.pure false) (λr=>A.pure (V.done r))) λr=>A.pure (V.done r) else A.pure (V.next (IntKind.wrap .i64 (Add.add D.1 1),D.2.1,D.2.2.1,())))) else A.bind (A.pure (V.next ())) λr=>A.pure (V.done r)) (0,D.1,D.2.1,())) (V.bx (λ(D:Unit)=>A.pure true))))))
def YN(x:z1'×z1'):A Bool:=
 if decide (Int.ofNat (List.length x.1)≠Int.ofNat (List.length x.2))=true then A.pure false else A.bind (A.loop (λ(D:z1'×z1'×Int×Unit)=>letI a:=D.2.2.1;letI b:=a<Int.ofNat (List.length D.1);if decide b=true then A.ab (0<=a/\b) (A.ab (0<=a/\a<Int.ofNat (List.length D.2.1)) (if decide (List.getD D.1 (Int.toNat a) 0≠List.getD D.2.1 (Int.toNat a) 0)=true then A.bind (A.bind (A.pure false) (λr=>A.pure (V.done r))) λr=>A.pure (V.done r) else A.pure (V.next (D.1,D.2.1,IntKind.wrap .i64 (Add.add a 1),())))) else A.bind (A.pure (V.next ())) λr=>A.pure (V.done r)) (x.1,x.2,0,())) (V.bx (λ(D:Unit)=>A.pure true))
def YO(we:z1'×z1'->A Bool)(x:a8×a8):A Bool:=
 if (decide (Int.ofNat (List.length x.1.1)≠Int.ofNat (List.length x.2.1))||decide (Int.ofNat (List.length x.1.2.1)≠Int.ofNat (List.length x.2.2.1))||decide (x.1.2.2.1≠x.2.2.2.1)||decide (Int.ofNat (List.length x.1.2.2.2)≠Int.ofNat (List.length x.2.2.2.2)))=true then A.pure false else A.bind (A.loop (λ(D:Int×a8×a8×Unit)=>letI y:=D.2.2.1;letI t:=D.1<Int.ofNat (List.length D.2.1.1);letI j:=List.getD D.2.1.1 (Int.toNat D.1) (0,0,0,0);letI i:=List.getD y.1 (Int.toNat D.1) (0,0,0,0);if decide t=true then A.ab (0<=D.1/\t) (A.ab (0<=D.1/\D.1<Int.ofNat (List.length y.1)) (if (!(decide (j.1=i.1)&&(decide (j.2.1=i.2.1)&&(decide (j.2.2.1=i.2.2.1)&&decide (j.2.2.2=i.2.2.2)))))=true then A.bind (A.bind (A.pure false) (λr=>A.pure (V.done r))) λr=>A.pure (V.done r) else A.pure (V.next (IntKind.wrap .i64 (Add.add D.1 1),D.2.1,y,())))) else A.bind (A.pure (V.next (D.2.1,y,()))) λr=>A.pure (V.done r)) (0,x.1,x.2,())) (V.bx (λ(D:a8×a8×Unit)=>A.bind (A.loop (λ(D:Int×a8×a8×Unit)=>letI z:=D.2.2.1;letI q:=D.1<Int.ofNat (List.length D.2.1.2.2.2);letI h:=List.getD D.2.1.2.2.2 (Int.toNat D.1) (0,0,0,0);letI f:=List.getD z.2.2.2 (Int.toNat D.1) (0,0,0,0);if decide q=true then A.ab (0<=D.1/\q) (A.ab (0<=D.1/\D.1<Int.ofNat (List.length z.2.2.2)) (if (!(decide (h.1=f.1)&&(decide (h.2.1=f.2.1)&&(decide (h.2.2.1=f.2.2.1)&&decide (h.2.2.2=f.2.2.2)))))=true then A.bind (A.bind (A.pure false) (λr=>A.pure (V.done r))) λr=>A.pure (V.done r) else A.pure (V.next (IntKind.wrap .i64 (Add.add D.1 1),D.2.1,z,())))) else A.bind (A.pure (V.next (D.2.1,z,()))) λr=>A.pure (V.done r)) (0,D.1,D.2.1,())) (V.bx (λ(D:a8×a8×Unit)=>A.bind (A.loop (λ(D:Int×a8×a8×Unit)=>letI s:=D.1<Int.ofNat (List.length D.2.1.2.1);letI p:=Int.toNat D.1;letI v:=List.getD D.2.1.2.1 p [];letI u:=List.getD D.2.2.1.2.1 p [];if decide s=true then A.bind (A.ab (0<=D.1/\s) (A.ab (0<=D.1/\D.1<Int.ofNat (List.length D.2.2.1.2.1)) (if decide (Int.ofNat (List.length v)≠Int.ofNat (List.length u))=true then A.bind (A.bind (A.bind (A.pure false) (λr=>A.pure (V.done r))) (λr=>A.pure (V.done r))) λr=>A.pure (V.done r) else A.loop (λ(D:Int×List (Int×z1'×Int×Int)×List (Int×z1'×Int×Int)×Int×a8×a8×Unit)=>letI n:=D.2.2.2;letI l:=0<=n.1/\n.1<Int.ofNat (List.length D.2.2.1);letI k:=n.1<Int.ofNat (List.length D.2.1);letI w:=0<=n.1/\k;letI d:=List.getD D.2.1 (Int.toNat n.1) (0,[],0,0);letI c:=List.getD D.2.2.1 (Int.toNat n.1) (0,[],0,0);letI b:=decide (d.1≠c.1);letI g:=(!b)=true;letI o:=g->g/\True/\True;letI a:=b||!(decide (d.2.2.1=c.2.2.1)&&decide (d.2.2.2=c.2.2.2));letI e:=(!a)=true;letI m:=e->e/\True/\True;if decide k=true then A.ab w (A.ab l (A.ab (g->(g/\g)/\w/\True) (A.ab o (A.ab o (A.ab (g->(g/\g)/\l/\True) (A.ab o (A.ab o (A.ab (g->(g/\g)/\True/\True) (A.ab (True/\(b=false->g)) (A.ab (e->(e/\e)/\w/\True) (A.ab m (A.ab m (A.ab (e->(e/\e)/\l/\True) (A.ab m (A.ab m (A.ab (e->(e/\e/\True)/\(we (d.2.1,c.2.1)).ck/\True) (A.ab m (A.ab (True/\(a=false->e)) (if (a||!(A.val (we (d.2.1,c.2.1)) false))=true then A.bind (A.bind (A.bind (A.bind (A.pure false) (λr=>A.pure (V.done r))) (λr=>A.pure (V.done r))) (λr=>A.pure (V.done r))) λr=>A.pure (V.done r) else A.pure (V.next (D.1,D.2.1,D.2.2.1,IntKind.wrap .i64 (Add.add n.1 1),n.2.1,n.2.2.1,()))))))))))))))))))))) else A.bind (A.pure (V.next (D.1,n.2.1,n.2.2.1,()))) λr=>A.pure (V.done r)) (D.1,v,u,0,D.2.1,D.2.2.1,())))) (V.bx (λ(D:Int×a8×a8×Unit)=>A.pure (V.next (IntKind.wrap .i64 (Add.add D.1 1),D.2.1,D.2.2.1,())))) else A.bind (A.pure (V.next ())) λr=>A.pure (V.done r)) (0,D.1,D.2.1,())) (V.bx (λ(D:Unit)=>A.pure true))))))
def YP(Pa:bc->A Int)(anG:bF->A Bool)(anH:H.aZ->A Bool)(anI:aT->A (aT×z1'×Bool))(x:bc×List aT):A Bool:=
 A.bind (anG x.1.1) λy=>A.bind (cq (!y) (anH x.1.2) false) λb2=>if (y||b2||decide (Int.ofNat (List.length x.2) > 60))=true then A.pure true else A.bind (A.loop (λ(D:List aT×Int×Int×Int×Int×Int×bc×Unit)=>letI h:=D.2.2.2;letI b:=h.2.2;letI e:=b.1<Int.ofNat (List.length b.2.1.1.2.2.1);if decide e=true then A.ab (0<=b.1/\e) (A.pure (V.next (D.1,D.2.1,D.2.2.1,h.1,IntKind.wrap .i64 (Add.add h.2.1 (Int.ofNat (List.length (List.getD b.2.1.1.2.2.1 (Int.toNat b.1) (0,0,0,0,[])).2.2.2.2))),IntKind.wrap .i64 (Add.add b.1 1),b.2.1,()))) else A.bind (A.pure (V.next (D.1,D.2.1,D.2.2.1,h.1,h.2.1,b.2.1,()))) λr=>A.pure (V.done r)) (x.2,Int.ofNat (List.length x.1.1.2.2.2.1),Int.ofNat (List.length x.1.1.2.2.1),Int.ofNat (List.length x.1.1.2.2.2.2.1),0,0,x.1,())) (V.bx (λ(D:List aT×Int×Int×Int×Int×bc×Unit)=>A.bind (A.loop (λ(D:List aT×Int×Int×Int×Int×Int×bc×Unit)=>letI j:=D.2.1;letI d:=D.2.2;letI a:=d.2.2;letI i:=a.2.1;letI g:=a.2.2.1;letI f:=List.getD D.1 (Int.toNat i) [];letI c:=i<Int.ofNat (List.length D.1);if decide c=true then A.bind (A.ab (0<=i/\c) (if decide (Int.ofNat (List.length f) > 80)=true then A.bind (A.bind (A.bind (A.pure true) (λr=>A.pure (V.done r))) (λr=>A.pure (V.done r))) λr=>A.pure (V.done r) else A.ab (0<=i/\c) (A.bind (anI f) (λy=>if (!y.2.2)=true then A.pure (V.next (D.1,j,d.1,d.2.1,a.1,i,g,())) else if decide (y.1=[119,105,115,104])=true then A.pure (V.next (D.1,IntKind.wrap .i64 (Add.add j 1),d.1,d.2.1,a.1,i,g,())) else if decide (y.1=[112,105,101,99,101])=true then A.pure (V.next (D.1,j,IntKind.wrap .i64 (Add.add d.1 1),d.2.1,IntKind.wrap .i64 (Add.add a.1 (IntKind.wrap .i64 (Int.ofNat (List.length y.2.1)-4))),i,g,())) else if decide (y.1=[99,111,109,101,115])=true then A.pure (V.next (D.1,j,d.1,IntKind.wrap .i64 (Add.add d.2.1 1),a.1,i,g,())) else A.pure (V.next (D.1,j,d.1,d.2.1,a.1,i,g,())))))) (V.bx (λ(D:List aT×Int×Int×Int×Int×Int×bc×Unit)=>letI k:=D.2.2.2;A.pure (V.next (D.1,D.2.1,D.2.2.1,k.1,k.2.1,IntKind.wrap .i64 (Add.add k.2.2.1 1),k.2.2.2.1,())))) else A.bind (A.pure (V.next (j,d.1,d.2.1,a.1,g,()))) λr=>A.pure (V.done r)) (D.1,D.2.1,D.2.2.1,D.2.2.2.1,D.2.2.2.2.1,0,D.2.2.2.2.2.1,())) (V.bx (λ(D:Int×Int×Int×Int×bc×Unit)=>A.bind (Pa D.2.2.2.2.1) λy=>A.pure (decide (y=0)&&(decide (D.1 > 3)||decide (D.2.1 > 4)||decide (D.2.2.1 > 3)||decide (D.2.2.2.1 > 4)))))))
def YQ(anJ:aT->A (List aT))(anK:aT->A Int)(anL:Unit->A (List aT×z1'×z1'))(x:aT):A (aT×z1'×Bool):=
 A.bind (anJ x) λy=>A.bind (A.loop (λ(D:List aT×Int×z1'×Unit)=>letI j:=D.2.1<Int.ofNat (List.length D.1);if decide j=true then A.ab (0<=D.2.1/\j) (A.bind (anK (List.getD D.1 (Int.toNat D.2.1) [])) (λy=>if decide (y<0)=true then A.bind (A.bind (A.pure ([],[],false)) (λr=>A.pure (V.done r))) λr=>A.pure (V.done r) else A.ab (bP (Add.add (List.length D.2.2.1) (Add.add 0 1))) (A.pure (V.next (D.1,IntKind.wrap .i64 (Add.add D.2.1 1),D.2.2.1++[y],()))))) else A.bind (A.pure (V.next (D.1,D.2.2.1,()))) λr=>A.pure (V.done r)) (y,1,[],())) (V.bx (λ(D:List aT×z1'×Unit)=>A.bind (anL ()) λy=>A.bind (A.loop (λ(D:List aT×List aT×z1'×z1'×Int×z1'×Unit)=>letI l:=List.getD D.1 (Int.toNat 0) [];letI h:=(0:Int)<=0/\0<Int.ofNat (List.length D.1);letI c:=D.2.2.2;letI m:=c.2.1;letI k:=Int.ofNat (List.length c.2.2.1);letI i:=m<Int.ofNat (List.length D.2.1);letI g:=Int.toNat m;letI f:=(0<=m/\m<Int.ofNat (List.length c.1))/\True;letI d:=decide (List.getD c.1 g (0:Int)<0);letI a:=decide (k>=List.getD D.2.2.1 g 0);letI e:=a=true;letI b:=(a&&!d)=true;letI n:=b->b/\True/\True;if decide i=true then A.ab (0<=m/\i) (A.ab h (if decide (List.getD D.2.1 g []=l)=true then A.ab h (A.ab (0<=m/\m<Int.ofNat (List.length D.2.2.1)) (A.ab (e->(e/\e)/\f) (A.ab (e->e/\True/\True) (A.ab (e->(e/\True)/\True/\True) (A.ab (e->True/\True/\e) (A.ab n (A.ab (b->(b/\b)/\f) (A.ab n (A.ab (b->(b/\b)/\True/\True) (A.ab (e->(e/\(d=false->b))/\True/\True) (A.ab (True/\(e->e)) (A.bind (A.bind (A.pure (l,c.2.2.1,a&&(d||decide (k<=List.getD c.1 g 0)))) (λr=>A.pure (V.done r))) (λr=>A.pure (V.done r)))))))))))))) else A.pure (V.next (D.1,D.2.1,D.2.2.1,c.1,IntKind.wrap .i64 (Add.add m 1),c.2.2.1,())))) else A.bind (A.pure (V.next ())) λr=>A.pure (V.done r)) (D.1,y.1,y.2.1,y.2.2,0,D.2.1,())) (V.bx (λ(D:Unit)=>A.pure ([],[],false)))))
def YR(x:aT):A (List aT):=
 A.bind (A.loop (λ(D:aT×Int×List aT×Unit)=>letI g:=D.2.1;letI f:=D.2.2.1;letI e:=Int.ofNat (List.length D.1);letI c:=Int.ofNat (List.length f);letI b:=IntKind.wrap .i64 (Add.add g 1);letI d:=List.drop (Int.toNat g) (List.take (Int.toNat b) D.1);letI a:=IntKind.wrap .i64 (c-1);letI h:=List.getD f (Int.toNat a) [];if decide (g<e)=true then A.bind (A.ab (0<=g/\g<e) (if decide (Int.ofNat (List.getD D.1 (Int.toNat g) 0).1.1.1=32)=true then A.ab (bP (Add.add (List.length f) (Add.add 0 1))) (A.pure (V.next (D.1,g,f++[[]],()))) else A.ab (0<=a/\a<c) (A.ab (0<=g/\g<=b/\b<=e) (A.ab (bP (Add.add (List.length h) (List.length d))) (A.ab (0<=a/\a<c) (A.pure (V.next (D.1,g,List.set f (Int.toNat a) (h++d),())))))))) (V.bx (λ(D:aT×Int×List aT×Unit)=>A.pure (V.next (D.1,IntKind.wrap .i64 (Add.add D.2.1 1),D.2.2.1,())))) else A.bind (A.pure (V.next (f,()))) λr=>A.pure (V.done r)) (x,0,[[]],())) (V.bx (λ(D:List aT×Unit)=>A.pure D.1))
def YS(x:aT):A Int:=
 letI b:=Int.ofNat (List.length x);letI g:=decide (b > 1);letI d:=decide (b=0)||decide (b > 6);A.ab ((!d&&g)=true->((!d&&g)=true/\True)/\((0:Int)<=0/\0<b)/\True) (if (d||g&&decide (Int.ofNat (List.getD x (Int.toNat 0) 0).1.1.1=48))=true then A.pure (-1) else A.bind (A.loop (λ(D:aT×Int×Int×Unit)=>letI h:=D.2.2.1;letI c:=h<Int.ofNat (List.length D.1);letI f:=0<=h/\c;letI a:=Int.ofNat (List.getD D.1 (Int.toNat h) 0).1.1.1;letI e:=(!(decide (a<48)))=true;if decide c=true then A.ab f (A.ab (e->(e/\e)/\f/\True) (if (decide (a<48)||decide (a > 57))=true then A.bind (A.bind (A.pure (-1)) (λr=>A.pure (V.done r))) λr=>A.pure (V.done r) else A.ab f (A.pure (V.next (D.1,IntKind.wrap .i64 (Add.add (IntKind.wrap .i64 (10*D.2.1)) (IntKind.wrap .i64 (IntKind.wrap .u8 (a-48)))),IntKind.wrap .i64 (Add.add h 1),()))))) else A.bind (A.pure (V.next (D.2.1,()))) λr=>A.pure (V.done r)) (x,0,0,())) (V.bx (λ(D:Int×Unit)=>A.pure D.1)))
def anM(x:Unit):A (List aT×z1'×z1'):=
 A.pure ([[108,101,110,100],[98,97,99,107],[118,111,105,100],[108,97,115,116,115],[102,101,101],[111,119,101,115],[104,101,108,100],[119,104,101,114,101],[109,105,115,115,105,110,103],[116,114,105,97,108],[102,105,116,115],[115,116,111,99,107],[99,111,109,101,115],[112,105,101,99,101],[119,105,115,104],[100,114,111,112],[99,97,110],[116,97,107,101,115],[109,111,115,116],[101,120,116,114,97]],[5,4,1,1,1,1,1,2,1,4,3,2,3,4,5,1,1,0,0,0],[5,4,1,1,1,1,1,2,1,4,3,2,3,-1,-1,1,1,-1,0,0])
def Pb(anN:bc×List aT->A Bool)(Pa:bc->A Int)(anO:z2'×List (List (Int×z1'×Int×Int))×Int×z2'->A Int)(YT:Unit->A Bool)(anP:aT×z1'->A aT)(anQ:bc->A bc)(Pc:bc×List aT->A (List aT×bc×Int))(anR:List aT×Int->A Bool)(anS:bc×bc->A Bool)(rv:a8×Int×Int×Int->A (Int×Int))(x3:a8×Int->A ((Int×Int)×Int))(x:bc×Int×Int×Int×Int):A Bool:=
 A.bind (anN (x.1,[])) λy=>A.bind (cq (!y) (Pa x.1) 0) λb2=>letI g:=y||decide (b2≠0);A.bind (cq (!g) (anO x.1.1.1) 0) λdE=>if (g||decide (dE≠0))=true then A.bind (YT ()) λy=>A.pure y else A.bind (A.loop (λ(D:Int×bc×(Int×Int×Int×Int)×a8×List aT×Unit)=>letI d:=D.2.2.2;letI c:=D.1<Int.ofNat (List.length d.1.2.2.2);letI a:=List.getD d.1.2.2.2 (Int.toNat D.1) (0,0,0,0);if decide c=true then A.ab (0<=D.1/\c) (A.bind (anP ([116,114,105,97,108],[a.1,a.2.1,a.2.2.1,a.2.2.2])) (λy=>A.ab (bP (Add.add (List.length d.2.1) (Add.add 0 1))) (A.pure (V.next (IntKind.wrap .i64 (Add.add D.1 1),D.2.1,D.2.2.1,d.1,d.2.1++[y],()))))) else A.bind (A.pure (V.next (D.2.1,D.2.2.1,d.1,d.2.1,()))) λr=>A.pure (V.done r)) (0,x.1,x.2,x.1.1.1,[],())) (V.bx (λ(D:bc×(Int×Int×Int×Int)×a8×List aT×Unit)=>letI f:=D.2.1;A.bind (anQ D.1) λy=>A.bind (Pc ((((y.1.1.1,y.1.1.2.1,y.1.1.2.2.1,[]),y.1.2),y.2),D.2.2.2.1)) λy=>letI e:=decide (y.2.2≠0);A.bind (cq (!e) (anR (y.1,Int.ofNat (List.length D.2.2.2.1))) false) λgA=>A.bind (cq (!(e||!gA)) (anS ((y.2.1.1,[],[],[],[],0,0,0,0,0,0,0),D.1.1,[],[],[],[],0,0,0,0,0,0,0)) false) λlx=>if (e||!gA||!lx)=true then A.pure false else A.bind (rv (D.2.2.1,f.1,f.2.1,f.2.2.1)) λvN=>A.bind (rv (y.2.1.1.1,f.1,f.2.1,f.2.2.1)) λAu=>A.bind (x3 (D.2.2.1,f.1)) λPd=>A.bind (x3 (y.2.1.1.1,f.1)) λy=>letI b:=decide (vN.1=Au.1)&&decide (vN.2=Au.2)&&(decide (Pd.1.1=y.1.1)&&decide (Pd.1.2=y.1.2))&&decide (Pd.2=y.2);A.bind (cq b (YT ()) false) λanT=>A.pure (b&&anT)))
def YU(Pc:bc×List aT->A (List aT×bc×Int))(Eu:H.aZ×Int->A ((Int×Int)×Int))(O':bF->A (Int×Int))(anU:Unit->A bc)(x:Unit):A Bool:=
 A.bind (anU ()) λy=>A.bind (Pc (y,[[108,101,110,100,32,49,32,48,32,49,48,48,32,51,32,55],[98,97,99,107,32,50,32,48,32,49,55,49,32,51],[115,116,111,99,107,32,48,32,49]])) λy=>A.bind (Eu (y.2.1.2,1)) λb2=>A.bind (O' y.2.1.1) λdE=>A.pure (decide (y.2.2=0)&&decide (b2.2=0)&&decide (dE.2=0)&&decide (Int.ofNat (List.length y.1)=3)&&(decide (b2.1.1=300)&&decide (b2.1.2=300))&&decide (dE.1=1))
def YV(x:Int):A aT:=
 if decide (x<0)=true then A.pure [115,104,111,112] else A.ab ((10:Int)≠0) (A.bind (A.loop (λ(D:Int×aT×Unit)=>letI a:=IntKind.wrap .i64 (Int.tdiv D.1 10);if decide (D.1>=10)=true then A.ab ((10:Int)≠0) (A.ab ((10:Int)≠0) (A.ab (bP (Add.add (Add.add 0 1) (List.length D.2.1))) (A.pure (V.next (a,[UInt8.ofNat (Int.toNat (IntKind.wrap .u8 (IntKind.wrap .i64 (Add.add 48 (Int.tmod a 10)))))]++D.2.1,()))))) else A.bind (A.pure (V.next (D.2.1,()))) λr=>A.pure (V.done r)) (x,[UInt8.ofNat (Int.toNat (IntKind.wrap .u8 (IntKind.wrap .i64 (Add.add 48 (Int.tmod x 10)))))],())) (V.bx (λ(D:aT×Unit)=>A.pure D.1)))
def YW(YX:bF->A bF)(YY:H.aZ->A H.aZ)(x:bc):A bc:=
 A.ab (YX x.1).ck (A.ab (YY x.2).ck (A.pure (A.val (YX x.1) (([],[],0,[]),[],[],[],[],0),A.val (YY x.2) ([],[],[],[],0,0,0,0,0,0,0))))
def YZ(x:List aT×Int):A Bool:=
 A.bind (A.loop (λ(D:List aT×Int×Int×Unit)=>letI b:=D.2.2.1;letI a:=b<Int.ofNat (List.length D.1);if decide a=true then A.ab (0<=b/\a) (if decide (List.getD D.1 (Int.toNat b) []≠[111,107])=true then A.bind (A.bind (A.pure false) (λr=>A.pure (V.done r))) λr=>A.pure (V.done r) else A.pure (V.next (D.1,D.2.1,IntKind.wrap .i64 (Add.add b 1),()))) else A.bind (A.pure (V.next (D.1,D.2.1,()))) λr=>A.pure (V.done r)) (x.1,x.2,0,())) (V.bx (λ(D:List aT×Int×Unit)=>A.pure (decide (Int.ofNat (List.length D.1)=D.2.1))))
def Y0(anV:Int->A aT)(x:aT×z1'):A aT:=
 A.bind (A.loop (λ(D:aT×z1'×Int×Unit)=>letI b:=D.2.2.1;letI a:=b<Int.ofNat (List.length D.2.1);if decide a=true then A.ab (0<=b/\a) (A.bind (anV (List.getD D.2.1 (Int.toNat b) 0)) (λy=>A.ab (bP (Add.add (Add.add 0 1) (List.length y))) (A.ab (bP (Add.add (List.length D.1) (Add.add (List.length y) 1))) (A.pure (V.next (D.1++([32]++y),D.2.1,IntKind.wrap .i64 (Add.add b 1),())))))) else A.bind (A.pure (V.next (D.1,()))) λr=>A.pure (V.done r)) (x.1,x.2,0,())) (V.bx (λ(D:aT×Unit)=>A.pure D.1))
def Ij{gC:Type}(c0:z2'->A (z2'))(bE:List (List (Int×z1'×Int×Int))->A (List (List (Int×z1'×Int×Int))))(c2:z2'->A (z2'))(c3:List (Int×z1'×Int×Int)×Unit->A (List (Int×z1'×Int×Int)×Unit))(c4:z1'->A (z1'))(c5:List dj->A (List dj))(lO:List dA->A (List dA))(oq:z3'->A (z3'))(x:bF)(fin:bF->A gC):A gC:=
 A.ab True (A.ab (c0 x.1.1).ck (A.ab True (A.ab (bE x.1.2.1).ck (A.ab True (A.ab (c2 x.1.2.2.2).ck (A.ab True (A.ab True (A.ab True (A.bind (A.ab True (A.loop (λ(D:Int×Int×Int×z1'×List dj×List dA×z3'×Int×Int×Int×z2'×List (List (Int×z1'×Int×Int))×z2'×Unit)=>letI g1:=D.2;letI s:=g1.2.2.2;letI h:=Int.toNat g1.1;letI f:=s.2.2.2;letI v:=f.2.2.2.2;if decide (g1.1<D.1)=true then A.bind (A.ab True (A.ab (0<=g1.1/\g1.1<Int.ofNat (List.length v.1)) (A.ab True (A.ab (h=h) (A.bind (c3 (List.getD v.1 h [],())) (λy=>A.ab True (A.ab (h=h) (A.ab True (A.ab (h=h) (A.loop (λ(D:Nat×Int×Int×Int×Int×Int×z1'×List dj×List dA×z3'×Int×Int×Int×z2'×(List (List (Int×z1'×Int×Int))×Nat)×z2'×List (Int×z1'×Int×Int)×Unit)=>letI g:=D.2.2.2.2;letI z:=g.2.2.2;letI a:=z.2.2.2;letI k:=a.2.2.2.2;letI u:=0<=g.1/\g.1<Int.ofNat (List.length k.2.2.1);letI e:=List.getD k.2.2.1 (Int.toNat g.1) (0,[],0,0);if decide (g.1<D.2.2.2.1)=true then A.ab True (A.ab (D.1=k.1.2) (A.ab True (A.ab (D.1=k.1.2) (A.ab u (A.ab (c4 e.2.1).ck (A.ab u (A.pure (V.next (D.1,D.2.1,D.2.2.1,D.2.2.2.1,IntKind.wrap .i64 (Add.add g.1 1),g.2.1,g.2.2.1,z.1,z.2.1,z.2.2.1,a.1,a.2.1,a.2.2.1,a.2.2.2.1,k.1,k.2.1,List.set k.2.2.1 (Int.toNat g.1) (e.1,A.val (c4 e.2.1) [],e.2.2),()))))))))) else A.bind (A.pure (V.next (D.2.1,D.2.2.1,g.2.1,g.2.2.1,z.1,z.2.1,z.2.2.1,a.1,a.2.1,a.2.2.1,a.2.2.2.1,k.1,k.2.1,k.2.2.1,()))) λr=>A.pure (V.done r)) (h,D.1,g1.1,Int.ofNat (List.length y.1),0,g1.2.1,g1.2.2.1,s.1,s.2.1,s.2.2.1,f.1,f.2.1,f.2.2.1,f.2.2.2.1,(v.1,h),v.2.1,y.1,()))))))))))) (V.bx (λ(D:Int×Int×Int×z1'×List dj×List dA×z3'×Int×Int×Int×z2'×(List (List (Int×z1'×Int×Int))×Nat)×z2'×List (Int×z1'×Int×Int)×Unit)=>letI dN:=D.2.2.2.2;letI j:=dN.2.2.2;letI bE:=j.2.2.2.2;A.pure (V.next (D.1,IntKind.wrap .i64 (Add.add D.2.1 1),D.2.2.1,D.2.2.2.1,dN.1,dN.2.1,dN.2.2.1,j.1,j.2.1,j.2.2.1,j.2.2.2.1,List.set bE.1.1 bE.1.2 bE.2.2.1,bE.2.1,())))) else A.bind (A.pure (V.next (g1.2.1,g1.2.2.1,s.1,s.2.1,s.2.2.1,f.1,f.2.1,f.2.2.1,f.2.2.2.1,v.1,v.2.1,()))) λr=>A.pure (V.done r)) (Int.ofNat (List.length (A.val (bE x.1.2.1) [])),0,x.1.2.2.1,x.2.1,x.2.2.1,x.2.2.2.1,x.2.2.2.2.1,x.2.2.2.2.2,0,0,A.val (c0 x.1.1) [],A.val (bE x.1.2.1) [],A.val (c2 x.1.2.2.2) [],()))) (V.bx (λ(D:Int×z1'×List dj×List dA×z3'×Int×Int×Int×z2'×List (List (Int×z1'×Int×Int))×z2'×Unit)=>letI d1:=D.2.2;letI n:=d1.2.2;A.ab (c4 D.2.1).ck (A.ab (c5 d1.1).ck (A.ab (lO d1.2.1).ck (A.ab (oq n.1).ck (A.bind (A.loop (λ(D:Int×Int×Int×Int×Int×Int×z2'×List (List (Int×z1'×Int×Int))×z2'×z1'×List dj×List dA×z3'×Unit)=>letI aw:=D.2;letI t:=aw.2.2.2;letI d:=t.2.2.2;letI w:=d.2.2.2;letI o:=0<=aw.1/\aw.1<Int.ofNat (List.length w.1);letI b:=List.getD w.1 (Int.toNat aw.1) (0,0,0,0,[]);if decide (aw.1<D.1)=true then A.ab o (A.ab (c4 b.2.2.2.2).ck (A.ab o (A.pure (V.next (D.1,IntKind.wrap .i64 (Add.add aw.1 1),aw.2.1,aw.2.2.1,t.1,t.2.1,t.2.2.1,d.1,d.2.1,d.2.2.1,List.set w.1 (Int.toNat aw.1) (b.1,b.2.1,b.2.2.1,b.2.2.2.1,A.val (c4 b.2.2.2.2) []),w.2.1,w.2.2.1,()))))) else A.bind (A.pure (V.next (aw.2.1,aw.2.2.1,t.1,t.2.1,t.2.2.1,d.1,d.2.1,d.2.2.1,w.1,w.2.1,w.2.2.1,()))) λr=>A.pure (V.done r)) (Int.ofNat (List.length (A.val (c5 d1.1) [])),0,D.1,n.2.1,n.2.2.1,n.2.2.2.1,n.2.2.2.2.1,n.2.2.2.2.2.1,n.2.2.2.2.2.2.1,A.val (c4 D.2.1) [],A.val (c5 d1.1) [],A.val (lO d1.2.1) [],A.val (oq n.1) [],())) (V.bx (λ(D:Int×Int×Int×Int×z2'×List (List (Int×z1'×Int×Int))×z2'×z1'×List dj×List dA×z3'×Unit)=>letI E:=D.2.2.2;letI m:=E.2.2.2;A.bind (A.loop (λ(D:Int×Int×Int×Int×Int×Int×z2'×List (List (Int×z1'×Int×Int))×z2'×z1'×List dj×List dA×z3'×Unit)=>letI f1:=D.2;letI l:=f1.2.2.2;letI c:=l.2.2.2.2;letI b8:=c.2.2.2;letI p:=0<=f1.1/\f1.1<Int.ofNat (List.length b8.1);letI i:=List.getD b8.1 (Int.toNat f1.1) ([],(0,0),0,0,0);if decide (f1.1<D.1)=true then A.ab p (A.ab (c4 i.1).ck (A.ab p (A.pure (V.next (D.1,IntKind.wrap .i64 (Add.add f1.1 1),f1.2.1,f1.2.2.1,l.1,l.2.1,l.2.2.1,l.2.2.2.1,c.1,c.2.1,c.2.2.1,List.set b8.1 (Int.toNat f1.1) (A.val (c4 i.1) [],i.2),b8.2.1,()))))) else A.bind (A.pure (V.next (f1.2.1,f1.2.2.1,l.1,l.2.1,l.2.2.1,l.2.2.2.1,c.1,c.2.1,c.2.2.1,b8.1,b8.2.1,()))) λr=>A.pure (V.done r)) (Int.ofNat (List.length m.2.2.2.1),0,D.1,D.2.1,D.2.2.1,E.1,E.2.1,E.2.2.1,m.1,m.2.1,m.2.2.1,m.2.2.2.1,m.2.2.2.2.1,())) (V.bx (λ(D:Int×Int×Int×Int×z2'×List (List (Int×z1'×Int×Int))×z2'×z1'×List dj×List dA×z3'×Unit)=>letI q:=D.2.2.2.2.2;fin ((D.2.2.2.2.1,q.1,D.1,q.2.1),q.2.2.1,q.2.2.2.1,q.2.2.2.2.1,q.2.2.2.2.2.1,D.2.1))))))))))))))))))))
def iP(s:bF):wc:=(s.1.1,s.1.2.1,s.1.2.2.1,s.2.2.2.2.2,s.1.2.2.2,s.2.1,s.2.2.1,s.2.2.2.1,s.2.2.2.2.1,())
def anW(c0:z2'->A (z2'))(bE:List (List (Int×z1'×Int×Int))->A (List (List (Int×z1'×Int×Int))))(c2:z2'->A (z2'))(c3:List (Int×z1'×Int×Int)×Unit->A (List (Int×z1'×Int×Int)×Unit))(c4:z1'->A (z1'))(c5:List dj->A (List dj))(lO:List dA->A (List dA))(oq:z3'->A (z3'))(x:bF):A bF:=Ij c0 bE c2 c3 c4 c5 lO oq x A.pure
def anX(c0:z2'->A (z2'))(bE:List (List (Int×z1'×Int×Int))->A (List (List (Int×z1'×Int×Int))))(c2:z2'->A (z2'))(c3:List (Int×z1'×Int×Int)×Unit->A (List (Int×z1'×Int×Int)×Unit))(c4:z1'->A (z1'))(c5:List dj->A (List dj))(lO:List dA->A (List dA))(oq:z3'->A (z3'))(x:bF×Unit):A wc:=Ij c0 bE c2 c3 c4 c5 lO oq x.1 λs=>A.pure (iP s)
def Y1(O5:bF->A Int)(anY:z2'×List (List (Int×z1'×Int×Int))×Int×z2'->A Bool)(x:bF):A Bool:=
 A.bind (anY x.1) λy=>if (y||decide (Int.ofNat (List.length x.2.1) > 40)||decide (Int.ofNat (List.length x.2.2.1) > 40)||decide (Int.ofNat (List.length x.2.2.2.1) > 40)||decide (Int.ofNat (List.length x.2.2.2.2.1) > 40))=true then A.pure true else A.bind (A.loop (λ(D:Int×bF×Unit)=>letI c:=D.1<Int.ofNat (List.length D.2.1.2.2.1);if decide c=true then A.ab (0<=D.1/\c) (if decide (Int.ofNat (List.length (List.getD D.2.1.2.2.1 (Int.toNat D.1) (0,0,0,0,[])).2.2.2.2) > 40)=true then A.bind (A.bind (A.pure true) (λr=>A.pure (V.done r))) λr=>A.pure (V.done r) else A.pure (V.next (IntKind.wrap .i64 (Add.add D.1 1),D.2.1,()))) else A.bind (A.pure (V.next (D.2.1,()))) λr=>A.pure (V.done r)) (0,x,())) (V.bx (λ(D:(a8×z1'×List dj×List dA×z3'×Int)×Unit)=>A.bind (A.loop (λ(D:Int×(a8×z1'×List (Int×Int×Int×Int×z1')×List dA×z3'×Int)×Unit)=>letI b:=D.1<Int.ofNat (List.length D.2.1.2.2.2.1);if decide b=true then A.ab (0<=D.1/\b) (if decide (Int.ofNat (List.length (List.getD D.2.1.2.2.2.1 (Int.toNat D.1) ([],(0,0),0,0,0)).1) > 40)=true then A.bind (A.bind (A.pure true) (λr=>A.pure (V.done r))) λr=>A.pure (V.done r) else A.pure (V.next (IntKind.wrap .i64 (Add.add D.1 1),D.2.1,()))) else A.bind (A.pure (V.next (D.2.1,()))) λr=>A.pure (V.done r)) (0,D.1,())) (V.bx (λ(D:(a8×z1'×List dj×List (z1'×(Int×Int)×Int×Int×Int)×z3'×Int)×Unit)=>A.bind (O5 D.1) λy=>if decide (y≠0)=true then A.pure false else A.bind (A.loop (λ(D:Int×Int×(a8×z1'×List dj×List dA×z3'×Int)×Unit)=>letI d:=D.2.2.1;letI a:=D.2.1<Int.ofNat (List.length d.2.2.1);if decide a=true then A.ab (0<=D.2.1/\a) (A.pure (V.next (IntKind.wrap .i64 (Add.add D.1 (Int.ofNat (List.length (List.getD d.2.2.1 (Int.toNat D.2.1) (0,0,0,0,[])).2.2.2.2))),IntKind.wrap .i64 (Add.add D.2.1 1),d,()))) else A.bind (A.pure (V.next (D.1,d,()))) λr=>A.pure (V.done r)) (0,0,D.1,())) (V.bx (λ(D:Int×(a8×z1'×List dj×List (z1'×(Int×Int)×Int×Int×Int)×z3'×Int)×Unit)=>A.pure (decide (Int.ofNat (List.length D.2.1.2.2.2.1) > 3)||decide (Int.ofNat (List.length D.2.1.2.2.1) > 4)||decide (Int.ofNat (List.length D.2.1.2.2.2.2.1) > 3)||decide (D.1 > 4))))))))
def Y2(anZ:Unit->A a8)(x:Unit):A (bF):=
 A.bind (anZ ()) λy=>A.pure (y,[1,0,0,0],[(1,60,0,0,[0]),(1,60,7,0,[]),(2,65,0,1,[0]),(2,60,0,0,[0,1])],[([1],(55,65),7,3,500),([1,2],(60,60),0,5,400),([2],(60,70),9,8,700),([2],(65,65),0,5,300)],[(4,2,1),(6,3,1)],2)
abbrev bu:ad:=.int .i64
abbrev dd:ad:=.bool
abbrev fE:ad:=.slice bu
abbrev mD:ad:=.st (.ay bu bu)
abbrev kH:ad:=.st (.ay bu (.ay bu mD))
abbrev qz:ad:=.st (.ay bu (.ay fE mD))
abbrev k3:ad:=.st (.slice qz)
abbrev jV:ad:=.st (.ay bu (.ay bu (.ay bu bu)))
abbrev iu:ad:=.st (.ay (.slice kH) (.ay (.slice k3) (.ay bu (.slice jV))))
attribute [simp] qt Vk vJ A.du A.Fj A.Rf A.gz A.fB A.mA A.jc A.kE A.bY A.pv ch hX Nj V.hl
abbrev cf:aK:=⟨.ay bu (.ay bu bu),dd,λ_=>True,λx=>decide (x.2.1<=x.1)&&decide (x.1<=x.2.2)⟩
theorem an0(x):A.le (ajt x) (cf.sh x):=A.bq λ_=>rfl
abbrev mE:aK:=⟨.ay fE bu,dd,λx=>x.1.length<2 ^ 63,λx=>x.1.contains x.2⟩
theorem an1(l:z1')(n:Int):(l.any λy=>y == n)=l.contains n:=by grind
theorem an2(l:z1')(n:Int)(h:l.length<2 ^ 63):Nr (l,n)=A.pure (l.contains n):=by
 unfold Nr;rw[A.dt l (λi (_:Unit)=>(l,n,(i:Int),())) (λy b=>if (y == n)=true then .done (.done true) else .next b) (λ_=>.next ()) () ?_ ?_ ?_]
 ·rw[rs,an1];cases l.contains n<;>simp
 ·rfl
 ·intro i G b;have hw:=bz (n:=(i:Int)+1) (by omega) (by omega);simp[G,hw];grind
 simp
theorem an3(x):A.le (Nr x) (mE.sh x):=A.bq λh=>an2 x.1 x.2 h
abbrev Ik:Type:=Int×Int×Int×Int
abbrev wg:Type:=Int×z1'×Int×Int
abbrev k4:Type:=Int×Int×Int×Int
def gf(w:a8):Prop:=w.1.length<2 ^ 63/\w.2.1.length<2 ^ 63/\w.2.2.2.length<2 ^ 63/\∀ m∈w.2.1,m.length<2 ^ 63/\∀ s∈m,s.2.1.length<2 ^ 63
def fF(w:a8)(n:Int):Bool:=decide (0<=n)&&decide (n<(w.1.length:Int))
def n7(w:a8)(n:Int):Bool:=decide (0<=n)&&decide (n<(w.2.1.length:Int))
def iR(w:a8)(m:Int):List wg:=w.2.1.getD m.toNat []
def iv(w:a8)(m k:Int):Bool:=n7 w m&&(decide (0<=k)&&decide (k<((iR w m).length:Int)))
theorem qA{w:a8}{n:Int}:fF w n=true<->0<=n/\n<(w.1.length:Int):=by simp[fF]
theorem Il{w:a8}{n:Int}:n7 w n=true<->0<=n/\n<(w.2.1.length:Int):=by simp[n7]
theorem ym{w:a8}{m k:Int}:iv w m k=true<->(0<=m/\m<(w.2.1.length:Int))/\0<=k/\k<((iR w m).length:Int):=by simp[iv,n7]
theorem Im{w:a8}(hw:gf w)(m:Int):(iR w m).length<2 ^ 63:=by
 unfold iR;rw[List.getD_eq_getElem?_getD];cases h:w.2.1[m.toNat]? with
 | none=>simp
 | some x=>exact (hw.2.2.2 x (List.mem_of_getElem? h)).1
theorem rE(n m:Int):decide (n<=m - 1)=decide (n<m):=by
 grind
abbrev pH:aK:=⟨.ay iu bu,dd,λx=>gf x.1,λx=>fF x.1 x.2⟩
theorem Y3(w:a8)(n:Int)(h:gf w):Ns cf.sh (w,n)=A.pure (fF w n):=by
 unfold Ns;have aj:=h.1;have hw:=bz (n:=(w.1.length:Int) - 1) (by omega) (by omega);simp[aK.sh,cf,hw,fF,rE]
theorem an4(x):A.le (Ns cf.sh x) (pH.sh x):=A.bq λh=>Y3 x.1 x.2 h
abbrev A8:aK:=⟨.ay iu bu,dd,λx=>gf x.1,λx=>n7 x.1 x.2⟩
theorem an5(w:a8)(n:Int)(h:gf w):Nx cf.sh (w,n)=A.pure (n7 w n):=by
 unfold Nx;have aj:=h.2.1;have hw:=bz (n:=(w.2.1.length:Int) - 1) (by omega) (by omega);simp[aK.sh,cf,hw,n7,rE]
theorem an6(x):A.le (Nx cf.sh x) (A8.sh x):=A.bq λh=>an5 x.1 x.2 h
abbrev rF:aK:=⟨.ay iu (.ay bu bu),dd,λx=>gf x.1,λx=>iv x.1 x.2.1 x.2.2⟩
theorem Y4(w:a8)(m k:Int)(h:gf w):HC cf.sh A8.sh (w,m,k)=A.pure (iv w m k):=by
 unfold HC;have aj:=Im h m;have hw:=bz (n:=((iR w m).length:Int) - 1) (by omega) (by omega);unfold iR at hw;simp only[aK.sh,cf,A8,A.du,A.jc,bV,hw,rE,A.bt h];rw[A.bt,A.bt (by simp)]
 ·simp only[iv,iR];simp
 ·intro hm;exact⟨⟨hm,hm⟩,Il.1 hm,trivial⟩
theorem an7(x):A.le (HC cf.sh A8.sh x) (rF.sh x):=A.bq λh=>Y4 x.1 x.2.1 x.2.2 h
def wh(s:Int×Int):Bool:=(decide (0<=s.1)&&decide (s.1<=s.2))&&decide (s.2<=999)
abbrev oX:aK:=⟨mD,dd,λ_=>True,wh⟩
theorem Y5(s:Int×Int):NC cf.sh s=A.pure (wh s):=by
 unfold NC;simp[aK.sh,cf,wh]
theorem an8(x):A.le (NC cf.sh x) (oX.sh x):=A.bq λ_=>Y5 x
def rB(l:z1'):Bool:=(List.range (l.length - 1)).all λi=>decide (l.getD i 0<l.getD (i+1) 0)
abbrev uD:aK:=⟨fE,dd,λx=>x.length<2 ^ 63,rB⟩
theorem Y6(l:z1')(h:l.length<2 ^ 63):Nw l=A.pure (rB l):=by
 unfold Nw;rw[A.dt (List.range (l.length - 1)) (λi (_:Unit)=>(l,((i+1:Nat):Int),())) (λi b=>if (decide (l.getD i 0<l.getD (i+1) 0))=true then .next b else .done (.done false)) (λ_=>.next ()) () ?_ ?_ ?_]
 ·rw[Hx];unfold rB;cases (List.range (l.length - 1)).all λi=>decide (l.getD i 0<l.getD (i+1) 0)<;>simp
 ·simp
 ·intro i G b;have dK:i+1<l.length:=by grind
  have hw:=bz (n:=(i:Int)+1+1) (by omega) (by omega);have gW:=bz (n:=(i:Int)+1 - 1) (by omega) (by omega);have aw:((i:Int)+1).toNat=i+1:=by omega
  have aN:((i:Int)+1 - 1).toNat=i:=by omega
  have b4:(0:Int)<=(i:Int)+1/\(i:Int)+1<(l.length:Int):=by omega
  have cv:(0:Int)<=(i:Int)+1 - 1/\(i:Int)+1 - 1<(l.length:Int):=by omega
  simp only[bV,Int.natCast_add,Int.cast_ofNat_Int,hw,gW,b4,cv,A.bt,aw,aN,ch,List.getElem_range,decide_eq_true_eq,if_true,A.aF,decide_true,and_self,Int.natCast_one];generalize l.getD i 0=aL;generalize l.getD (i+1) 0=B;by_cases hc:aL<B
  ·simp[hc,Int.not_le.2 hc]
  ·simp[hc,Int.not_lt.1 hc]
 ·intro b;have:¬(((List.range (l.length - 1)).length:Int)+1<(l.length:Int)):=by grind
  simp[this];omega
theorem an9(x):A.le (Nw x) (uD.sh x):=A.bq λh=>Y6 x h
def qB(n:Int):Bool:=decide (0<=n)&&decide (n<=9)
def pI(s:wg):Bool:=s.2.1.all qB&&(qB s.1&&decide ((s.2.1.length:Int)<=4)&&rB s.2.1&&wh s.2.2)
def rG(s:Ik):Bool:=qB s.1&&qB s.2.1&&wh s.2.2
def rH(w:a8)(t:k4):Bool:=fF w t.1&&iv w t.2.1 t.2.2.1&&(decide (0<=t.2.2.2)&&decide (t.2.2.2<=1))
def pJ(m:List wg):Bool:=!decide ((m.length:Int) > 4)&&m.all pI
def s4(w:a8):Bool:=!(decide ((w.1.length:Int) > 10)||decide ((w.2.1.length:Int) > 6)||!(decide (0<=w.2.2.1)&&decide (w.2.2.1<=99))||decide ((w.2.2.2.length:Int) > 30))
def jW(w:a8):Bool:=s4 w&&w.1.all rG&&w.2.1.all pJ&&w.2.2.2.all (rH w)
abbrev s5:aK:=⟨qz,dd,λx=>x.2.1.length<2 ^ 63,pI⟩
theorem an_(s:wg)(h:s.2.1.length<2 ^ 63):ND uD.sh cf.sh oX.sh s=A.pure (pI s):=by
 unfold ND;rw[A.dt s.2.1 (λi (_:Unit)=>((i:Int),s,())) (λn b=>if qB n=true then .next b else .done (.done false)) (λ_=>.next (s,())) () ?_ ?_ ?_]
 ·rw[Hx];unfold pI;cases s.2.1.all qB with
  | false=>simp
  | true=>
   simp only[aK.sh,cf,uD,oX,A.bt h,qB,if_true,A.aF,A.bY,A.du,A.jc,A.bp,bV,h,implies_true,Bool.true_and];simp
 ·rfl
 ·intro i G b;have hw:=bz (n:=(i:Int)+1) (by omega) (by omega);simp[aK.sh,cf,G,hw,qB];grind
 simp
theorem an'(x):A.le (ND uD.sh cf.sh oX.sh x) (s5.sh x):=A.bq λh=>an_ x h
abbrev s6:aK:=⟨iu,dd,gf,jW⟩
theorem aoa(w:a8)(h:gf w):Ny pH.sh rF.sh cf.sh oX.sh s5.sh w=A.pure (jW w):=by
 have aD:=h;obtain⟨E,U,ag,a1⟩:=h;unfold Ny;simp only[aK.sh,cf,A.jc,A.du,implies_true,A.bp,bV,qt];split
 ·rename_i hc;have:s4 w=false:=by unfold s4;grind
  simp[jW,this]
 ·rename_i hc;have cV:s4 w=true:=by unfold s4;grind
  have ayt:w.2.1.length<=6:=by grind
  rw[A.dt w.1 (λi (_:Unit)=>((i:Int),w,())) (λn b=>if (!qB n.1||!qB n.2.1||!wh n.2.2)=true then .done (.done false) else .next b) (λ_=>.next (w,())) () ?_ ?_ ?_]
  ·rw[kg (q:=rG) _ _ (λt=>by simp only[rG,Bool.not_and])];cases ij:w.1.all rG with
   | false=>simp[jW,ij]
   | true=>
    simp only[A.aF,if_true,A.bY];rw[A.dt w.2.1 (λi (_:Unit)=>((i:Int),w,())) (λm b=>if pJ m=true then .next b else .done (.done false)) (λ_=>.next (w,())) () ?_ ?_ ?_]
    ·rw[Hx];cases aS:w.2.1.all pJ with
     | false=>simp[jW,aS]
     | true=>
      simp only[A.aF,if_true,A.bY];rw[A.dt w.2.2.2 (λi (_:Unit)=>((i:Int),w,())) (λt b=>if (!fF w t.1||!iv w t.2.1 t.2.2.1||!(decide (0<=t.2.2.2)&&decide (t.2.2.2<=1)))=true then .done (.done false) else .next b) (λ_=>.next ()) () ?_ ?_ ?_]
      ·rw[kg (q:=rH w) _ _ (λt=>by simp only[rH,Bool.not_and])];cases jn:w.2.2.2.all (rH w)<;>simp[jW,ij,aS,jn,cV]
      ·rfl
      ·intro i G b;have hw:=bz (n:=(i:Int)+1) (by omega) (by omega);simp only[bV,cU G,if_true,df G,cM G,A.bp,aK.sh,pH,rF,A.du,A.jc,aD,implies_true,qt,A.aF,ch,hw];exact l1 (mk:=λ_:Unit=>((i:Int)+1,w,()))
      simp
    ·rfl
    ·intro i G b;have hw:=bz (n:=(i:Int)+1) (by omega) (by omega);obtain⟨kf,pn⟩:=a1 w.2.1[i] (List.getElem_mem G);simp only[bV,Int.ofNat_lt,G,decide_true,if_true,df G,Int.natCast_nonneg,and_self,A.bp];by_cases hlen:(w.2.1[i].length:Int) > 4
     ·simp[hlen,pJ]
     ·simp only[hlen,decide_false,Bool.false_eq_true,if_false];rw[A.dt w.2.1[i] (λk (_:Unit)=>((i:Int),(k:Int),w,())) (λs b=>if (!pI s)=true then .done (.done (.done (.done false))) else .next b) (λ_=>.next ((i:Int),w,())) () ?_ ?_ ?_]
      ·rw[kg (q:=pI) _ _ (λ_=>rfl)];cases Pe:w.2.1[i].all pI<;>simp[pJ,Pe,hlen,hw]
      ·rfl
      ·intro k al b;have l7:=bz (n:=(k:Int)+1) (by omega) (by omega);have A9:=pn w.2.1[i][k] (List.getElem_mem al);simp only[bV,cU al,cU G,if_true,df G,df al,cM G,cM al,A.bp,s5,A.du,A9,A.bt A9,A.aF,ch,l7];exact l1 (mk:=λ_:Unit=>((i:Int),(k:Int)+1,w,()))
      simp_all
    simp
  ·rfl
  ·intro i G b;have hw:=bz (n:=(i:Int)+1) (by omega) (by omega);simp only[bV,cU G,if_true,df G,cM G,A.bp,aK.sh,oX,A.du,A.jc,implies_true,qt,A.aF,ch,hw,Bool.not_not];exact l1 (mk:=λ_:Unit=>((i:Int)+1,w,()))
  simp
theorem aob(x):A.le (Ny pH.sh rF.sh cf.sh oX.sh s5.sh x) (s6.sh x):=A.bq λh=>aoa x h
abbrev oY:k4:=(0,0,0,0)
def nl(a b:k4):Bool:=decide (a.1=b.1)&&decide (a.2.1=b.2.1)&&decide (a.2.2.1=b.2.2.1)&&decide (a.2.2.2≠b.2.2.2)
def l0(l:List k4):Bool:=(List.range l.length).all λi=>(List.range i).all λk=>!nl (l.getD k oY) (l.getD i oY)
def cw(w:a8):Int:=if jW w=true then (if l0 w.2.2.2=true then 0 else 71) else 70
theorem Y7{a b:Nat}(h:a<b):((0:Int)<=(a:Int)/\(a:Int)<(b:Int))=True:=cM h
abbrev hr:aK:=⟨iu,bu,gf,cw⟩
theorem aoc(w:a8)(h:gf w):Nt s6.sh w=A.pure (cw w):=by
 have aD:=h;obtain⟨E,U,ag,a1⟩:=h;unfold Nt;simp only[aK.sh,s6,A.du,A.bt aD];unfold cw;cases hw:jW w with
 | false=>simp
 | true=>
  simp only[Bool.not_true,Bool.false_eq_true,if_false,if_true];rw[A.dt (List.range w.2.2.2.length) (λi (_:Unit)=>((i:Int),w,())) (λi b=>if (List.range i).any (λk=>nl (w.2.2.2.getD k oY) (w.2.2.2.getD i oY))=true then .done (.done (71:Int)) else .next b) (λ_=>.next ()) () ?_ ?_ ?_]
  ·rw[kg (q:=λi=>(List.range i).all λk=>!nl (w.2.2.2.getD k oY) (w.2.2.2.getD i oY)) _ _ (λi=>Vl (λk=>by simp) _)];have e:((List.range w.2.2.2.length).all λi=>(List.range i).all λk=>!nl (w.2.2.2.getD k oY) (w.2.2.2.getD i oY))=l0 w.2.2.2:=rfl;rw[e];cases l0 w.2.2.2<;>simp
  ·rfl
  ·intro i G b;have G:i<w.2.2.2.length:=by grind
   have gQ:=bz (n:=(i:Int)+1) (by omega) (by omega);simp only[bV,cU G,if_true,List.getElem_range];rw[A.dt (List.range i) (λk (_:Unit)=>((i:Int),(k:Int),w,())) (λk b=>if nl (w.2.2.2.getD k oY) (w.2.2.2.getD i oY)=true then .done (.done (.done (.done (71:Int)))) else .next b) (λ_=>.next ((i:Int),w,())) () ?_ ?_ ?_]
   ·rw[rs];cases (List.range i).any (λk=>nl (w.2.2.2.getD k oY) (w.2.2.2.getD i oY))<;>simp[gQ]
   ·rfl
   ·intro k al b;have al:k<i:=by grind
    have rz:k<w.2.2.2.length:=by omega
    have l7:=bz (n:=(k:Int)+1) (by omega) (by omega);simp only[cU al,if_true,List.getElem_range,Y7 rz,Y7 G,A.bp,Int.toNat_natCast,A.aF,ch,l7];exact l1 (mk:=λ_:Unit=>((i:Int),(k:Int)+1,w,()))
   simp
  simp
theorem aod(x):A.le (Nt s6.sh x) (hr.sh x):=A.bq λh=>aoc x h
def ep(w:a8)(i:Int):Ik:=w.1.getD i.toNat (0,0,0,0)
def uE(w:a8)(m k:Int):wg:=(iR w m).getD k.toNat (0,[],0,0)
theorem aoe{w:a8}{i:Int}(h:fF w i=true):ep w i∈w.1:=by
 rw[qA]at h;exact x1 h.1 h.2
theorem Pf{w:a8}{m k:Int}(h:iv w m k=true):iR w m∈w.2.1:=by
 rw[ym]at h;exact x1 h.1.1 h.1.2
theorem Y8{w:a8}{m k:Int}(h:iv w m k=true):uE w m k∈iR w m:=by
 rw[ym]at h;exact x1 h.2.1 h.2.2
theorem A_{w:a8}(h:jW w=true):s4 w=true/\(∀ s∈w.1,rG s=true)/\(∀ m∈w.2.1,pJ m=true)/\∀ t∈w.2.2.2,rH w t=true:=by
 simp only[jW,Bool.and_eq_true,List.all_eq_true]at h;grind
theorem wi{w:a8}(h:jW w=true):w.1.length<=10/\w.2.1.length<=6/\(0<=w.2.2.1/\w.2.2.1<=99)/\w.2.2.2.length<=30:=by
 have:=(A_ h).1;simp[s4]at this;omega
theorem aof{w:a8}(h:jW w=true){m k:Int}(hm:iv w m k=true):(iR w m).length<=4:=by
 have:=(A_ h).2.2.1 _ (Pf hm);simp[pJ]at this;omega
theorem aog{w:a8}(h:jW w=true){m k:Int}(hm:iv w m k=true):pI (uE w m k)=true:=by
 have:=(A_ h).2.2.1 _ (Pf hm);simp only[pJ,Bool.and_eq_true,List.all_eq_true]at this;exact this.2 _ (Y8 hm)
theorem aoh{s:wg}(h:pI s=true):0<=s.2.2.1/\s.2.2.1<=s.2.2.2/\s.2.2.2<=999:=by
 simp only[pI,wh,Bool.and_eq_true,decide_eq_true_eq]at h;omega
theorem Pg{w:a8}(h:jW w=true){i:Int}(G:fF w i=true):0<=(ep w i).2.2.1/\(ep w i).2.2.1<=(ep w i).2.2.2/\(ep w i).2.2.2<=999:=by
 have:=(A_ h).2.1 _ (aoe G);simp only[rG,wh,Bool.and_eq_true,decide_eq_true_eq]at this;omega
theorem Y9{w:a8}(h:jW w=true){t:k4}(aH:t∈w.2.2.2):fF w t.1=true/\iv w t.2.1 t.2.2.1=true:=by
 have:=(A_ h).2.2.2 _ aH;simp only[rH,Bool.and_eq_true]at this;grind
def uF(w:a8)(i n m k:Int):Bool:=
 decide ((ep w i).1=(uE w m k).1)&&(uE w m k).2.1.contains (ep w i).2.1&&(decide ((uE w m k).2.2.1<=n)&&decide (n<=(uE w m k).2.2.2+w.2.2.1))
def l8(w:a8):Prop:=gf w/\jW w=true
abbrev s7:aK:=⟨.ay iu (.ay bu (.ay bu (.ay bu bu))),dd,λx=>l8 x.1/\fF x.1 x.2.1=true/\iv x.1 x.2.2.2.1 x.2.2.2.2=true,λx=>uF x.1 x.2.1 x.2.2.1 x.2.2.2.1 x.2.2.2.2⟩
theorem Y_(w:a8)(i n m k:Int)(hw:l8 w)(G:fF w i=true)(hm:iv w m k=true):Nv mE.sh cf.sh (w,i,n,m,k)=A.pure (uF w i n m k):=by
 unfold Nv;have b4:=qA.1 G;have cv:=ym.1 hm;have fl:=aoh (aog hw.2 hm);have R4:=(wi hw.2).2.2.1;have A9:(uE w m k).2.1.length<2 ^ 63:=(hw.1.2.2.2 _ (Pf hm)).2 _ (Y8 hm);have gQ:=bz (n:=(uE w m k).2.2.2+w.2.2.1) (by omega) (by omega);unfold uF;simp only[uE,iR,ep]at *
 simp only[aK.sh,mE,cf,A.jc,A.du,bV,b4,cv,and_self,A.bp,implies_true,ch,gQ,vJ,A.bt (λ_=>A9),A9];rfl
theorem aoi(x):A.le (Nv mE.sh cf.sh x) (s7.sh x):=A.bq λh=>Y_ x.1 x.2.1 x.2.2.1 x.2.2.2.1 x.2.2.2.2 h.1 h.2.1 h.2.2
def qC(w:a8)(i n:Int)(t:k4):Bool:=!(decide (t.1=i)&&!decide (uF w i n t.2.1 t.2.2.1=decide (t.2.2.2=1)))
def uG(w:a8)(i n:Int):Bool:=w.2.2.2.all (qC w i n)&&(decide ((ep w i).2.2.1<=n)&&decide (n<=(ep w i).2.2.2))
abbrev Ew:aK:=⟨.ay iu (.ay bu bu),dd,λx=>l8 x.1/\fF x.1 x.2.1=true,λx=>uG x.1 x.2.1 x.2.2⟩
theorem aoj(w:a8)(i n:Int)(hw:l8 w)(G:fF w i=true):Nu s7.sh cf.sh (w,i,n)=A.pure (uG w i n):=by
 unfold Nu;have b4:=qA.1 G;have aj:=(wi hw.2).2.2.2;rw[A.dt w.2.2.2 (λj (_:Unit)=>(i,n,(j:Int),w,())) (λt b=>if (decide (t.1=i)&&!decide (uF w i n t.2.1 t.2.2.1=decide (t.2.2.2=1)))=true then .done (.done false) else .next b) (λ_=>.next (i,n,w,())) () ?_ ?_ ?_]
 ·rw[kg (q:=qC w i n) _ _ (λt=>by simp only[qC,Bool.not_not])];unfold uG;cases w.2.2.2.all (qC w i n) with
  | false=>simp
  | true=>simp only[if_true,A.aF,A.bY,aK.sh,cf,A.mA,A.gz,bV,b4,and_self,A.bp,Bool.true_and,ep];rfl
 ·rfl
 ·intro j aE b;have gQ:=bz (n:=(j:Int)+1) (by omega) (by omega);have aH:=Y9 hw.2 (List.getElem_mem aE);have an:decide (w.2.2.2[j].1=i)=true->(l8 w/\fF w i=true/\iv w w.2.2.2[j].2.1 w.2.2.2[j].2.2.1=true):=λ_=>⟨hw,G,aH.2⟩
  simp only[bV,cU aE,if_true,df aE,cM aE,A.bp,aK.sh,s7,A.mA,A.gz,A.aF,ch,gQ,and_true,true_and,and_self,implies_true,imp_self];rw[A.bt (λh=>⟨h,an h⟩)];exact l1 (mk:=λ_:Unit=>(i,n,(j:Int)+1,w,()))
 simp
theorem aok(x):A.le (Nu s7.sh cf.sh x) (Ew.sh x):=A.bq λh=>aoj x.1 x.2.1 x.2.2 h.1 h.2
def fm(w:a8)(i:Int):z1':=(eh (ep w i).2.2.1 (ep w i).2.2.2).filter (uG w i)
theorem Y'{w:a8}{i:Int}(hw:l8 w)(G:fF w i=true):(fm w i).length<=1000:=by
 have:=Pg hw.2 G;have U:=List.length_filter_le (uG w i) (eh (ep w i).2.2.1 (ep w i).2.2.2);rw[sH]at U;unfold fm;omega
abbrev Ex:aK:=⟨.ay iu bu,fE,λx=>l8 x.1/\fF x.1 x.2=true,λx=>fm x.1 x.2⟩
theorem aol(w:a8)(i:Int)(hw:l8 w)(G:fF w i=true):NB Ew.sh (w,i)=A.pure (fm w i):=by
 unfold NB;have b4:=qA.1 G;have aj:=Pg hw.2 G;simp only[bV,b4,and_self,A.bp];rw[A.f_ (eh (ep w i).2.2.1 (ep w i).2.2.2) (λk (l:z1')=>(i,(ep w i).2.2.1+(k:Int),w,l,())) (λn l=>.next (if uG w i n=true then l++[n] else l)) (λl=>.next (l,())) (λk l=>l.length<=k) [] ?_ ?_ ?_ ?_]
 ·rw[dP,Nk];simp only[A.aF,A.bY,List.nil_append];rfl
 ·simp[ep]
 ·simp
 ·intro k al l Io;have rz:k<1000:=by rw[sH]at al;omega
  have p9:(ep w i).2.2.1+(k:Int)<=(ep w i).2.2.2:=by rw[sH]at al;omega
  have gQ:=bz (n:=(ep w i).2.2.1+(k:Int)+1) (by omega) (by omega);have yn:=bz (n:=(ep w i).2.2.1+((k:Int)+1)) (by omega) (by omega);refine⟨?_,λbe W=>?_⟩
  ·have aB:List.getD w.1 i.toNat (0,0,0,0)=ep w i:=rfl;have kR:bP (l.length+(0+1)):=by unfold bP;omega
   have aw:(((k+1:Nat):Int))=(k:Int)+1:=by omega
   simp only[b4,and_self,A.bp,aB,p9,decide_true,if_true,aK.sh,Ew,A.du,hw,G,An,ch,hX,Nj,A.bt kR];cases uG w i ((ep w i).2.2.1+(k:Int))<;>simp[yn,Int.add_assoc]
  grind
 ·intro l Io;have aB:List.getD w.1 i.toNat (0,0,0,0)=ep w i:=rfl;have:¬(ep w i).2.2.1+((eh (ep w i).2.2.1 (ep w i).2.2.2).length:Int)<=(ep w i).2.2.2:=by rw[sH];omega
  simp only[b4,and_self,A.bp,aB,this,decide_false,Bool.false_eq_true,if_false,A.aF]
theorem aom(x):A.le (NB Ew.sh x) (Ex.sh x):=A.bq λh=>aol x.1 x.2 h.1 h.2
theorem Za{w:a8}{i:Nat}(h:i<w.1.length):fF w (i:Int)=true:=by rw[qA];omega
def pK(w:a8):Bool:=(List.range w.1.length).all λi=>!decide (((fm w (i:Int)).length:Int)=0)
def dM(w:a8)(b6:Bool):Int:=if cw w≠0 then cw w else if b6=false then 1 else if pK w=true then 0 else 3
theorem A'{w:a8}(h:cw w=0):jW w=true:=by
 unfold cw at h;grind
abbrev Ip:aK:=⟨.ay iu dd,bu,λx=>gf x.1,λx=>dM x.1 x.2⟩
theorem aon(w:a8)(b6:Bool)(h:gf w):NA hr.sh Ex.sh (w,b6)=A.pure (dM w b6):=by
 unfold NA dM;simp only[aK.sh,hr,A.du,A.bt h];by_cases hc:cw w=0
 ·have hw:l8 w:=⟨h,A' hc⟩
  have Zb:=wi hw.2;simp only[hc,ne_eq,not_true,decide_false,Bool.false_eq_true,if_false];cases b6 with
  | false=>simp
  | true=>
   simp only[Bool.not_true,Bool.false_eq_true,if_false,Bool.true_eq_false];rw[A.dt (List.range w.1.length) (λi (_:Unit)=>((i:Int),w,())) (λi b=>if decide (((fm w (i:Int)).length:Int)=0)=true then .done (.done (3:Int)) else .next b) (λ_=>.next ()) () ?_ ?_ ?_]
   ·rw[kg (q:=λ(i:Nat)=>!decide (((fm w (i:Int)).length:Int)=0)) _ _ (λi=>by simp)];have e:((List.range w.1.length).all λ(i:Nat)=>!decide (((fm w (i:Int)).length:Int)=0))=pK w:=rfl;rw[e];cases pK w<;>simp
   ·rfl
   ·intro i G b;have G:i<w.1.length:=by grind
    have gQ:=bz (n:=(i:Int)+1) (by omega) (by omega);simp only[bV,cU G,if_true,List.getElem_range,Ex,hw,Za G,and_self,A.du,A.bp,A.aF,ch,gQ];exact l1 (mk:=λ_:Unit=>((i:Int)+1,w,()))
   simp
 grind
theorem aoo(x):A.le (NA hr.sh Ex.sh x) (Ip.sh x):=A.bq λh=>aon x.1 x.2 h
abbrev Ba:aK:=⟨iu,bu,gf,λw=>dM w true⟩
theorem aop(x):A.le (Vv Ip.sh x) (Ba.sh x):=A.bq λh=>by
 unfold Vv;simp only[aK.sh,Ip,A.du,A.bt (show gf x from h),Ba]
theorem uH{w:a8}{b6:Bool}(h:dM w b6=0):cw w=0/\b6=true/\pK w=true:=by
 unfold dM at h;grind
theorem Zc{w:a8}{b6:Bool}(aD:gf w)(h:dM w b6=0):l8 w:=⟨aD,A' (uH h).1⟩
theorem aoq{w:a8}(h:pK w=true){i:Int}(G:fF w i=true):0<(fm w i).length:=by
 rw[qA]at G;have:=List.all_eq_true.1 h i.toNat (by grind);grind
def rI(w:a8)(i:Int):(Int×Int)×Int:=if dM w (fF w i)≠0 then ((0,0),dM w (fF w i)) else (((fm w i).getD 0 0,(fm w i).getD ((fm w i).length - 1) 0),0)
abbrev s8:aK:=⟨.ay iu bu,.ay mD bu,λx=>gf x.1,λx=>rI x.1 x.2⟩
def Iq(some many:Int):Int:=if some=many then 1 else if some=0 then 2 else 3
abbrev Ir:aK:=⟨.ay bu bu,bu,λ_=>True,λx=>Iq x.1 x.2⟩
theorem Zd{ak:Type}{p:ak->Bool}:∀ (l:List ak) (n:Int),l.foldl (λn x=>if p x=true then n+1 else n) n=n+(l.countP p:Int)
 | [],n=>by simp
 | x::l,n=>by
  simp only[List.foldl_cons,List.countP_cons];rw[Zd l];grind
def uI(w:a8)(i m k:Int):Int:=Iq ((fm w i).countP λn=>uF w i n m k:Int) ((fm w i).length:Int)
def pL(w:a8)(i m k:Int):Int×Int:=if dM w (fF w i&&iv w m k)≠0 then (0,dM w (fF w i&&iv w m k)) else (uI w i m k,0)
abbrev uJ:aK:=⟨.ay iu (.ay bu (.ay bu bu)),.ay bu bu,λx=>gf x.1,λx=>pL x.1 x.2.1 x.2.2.1 x.2.2.2⟩
section
variable {ak:Type}
def x9(d:ak)(x:List ak×(ak->A Bool)):A Int:=
 A.bind (A.loop (λ(D:List ak×(ak->A Bool)×Int×Int×Unit)=>if decide (D.2.2.2.1<D.2.2.1)=true then A.ab (0<=D.2.2.2.1/\
 D.2.2.2.1<Int.ofNat (List.length D.1)) (A.bind (D.2.1 (List.getD D.1 (Int.toNat D.2.2.2.1) d)) λy=>if y=true then A.bind (A.bind (A.pure
 D.2.2.2.1) λr=>A.pure (V.done r)) λr=>A.pure (V.done r) else A.pure (V.next (D.1,D.2.1,D.2.2.1,IntKind.wrap .i64 (Add.add
 D.2.2.2.1 1),()))) else A.bind (A.pure (V.next ())) λr=>A.pure (V.done r)) (x.1,x.2,Int.ofNat (List.length x.1),0,())) (V.bx λ(D
 : Unit)=>A.pure (-1))
def D6(c:List ak×(ak->A Bool)->A Int)(x:List ak×(ak->A Bool)):A Bool:=A.bind (c x) λy=>A.pure (decide (y>=0))
def Ze(c:List ak×(ak->A Bool)->A Bool)(bE:ak×Option (ak->A Bool)->A Bool)(x:List ak×(ak->A Bool)):A Bool:=
 A.bind (c (x.1,λhy=>bE (hy,some x.2))) λy=>A.pure !y
def Zf(x:ak×Option (ak->A Bool)):A Bool:=A.bind (Option.getD x.2 (λx=>{ ck:=False,bK:=λx=>False }) x.1) λy=>A.pure !y
def hN(p:ak->Bool):List ak->Int->Int
 | [],_=>-1
 | x::l,i=>if p x=true then i else hN p l (i+1)
theorem Az(p:ak->Bool):∀ (l:List ak) (i:Int),0<=i->(decide (hN p l i>=0))=l.any p
 | [],i,_=>by rfl
 | x::l,i,h=>by
  simp only[hN,List.any_cons];by_cases ah:p x=true
  ·grind
  ·have:=Az p l (i+1) (by omega);grind
theorem AA(p:ak->Bool):∀ (l:List ak) (i:Int),eY (λx (i:Int)=>if p x=true then (.done (.done i):V Int (V Unit Int)) else .next (i+1)) (λ_=>.next ()) l i=if l.any p=true then .done (hN p l i) else .next ()
 | [],i=>by rfl
 | x::l,i=>by
  simp only[eY,List.any_cons,hN];by_cases ah:p x=true
  ·grind
  ·have:=AA p l (i+1);grind
theorem D7{p:ak->Bool}:∀ (l:List ak) (i:Int),¬l.any p=true->hN p l i=-1
 | [],_,_=>rfl
 | x::l,i,aA=>by
  simp only[List.any_cons,Bool.or_eq_true,not_or]at aA;simp only[hN,aA.1,Bool.false_eq_true,if_false];exact D7 l _ aA.2
theorem Of(d:ak)(l:List ak)(f:ak->A Bool)(h:l.length<2 ^ 63)(ao:∀ y∈l,∃ b,f y=A.pure b):x9 d (l,f)=A.pure (hN (λy=>(f y).val false) l 0):=by
 unfold x9;rw[A.f_ l (λi (b:Int)=>(l,f,(l.length:Int),b,())) (λy (i:Int)=>if (f y).val false=true then (.done (.done i):V Int (V Unit Int)) else .next (i+1)) (λ_=>.next ()) (λi b=>b=(i:Int)) 0 ?_ ?_ ?_ ?_]
 ·rw[AA (λy=>(f y).val false)];by_cases ba:(l.any λy=>(f y).val false)=true
  ·simp[ba]
  ·have:hN (λy=>(f y).val false) l 0=-1:=by
    have:∀ (l:List ak) (i:Int),¬(l.any λy=>(f y).val false)=true->hN (λy=>(f y).val false) l i=-1:=by
     intro l;induction l with
     | nil=>intro i _;rfl
     | cons x l aJ=>
      intro i aA;simp only[List.any_cons,Bool.or_eq_true,not_or]at aA;simp only[hN,aA.1,Bool.false_eq_true,if_false];grind
    grind
   simp[ba,this]
 ·rfl
 ·rfl
 ·intro i G b W;subst W;have hw:=bz (n:=(i:Int)+1) (by omega) (by omega);refine⟨?_,λbe db=>?_⟩
  ·obtain⟨b,W⟩:=ao _ (List.getElem_mem G);simp only[bV,cU G,if_true,df G,cM G,A.bp,W,A.fB,A.aF,ch,hw];split<;>rfl
  grind
 simp
end
abbrev kZ(e:ad):aK:=⟨.ay (.slice e) (.fn e .bool),bu,λx=>x.1.length<2 ^ 63/\∀ y∈x.1,∃ b,x.2 y=A.pure b,λx=>hN (λy=>(x.2 y).val false) x.1 0⟩
theorem sN(e:ad)(x):A.le (x9 e.de x) ((kZ e).sh x):=A.bq λh=>Of e.de x.1 x.2 h.1 h.2
abbrev jd(e:ad):aK:=⟨.ay (.slice e) (.fn e .bool),dd,λx=>x.1.length<2 ^ 63/\∀ y∈x.1,∃ b,x.2 y=A.pure b,λx=>x.1.any λy=>(x.2 y).val false⟩
theorem sO(e:ad)(x):A.le (D6 (kZ e).sh x) ((jd e).sh x):=A.bq λh=>by
 unfold D6;simp only[aK.sh,kZ,A.du];rw[A.bt (by exact h)];exact congrArg A.pure (Az (λy=>(x.2 y).val false) x.1 0 (by omega))
abbrev wj(e:ad):aK:=⟨.ay e (.bH (.fn e .bool)),dd,λx=>∃ f,x.2=some f/\∃ b,f x.1=A.pure b,λx=>!((x.2.getD λ_=>A.fail) x.1).val false⟩
theorem Ey(e:ad)(x):A.le (Zf x) ((wj e).sh x):=A.bq λh=>by
 obtain⟨y,o⟩:=x;obtain⟨f,ao,b,W⟩:=h;change o=some f at ao;subst ao;change f y=A.pure b at W;unfold Zf;simp_all
abbrev jy(e:ad):aK:=⟨.ay (.slice e) (.fn e .bool),dd,λx=>x.1.length<2 ^ 63/\∀ y∈x.1,∃ b,x.2 y=A.pure b,λx=>x.1.all λy=>(x.2 y).val false⟩
theorem Ez(e:ad)(x):A.le (Ze (jd e).sh (wj e).sh x) ((jy e).sh x):=A.bq λh=>by
 obtain⟨l,f⟩:=x;obtain⟨E,U⟩:=h;unfold Ze;have hc:∀ y∈l,(wj e).sh (y,some f)=A.pure (!(f y).val false):=λy aQ=>by
  obtain⟨b,W⟩:=U y aQ;exact A.bR ⟨f,rfl,b,W⟩ _
 simp only[aK.sh,jd,A.du];rw[A.bt ⟨E,λy aQ=>⟨_,hc y aQ⟩⟩];refine congrArg A.pure ?_;rw[List.not_any_eq_all_not];simp
end Go.Fer
namespace Go.Fer
open A (V)
theorem Is{ak:Type}{p q:ak->Bool}:∀ {l:List ak},(∀ x∈l,p x=q x)->l.all p=l.all q
 | [],_=>rfl
 | x::l,h=>by
  grind
theorem aor(x):A.le (ajO x) (cf.sh x):=A.bq λ_=>rfl
theorem aos(x):A.le (ajP cf.sh x) (oX.sh x):=A.bq λ_=>Y5 x
abbrev yo:aK:=⟨bu,dd,λ_=>True,qB⟩
theorem aot(x):A.le (VC cf.sh x) (yo.sh x):=A.bq λ_=>by
 unfold VC;simp only[aK.sh,cf,A.du,A.bp,yo,qB]
theorem aou(x):A.le (ajL cf.sh x) (pH.sh x):=A.bq λh=>Y3 x.1 x.2 h
theorem aov(x):A.le (VA cf.sh x) (rF.sh x):=A.bq λh=>by
 obtain⟨w,m,k⟩:=x;change gf w at h;have:=Y4 w m k h;unfold HC at this;unfold VA;simp only[aK.sh,A8,A.du,A.bt h,cf,A.bp,bV]at this ⊢;have aj:=h.2.1;have hw:=bz (n:=(w.2.1.length:Int) - 1) (by omega) (by omega);simp only[hw,rE];exact this
theorem aow(x):A.le (ajN x) (uD.sh x):=A.bq λh=>Y6 x h
theorem aox(l:z1')(n:Int)(h:l.length<2 ^ 63):NF (l,n)=A.pure (hN (λy=>decide (n=y)) l 0):=by
 unfold NF;rw[A.f_ l (λi (b:Int)=>(l,n,(l.length:Int),b,())) (λy (i:Int)=>if decide (n=y)=true then (.done (.done i):V Int (V Unit Int)) else .next (i+1)) (λ_=>.next ()) (λi b=>b=(i:Int)) 0 ?_ ?_ ?_ ?_]
 ·rw[AA (λy=>decide (n=y))];by_cases ba:(l.any λy=>decide (n=y))=true
  ·simp_all
  ·rw[if_neg ba,D7 l 0 ba];simp
 ·rfl
 ·rfl
 ·intro i G b W;subst W;have hw:=bz (n:=(i:Int)+1) (by omega) (by omega);refine⟨?_,λbe db=>?_⟩
  ·simp only[bV,cU G,if_true,df G,cM G,A.bp,A.aF,ch,hw];split<;>rfl
  grind
 simp
abbrev It:aK:=⟨.ay fE bu,bu,λx=>x.1.length<2 ^ 63,λx=>hN (λy=>decide (x.2=y)) x.1 0⟩
theorem aoy(x):A.le (NF x) (It.sh x):=A.bq λh=>aox x.1 x.2 h
theorem aoz(x):A.le (Vx It.sh x) (mE.sh x):=A.bq λh=>by
 unfold Vx;simp only[aK.sh,It,A.du];rw[A.bt (by exact h),Az _ _ _ (by omega)];grind
theorem aoA(x):A.le (VB yo.sh oX.sh x) ((⟨kH,dd,λ_=>True,rG⟩:aK).sh x):=A.bq λ_=>by
 unfold VB;simp only[aK.sh,yo,oX,A.du,A.jc,A.bp,implies_true,vJ,rG]
abbrev Iu:aK:=⟨kH,dd,λ_=>True,rG⟩
theorem aoB(x):A.le (VD uD.sh (jy bu).sh yo.sh oX.sh x) (s5.sh x):=A.bq λh=>by
 unfold VD;simp only[aK.sh,uD,oX,jy,yo,A.du,A.jc,A.bp,implies_true,A.gz];rw[A.bt (by exact λ_=>⟨h,λy _=>⟨_,A.bR trivial _⟩⟩),A.bt (by omega)];simp only[vJ,bV];refine congrArg A.pure ?_;show _=pI x;unfold pI;grind
abbrev Bb:aK:=⟨.ay k3 (.bH (.fn qz .bool)),dd,λx=>∃ f,x.2=some f/\x.1.length<2 ^ 63/\∀ y∈x.1,∃ b,f y=A.pure b,λx=>decide ((x.1.length:Int)<=4)&&x.1.all λy=>((x.2.getD λ_=>A.fail) y).val false⟩
theorem aoC(x):A.le (VE (jy qz).sh x) (Bb.sh x):=A.bq λh=>by
 obtain⟨m,o⟩:=x;obtain⟨f,ao,E,U⟩:=h;change o=some f at ao;subst ao;unfold VE;simp only[aK.sh,jy,A.du,A.jc,Option.getD_some];simp_all
abbrev Bc:aK:=⟨.ay jV (.bH iu),dd,λx=>∃ w,x.2=some w/\gf w,λx=>rH (x.2.getD ([],[],0,[])) x.1⟩
theorem aoD(x):A.le (VF pH.sh rF.sh cf.sh x) (Bc.sh x):=A.bq λh=>by
 obtain⟨t,o⟩:=x;obtain⟨w,ao,E⟩:=h;change o=some w at ao;subst ao;unfold VF;simp only[aK.sh,pH,rF,cf,A.du,A.jc,Option.getD_some,A.bt E,E,implies_true,A.bp,vJ,Bc,rH]
theorem aoE(x):A.le (Vz cf.sh (jy kH).sh (jy k3).sh (jy jV).sh Bb.sh Bc.sh Iu.sh s5.sh x) (s6.sh x):=A.bq λh=>by
 have aX:gf x:=h;obtain⟨E,U,ag,a1⟩:=(h:gf x)
 unfold Vz;have d1:∀ s,Iu.sh s=A.pure (rG s):=λ_=>rfl;have d2:∀ m∈x.2.1,Bb.sh (m,some s5.sh)=A.pure (pJ m):=λm hm=>by
  refine (A.bR ⟨_,rfl,(a1 m hm).1,λy aQ=>⟨_,A.bR ((a1 m hm).2 y aQ) _⟩⟩ _).trans (congrArg A.pure ?_);simp only[Bb,Option.getD_some,pJ,aK.sh,A.gz];grind
 have d3:∀ t,Bc.sh (t,some x)=A.pure (rH x t):=λt=>A.bR ⟨_,rfl,aX⟩ _;have b8:(x.1.all λy=>(Iu.sh y).val false)=x.1.all rG:=Is λs _=>A.gz;have a2:(x.2.1.all λy=>(Bb.sh (y,some s5.sh)).val false)=x.2.1.all pJ:=Is λm hm=>(congrArg (λz:A Bool=>z.val false) (d2 m hm)).trans A.fB;have a3:(x.2.2.2.all λy=>(Bc.sh (y,some x)).val false)=x.2.2.2.all (rH x):=Is λt _=>A.gz;have aw:∀ y,(jy kH).sh y=A.dR ((jy kH).pre y) ((jy kH).g y):=λ_=>rfl;have aN:∀ y,(jy k3).sh y=A.dR ((jy k3).pre y) ((jy k3).g y):=λ_=>rfl;have cE:∀ y,(jy jV).sh y=A.dR ((jy jV).pre y) ((jy jV).g y):=λ_=>rfl;have ed:∀ y,cf.sh y=A.pure (cf.g y):=λ_=>rfl;simp only[aw,aN,cE,ed,A.du,A.jc,A.kE,A.aF];rw[A.bt (by grind),A.bt (by grind),A.bt (by exact λ_=>⟨ag,λy _=>⟨_,d3 y⟩⟩)];simp only[vJ,bV];refine congrArg A.pure ?_;show _=jW x;rw[b8,a2,a3];unfold jW s4;grind
def oZ(m:z5')(k:Int×Int×Int):Option Int:=Option.map (λx=>x.2) (List.find? (λp=>decide (k.1=p.1.1)&&(decide (k.2.1=p.1.2.1)&&decide (k.2.2=p.1.2.2))) m)
def uK(m:z4')(k:Int):Option Int:=Option.map (λx=>x.2) (List.find? (λp=>decide (k=p.1)) m)
theorem Iv{a b:Int×Int×Int}:(decide (a.1=b.1)&&(decide (a.2.1=b.2.1)&&decide (a.2.2=b.2.2)))=decide (a=b):=by
 grind
theorem aoF(k):oZ [] k=none:=rfl
theorem Zg(k:Int×Int×Int)(v:Int)(k':Int×Int×Int):∀ m,oZ (vL m k v) k'=if k'=k then some v else oZ m k'
 | []=>by
  show oZ [(k,v)] k'=_;by_cases h:k'=k<;>simp[oZ,Iv,h]
 | p::m=>by
  have aJ:=Zg k v k' m;show oZ (if (decide (k.1=p.1.1)&&(decide (k.2.1=p.1.2.1)&&decide (k.2.2=p.1.2.2)))=true then (p.1,v)::m else p::vL m k v) k'=_;rw[Iv];by_cases h:k=p.1
  ·subst h;by_cases ds:k'=p.1<;>simp[oZ,Iv,ds]
  ·simp only[h,decide_false,Bool.false_eq_true,if_false];simp only[oZ,Iv,List.find?_cons]at aJ ⊢;grind
theorem Zh(k v k':Int):∀ m,uK (fc m k v) k'=if k'=k then some v else uK m k'
 | []=>by
  show uK [(k,v)] k'=_;by_cases h:k'=k<;>simp[uK,h]
 | p::m=>by
  have aJ:=Zh k v k' m;show uK (if decide (k=p.1)=true then (p.1,v)::m else p::fc m k v) k'=_;by_cases h:k=p.1
  ·subst h;by_cases ds:k'=p.1<;>simp[uK,ds]
  ·simp only[h,decide_false,Bool.false_eq_true,if_false];simp only[uK,List.find?_cons]at aJ ⊢;grind
def pM(t:k4):Int×Int×Int:=(t.1,t.2.1,t.2.2.1)
theorem Iw{a b:k4}:nl a b=true<->pM a=pM b/\a.2.2.2≠b.2.2.2:=by
 simp only[nl,Bool.and_eq_true,decide_eq_true_eq,pM,Prod.mk.injEq];omega
theorem Zi(l:List k4):l0 l=true<->l.Pairwise λa b=>nl a b=false:=by
 unfold l0;rw[List.pairwise_iff_getElem];simp only[List.all_eq_true,List.mem_range,Bool.not_eq_true'];grind
def Ix(m:z5')(pre:List k4):Prop:=∀ k v,oZ m k=some v<->(∃ t∈pre,pM t=k/\t.2.2.2=v)
def EA(m:z5')(t:k4):Bool:=Option.isSome (oZ m (pM t))&&decide (Option.getD (oZ m (pM t)) 0≠t.2.2.2)
theorem Zj{m pre}(h:Ix m pre)(an:pre.Pairwise λa b=>nl a b=false)(t:k4):EA m t=true<->∃ a∈pre,nl a t=true:=by
 unfold EA;cases aj:oZ m (pM t) with
 | none=>
  simp only[Option.isSome_none,Bool.false_and,Bool.false_eq_true,false_iff];rintro⟨a,ba,hc⟩;have:=(h (pM t) a.2.2.2).2 ⟨a,ba,(Iw.1 hc).1,rfl⟩;grind
 | some v=>
  simp only[Option.isSome_some,Bool.true_and,Option.getD_some,decide_eq_true_eq];obtain⟨b,W,al,ae⟩:=(h _ _).1 aj;constructor
  ·intro eN;exact⟨b,W,Iw.2 ⟨al,by omega⟩⟩
  ·rintro⟨a,ba,hc⟩ rfl;obtain⟨bE,c2⟩:=Iw.1 hc;have:=(h (pM t) a.2.2.2).2 ⟨a,ba,bE,rfl⟩;grind
theorem aoG{m pre}(h:Ix m pre){t:k4}(W:∀ a∈pre,nl a t=false):Ix (vL m (pM t) t.2.2.2) (pre++[t]):=by
 intro k v;rw[Zg];by_cases al:k=pM t
 ·rw[if_pos al];constructor
  ·grind
  ·rintro⟨a,ba,E,U⟩;rcases List.mem_append.1 ba with ba | ba
   ·have hc:=W a ba;have:¬nl a t=true:=by grind
    rw[Iw]at this;grind
   grind
 ·rw[if_neg al,h];grind
theorem Zk:∀ (cm:List k4) (m) (pre:List k4),Ix m pre->(pre.Pairwise λa b=>nl a b=false)->
  eY (λt m=>if EA m t=true then (.done (.done 71):V _ (V Unit Int)) else .next (vL m (pM t) t.2.2.2)) (λ_=>.next ()) cm m=if l0 (pre++cm)=true then .next () else .done 71
 | [],m,pre,h,an=>by
  have:=(Zi pre).2 an;simp[eY,this]
 | t::cm,m,pre,h,an=>by
  simp only[eY];by_cases W:EA m t=true
  ·simp only[W,if_true];obtain⟨a,ba,hc⟩:=(Zj h an t).1 W;have:¬l0 (pre++t::cm)=true:=by
    rw[Zi,List.pairwise_append];grind
   grind
  ·have aA:∀ a∈pre,nl a t=false:=λa ba=>by
    have:=λhc=>W ((Zj h an t).2 ⟨a,ba,hc⟩);grind
   simp only[W,Bool.false_eq_true,if_false];have B':(pre++[t]).Pairwise λa b=>nl a b=false:=by
    grind
   have:=Zk cm _ (pre++[t]) (aoG h aA) B';grind
theorem aoH(w:a8)(h:gf w):NG s6.sh w=A.pure (cw w):=by
 have aD:=h;obtain⟨E,U,ag,a1⟩:=h;unfold NG;simp only[aK.sh,s6,A.du,A.bt aD];unfold cw;cases hw:jW w with
 | false=>simp
 | true=>
  simp only[Bool.not_true,Bool.false_eq_true,if_false,if_true];rw[A.dt w.2.2.2 (λi (m:z5')=>(w.2.2.2,(w.2.2.2.length:Int),(i:Int),m,())) (λt m=>if EA m t=true then (.done (.done 71):V _ (V Unit Int)) else .next (vL m (pM t) t.2.2.2)) (λ_=>.next ()) [] ?_ ?_ ?_]
  ·rw[Zk w.2.2.2 [] [] (λk v=>by simp[aoF]) (by simp)];simp only[List.nil_append];by_cases aH:l0 w.2.2.2=true<;>simp[aH]
  ·rfl
  ·intro i G m;have gQ:=bz (n:=(i:Int)+1) (by omega) (by omega);simp only[bV,cU G,if_true,df G,cM G,A.bp,A.aF,ch,gQ];exact Vm (mk:=λm=>(w.2.2.2,(w.2.2.2.length:Int),(i:Int)+1,m,()))
  simp
theorem aoI(x):A.le (NG s6.sh x) (hr.sh x):=A.bq λh=>aoH x h
theorem aoJ(w:a8)(i n m k:Int)(hw:l8 w)(G:fF w i=true)(hm:iv w m k=true):VH cf.sh mE.sh (w,i,n,m,k)=A.pure (uF w i n m k):=Y_ w i n m k hw G hm
theorem aoK(x):A.le (VH cf.sh mE.sh x) (s7.sh x):=A.bq λh=>aoJ x.1 x.2.1 x.2.2.1 x.2.2.2.1 x.2.2.2.2 h.1 h.2.1 h.2.2
abbrev yp:aK:=⟨.ay jV (.ay (.bH bu) (.ay (.bH iu) (.bH bu))),dd,λx=>∃ i w n,x.2=(some i,some w,some n)/\l8 w/\fF w i=true/\iv w x.1.2.1 x.1.2.2.1=true,λx=>qC (x.2.2.1.getD ([],[],0,[])) (x.2.1.getD 0) (x.2.2.2.getD 0) x.1⟩
theorem aoL(x):A.le (VG s7.sh x) (yp.sh x):=A.bq λh=>by
 obtain⟨t,o⟩:=x;obtain⟨i,w,n,ao,hw,G,hm⟩:=h;change o=_ at ao;subst ao;unfold VG;simp only[aK.sh,A.mA,A.gz,Option.getD_some,and_true,true_and,and_self,imp_self,A.bp,ne_eq];by_cases aH:t.1=i
 ·have an:l8 w/\fF w i=true/\iv w t.2.1 t.2.2.1=true:=⟨hw,G,hm⟩
  simp[qC,aH,an,A.bt an]
 ·simp[qC,aH]
def pN(w:a8):List (z1'):=(List.range w.1.length).map λ(i:Nat)=>fm w (i:Int)
def iw(w:a8)(b6:Bool):Option qu×Int:=if dM w b6≠0 then (none,dM w b6) else (some (w,pN w),0)
abbrev Bd:aK:=⟨.ay iu dd,.ay (.bH (.st (.ay iu (.slice fE)))) bu,λx=>gf x.1,λx=>iw x.1 x.2⟩
theorem aoM{w:a8}{i:Int}:fm w i=(eh (ep w i).2.2.1 (ep w i).2.2.2).filter λn=>w.2.2.2.all (qC w i n):=by
 unfold fm;refine List.filter_congr λn aA=>?_;rw[sI]at aA;simp[uG,aA]
theorem Zl{w:a8}:∀ (l:List Nat) (acc:List (z1')),eY (λ(i:Nat) (acc:List (z1'))=>if decide (((fm w (i:Int)).length:Int)=0)=true then (.done (.done (none,(3:Int))):V _ (V (List Ik×List (List wg)×Int×List k4×List (z1')×Unit) (Option qu×Int))) else .next (acc++[fm w (i:Int)])) (λacc=>.next (w.1,w.2.1,w.2.2.1,w.2.2.2,acc,())) l acc
  =if (l.all λ(i:Nat)=>!decide (((fm w (i:Int)).length:Int)=0))=true then .next (w.1,w.2.1,w.2.2.1,w.2.2.2,acc++l.map (λ(i:Nat)=>fm w (i:Int)),()) else .done (none,3)
 | [],acc=>by simp[eY]
 | i::l,acc=>by
  simp only[eY,List.all_cons,List.map_cons];by_cases h:((fm w (i:Int)).length:Int)=0
  ·simp[h]
  ·simp only[h,decide_false,Bool.false_eq_true,if_false,Bool.not_false,Bool.true_and];rw[Zl l];simp
theorem aoN(w:a8)(b6:Bool)(h:gf w):NK hr.sh (jy jV).sh yp.sh (w,b6)=A.pure (iw w b6):=by
 unfold NK iw dM;simp only[aK.sh,A.du,A.bt h];by_cases hc:cw w=0
 ·have hw:l8 w:=⟨h,A' hc⟩
  have Zb:=wi hw.2;simp only[hc,ne_eq,not_true,decide_false,Bool.false_eq_true,if_false];cases b6 with
  | false=>simp
  | true=>
   simp only[Bool.not_true,Bool.false_eq_true,if_false,Bool.true_eq_false];rw[A.f_ (List.range w.1.length) (λi (acc:List (z1'))=>(w.1,(w.1.length:Int),(i:Int),w,w.1,w.2.1,w.2.2.1,w.2.2.2,acc,())) (λ(i:Nat) (acc:List (z1'))=>if decide (((fm w (i:Int)).length:Int)=0)=true then (.done (.done (none,(3:Int))):V _ (V (List Ik×List (List wg)×Int×List k4×List (z1')×Unit) (Option qu×Int))) else .next (acc++[fm w (i:Int)])) (λacc=>.next (w.1,w.2.1,w.2.2.1,w.2.2.2,acc,())) (λi acc=>acc.length<=i) [] ?_ ?_ ?_ ?_]
   ·rw[Zl];have e:((List.range w.1.length).all λ(i:Nat)=>!decide (((fm w (i:Int)).length:Int)=0))=pK w:=rfl;rw[e];by_cases aH:pK w=true<;>simp[aH,pN]
   ·rfl
   ·simp
   ·intro i G acc Ph;have G:i<w.1.length:=by grind
    have n0:=Za G;have aj:=Pg hw.2 n0;have gQ:=bz (n:=(i:Int)+1) (by omega) (by omega);have aB:w.1[i]=ep w (i:Int):=by simp[ep,List.getD_eq_getElem?_getD,G]
    refine⟨?_,λbe W=>?_⟩
    ·simp only[bV,cU G,if_true,df G,cM G,A.bp,aB,List.getElem_range];rw[A.f_ (eh (ep w (i:Int)).2.2.1 (ep w (i:Int)).2.2.2) (λk (l:z1')=>(w.1,(w.1.length:Int),(i:Int),w,(i:Int),ep w (i:Int),l,(ep w (i:Int)).2.2.1+(k:Int),w.1,w.2.1,w.2.2.1,w.2.2.2,acc,())) (λn l=>.next (if w.2.2.2.all (qC w (i:Int) n)=true then l++[n] else l)) (λl=>.next (w.1,(w.1.length:Int),(i:Int),w,l,w.1,w.2.1,w.2.2.1,w.2.2.2,acc,())) (λk l=>l.length<=k) [] ?_ ?_ ?_ ?_]
     ·rw[dP,Nk];simp only[A.aF,A.bY,List.nil_append];rw[<-aoM];by_cases bk:((fm w (i:Int)).length:Int)=0
      ·simp[bk]
      ·have kR:bP (acc.length+(0+1)):=by unfold bP;omega
       simp_all
     ·simp
     ·simp
     ·intro k al l Io;have rz:k<1000:=by rw[sH]at al;omega
      have p9:(ep w (i:Int)).2.2.1+(k:Int)<=(ep w (i:Int)).2.2.2:=by rw[sH]at al;omega
      have yn:=bz (n:=(ep w (i:Int)).2.2.1+((k:Int)+1)) (by omega) (by omega);have kR:bP (l.length+(0+1)):=by unfold bP;omega
      refine⟨?_,λbe W=>?_⟩
      ·have lP:∀ t∈w.2.2.2,yp.sh (t,some (i:Int),some w,some ((ep w (i:Int)).2.2.1+(k:Int)))=A.pure (qC w (i:Int) ((ep w (i:Int)).2.2.1+(k:Int)) t):=λt aH=>A.bR ⟨_,_,_,rfl,hw,n0,(Y9 hw.2 aH).2⟩ _;simp only[p9,decide_true,if_true,An];rw[A.bt (by exact⟨h.2.2.1,λt aH=>⟨_,lP t aH⟩⟩)];have e:(w.2.2.2.all λy=>(A.dR (yp.pre (y,some (i:Int),some w,some ((ep w (i:Int)).2.2.1+(k:Int)))) (yp.g (y,some (i:Int),some w,some ((ep w (i:Int)).2.2.1+(k:Int))))).val false)=w.2.2.2.all (qC w (i:Int) ((ep w (i:Int)).2.2.1+(k:Int))):=Is λt aH=>A.gz;rw[e];by_cases W:w.2.2.2.all (qC w (i:Int) ((ep w (i:Int)).2.2.1+(k:Int)))=true
       ·simp only[W,if_true,ch,hX,A.bt kR,A.aF,A.bY,yn,V.hl,Int.natCast_add,Int.natCast_one,Int.add_assoc]
       ·simp only[W,Bool.false_eq_true,if_false,ch,hX,A.aF,A.bY,yn,V.hl,Int.natCast_add,Int.natCast_one,Int.add_assoc]
      grind
     ·intro l Io;have:¬(ep w (i:Int)).2.2.1+((eh (ep w (i:Int)).2.2.1 (ep w (i:Int)).2.2.2).length:Int)<=(ep w (i:Int)).2.2.2:=by rw[sH];omega
      simp only[this,decide_false,Bool.false_eq_true,if_false,A.aF]
    grind
   simp
 grind
theorem aoO(x):A.le (NK hr.sh (jy jV).sh yp.sh x) (Bd.sh x):=A.bq λh=>aoN x.1 x.2 h
theorem aoP(x):A.le (VI x) (Ir.sh x):=A.bq λ_=>by
 unfold VI;simp only[Iq,decide_eq_true_eq];grind
theorem Zm(w:a8):(pN w).length=w.1.length:=by simp[pN]
theorem Pj{w:a8}{i:Int}(h:fF w i=true):List.getD (pN w) i.toNat []=fm w i:=by
 rw[qA]at h;have:i.toNat<w.1.length:=by omega
 have e:((i.toNat:Nat):Int)=i:=by omega
 simp[pN,List.getD_eq_getElem?_getD,this,e]
abbrev aoQ:ad:=.bH (.st (.ay iu (.slice fE)))
def aoR(o:Option qu)(w:a8):Prop:=o=some (w,pN w)/\l8 w
abbrev Iy:aK:=⟨.ay aoQ (.ay bu (.ay bu bu)),bu,λx=>∃ w,aoR x.1 w/\fF w x.2.1=true/\iv w x.2.2.1 x.2.2.2=true,λx=>uI ((x.1.getD (([],[],0,[]),[])).1) x.2.1 x.2.2.1 x.2.2.2⟩
theorem aoS(w:a8)(i m k:Int)(hw:l8 w)(G:fF w i=true)(hm:iv w m k=true):NL s7.sh Ir.sh (some (w,pN w),i,m,k)=A.pure (uI w i m k):=by
 unfold NL;have kR:=Y' hw G;have b4:0<=i/\i<((pN w).length:Int):=by rw[Zm];exact qA.1 G
 simp only[Option.isSome_some,Option.getD_some,A.bp,bV,Pj G,A.bt b4];rw[A.f_ (fm w i) (λj (n:Int)=>(some (w,pN w),i,m,k,n,fm w i,((fm w i).length:Int),(j:Int),())) (λx n=>.next (if uF w i x m k=true then n+1 else n)) (λn=>.next (some (w,pN w),i,n,())) (λj n=>0<=n/\n<=(j:Int)) 0 ?_ ?_ ?_ ?_]
 ·rw[dP,Zd];simp only[A.aF,A.bY,Option.isSome_some,Option.getD_some,A.bp,A.bt b4,Pj G,aK.sh,A.du,Int.zero_add];rfl
 ·rfl
 ·simp
 ·intro j aE n aA;have aoT:=bz (n:=(j:Int)+1) (by omega) (by omega);have Be:=bz (n:=n+1) (by omega) (by omega);have an:l8 w/\fF w i=true/\iv w m k=true:=⟨hw,G,hm⟩
  refine⟨?_,λbe W=>?_⟩
  ·simp only[cU aE,if_true,df aE,cM aE,A.bp,Option.isSome_some,Option.getD_some,aK.sh,A.du,A.bt an,ch,Be];cases uF w i (fm w i)[j] m k<;>simp[aoT]
  grind
 simp
theorem aoU(x):A.le (NL s7.sh Ir.sh x) (Iy.sh x):=A.bq λh=>by
 obtain⟨o,i,m,k⟩:=x;obtain⟨w,⟨ao,hw⟩,G,hm⟩:=h;change o=_ at ao;subst ao;exact aoS w i m k hw G hm
theorem Zn{w:a8}{b6:Bool}(h:dM w b6=0):iw w b6=(some (w,pN w),0):=by simp[iw,h]
theorem Zo{w:a8}{b6:Bool}(h:dM w b6≠0):iw w b6=(none,dM w b6):=by simp[iw,h]
theorem aoV(w:a8)(i:Int)(h:gf w):NH Bd.sh pH.sh (w,i)=A.pure (rI w i):=by
 unfold NH rI;simp only[aK.sh,A.mA,A.gz,h,A.bp];by_cases al:dM w (fF w i)=0
 ·have hw:=Zc h al;have G:=(uH al).2.1;have an:=aoq (uH al).2.2 G;have kR:=Y' hw G;have gQ:=bz (n:=((fm w i).length:Int) - 1) (by omega) (by omega);have aw:(((fm w i).length:Int) - 1).toNat=(fm w i).length - 1:=by omega
  have sE:0<=i/\i<((pN w).length:Int):=by rw[Zm];exact qA.1 G
  have b4:(0:Int)<=0/\(0:Int)<((fm w i).length:Int):=by omega
  have cv:(0:Int)<=((fm w i).length:Int) - 1/\((fm w i).length:Int) - 1<((fm w i).length:Int):=by omega
  simp only[Zn al,al,ne_eq,not_true,decide_false,Bool.false_eq_true,if_false,Option.isSome_some,Option.getD_some,A.bp,bV,Pj G,A.bt sE,gQ,aw,A.bt cv];simp_all
 ·simp[Zo al,al]
theorem aoW(x):A.le (NH Bd.sh pH.sh x) (s8.sh x):=A.bq λh=>aoV x.1 x.2 h
theorem aoX(w:a8)(i m k:Int)(h:gf w):NI Bd.sh pH.sh rF.sh Iy.sh (w,i,m,k)=A.pure (pL w i m k):=by
 unfold NI pL;simp only[aK.sh,A.mA,A.gz,h,A.bp,and_true,and_self,imp_self,true_and];by_cases al:dM w (fF w i&&iv w m k)=0
 ·have hw:=Zc h al;have G:=(uH al).2.1;simp only[Bool.and_eq_true]at G;simp only[Zn al,al,ne_eq,not_true,decide_false,Bool.false_eq_true,if_false,A.du];rw[A.bt (by exact⟨w,⟨rfl,hw⟩,G.1,G.2⟩)];rfl
 ·simp[Zo al,al]
theorem aoY(x):A.le (NI Bd.sh pH.sh rF.sh Iy.sh x) (uJ.sh x):=A.bq λh=>aoX x.1 x.2.1 x.2.2.1 x.2.2.2 h
theorem Pk{n:Int}(E:0<=n)(U:n<18446744073709551616):IntKind.u64.wrap n=n:=by
 show (if (false&&decide (n % 2 ^ 64>=(2 ^ (64 - 1):Int)))=true then n % 2 ^ 64 - 2 ^ 64 else n % 2 ^ 64)=n;grind
theorem Pl:∀ (n:Nat) (l:z1'),l.Nodup->(∀ x∈l,0<=x/\x<(n:Int))->l.length<=n
 | 0,l,_,h=>by
  cases l with
  | nil=>simp
  | cons x l=>have:=h x (by simp);omega
 | n+1,l,aA,h=>by
  have U:=Pl n (l.erase (n:Int)) (aA.erase _) λx ah=>by
   grind
  grind
def aoZ(l:z1'):Prop:=∀ x∈l,0<=x/\x<16
def Zp(l:z1'):Prop:=l.Nodup/\aoZ l
theorem Zp.len{l:z1'}(h:Zp l):l.length<=16:=Pl 16 l h.1 h.2
theorem A.ao0{D aI:Type}{body:D->A (V D aI)}{p:aI->Prop}{s0:D}(n:Nat)(I:Nat->D->Prop)(aX:I 0 s0)
  (aD:∀ i,i<n->∀ s,I i s->A.cx (body s) λst=>match st with | .next s'=>I (i+1) s' | .done r=>p r)
  (ao:∀ s,I n s->A.cx (body s) λst=>match st with | .next _=>False | .done r=>p r):A.cx (A.loop body s0) p:=by
 have key:∀ k i s,n - i=k->i<=n->I i s->A.cx (A.loop body s) p:=by
  intro k;induction k with
  | zero=>
   intro i s al G h;have:i=n:=by omega
   subst this;rw[A.BO,A.gg];refine (ao s h).mono λy aQ=>?_;cases y with
   | next s'=>grind
   | done r=>exact A.ea.2 aQ
  | succ k aJ=>
   intro i s al G h;rw[A.BO,A.gg];refine (aD i (by omega) s h).mono λy aQ=>?_;cases y with
   | next s'=>grind
   | done r=>exact A.ea.2 aQ
 grind
def Pm(x:Int×Int):Int:=IntKind.wrap .u64
 (Add.add (IntKind.wrap .u64 (Add.add (IntKind.wrap .u64 (ji .u64 x.1 32*ji .u64 x.2 32)) (ji .u64 (IntKind.wrap .u64 (Add.add (IntKind.wrap
 .u64 (ji .u64 x.1 32*lM .u64 x.2 4294967295)) (ji .u64 (IntKind.wrap .u64 (lM .u64 x.1 4294967295*lM .u64 x.2 4294967295)) 32))) 32)))
 (ji .u64 (IntKind.wrap .u64 (Add.add (lM .u64 (IntKind.wrap .u64 (Add.add (IntKind.wrap .u64 (ji .u64 x.1 32*lM .u64 x.2 4294967295)) (ji
 .u64 (IntKind.wrap .u64 (lM .u64 x.1 4294967295*lM .u64 x.2 4294967295)) 32))) 4294967295) (IntKind.wrap .u64 (lM .u64 x.1 4294967295*ji
 .u64 x.2 32)))) 32))
def Iz:Nat->Bool
 | 0=>true
 | n+1=>decide (Pm (1,(n:Int))=0)&&Iz n
theorem Zq:∀ (N n:Nat),Iz N=true->n<N->Pm (1,(n:Int))=0
 | 0,n,_,h=>by omega
 | N+1,n,hc,h=>by
  simp only[Iz,Bool.and_eq_true,decide_eq_true_eq]at hc;by_cases e:n=N
  ·grind
  ·exact Zq N n hc.2 (by omega)
def Pn(work:z1')(s:Int):z1':=((List.range work.length).filter λj=>decide (work.getD j 0=s)).map λ(j:Nat)=>(j:Int)
theorem ao1{ak β aI:Type}{f:ak->β->V β aI}{fin:β->aI}(I:Nat->β->Prop)(Q:aI->Prop)(l:List ak)(b:β)(aX:I 0 b)
  (aD:∀ i (h:i<l.length) b,I i b->match f l[i] b with | .next be=>I (i+1) be | .done r=>Q r) (ao:∀ b,I l.length b->Q (fin b)):Q (eY f fin l b):=by
 have key:∀ (k:Nat) (r:List ak) (b:β),k<=l.length->r=l.drop k->I k b->Q (eY f fin r b):=by
  intro k r;induction r generalizing k with
  | nil=>
   intro b al M eA;have:k=l.length:=by have:=congrArg List.length M;grind
   subst this;exact ao b eA
  | cons x r aJ=>
   intro b al M eA;have cb:k<l.length:=by
    grind
   rw[List.drop_eq_getElem_cons cb]at M;injection M with ah M
   have E:=aD k cb b eA;rw[<-ah]at E;simp only[eY];grind
 grind
def cS(m:z4')(k:Int):Int:=(uK m k).getD 0
theorem ao2(m:z4')(k:Int):Option.getD (Option.map (λx=>x.2) (List.find? (λp=>decide (k=p.1)) m)) 0=cS m k:=rfl
theorem Bf(k v k':Int)(m:z4'):cS (fc m k v) k'=if k'=k then v else cS m k':=by
 unfold cS;rw[Zh];grind
def rJ(n:Nat)(m:z4'):Nat:=(List.range n).countP λ(s:Nat)=>decide (cS m (s:Int)=0)
theorem Zr{p q:Nat->Bool}{s:Nat}(h:∀ x,x≠s->p x=q x)(an:p s=true)(br:q s=false):∀ (l:List Nat),l.Nodup->s∈l->l.countP p=l.countP q+1
 | [],_,aD=>by cases aD
 | x::l,aA,aD=>by
  rw[List.nodup_cons]at aA;rw[List.countP_cons,List.countP_cons];by_cases e:x=s
  ·subst e;have:l.countP p=l.countP q:=List.countP_congr λy aQ=>by
    grind
   grind
  ·have:=Zr h an br l aA.2 (by grind);grind
theorem Zs{n:Nat}{m:z4'}{s v:Int}(aX:0<=s)(aA:s<(n:Int))(hm:cS m s=0)(ae:v≠0):rJ n m=rJ n (fc m s v)+1:=by
 unfold rJ;refine Zr (s:=s.toNat) (λx ah=>?_) ?_ ?_ _ List.nodup_range (by grind)
 ·rw[Bf,if_neg (by omega)]
 ·grind
 ·rw[Bf,if_pos (by omega)];grind
theorem Zt{n:Nat}{a b:z4'}(h:∀ k,0<=cS a k/\cS a k<=cS b k):rJ n b<=rJ n a:=by
 unfold rJ;refine List.countP_mono_left λx _ ah=>?_;grind
abbrev k5:=z1'×z4'
def V.uL{β aI jr:Type}(g:aI->jr):V β aI->V β jr
 | .next b=>.next b
 | .done r=>.done (g r)
def yq{ak β aI:Type}(f:ak->β->V β aI):List ak->β->V β aI
 | [],b=>.next b
 | x::l,b=>match f x b with
  | .next be=>yq f l be
  | .done r=>.done r
def V.fin{β aI:Type}(n:β->aI):V β aI->aI
 | .next b=>n b
 | .done r=>r
theorem Po{ak β aI:Type}{f:ak->β->V β aI}{n:β->aI}:∀ (l:List ak) (b:β),eY f n l b=V.fin n (yq f l b)
 | [],b=>rfl
 | x::l,b=>by
  simp only[eY,yq];cases f x b with
  | next be=>exact Po l be
  | done r=>rfl
theorem Zu{ak β aI jr:Type}{f:ak->β->V β aI}{g:aI->jr}:∀ (l:List ak) (b:β),yq (λx b=>V.uL g (f x b)) l b=V.uL g (yq f l b)
 | [],b=>rfl
 | x::l,b=>by
  simp only[yq];cases f x b with
  | next be=>exact Zu l be
  | done r=>rfl
def Pp(w:a8):Prop:=w.1.length<=2000000/\w.2.1.length<=2000000/\w.2.2.2.length<=2000000/\∀ m∈w.2.1,m.length<=2000000/\∀ s∈m,s.2.1.length<=2000000
abbrev vS:aK:=⟨iu,iu,Pp,λw=>w⟩
theorem ao3(w:a8)(h:Pp w):Nq w=A.pure w:=by
 obtain⟨E,U,ag,a1⟩:=h;unfold Nq;have b4:bP (0+w.1.length):=by unfold bP;omega
 have cv:bP (0+w.2.2.2.length):=by unfold bP;omega
 simp only[hX,A.bt b4,A.bt cv,List.nil_append];rw[A.f_ w.2.1 (λi (bK:List (List (Int×z1'×Int×Int)))=>((i:Int),w,0,w.2.2.1,w.1,w.2.2.2,bK,())) (λm bK=>.next (bK++[m])) (λbK=>.next (0,w.2.2.1,w.1,w.2.2.2,bK,())) (λi bK=>bK.length<=i) [] ?_ ?_ ?_ ?_]
 ·rw[dP,uj (g:=λm=>m)];simp
 ·rfl
 ·simp
 ·intro i G bK po;have hm:=a1 w.2.1[i] (List.getElem_mem G);have kl:=bz (n:=(i:Int)+1) (by omega) (by omega);have ef:bP (0+w.2.1[i].length):=by have:=hm.1;unfold bP;omega
  have lh:bP (bK.length+(0+1)):=by unfold bP;omega
  refine⟨?_,λbe db=>?_⟩
  ·simp only[bV,cU G,if_true,cM G,A.bp,df G,A.bt ef];rw[A.dt w.2.1[i] (λk (_:Unit)=>((i:Int),(k:Int),w,0,w.2.2.1,w.1,w.2.2.2,w.2.1[i],bK,())) (λs u=>.next u) (λ_=>.next ((i:Int),w,0,w.2.2.1,w.1,w.2.2.2,w.2.1[i],bK,())) () ?_ ?_ ?_]
   ·rw[dP];simp_all
   ·rfl
   ·intro k al u;have aD:=hm.2 _ (List.getElem_mem al);have Io:=hm.1;have l7:=bz (n:=(k:Int)+1) (by omega) (by omega);have kx:bP (0+(w.2.1[i])[k].2.1.length):=by unfold bP;omega
    have mS:(w.2.1[i]).set k ((w.2.1[i])[k].1,(w.2.1[i])[k].2.1,(w.2.1[i])[k].2.2)=w.2.1[i]:=List.set_getElem_self al;simp_all
   simp
  grind
 simp
theorem Og(x):A.le (Nq x) (vS.sh x):=A.bq λh=>ao3 x h
def yr(m:List (Int×z1'×Int×Int)):Bool:=decide ((m.length:Int) > 20)||m.any λs=>decide ((s.2.1.length:Int) > 20)
def k1(w:a8):Bool:=
 if (decide ((w.1.length:Int) > 40)||decide ((w.2.1.length:Int) > 40)||decide ((w.2.2.2.length:Int) > 60))=true then true
 else if w.2.1.any yr=true then true
 else if cw w≠0 then false
 else if (w.1.any λs=>decide (IntKind.i64.wrap (s.2.2.2 - s.2.2.1)>=50))=true then true
 else decide ((w.1.length:Int) > 6)||decide ((w.2.1.length:Int) > 4)||decide ((w.2.2.2.length:Int) > 10)
abbrev wb:aK:=⟨iu,dd,gf,k1⟩
theorem ao4(w:a8)(h:gf w):NN hr.sh w=A.pure (k1 w):=by
 unfold NN k1;simp only[bV];by_cases E:(decide ((w.1.length:Int) > 40)||decide ((w.2.1.length:Int) > 40)||decide ((w.2.2.2.length:Int) > 60))=true
 ·grind
 ·rw[if_neg E,if_neg E];have aj:=h;obtain⟨dy,dO,ou,uM⟩:=h;rw[A.dt w.2.1 (λi (_:Unit)=>((i:Int),w,())) (λm u=>if yr m=true then .done (.done true) else .next u) (λ_=>.next (w,())) () ?_ ?_ ?_]
  ·rw[rs];by_cases U:w.2.1.any yr=true
   ·simp only[U,if_true,A.aF,A.pv]
   ·simp only[U,Bool.false_eq_true,if_false,A.aF,A.bY,aK.sh,A.du,A.bt aj];by_cases ag:cw w=0
    ·simp only[ag,ne_eq,not_true,decide_false,Bool.false_eq_true,if_false];rw[A.dt w.1 (λi (_:Unit)=>((i:Int),w,())) (λs u=>if decide (IntKind.i64.wrap (s.2.2.2 - s.2.2.1)>=50)=true then .done (.done true) else .next u) (λ_=>.next (w,())) () ?_ ?_ ?_]
     ·rw[rs];by_cases a1:(w.1.any λs=>decide (IntKind.i64.wrap (s.2.2.2 - s.2.2.1)>=50))=true
      ·simp_all
      ·simp only[a1,Bool.false_eq_true,if_false,A.aF,A.bY]
     ·rfl
     ·intro i G u;have kl:=bz (n:=(i:Int)+1) (by omega) (by omega);simp only[bV,cU G,if_true,cM G,A.bp,df G,A.aF,ch,kl];exact l1 (mk:=λ_:Unit=>((i:Int)+1,w,()))
     simp
    grind
  ·rfl
  ·intro i G u;have kl:=bz (n:=(i:Int)+1) (by omega) (by omega);have hm:=uM _ (List.getElem_mem G);simp only[bV,cU G,if_true,cM G,A.bp,df G,A.aF];by_cases bL:decide ((w.2.1[i].length:Int) > 20)=true
   ·have ao:yr w.2.1[i]=true:=by unfold yr;grind
    simp_all
   ·have ao:yr w.2.1[i]=w.2.1[i].any λs=>decide ((s.2.1.length:Int) > 20):=by unfold yr;grind
    rw[if_neg bL];rw[A.dt w.2.1[i] (λk (_:Unit)=>((i:Int),(k:Int),w,())) (λs u=>if decide ((s.2.1.length:Int) > 20)=true then .done (.done (.done (.done true))) else .next u) (λ_=>.next ((i:Int),w,())) () ?_ ?_ ?_]
    ·rw[rs,ao];by_cases dm:(w.2.1[i].any λs=>decide ((s.2.1.length:Int) > 20))=true
     ·simp_all
     ·simp only[dm,Bool.false_eq_true,if_false,A.aF,A.bY,ch,kl];rfl
    ·rfl
    ·intro k al u;have l7:=bz (n:=(k:Int)+1) (by omega) (by omega);simp only[cM G,A.bp,df G,cU al,if_true,cM al,df al,A.aF,ch,l7];exact l1 (mk:=λ_:Unit=>((i:Int),(k:Int)+1,w,()))
    simp_all
  simp
theorem ao5(x):A.le (NN hr.sh x) (wb.sh x):=A.bq λh=>ao4 x h
def IA:a8:=([(1,2,300,310),(1,3,305,305),(2,1,50,60),(1,2,320,330)],[[(1,[2,3],300,306),(2,[1],40,58)],[(1,[2],310,326)]],5,[(0,1,0,0)])
abbrev Pq:aK:=⟨.cT,iu,λ_=>True,λ_=>IA⟩
theorem ao6(x):A.le (ajT x) (Pq.sh x):=A.bq λ_=>rfl
theorem ao7:gf IA:=by
 refine⟨by decide,by decide,by decide,?_⟩;intro m hm;simp only[IA,List.mem_cons,List.not_mem_nil,or_false]at hm;grind
abbrev nm:ad:=.st (.ay bu (.ay bu (.ay bu (.ay bu fE))))
abbrev mG:ad:=.st (.ay fE (.ay mD (.ay bu (.ay bu bu))))
abbrev pO:ad:=.st (.ay bu (.ay bu bu))
abbrev k6:ad:=.st (.ay iu (.ay fE (.ay (.slice nm) (.ay (.slice mG) (.ay (.slice pO) bu)))))
def e7(s:bF):Prop:=gf s.1/\s.2.1.length<2 ^ 63/\s.2.2.1.length<2 ^ 63/\s.2.2.2.1.length<2 ^ 63/\s.2.2.2.2.1.length<2 ^ 63/\(∀ p∈s.2.2.1,p.2.2.2.2.length<2 ^ 63)/\∀ x∈s.2.2.2.1,x.1.length<2 ^ 63
def b3(n aY G:Int):Bool:=decide (aY<=n)&&decide (n<=G)
def jX(n:Int):Bool:=b3 n 0 99
def jY(p:Int->Bool)(l:z1'):Bool:=(List.range l.length).all λi=>p (l.getD i 0)&&!(decide (0<i)&&decide (l.getD i 0<=l.getD (i - 1) 0))
def EB(w:a8)(m:Int)(n:Int):Bool:=decide (0<=n)&&decide (n<((iR w m).length:Int))
def pP(w:a8)(p:dj):Bool:=jX p.1&&jX p.2.1&&jX p.2.2.1&&n7 w p.2.2.2.1&&jY (EB w p.2.2.2.1) p.2.2.2.2
def o0(x:dA):Bool:=b3 (x.1.length:Int) 1 8&&jY jX x.1&&jX x.2.1.1&&jX x.2.1.2&&decide (x.2.1.1<=x.2.1.2)&&jX x.2.2.1&&jX x.2.2.2.1&&b3 x.2.2.2.2 0 100000
def o1(w:a8)(d:DR):Bool:=jX d.1&&fF w d.2.1&&b3 d.2.2 1 10
def nn(s:bF):Bool:=decide ((s.2.1.length:Int)=(s.1.1.length:Int))&&(s.2.1.all λn=>b3 n 0 10)&&decide ((s.2.2.1.length:Int)<=8)&&s.2.2.1.all (pP s.1)&&decide ((s.2.2.2.1.length:Int)<=6)&&s.2.2.2.1.all o0&&decide ((s.2.2.2.2.1.length:Int)<=8)&&s.2.2.2.2.1.all (o1 s.1)&&jX s.2.2.2.2.2
def iS(s:bF):Int:=if cw s.1≠0 then cw s.1 else if nn s=true then 0 else 80
theorem ao8(x):A.le (ake x) (cf.sh x):=A.bq λ_=>rfl
theorem ao9(x):A.le (aj_ x) (cf.sh x):=A.bq λ_=>rfl
abbrev rK:aK:=⟨bu,dd,λ_=>True,jX⟩
theorem ao_(x):A.le (V2 cf.sh x) (rK.sh x):=A.bq λ_=>by
 unfold V2;simp[aK.sh,cf,jX,b3]
theorem ao'(x):A.le (V6 cf.sh x) (rK.sh x):=A.bq λ_=>by
 unfold V6;simp[aK.sh,cf,jX,b3]
abbrev IB:aK:=⟨.ay fE (.fn bu .bool),dd,λx=>x.1.length<2 ^ 63/\∀ y∈x.1,∃ b,x.2 y=A.pure b,λx=>jY (λy=>(x.2 y).val false) x.1⟩
theorem apa(x):A.le (V3 x) (IB.sh x):=A.bq λh=>by
 obtain⟨l,f⟩:=x;obtain⟨E,U⟩:=h;change l.length<2 ^ 63 at E;change ∀ y∈l,∃ b,f y=A.pure b at U;unfold V3;rw[A.dt (List.range l.length) (λi (_:Unit)=>(l,f,l,(l.length:Int),(i:Int),())) (λi b=>if (!((f (l.getD i 0)).val false&&!(decide (0<i)&&decide (l.getD i 0<=l.getD (i - 1) 0))))=true then .done (.done false) else .next b) (λ_=>.next ()) () ?_ ?_ ?_]
 ·rw[kg (q:=λi=>(f (l.getD i 0)).val false&&!(decide (0<i)&&decide (l.getD i 0<=l.getD (i - 1) 0))) _ _ (λ_=>rfl)];show _=A.pure (jY (λy=>(f y).val false) l);unfold jY;cases (List.range l.length).all λi=>(f (l.getD i 0)).val false&&!(decide (0<i)&&decide (l.getD i 0<=l.getD (i - 1) 0))<;>simp
 ·rfl
 ·intro i G b;have G:i<l.length:=by grind
  have hw:=bz (n:=(i:Int)+1) (by omega) (by omega);have gW:=bz (n:=(i:Int) - 1) (by omega) (by omega);have aN:((i:Int) - 1).toNat=i - 1:=by omega
  obtain⟨c,hc⟩:=U _ (List.getElem_mem G);have jv:l.getD i 0=l[i]:=by grind
  have sS:(decide ((i:Int) > 0))=decide (0<i):=by simp
  simp only[bV,cU G,if_true,List.getElem_range,df G,cM G,A.bp,jv,hc,A.fB,A.aF,ch,hw,gW,aN,sS];rw[A.bt (by grind)];cases c<;>cases (decide (0<i)&&decide (l[i]<=l.getD (i - 1) 0))<;>rfl
 simp
abbrev IC:aK:=⟨.ay fE bu,dd,λx=>x.1.length<2 ^ 63,λx=>jY (λn=>b3 n 0 x.2) x.1⟩
theorem apb(x):A.le (V9 x) (IC.sh x):=A.bq λh=>by
 obtain⟨l,m⟩:=x;change l.length<2 ^ 63 at h;unfold V9;rw[A.dt (List.range l.length) (λi (_:Unit)=>(l,m,(i:Int),())) (λi b=>if (!(b3 (l.getD i 0) 0 m&&!(decide (0<i)&&decide (l.getD i 0<=l.getD (i - 1) 0))))=true then .done (.done false) else .next b) (λ_=>.next ()) () ?_ ?_ ?_]
 ·rw[kg (q:=λi=>b3 (l.getD i 0) 0 m&&!(decide (0<i)&&decide (l.getD i 0<=l.getD (i - 1) 0))) _ _ (λ_=>rfl)];show _=A.pure (jY (λn=>b3 n 0 m) l);unfold jY;cases (List.range l.length).all λi=>b3 (l.getD i 0) 0 m&&!(decide (0<i)&&decide (l.getD i 0<=l.getD (i - 1) 0))<;>simp
 ·rfl
 ·intro i G b;have G:i<l.length:=by grind
  have hw:=bz (n:=(i:Int)+1) (by omega) (by omega);have gW:=bz (n:=(i:Int) - 1) (by omega) (by omega);have aN:((i:Int) - 1).toNat=i - 1:=by omega
  have jv:l.getD i 0=l[i]:=by grind
  have sS:(decide ((i:Int) > 0))=decide (0<i):=by simp
  simp only[bV,cU G,if_true,List.getElem_range,df G,cM G,A.bp,jv,A.aF,ch,hw,gW,aN,sS];have sE:0<i->(0:Int)<=(i:Int) - 1/\(i:Int) - 1<(l.length:Int):=by omega
  generalize l.getD (i - 1) 0=B;generalize l[i]=aL;by_cases ij:aL<0<;>by_cases tP:aL > m<;>by_cases aX:0<i<;>by_cases aS:aL<=B<;>simp_all[b3,V.hl,A.bt]<;>(grind)<;>(grind)
 simp
theorem Pr{p q:Int->Bool}{l:z1'}(h:∀ y∈l,p y=q y):jY p l=jY q l:=by
 unfold jY;grind
theorem apc(n:Int)(k:Nat):b3 n 0 ((k:Int) - 1)=(decide (0<=n)&&decide (n<(k:Int))):=by
 unfold b3;grind
theorem apd(a b:Int):decide (a > b)=!decide (a<=b):=by grind
abbrev EC:aK:=⟨.ay bu (.ay (.bH iu) (.bH nm)),dd,λx=>∃ w p,x.2=(some w,some p)/\gf w/\n7 w p.2.2.2.1=true,λx=>EB (x.2.1.getD ([],[],0,[])) (x.2.2.getD (0,0,0,0,[])).2.2.2.1 x.1⟩
theorem ape(x):A.le (V4 cf.sh x) (EC.sh x):=A.bq λh=>by
 obtain⟨n,o⟩:=x;obtain⟨w,p,ao,hw,hm⟩:=h;change o=_ at ao;subst ao;unfold V4;have r:=Il.1 hm;have aj:=Im hw p.2.2.2.1;have gQ:=bz (n:=((iR w p.2.2.2.1).length:Int) - 1) (by omega) (by omega);unfold iR at gQ;simp only[aK.sh,cf,Option.getD_some,bV,r,and_self,A.bp,gQ,A.du,rE];rfl
abbrev ED:aK:=⟨.ay nm (.bH iu),dd,λx=>x.1.2.2.2.2.length<2 ^ 63/\∃ w,x.2=some w/\gf w,λx=>!pP (x.2.getD ([],[],0,[])) x.1⟩
theorem apf(x):A.le (V1 cf.sh rK.sh IB.sh EC.sh x) (ED.sh x):=A.bq λh=>by
 obtain⟨p,o⟩:=x;obtain⟨an,w,ao,hw⟩:=h;change o=_ at ao;change p.2.2.2.2.length<2 ^ 63 at an;subst ao;unfold V1;have aj:=hw.2.1;have gQ:=bz (n:=((w.2.1.length:Int)) - 1) (by omega) (by omega);have aw:(decide (0<=p.2.2.2.1)&&decide (p.2.2.2.1<(w.2.1.length:Int)))=n7 w p.2.2.2.1:=rfl;simp only[aK.sh,cf,Option.getD_some,bV,A.bp,gQ,A.du,A.jc,rE,implies_true,qt,aw];have key:n7 w p.2.2.2.1=true->(jY (λy=>(A.dR (EC.pre (y,some w,some p)) (EC.g (y,some w,some p))).val false) p.2.2.2.2)=jY (EB w p.2.2.2.1) p.2.2.2.2:=λhm=>Pr λy aQ=>A.gz;rw[A.bt]
 ·show A.pure _=A.pure _;congr 1;show _=!pP w p;unfold pP;simp
 ·intro cV;have hm:n7 w p.2.2.2.1=true:=by
   grind
  exact⟨an,λy aQ=>⟨_,A.bR ⟨w,p,rfl,hw,hm⟩ _⟩⟩
abbrev EE:aK:=⟨mG,dd,λx=>x.1.length<2 ^ 63,λx=>!o0 x⟩
theorem apg(x):A.le (V5 cf.sh rK.sh IB.sh rK.sh x) (EE.sh x):=A.bq λh=>by
 unfold V5;have key:(jY (λy=>(A.dR (rK.pre y) (rK.g y)).val false) x.1)=jY jX x.1:=Pr λy aQ=>A.gz;simp only[aK.sh,cf,bV,A.bp,A.du,A.jc,implies_true,qt];rw[A.bt]
 ·show A.pure _=A.pure (!o0 x);congr 1;unfold o0;rw[key];have e:decide (x.2.1.1 > x.2.1.2)=!decide (x.2.1.1<=x.2.1.2):=by grind
  rw[e];show _=!(b3 (x.1.length:Int) 1 8&&_&&_&&_&&_&&_&&_&&_);unfold b3;simp
 ·exact λ_=>⟨h,λy aQ=>⟨_,A.bR trivial _⟩⟩
abbrev EF:aK:=⟨.ay pO (.bH iu),dd,λx=>∃ w,x.2=some w/\gf w,λx=>!o1 (x.2.getD ([],[],0,[])) x.1⟩
theorem aph(x):A.le (V7 cf.sh rK.sh x) (EF.sh x):=A.bq λh=>by
 obtain⟨d,o⟩:=x;obtain⟨w,ao,hw⟩:=h;change o=_ at ao;subst ao;unfold V7;have aj:=hw.1;have gQ:=bz (n:=((w.1.length:Int)) - 1) (by omega) (by omega);simp only[aK.sh,cf,Option.getD_some,bV,A.bp,gQ,A.du,A.jc,rE,implies_true,qt];show A.pure _=A.pure (!o1 w d);congr 1;unfold o1 fF b3;simp
abbrev EG:aK:=⟨bu,dd,λ_=>True,λn=>!b3 n 0 10⟩
theorem api(x):A.le (V8 cf.sh x) (EG.sh x):=A.bq λ_=>by
 unfold V8;simp[aK.sh,cf,b3]
theorem ID{ak:Type}{p q:ak->Bool}{l:List ak}(h:∀ x∈l,p x=!q x):l.any p=!l.all q:=by
 grind
abbrev Ps:aK:=⟨k6,dd,e7,nn⟩
theorem apj(x):A.le (VU rK.sh (jd bu).sh (jd nm).sh (jd mG).sh (jd pO).sh ED.sh EF.sh EE.sh EG.sh x) (Ps.sh x):=A.bq λh=>by
 obtain⟨E,U,ag,a1,bL,dm,fS⟩:=h;unfold VU;simp only[aK.sh,bV,A.bp,A.du,A.jc,implies_true];have aP:(x.2.1.any λy=>(A.dR (EG.pre y) (EG.g y)).val false)=!x.2.1.all λn=>b3 n 0 10:=ID λy _=>A.gz;have aR:(x.2.2.1.any λy=>(A.dR (ED.pre (y,some x.1)) (ED.g (y,some x.1))).val false)=!x.2.2.1.all (pP x.1):=ID λy _=>A.gz;have bO:(x.2.2.2.1.any λy=>(A.dR (EE.pre y) (EE.g y)).val false)=!x.2.2.2.1.all o0:=ID λy _=>A.gz;have gx:(x.2.2.2.2.1.any λy=>(A.dR (EF.pre (y,some x.1)) (EF.g (y,some x.1))).val false)=!x.2.2.2.2.1.all (o1 x.1):=ID λy _=>A.gz;rw[A.bt,A.bt,A.bt,A.bt]
 ·show A.pure _=A.pure (nn x);congr 1;unfold nn;grind
 ·exact λ_=>⟨bL,λy aQ=>⟨_,A.bR ⟨_,rfl,E⟩ _⟩⟩
 ·exact λ_=>⟨a1,λy aQ=>⟨_,A.bR (fS y aQ) _⟩⟩
 ·exact λ_=>⟨ag,λy aQ=>⟨_,A.bR ⟨dm y aQ,_,rfl,E⟩ _⟩⟩
 ·exact λ_=>⟨U,λy aQ=>⟨_,A.bR trivial _⟩⟩
abbrev pQ:aK:=⟨k6,bu,e7,iS⟩
theorem apk(x):A.le (VN hr.sh Ps.sh x) (pQ.sh x):=A.bq λh=>by
 unfold VN;simp only[aK.sh,A.du,A.bt h.1];show _=A.pure (iS x);unfold iS;by_cases hc:cw x.1=0
 ·simp only[hc,ne_eq,not_true,decide_false,Bool.false_eq_true,if_false,A.bt h];grind
 grind
abbrev IE:aK:=⟨.ay k6 nm,dd,λx=>e7 x.1/\x.2.2.2.2.2.length<2 ^ 63,λx=>pP x.1.1 x.2⟩
theorem apl(x):A.le (VV cf.sh IC.sh x) (IE.sh x):=A.bq λh=>by
 obtain⟨s,p⟩:=x;obtain⟨aD,an⟩:=h;change e7 s at aD;change p.2.2.2.2.length<2 ^ 63 at an;unfold VV;have aj:=aD.1.2.1;have gv:=Im aD.1 p.2.2.2.1;have gQ:=bz (n:=((s.1.2.1.length:Int)) - 1) (by omega) (by omega);have yn:=bz (n:=((iR s.1 p.2.2.2.1).length:Int) - 1) (by omega) (by omega);unfold iR at yn;have aw:(decide (0<=p.2.2.2.1)&&decide (p.2.2.2.1<(s.1.2.1.length:Int)))=n7 s.1 p.2.2.2.1:=rfl;simp only[aK.sh,cf,bV,A.bp,gQ,yn,A.du,A.jc,rE,implies_true,qt,aw,A.mA,A.gz];show _=A.pure (pP s.1 p);unfold pP;have Ea:jY (λn=>b3 n 0 (((List.getD s.1.2.1 (Int.toNat p.2.2.2.1) []).length:Int) - 1)) p.2.2.2.2=jY (EB s.1 p.2.2.2.1) p.2.2.2.2:=Pr λy _=>apc y _;rw[Ea];cases hm:n7 s.1 p.2.2.2.1
 ·simp
 ·have r:=Il.1 hm;rw[A.bt r,A.bt (by exact an)];unfold jX b3;grind
abbrev IF:aK:=⟨mG,dd,λx=>x.1.length<2 ^ 63,o0⟩
theorem apm(x):A.le (VW cf.sh IC.sh x) (IF.sh x):=A.bq λh=>by
 unfold VW;simp only[aK.sh,cf,bV,A.bp,A.du,A.jc,implies_true];rw[A.bt (by omega)];show A.pure _=A.pure (o0 x);congr 1;unfold o0;have Ea:jY (λn=>b3 n 0 99) x.1=jY jX x.1:=rfl;rw[Ea];unfold jX b3;grind
theorem apn(x):A.le (VO hr.sh cf.sh IE.sh IF.sh x) (pQ.sh x):=A.bq λh=>by
 have aD:=h;obtain⟨E,U,ag,a1,bL,dm,fS⟩:=h;unfold VO;simp only[aK.sh,A.du,A.bt E];show _=A.pure (iS x);unfold iS;by_cases hc:cw x.1=0
 ·simp only[hc,ne_eq,not_true,decide_false,Bool.false_eq_true,if_false,cf,A.jc,A.du,implies_true,A.bp,bV,qt,decide_not];have e:(!decide ((x.2.1.length:Int)=(x.1.1.length:Int))||decide ((x.2.2.1.length:Int) > 8)||decide ((x.2.2.2.1.length:Int) > 6)||decide ((x.2.2.2.2.1.length:Int) > 8)||!(decide (0<=x.2.2.2.2.2)&&decide (x.2.2.2.2.2<=99)))=!(decide ((x.2.1.length:Int)=(x.1.1.length:Int))&&decide ((x.2.2.1.length:Int)<=8)&&decide ((x.2.2.2.1.length:Int)<=6)&&decide ((x.2.2.2.2.1.length:Int)<=8)&&jX x.2.2.2.2.2):=by
   simp only[apd,jX,b3,Bool.not_and]
  rw[e];by_cases cV:(decide ((x.2.1.length:Int)=(x.1.1.length:Int))&&decide ((x.2.2.1.length:Int)<=8)&&decide ((x.2.2.2.1.length:Int)<=6)&&decide ((x.2.2.2.2.1.length:Int)<=8)&&jX x.2.2.2.2.2)=true
  ·rw[if_neg (by grind)]
   ·rw[A.dt x.2.1 (λi (_:Unit)=>((i:Int),x,())) (λn b=>if (!b3 n 0 10)=true then .done (.done (80:Int)) else .next b) (λ_=>.next (x,())) () ?_ ?_ ?_]
    ·rw[kg (q:=λn=>b3 n 0 10) _ _ (λ_=>rfl)];cases ij:x.2.1.all λn=>b3 n 0 10 with
     | false=>simp[nn,ij]
     | true=>
      simp only[A.aF,if_true,A.bY];rw[A.dt x.2.2.1 (λi (_:Unit)=>((i:Int),x,())) (λp b=>if (!pP x.1 p)=true then .done (.done (80:Int)) else .next b) (λ_=>.next (x,())) () ?_ ?_ ?_]
      ·rw[kg (q:=pP x.1) _ _ (λ_=>rfl)];cases aS:x.2.2.1.all (pP x.1) with
       | false=>simp[nn,aS]
       | true=>
        simp only[A.aF,if_true,A.bY];rw[A.dt x.2.2.2.1 (λi (_:Unit)=>((i:Int),x,())) (λp b=>if (!o0 p)=true then .done (.done (80:Int)) else .next b) (λ_=>.next (x,())) () ?_ ?_ ?_]
        ·rw[kg (q:=o0) _ _ (λ_=>rfl)];cases jn:x.2.2.2.1.all o0 with
         | false=>simp[nn,jn]
         | true=>
          simp only[A.aF,if_true,A.bY];rw[A.dt x.2.2.2.2.1 (λi (_:Unit)=>((i:Int),x,())) (λp b=>if (!o1 x.1 p)=true then .done (.done (80:Int)) else .next b) (λ_=>.next ()) () ?_ ?_ ?_]
          ·rw[kg (q:=o1 x.1) _ _ (λ_=>rfl)];simp only[Bool.and_eq_true]at cV;cases Pe:x.2.2.2.2.1.all (o1 x.1)<;>simp[nn,ij,aS,jn,Pe,cV]
          ·rfl
          ·intro i G b;have hw:=bz (n:=(i:Int)+1) (by omega) (by omega);have aj:=E.1;have gQ:=bz (n:=((x.1.1.length:Int)) - 1) (by omega) (by omega);simp only[bV,cU G,if_true,df G,cM G,A.bp,A.aF,ch,hw,gQ,qt,rE];have e:(!(decide (0<=(x.2.2.2.2.1[i]).1)&&decide ((x.2.2.2.2.1[i]).1<=99))||!(decide (0<=(x.2.2.2.2.1[i]).2.1)&&decide ((x.2.2.2.2.1[i]).2.1<(x.1.1.length:Int)))||!(decide (1<=(x.2.2.2.2.1[i]).2.2)&&decide ((x.2.2.2.2.1[i]).2.2<=10)))=!o1 x.1 x.2.2.2.2.1[i]:=by
            unfold o1 jX fF b3;simp
           rw[e];exact l1 (mk:=λ_:Unit=>((i:Int)+1,x,()))
          simp
        ·rfl
        ·intro i G b;have hw:=bz (n:=(i:Int)+1) (by omega) (by omega);simp only[bV,cU G,if_true,df G,cM G,A.bp,A.aF,ch,hw,A.bt (show IF.pre x.2.2.2.1[i] from fS _ (List.getElem_mem G))];exact l1 (mk:=λ_:Unit=>((i:Int)+1,x,()))
        simp
      ·rfl
      ·intro i G b;have hw:=bz (n:=(i:Int)+1) (by omega) (by omega);simp only[bV,cU G,if_true,df G,cM G,A.bp,A.aF,ch,hw,A.mA,A.gz,A.bt (show IE.pre (x,x.2.2.1[i]) from⟨aD,dm _ (List.getElem_mem G)⟩)];exact l1 (mk:=λ_:Unit=>((i:Int)+1,x,()))
      simp
    ·rfl
    ·intro i G b;have hw:=bz (n:=(i:Int)+1) (by omega) (by omega);simp only[bV,cU G,if_true,df G,cM G,A.bp,A.aF,ch,hw];exact l1 (mk:=λ_:Unit=>((i:Int)+1,x,()))
    simp
  ·rw[if_pos (by grind)]
   ·have:nn x=false:=by
     unfold nn;grind
    grind
 grind
theorem apo:Iz 201=true:=by decide +kernel
abbrev s9:aK:=⟨.ay (.int .u64) (.int .u64),.ay (.int .u64) (.int .u64),λx=>x.1=1/\0<=x.2/\x.2<=200,λx=>(0,x.2)⟩
theorem apq(x):A.le (Vy x) (s9.sh x):=A.bq λh=>by
 obtain⟨a,b⟩:=x;obtain⟨E,U,ag⟩:=h;change a=1 at E;change 0<=b at U;change b<=200 at ag;subst E;have aX:=Zq 201 b.toNat apo (by omega);rw[Int.toNat_of_nonneg U]at aX;have hw:=Pk (n:=1*b) (by omega) (by omega);have apr:((0:Int)<=32)=True:=by simp
 unfold Vy;simp only[apr,A.bp];show A.pure (Pm (1,b),IntKind.wrap .u64 (1*b))=_;grind
theorem aps(apt)(x):A.le (Vw apt s9.sh x) (s9.sh x):=A.bq λh=>by
 unfold Vw;simp only[aK.sh,A.du];simp_all
section
variable {ak β:Type}
theorem apu(a d:ak)(m J:Nat)(E:1<=m)(U:m<J) :
  List.take m (List.replicate m a++List.replicate (J - m) d)++List.take (J - m) (List.take m (List.replicate m a++List.replicate (J - m) d))++
   List.drop (m+(List.take (J - m) (List.take m (List.replicate m a++List.replicate (J - m) d))).length) (List.replicate m a++List.replicate (J - m) d)
  =List.replicate (m+min (J - m) m) a++List.replicate (J - (m+min (J - m) m)) d:=by
 have aw:List.take m (List.replicate m a++List.replicate (J - m) d)=List.replicate m a:=by
  simp
 rw[aw,List.take_replicate,List.replicate_append_replicate,List.length_replicate,List.drop_append,List.length_replicate];have aN:List.drop (m+min (J - m) m) (List.replicate m a)=[]:=by simp
 grind
def Zv(d:ak)(fin:List ak->A β)(x5:Int×Int->A (Int×Int))(x:List ak)(n:Int):A β:=
 A.bind (if decide (n<0)=true then A.ab False (A.ab False (A.pure (V.next (x,n,())))) else A.pure (V.next (x,n,())))
 (V.bx λ(D:List ak×Int×Unit)=>A.bind (x5 (IntKind.wrap .u64 (Int.ofNat (List.length D.1)),IntKind.wrap .u64 D.2.1)) λy
 =>A.bind (if (decide (y.1 > 0)||decide (y.2 > 9223372036854775807))=true then A.ab False (A.ab False (A.pure (V.next (D.1,y.2,())))) else
 A.pure (V.next (D.1,y.2,()))) (V.bx λ(D:List ak×Int×Unit)=>A.ab (0<=IntKind.wrap .i64 D.2.1/\IntKind.wrap .i64 D.2.1=
 IntKind.wrap .i64 D.2.1/\bP (Int.toNat (IntKind.wrap .i64 D.2.1))) (A.ab True (A.bind (A.loop (λ(D:Int×List ak×Unit)=>if decide (D.1
 < Int.ofNat (List.length D.2.1))=true then A.ab (0<=D.1/\D.1<=Int.ofNat (List.length D.2.1)/\Int.ofNat (List.length D.2.1)<=Int.ofNat
 (List.length D.2.1)) (A.ab ((0:Int)<=0/\0<=D.1/\D.1<=Int.ofNat (List.length D.2.1)) (A.ab True (A.pure (V.next (IntKind.wrap .i64
 (Add.add D.1 (Int.ofNat (if Int.toNat (Int.ofNat (List.length D.2.1)) - Int.toNat D.1<=List.length (List.take (Int.toNat D.1) D.2.1) then Int.toNat
 (Int.ofNat (List.length D.2.1)) - Int.toNat D.1 else List.length (List.take (Int.toNat D.1) D.2.1)))),List.take (Int.toNat D.1) D.2.1++List.take
 (Int.toNat (Int.ofNat (List.length D.2.1)) - Int.toNat D.1) (List.take (Int.toNat D.1) D.2.1)++List.drop (Add.add (Int.toNat D.1) (List.length
 (List.take (Int.toNat (Int.ofNat (List.length D.2.1)) - Int.toNat D.1) (List.take (Int.toNat D.1) D.2.1)))) D.2.1,()))))) else A.bind (A.pure
 (V.next (D.2.1,()))) λr=>A.pure (V.done r)) (Int.ofNat (if List.length (List.replicate (Int.toNat (IntKind.wrap .i64 D.2.1)) d) - 0<=
 List.length D.1 then List.length (List.replicate (Int.toNat (IntKind.wrap .i64 D.2.1)) d) - 0 else List.length D.1),[]++List.take (List.length
 (List.replicate (Int.toNat (IntKind.wrap .i64 D.2.1)) d) - 0) D.1++List.drop (Add.add 0 (List.length (List.take (List.length (List.replicate
 (Int.toNat (IntKind.wrap .i64 D.2.1)) d) - 0) D.1))) (List.replicate (Int.toNat (IntKind.wrap .i64 D.2.1)) d),())) (V.bx λ(D:List ak×
 Unit)=>fin D.1)))))
theorem Pt(d a:ak)(Mf:List ak->β)(n:Int)(U:0<=n)(ag:n<=200):A.cx (Zv d (λl=>A.pure (Mf l)) s9.sh [a] n) λy=>y=Mf (List.replicate n.toNat a):=by
 obtain⟨J,rfl⟩:=Int.eq_ofNat_of_zero_le U;have IG:decide ((J:Int)<0)=false:=by simp
 have lS:IntKind.u64.wrap (Int.ofNat ([a]:List ak).length)=1:=Pk (by simp) (by simp);have apv:=Pk (n:=(J:Int)) (by omega) (by omega);have kl:=bz (n:=(J:Int)) (by omega) (by omega);have an:s9.pre (1,(J:Int)):=⟨rfl,U,ag⟩
 have apw:decide ((J:Int) > 9223372036854775807)=false:=by grind
 have kR:bP J:=by unfold bP;omega
 have M:0<=(J:Int)/\True/\bP (Int.toNat (J:Int)):=⟨U,trivial,by grind⟩
 unfold Zv;simp only[IG,Bool.false_eq_true,if_false,A.aF,A.bY,lS,apv,aK.sh,A.du];rw[A.bt (by grind)];simp only[gt_iff_lt,Int.lt_irrefl,decide_false,Bool.false_or,Bool.false_eq_true,if_false,A.aF,A.bY,kl];have apx:decide ((9223372036854775807:Int)<(J:Int))=false:=apw;simp only[apx,Bool.false_eq_true,if_false,A.aF,A.bY,kl];rw[A.bt M];simp only[A.bp,A.gg,Int.toNat_natCast,List.length_replicate,Nat.sub_zero,List.nil_append,List.length_singleton,bV,hX,Nat.zero_add];refine A.BP (λs=>∃ m:Nat,(1<=m\/J=0)/\m<=J/\s=((m:Int),List.replicate m a++List.replicate (J - m) d,())) (λs=>J - s.1.toNat) ?_ _ ?_
 ·rintro s ⟨m,hm,ayu,rfl⟩;have hlen:(List.replicate m a++List.replicate (J - m) d).length=J:=by grind
  simp only[hlen];by_cases cb:m<J
  ·have gN:0<=(m:Int)/\(m:Int)<=(J:Int)/\(J:Int)<=(J:Int):=by omega
   have cN:(0:Int)<=0/\0<=(m:Int)/\(m:Int)<=(J:Int):=by omega
   have kf:1<=m:=by omega
   have Zw:(List.take m (List.replicate m a++List.replicate (J - m) d)).length=m:=by simp
   simp only[cU cb,if_true,A.bt gN,A.bt cN,A.bp,Int.toNat_natCast,Zw,ch];rw[A.ea,apu a d m J kf cb];have apy:(if J - m<=m then J - m else m)=min (J - m) m:=by rfl
   rw[apy];have gW:=bz (n:=(m:Int)+((min (J - m) m:Nat):Int)) (by omega) (by omega);refine⟨⟨m+min (J - m) m,.inl (by omega),by omega,?_⟩,?_⟩
   ·rw[gW];simp
   ·simp only[gW];omega
  ·have:m=J:=by omega
   subst this;simp only[Int.lt_irrefl,decide_false,Bool.false_eq_true,if_false,A.aF,A.ea,A.bY,Nat.sub_self,List.replicate_zero,List.append_nil]
 ·by_cases ayv:J=0
  ·grind
  ·refine⟨1,.inl (Nat.le_refl _),by omega,?_⟩;grind
end
abbrev IH:aK:=⟨.ay fE bu,fE,λx=>x.1=[-1]/\0<=x.2/\x.2<=200,λx=>List.replicate x.2.toNat (-1)⟩
theorem apz(x):A.le (aj2 s9.sh x) (IH.sh x):=A.sG λh=>by
 obtain⟨l,n⟩:=x;obtain⟨E,U,ag⟩:=h;change l=[-1]at E;subst E;exact Pt (0:Int) (-1) (λl=>l) n U ag
def wk(x:z1'×Int×Unit):A (z1'×Unit):=A.dR (x.1=[-1]/\0<=x.2.1/\x.2.1<=200) (List.replicate x.2.1.toNat (-1),())
theorem Zx(x):A.le (akg s9.sh x) (wk x):=A.sG λh=>by
 obtain⟨l,n,u⟩:=x;obtain⟨E,U,ag⟩:=h;change l=[-1]at E;subst E;exact Pt (0:Int) (-1) (λl=>(l,())) n U ag
abbrev II:ad:=.st (.ay bu bu)
abbrev IJ:aK:=⟨.ay (.slice II) bu,.slice II,λx=>x.1.length=1/\0<=x.2/\x.2<=200,λx=>List.replicate x.2.toNat (x.1.getD 0 (0,0))⟩
theorem apA(x):A.le (akd s9.sh x) (IJ.sh x):=A.sG λh=>by
 obtain⟨l,n⟩:=x;obtain⟨E,U,ag⟩:=h;change l.length=1 at E;obtain⟨a,rfl⟩:=List.length_eq_one_iff.1 E;exact Pt ((0,0):Int×Int) a (λl=>l) n U ag
end Go.Fer
namespace Go.Fer
open A (V)
def yt(s:bF)(n:Int):Bool:=decide (0<=n)&&decide (n<(s.2.2.2.1.length:Int))
def yu(s:bF)(n:Int):Bool:=decide (0<=n)&&decide (n<(s.2.2.1.length:Int))
theorem apB{s:bF}{n:Int}:yt s n=true<->0<=n/\n<(s.2.2.2.1.length:Int):=by simp[yt]
theorem apC{s:bF}{n:Int}:yu s n=true<->0<=n/\n<(s.2.2.1.length:Int):=by simp[yu]
abbrev Pu:aK:=⟨.ay k6 bu,dd,λx=>e7 x.1,λx=>yt x.1 x.2⟩
abbrev Pv:aK:=⟨.ay k6 bu,dd,λx=>e7 x.1,λx=>yu x.1 x.2⟩
theorem apD(x):A.le (VS cf.sh x) (Pu.sh x):=A.bq λh=>by
 have aj:=h.2.2.2.1;have hw:=bz (n:=(x.1.2.2.2.1.length:Int) - 1) (by omega) (by omega);unfold VS;simp[aK.sh,cf,hw,yt,rE]
theorem apE(x):A.le (VX cf.sh x) (Pv.sh x):=A.bq λh=>by
 have aj:=h.2.2.1;have hw:=bz (n:=(x.1.2.2.1.length:Int) - 1) (by omega) (by omega);unfold VX;simp[aK.sh,cf,hw,yu,rE]
def s_(x:dA)(p:dj):Int:=if (!x.1.contains p.1||!b3 p.2.1 x.2.1.1 x.2.1.2)=true then 0 else if p.2.2.1=x.2.2.1 then 1 else if p.2.2.1=0 then 2 else 0
abbrev wm:aK:=⟨.ay mG nm,bu,λx=>x.1.1.length<2 ^ 63,λx=>s_ x.1 x.2⟩
theorem apF(x):A.le (VY cf.sh mE.sh x) (wm.sh x):=A.bq λh=>by
 unfold VY;simp only[aK.sh,cf,mE,A.du,A.jc,implies_true,A.bp,qt];rw[A.bt (by exact h)];show _=A.pure (s_ x.1 x.2);unfold s_ b3;grind
def wo(s:bF)(l:z1')(i:Nat):Bool:=decide (l.getD i 0=-1)||(yu s (l.getD i 0)&&!(l.take i).contains (l.getD i 0))
def wq(s:bF)(l:z1'):Bool:=((List.range l.length).all (wo s l))&&decide ((l.length:Int)=(s.2.2.2.1.length:Int))
abbrev IK:aK:=⟨.ay k6 fE,dd,λx=>e7 x.1/\x.2.length<2 ^ 63,λx=>wq x.1 x.2⟩
theorem apG(x):A.le (VZ Pv.sh mE.sh x) (IK.sh x):=A.bq λh=>by
 obtain⟨s,l⟩:=x;obtain⟨aD,aj⟩:=h;change e7 s at aD;change l.length<2 ^ 63 at aj;unfold VZ;rw[A.dt (List.range l.length) (λi (_:Unit)=>(l,l,(l.length:Int),(i:Int),s,())) (λi b=>if (!wo s l i)=true then .done (.done false) else .next b) (λ_=>.next (l,s,())) () ?_ ?_ ?_]
 ·rw[kg (q:=wo s l) _ _ (λ_=>rfl)];show _=A.pure (wq s l);unfold wq;cases (List.range l.length).all (wo s l)<;>simp
 ·simp
 ·intro i G b;have G:i<l.length:=by grind
  have hw:=bz (n:=(i:Int)+1) (by omega) (by omega);obtain⟨aL,jv⟩:∃ aL,l.getD i 0=aL:=⟨_,rfl⟩
  have cL:wo s l i=(decide (aL=-1)||(yu s aL&&!(l.take i).contains aL)):=by unfold wo;rw[jv]
  simp only[bV,cU G,if_true,List.getElem_range,cM G,A.bp,aK.sh,A.du,A.jc,Int.toNat_natCast,jv];rw[A.bt (by grind),A.bt,A.bt]
  ·simp only[A.aF,ch,hw,wo,jv];by_cases E:aL=-1
   ·simp_all
   ·cases U:yu s aL<;>cases ag:(l.take i).contains aL<;>simp[E,U,ag,V.hl]
  ·intro _;show (l.take i).length<2 ^ 63;rw[List.length_take];omega
  ·intro cV;exact⟨⟨cV,trivial,cV⟩,⟨by omega,by omega,by omega⟩,trivial⟩
 simp
def k7(s:bF)(b6:Bool):Int:=if iS s≠0 then iS s else if b6=false then 1 else dM s.1 true
theorem IL{s:bF}(h:iS s=0):cw s.1=0/\nn s=true:=by
 unfold iS at h;grind
theorem Bg{s:bF}{b6:Bool}(h:k7 s b6=0):iS s=0/\b6=true/\dM s.1 true=0/\pK s.1=true:=by
 unfold k7 at h;by_cases he:iS s=0
 ·rw[if_neg (by omega)]at h;cases b6 with
  | false=>grind
  | true=>
   simp only[Bool.true_eq_false,if_false]at h;exact⟨he,rfl,h,(uH h).2.2⟩
 omega
structure l9(s:bF):Prop where
 fK:e7 s
 sY:l8 s.1
 EH:s.2.1.length=s.1.1.length
 qD:∀ n∈s.2.1,0<=n/\n<=10
 IM:s.2.2.1.length<=8
 apH:∀ p∈s.2.2.1,pP s.1 p=true
 uN:s.2.2.2.1.length<=6
 Zy:∀ x∈s.2.2.2.1,o0 x=true
 Pw:s.2.2.2.2.1.length<=8
 Zz:∀ d∈s.2.2.2.2.1,o1 s.1 d=true
 apI:0<=s.2.2.2.2.2/\s.2.2.2.2.2<=99
theorem Bh{s:bF}(aD:e7 s)(h:iS s=0):l9 s:=by
 obtain⟨E,U⟩:=IL h;simp only[nn,Bool.and_eq_true,decide_eq_true_eq,List.all_eq_true,b3,jX]at U;obtain⟨⟨⟨⟨⟨⟨⟨⟨aP,aR⟩,bO⟩,gx⟩,ox⟩,vt⟩,Dv⟩,Ab⟩,MH⟩:=U;exact⟨aD,⟨aD.1,A' E⟩,by omega,aR,by omega,gx,by omega,vt,by omega,Ab,MH⟩
theorem l9.ZA{s:bF}(h:l9 s):s.1.1.length<=10:=(wi h.sY.2).1
def IN(w:a8)(t:z5')(q:Int×Int×Int):z5':=if uI w q.1 q.2.1 q.2.2=1 then vL t q (IntKind.i64.wrap ((oZ t q).getD 0+1)) else t
def ZB(w:a8)(i m:Nat)(t:z5'):z5':=(List.range (iR w (m:Int)).length).foldl (λt (k:Nat)=>IN w t ((i:Int),(m:Int),(k:Int))) t
def ZC(w:a8)(i:Nat)(t:z5'):z5':=(List.range w.2.1.length).foldl (λt m=>ZB w i m t) t
def uO(w:a8)(n:Nat):z5':=(List.range n).foldl (λt i=>ZC w i t) []
def lE(p:Int×Int)(n:Int):z4':=List.replicate n.toNat p
def EI(l:z1'):z4':=(List.range l.length).flatMap λ(i:Nat)=>lE ((i:Int),0) (l.getD i 0)
def ZD(l:List DR):z4':=l.flatMap λd=>lE (d.2.1,d.1) d.2.2
def Px(s:bF):z4':=EI s.2.1++ZD s.2.2.2.2.1
def dq(s:bF):dw:=(s,Px s,uO s.1 s.2.1.length)
def yv(s:bF)(b6:Bool):Option dw×Int:=if k7 s b6≠0 then (none,k7 s b6) else (some (dq s),0)
theorem Py{ak β:Type}(f:ak->List β):∀ (l:List ak) (b:List β),l.foldl (λb x=>b++f x) b=b++l.flatMap f
 | [],b=>by simp
 | x::l,b=>by rw[List.foldl_cons,Py f l,List.flatMap_cons,List.append_assoc]
abbrev apJ:ad:=.st (.ay bu (.ay bu bu))
abbrev wu:ad:=.bH (.st (.ay k6 (.ay (.slice II) (.map apJ bu))))
abbrev Bi:aK:=⟨.ay k6 dd,.ay wu bu,λx=>e7 x.1,λx=>yv x.1 x.2⟩
theorem apK(s:bF)(b6:Bool)(aD:e7 s):NR pQ.sh s8.sh uJ.sh IJ.sh (s,b6)=A.pure (yv s b6):=by
 unfold NR yv k7;simp only[aK.sh,A.du,A.bt aD];by_cases he:iS s=0
 ·have ae:=Bh aD he;simp only[he,ne_eq,not_true,decide_false,Bool.false_eq_true,if_false];cases b6 with
  | false=>simp
  | true=>
   simp only[Bool.not_true,Bool.false_eq_true,if_false,Bool.true_eq_false];refine Eq.trans (congrArg (λm=>A.bind m _) (show _=(if dM s.1 true≠0 then A.pure (V.done ((none:Option dw),dM s.1 true)) else A.pure (V.next (s,([]:z5'),s.1.1,s.1.2.1,s.1.2.2.1,s.1.2.2.2,s.2.1,s.2.2.1,s.2.2.2.1,s.2.2.2.2.1,s.2.2.2.2.2,()))) from ?_)) ?_
   ·by_cases bk:s.2.1.length=0
    ·have aH:dM s.1 true=0:=by
      unfold dM;have aX:s.1.1.length=0:=by rw[<-ae.EH];exact bk
      have:pK s.1=true:=by unfold pK;grind
      simp[(IL he).1,this]
     grind
    ·have E:decide (Int.ofNat (List.length s.2.1) > 0)=true:=by grind
     have U:fF s.1 0=true:=by rw[qA];have:=ae.EH;omega
     rw[if_pos E,A.bt aD.1];unfold rI;rw[U];by_cases al:dM s.1 true=0
     ·simp[al]
     ·simp[al]
   by_cases y2:dM s.1 true=0
   ·simp only[y2,ne_eq,not_true,if_false,A.aF,A.bY];have ayw:=ae.ZA;have fl:=ae.EH;have apL:s.1.2.1.length<=6:=(wi ae.sY.2).2.1;rw[A.dt (List.range s.2.1.length) (λi t=>((s.2.1.length:Int),(i:Int),s,t,s.1.1,s.1.2.1,s.1.2.2.1,s.1.2.2.2,s.2.1,s.2.2.1,s.2.2.2.1,s.2.2.2.2.1,s.2.2.2.2.2,())) (λi t=>.next (ZC s.1 i t)) (λt=>.next (s,t,s.1.1,s.1.2.1,s.1.2.2.1,s.1.2.2.2,s.2.1,s.2.2.1,s.2.2.2.1,s.2.2.2.2.1,s.2.2.2.2.2,())) [] ?_ ?_ ?_]
    ·rw[dP];simp only[A.aF,A.bY];rw[A.f_ (List.range s.2.1.length) (λi acc=>(s.2.1,(s.2.1.length:Int),(i:Int),s,uO s.1 s.2.1.length,s.1.1,s.1.2.1,s.1.2.2.1,s.1.2.2.2,s.2.1,s.2.2.1,s.2.2.2.1,s.2.2.2.2.1,s.2.2.2.2.2,acc,())) (λi acc=>.next (acc++lE ((i:Int),0) (s.2.1.getD i 0))) (λacc=>.next (s,uO s.1 s.2.1.length,s.1.1,s.1.2.1,s.1.2.2.1,s.1.2.2.2,s.2.1,s.2.2.1,s.2.2.2.1,s.2.2.2.2.1,s.2.2.2.2.2,acc,())) (λi acc=>acc.length<=10*i) [] ?_ ?_ ?_ ?_]
     ·rw[dP,Py];simp only[A.aF,A.bY,List.nil_append];have gy:(EI s.2.1).length<=100:=by
       have:∀ (l:List Nat),(∀ i∈l,i<s.2.1.length)->(l.flatMap λ(i:Nat)=>lE ((i:Int),0) (s.2.1.getD i 0)).length<=10*l.length:=by
        intro l;induction l with
        | nil=>simp
        | cons i l aJ=>
         intro aj;have E:=aJ λj aE=>aj j (by grind);have U:=aj i (by simp);have ag:=ae.qD _ (List.getElem_mem U);have jv:s.2.1.getD i 0=s.2.1[i]:=by grind
         rw[List.flatMap_cons,List.length_append,List.length_cons,jv];simp only[lE,List.length_replicate];simp only[lE]at E;omega
       have:=this (List.range s.2.1.length) (λi G=>by grind);rw[List.length_range]at this;unfold EI;omega
      rw[A.f_ s.2.2.2.2.1 (λi acc=>(s.2.2.2.2.1,(s.2.2.2.2.1.length:Int),(i:Int),uO s.1 s.2.1.length,s.1.1,s.1.2.1,s.1.2.2.1,s.1.2.2.2,s.2.1,s.2.2.1,s.2.2.2.1,s.2.2.2.2.1,s.2.2.2.2.2,acc,())) (λd acc=>.next (acc++lE (d.2.1,d.1) d.2.2)) (λacc=>.next (uO s.1 s.2.1.length,s.1.1,s.1.2.1,s.1.2.2.1,s.1.2.2.2,s.2.1,s.2.2.1,s.2.2.2.1,s.2.2.2.2.1,s.2.2.2.2.2,acc,())) (λi acc=>acc.length<=100+10*i) (EI s.2.1) ?_ ?_ ?_ ?_]
      ·rw[dP,Py,A.aF,A.bY];rfl
      ·rfl
      ·omega
      ·intro i G acc Ph;have ayx:=ae.Pw;have gQ:=bz (n:=(i:Int)+1) (by omega) (by omega);have au:=ae.Zz _ (List.getElem_mem G);have Da:1<=s.2.2.2.2.1[i].2.2/\s.2.2.2.2.1[i].2.2<=10:=by
        simp only[o1,b3,Bool.and_eq_true,decide_eq_true_eq]at au;omega
       have hlen:(lE (s.2.2.2.2.1[i].2.1,s.2.2.2.2.1[i].1) s.2.2.2.2.1[i].2.2).length<=10:=by simp only[lE,List.length_replicate];omega
       have kR:bP (acc.length+(lE (s.2.2.2.2.1[i].2.1,s.2.2.2.2.1[i].1) s.2.2.2.2.1[i].2.2).length):=by unfold bP;omega
       refine⟨?_,λbe W=>?_⟩
       ·simp only[bV,cU G,if_true,df G,cM G,A.bp,A.mA,A.gz,ch,hX,gQ];rw[A.bt (by grind),A.bt (by exact kR)];rfl
       grind
      simp
     ·rfl
     ·simp
     ·intro i G acc Ph;have G:i<s.2.1.length:=by grind
      have gQ:=bz (n:=(i:Int)+1) (by omega) (by omega);have jv:s.2.1.getD i 0=s.2.1[i]:=by grind
      have Da:=ae.qD _ (List.getElem_mem G);have hlen:(lE ((i:Int),0) s.2.1[i]).length<=10:=by simp only[lE,List.length_replicate];omega
      have kR:bP (acc.length+(lE ((i:Int),0) s.2.1[i]).length):=by unfold bP;omega
      refine⟨?_,λbe W=>?_⟩
      ·simp only[bV,cU G,if_true,df G,cM G,A.bp,A.mA,A.gz,ch,hX,gQ,List.getElem_range,jv];rw[A.bt (by grind),A.bt (by exact kR)];rfl
      grind
     simp
    ·simp
    ·intro i G t;have G:i<s.2.1.length:=by grind
     have gQ:=bz (n:=(i:Int)+1) (by omega) (by omega);simp only[bV,cU G,if_true,List.getElem_range];rw[A.dt (List.range s.1.2.1.length) (λm t=>((i:Int),(s.2.1.length:Int),(i:Int),s.1.2.1,(s.1.2.1.length:Int),(m:Int),s,t,s.1.1,s.1.2.1,s.1.2.2.1,s.1.2.2.2,s.2.1,s.2.2.1,s.2.2.2.1,s.2.2.2.2.1,s.2.2.2.2.2,())) (λm t=>.next (ZB s.1 i m t)) (λt=>.next ((s.2.1.length:Int),(i:Int),s,t,s.1.1,s.1.2.1,s.1.2.2.1,s.1.2.2.2,s.2.1,s.2.2.1,s.2.2.2.1,s.2.2.2.2.1,s.2.2.2.2.2,())) t ?_ ?_ ?_]
     ·rw[dP];simp only[A.aF,A.bY,ch,gQ];rfl
     ·rfl
     ·intro m hm t;have hm:m<s.1.2.1.length:=by grind
      have IP:=bz (n:=(m:Int)+1) (by omega) (by omega);have apM:s.1.2.1[m]=iR s.1 (m:Int):=by simp[iR,List.getD_eq_getElem?_getD,hm]
      simp only[bV,cU hm,if_true,List.getElem_range,cM hm,A.bp,df hm,apM];have A9:=Im aD.1 (m:Int);rw[A.dt (List.range (iR s.1 (m:Int)).length) (λk t=>((i:Int),(m:Int),(s.2.1.length:Int),(i:Int),s.1.2.1,(s.1.2.1.length:Int),(m:Int),((iR s.1 (m:Int)).length:Int),(k:Int),s,t,s.1.1,s.1.2.1,s.1.2.2.1,s.1.2.2.2,s.2.1,s.2.2.1,s.2.2.2.1,s.2.2.2.2.1,s.2.2.2.2.2,())) (λk t=>.next (IN s.1 t ((i:Int),(m:Int),(k:Int)))) (λt=>.next ((i:Int),(s.2.1.length:Int),(i:Int),s.1.2.1,(s.1.2.1.length:Int),(m:Int),s,t,s.1.1,s.1.2.1,s.1.2.2.1,s.1.2.2.2,s.2.1,s.2.2.1,s.2.2.2.1,s.2.2.2.2.1,s.2.2.2.2.2,())) t ?_ ?_ ?_]
      ·rw[dP];simp only[A.aF,A.bY,ch,IP];rfl
      ·rfl
      ·intro k al t;have al:k<(iR s.1 (m:Int)).length:=by grind
       have l7:=bz (n:=(k:Int)+1) (by omega) (by omega);have n0:fF s.1 (i:Int)=true:=by rw[qA];omega
       have apN:iv s.1 (m:Int) (k:Int)=true:=by rw[ym];omega
       have ao:pL s.1 (i:Int) (m:Int) (k:Int)=(uI s.1 (i:Int) (m:Int) (k:Int),0):=by simp[pL,n0,apN,y2]
       simp only[cU al,if_true,List.getElem_range];simp only[ao,A.bt aD.1,decide_eq_true_eq];by_cases E:uI s.1 (i:Int) (m:Int) (k:Int)=1
       ·simp only[E,if_true,and_self,A.bp,A.aF,A.bY,ch,l7,V.hl,IN];rfl
       ·simp only[E,if_false,A.aF,A.bY,ch,l7,V.hl,IN];rfl
      simp
     simp
    simp
   ·simp[y2]
 grind
theorem apO(x):A.le (NR pQ.sh s8.sh uJ.sh IJ.sh x) (Bi.sh x):=A.bq λh=>apK x.1 x.2 h
theorem apP{p:Int->Bool}{l:z1'}(h:jY p l=true):∀ x∈l,p x=true:=by
 intro x ah;obtain⟨i,G,rfl⟩:=List.mem_iff_getElem.1 ah;unfold jY at h;simp_all
theorem apQ{p:Int->Bool}{l:z1'}(h:jY p l=true):l.Pairwise (·<·):=by
 unfold jY at h;rw[List.all_eq_true]at h;have step:∀ i,i+1<l.length->l.getD i 0<l.getD (i+1) 0:=λi G=>by
  grind
 have key:∀ j i,i<j->j<l.length->l.getD i 0<l.getD j 0:=by
  intro j;induction j with
  | zero=>omega
  | succ j aJ=>
   grind
 rw[List.pairwise_iff_getElem];grind
theorem Pz{s:bF}(ae:l9 s){p:dj}(an:p∈s.2.2.1):n7 s.1 p.2.2.2.1=true/\p.2.2.2.2.length<=4/\∀ k∈p.2.2.2.2,iv s.1 p.2.2.2.1 k=true:=by
 have h:=ae.apH p an;simp only[pP,Bool.and_eq_true]at h;obtain⟨⟨_,hm⟩,M⟩:=h;have fT:∀ k∈p.2.2.2.2,iv s.1 p.2.2.2.1 k=true:=λk al=>by
  have:=apP M k al;rw[ym];simp only[EB,Bool.and_eq_true,decide_eq_true_eq]at this;exact⟨Il.1 hm,this⟩
 refine⟨hm,?_,fT⟩;have apR:=apQ M;have tL:p.2.2.2.2.Nodup:=apR.imp λh e=>by omega
 cases W:p.2.2.2.2 with
 | nil=>simp
 | cons k l=>
  rw[<-W];have a1:=aof ae.sY.2 (fT k (by grind));have:=Pl (iR s.1 p.2.2.2.1).length p.2.2.2.2 tL λk al=>by
   have:=ym.1 (fT k al);omega
  omega
abbrev rL:Type:=Int×Int×Int
abbrev apS:dA:=([],(0,0),0,0,0)
abbrev apT:dj:=(0,0,0,0,[])
abbrev yw:dw:=((([],[],0,[]),[],[],[],[],0),[],[])
def mH(s:bF)(i:Int):dA:=s.2.2.2.1.getD i.toNat apS
def np(s:bF)(i:Int):dj:=s.2.2.1.getD i.toNat apT
def wv(s:bF)(x:dA)(p:dj):Option Int:=if s_ x p=0 then none else if (if s_ x p=2 then x.2.2.2.1 - s.2.2.2.2.2 else x.2.2.2.1)<0 then none else some (if s_ x p=2 then x.2.2.2.1 - s.2.2.2.2.2 else x.2.2.2.1)
def o2(s:bF)(cz:z1')(i:Nat):Option (List rL):=if cz.getD i 0<0 then some [] else (wv s (mH s (i:Int)) (np s (cz.getD i 0))).map λd=>(np s (cz.getD i 0)).2.2.2.2.map λk=>((np s (cz.getD i 0)).2.2.2.1,k,d)
def lF(s:bF)(cz:z1'):List rL×Bool:=if ((List.range cz.length).all λi=>(o2 s cz i).isSome)=true then ((List.range cz.length).flatMap λi=>(o2 s cz i).getD [],true) else ([],false)
def n8(s:bF)(cz:z1'):Prop:=cz.length<=s.2.2.2.1.length/\∀ p∈cz,p<(s.2.2.1.length:Int)
def n9(o:Option dw):bF:=(o.getD yw).1
def wx(o:Option dw)(s:bF):Prop:=o=some (dq s)/\l9 s
theorem PA{s:bF}{i:Nat}(h:i<s.2.2.2.1.length):mH s (i:Int)∈s.2.2.2.1:=by
 simp[mH,List.getD_eq_getElem?_getD,h]
theorem ZE{s:bF}{i:Int}(aX:0<=i)(h:i<(s.2.2.1.length:Int)):np s i∈s.2.2.1:=x1 aX h
theorem ZF{s:bF}(ae:l9 s){x:dA}(ah:x∈s.2.2.2.1):(0<=x.2.2.2.1/\x.2.2.2.1<=99)/\(0<=x.2.2.2.2/\x.2.2.2.2<=100000):=by
 have:=ae.Zy x ah;simp only[o0,jX,b3,Bool.and_eq_true,decide_eq_true_eq]at this;omega
theorem ZG{s:bF}(ae:l9 s){cz:z1'}(an:n8 s cz){i:Nat}(G:i<cz.length){l:List rL}(h:o2 s cz i=some l):l.length<=4:=by
 unfold o2 at h;split at h
 ·grind
 ·rename_i IG;rw[Option.map_eq_some_iff]at h;obtain⟨d,_,rfl⟩:=h;rw[List.length_map];have hm:cz.getD i 0∈cz:=by grind
  exact (Pz ae (ZE (by omega) (an.2 _ hm))).2.1
def Bj{ak β aI:Type}(f:ak->Option (List β))(r:aI)(x:ak)(b:List β):V (List β) aI:=if (f x).isSome=true then .next (b++(f x).getD []) else .done r
theorem EJ{ak β aI:Type}{f:ak->Option (List β)}{r:aI}{x:ak}{b y:List β}(h:f x=some y):Bj f r x b=.next (b++y):=by simp[Bj,h]
theorem IQ{ak β aI:Type}{f:ak->Option (List β)}{r:aI}{x:ak}{b:List β}(h:f x=none):Bj f r x b=.done r:=by simp[Bj,h]
theorem ZH{ak β aI:Type}{f:ak->Option (List β)}{r:aI}{fin:List β->aI}:∀ (l:List ak) (b:List β),eY (Bj f r) fin l b=if (l.all λx=>(f x).isSome)=true then fin (b++l.flatMap λx=>(f x).getD []) else r
 | [],b=>by simp[eY]
 | x::l,b=>by
  simp only[eY];cases h:f x with
  | none=>simp[IQ h,h]
  | some y=>
   have:=ZH (f:=f) (r:=r) (fin:=fin) l (b++y);simp only[EJ h,List.all_cons,h,Option.isSome_some,Bool.true_and,List.flatMap_cons,Option.getD_some];grind
abbrev IS:ad:=.st (.ay bu (.ay bu bu))
abbrev IT:aK:=⟨.ay wu fE,.ay (.slice IS) dd,λx=>∃ s,wx x.1 s/\n8 s x.2,λx=>lF (n9 x.1) x.2⟩
theorem apU(s:bF)(ae:l9 s)(cz:z1')(an:n8 s cz):NS wm.sh (some (dq s),cz)=A.pure (lF s cz):=by
 unfold NS;have Bk:=ae.uN;have ayy:=an.1;simp only[Option.isSome_some,Option.getD_some,A.bp];rw[A.f_ (List.range cz.length) (λi acc=>(some (dq s),cz,(cz.length:Int),(i:Int),acc,())) (Bj (o2 s cz) (.done ([],false))) (λacc=>.next (acc,())) (λi acc=>acc.length<=4*i) [] ?_ ?_ ?_ ?_]
 ·rw[ZH];unfold lF;by_cases h:((List.range cz.length).all λi=>(o2 s cz i).isSome)=true
  ·simp[h]
  ·simp[h]
 ·rfl
 ·simp
 ·intro i G acc Ph;have G:i<cz.length:=by grind
  have ta:i<s.2.2.2.1.length:=by omega
  have gQ:=bz (n:=(i:Int)+1) (by omega) (by omega);have IU:=PA ta;rw[List.getElem_range];obtain⟨aL,apV⟩:∃ aL,cz.getD i 0=aL:=⟨_,rfl⟩
  have apW:aL∈cz:=by grind
  refine⟨?_,λbe W=>?_⟩
  ·simp only[bV,cU G,if_true,Int.toNat_natCast,apV,cM G,A.bp,Option.isSome_some,Option.getD_some];by_cases IG:aL<0
   ·have mV:o2 s cz i=some []:=by unfold o2;grind
    rw[EJ mV];simp_all
   ·have ij:aL<(s.2.2.1.length:Int):=an.2 aL apW;have apX:=ZE (s:=s) (by omega) ij;have gN:0<=aL/\aL<(s.2.2.1.length:Int):=⟨by omega,ij⟩
    have gy:(dq s).1=s:=rfl;have Bl:List.getD s.2.2.2.1 i ([],(0,0),0,0,0)=mH s (i:Int):=rfl;have PB:List.getD s.2.2.1 aL.toNat (0,0,0,0,[])=np s aL:=rfl;simp only[IG,decide_false,Bool.false_eq_true,if_false,gy,cM ta,A.bt gN,A.bp,aK.sh,A.du,Bl,PB];have mV:o2 s cz i=(wv s (mH s (i:Int)) (np s aL)).map λd=>(np s aL).2.2.2.2.map λk=>((np s aL).2.2.2.1,k,d):=by unfold o2;grind
    rw[A.bt (show wm.pre (mH s (i:Int),np s aL) from ae.fK.2.2.2.2.2.2 _ IU)];obtain⟨ayz,_⟩:=ZF ae IU;have lT:=ae.apI;obtain⟨apL,iD,C4⟩:=Pz ae apX;have apY:=bz (n:=(mH s (i:Int)).2.2.2.1 - s.2.2.2.2.2) (by omega) (by omega);generalize mH s (i:Int)=x at *
    generalize np s aL=p at *
    by_cases aX:s_ x p=0
    ·have au:wv s x p=none:=by unfold wv;grind
     rw[au]at mV;rw[IQ mV];simp only[aX,decide_true,if_true,A.aF,A.pv,V.hl]
    ·by_cases U:s_ x p=2;all_goals simp only[aX,U,decide_true,decide_false,Bool.false_eq_true,if_false,if_true,A.aF,A.bY,apY,Int.reduceEq]
     ·have au:wv s x p=(if x.2.2.2.1 - s.2.2.2.2.2<0 then none else some (x.2.2.2.1 - s.2.2.2.2.2)):=by unfold wv;grind
      generalize x.2.2.2.1 - s.2.2.2.2.2=d at *
      by_cases rf:d<0
      ·rw[if_pos rf]at au;rw[au]at mV;rw[IQ mV];simp_all
      ·rw[if_neg rf]at au;rw[au]at mV;rw[EJ mV];simp only[rf,decide_false,Bool.false_eq_true,if_false];rw[A.f_ p.2.2.2.2 (λk acc=>(some (dq s),d,cz,(cz.length:Int),(i:Int),p.2.2.2.2,(p.2.2.2.2.length:Int),(k:Int),acc,p,())) (λk acc=>.next (acc++[(p.2.2.2.1,k,d)])) (λacc=>.next (some (dq s),cz,(cz.length:Int),(i:Int),acc,())) (λk yx=>yx.length<=4*i+k) acc ?_ ?_ ?_ ?_]
       ·rw[dP,uj];simp_all
       ·rfl
       ·omega
       ·intro k al yx apZ;have l7:=bz (n:=(k:Int)+1) (by omega) (by omega);have kR:bP (yx.length+(0+1)):=by unfold bP;omega
        refine⟨?_,λbe W=>?_⟩
        ·simp_all
        grind
       simp
     ·have au:wv s x p=(if x.2.2.2.1<0 then none else some x.2.2.2.1):=by unfold wv;grind
      generalize x.2.2.2.1=d at *
      by_cases rf:d<0
      ·omega
      ·rw[if_neg rf]at au;rw[au]at mV;rw[EJ mV];simp only[rf,decide_false,Bool.false_eq_true,if_false];rw[A.f_ p.2.2.2.2 (λk acc=>(some (dq s),d,cz,(cz.length:Int),(i:Int),p.2.2.2.2,(p.2.2.2.2.length:Int),(k:Int),acc,p,())) (λk acc=>.next (acc++[(p.2.2.2.1,k,d)])) (λacc=>.next (some (dq s),cz,(cz.length:Int),(i:Int),acc,())) (λk yx=>yx.length<=4*i+k) acc ?_ ?_ ?_ ?_]
       ·rw[dP,uj];simp_all
       ·rfl
       ·omega
       ·intro k al yx apZ;have l7:=bz (n:=(k:Int)+1) (by omega) (by omega);have kR:bP (yx.length+(0+1)):=by unfold bP;omega
        refine⟨?_,λbe W=>?_⟩
        ·simp_all
        grind
       simp
  ·cases mV:o2 s cz i with
   | none=>rw[IQ mV]at W;cases W
   | some y=>
    rw[EJ mV]at W;cases W;have:=ZG ae an G mV;grind
 simp
theorem ap0(x):A.le (NS wm.sh x) (IT.sh x):=A.bq λh=>by
 obtain⟨o,cz⟩:=x;obtain⟨s,⟨ao,ae⟩,an⟩:=h;change o=_ at ao;subst ao;exact apU s ae cz an
def rM(s:bF)(cz:z1'):Int:=((List.range cz.length).map λ(i:Nat)=>if cz.getD i 0=-1 then 0 else (mH s (i:Int)).2.2.2.2).foldl (·+·) 0
abbrev tb:aK:=⟨.ay wu fE,bu,λx=>∃ s,wx x.1 s/\x.2.length<=s.2.2.2.1.length,λx=>rM (n9 x.1) x.2⟩
theorem ap1(s:bF)(ae:l9 s)(cz:z1')(an:cz.length<=s.2.2.2.1.length):NY (some (dq s),cz)=A.pure (rM s cz):=by
 unfold NY;have Bk:=ae.uN;rw[A.f_ (List.range cz.length) (λi (n:Int)=>(some (dq s),n,cz,(cz.length:Int),(i:Int),())) (λ(i:Nat) n=>.next (n+if cz.getD i 0=-1 then 0 else (mH s (i:Int)).2.2.2.2)) (λn=>.next (n,())) (λi n=>0<=n/\n<=100000*i) 0 ?_ ?_ ?_ ?_]
 ·rw[dP];unfold rM;rw[List.foldl_map,A.aF,A.bY]
 ·rfl
 ·simp
 ·intro i G n aA;have G:i<cz.length:=by grind
  have ta:i<s.2.2.2.1.length:=by omega
  have gQ:=bz (n:=(i:Int)+1) (by omega) (by omega);obtain⟨_,oE⟩:=ZF ae (PA ta);have Bl:List.getD s.2.2.2.1 i ([],(0,0),0,0,0)=mH s (i:Int):=rfl;have Be:=bz (n:=n+(mH s (i:Int)).2.2.2.2) (by omega) (by omega);have gy:(dq s).1=s:=rfl;rw[List.getElem_range];refine⟨?_,λbe W=>?_⟩
  ·simp only[bV,cU G,if_true,Int.toNat_natCast,cM G,cM ta,A.bp,Option.isSome_some,Option.getD_some,ch,gy,Bl];by_cases E:cz.getD i 0=-1
   ·simp only[E,ne_eq,not_true,decide_false,Bool.false_eq_true,if_false,if_true,A.aF,A.bY,gQ,Int.add_zero,V.hl];rfl
   ·simp only[E,ne_eq,not_false_iff,decide_true,if_false,if_true,cM ta,A.bp,A.aF,A.bY,gQ,Be,V.hl];rfl
  grind
 simp
theorem ap2(x):A.le (NY x) (tb.sh x):=A.bq λh=>by
 obtain⟨o,cz⟩:=x;obtain⟨s,⟨ao,ae⟩,an⟩:=h;change o=_ at ao;subst ao;exact ap1 s ae cz an
theorem EK{l:z1'}{j i:Nat}{s:Int}(aE:j<l.length):(l.set j s).getD i 0=if i=j then s else l.getD i 0:=by
 grind
abbrev ZI(fit:List (z1'))(j:Int):z1':=fit.getD j.toNat []
def ap3(qD work:z1')(s:Int):Prop:=qD.getD s.toNat 0<=((Pn work s).length:Int)
def ap4(fit:List (z1'))(qD work:z1')(C:Int->Prop):Prop:=∀ j,C j->∀ s∈ZI fit j,ap3 qD work s/\∀ h∈Pn work s,C h
def ap5(n:Nat)(qD work:z1'):Prop:=∀ s,0<=s->s<(n:Int)->((Pn work s).length:Int)<=qD.getD s.toNat 0
structure ayA(n:Nat)(fit:List (z1'))(qD:z1')(k:Nat)(work:z1'):Prop where
 len:work.length=fit.length
 val:ap5 n qD work
 mem:∀ i:Nat,i<fit.length->work.getD i 0=-1\/work.getD i 0∈ZI fit (i:Int)
 cm:∀ i:Nat,k<=i->i<fit.length->work.getD i 0=-1
 PC:∃ C,ap4 fit qD work C/\(∀ c,C c->0<=c/\c<(k:Int))/\∀ i:Nat,i<k->work.getD i 0=-1->C (i:Int)
theorem ap6{J i:Nat}(h:i<J):(List.replicate J (-1:Int)).getD i 0=-1:=by
 grind
theorem ZJ(a b:Int):(if a=b then 1 else 0)=(if b=a then 1 else (0:Nat)):=by
 grind
def gR(g:z1')(j:Int):Nat:=g.countP λx=>decide (x=j)
theorem PD:∀ {g:z1'} {i:Nat} {x:Int} (j:Int),i<g.length->gR (g.set i x) j+(if g.getD i 0=j then 1 else 0)=gR g j+(if x=j then 1 else 0)
 | [],i,x,j,h=>by grind
 | y::g,0,x,j,h=>by
  unfold gR;grind
 | y::g,i+1,x,j,h=>by
  have:=PD (g:=g) (i:=i) (x:=x) j (by grind);unfold gR at *
  grind
theorem ap7{g:z1'}{i:Nat}{j:Int}(G:i<g.length)(h:g.getD i 0=j):0<gR g j:=by
 unfold gR;grind
def n_(gd:Nat->Int->Bool)(rec:Int->k5->Bool×k5)(own:Int)(i:Nat)(st:k5):V k5 (Bool×k5):=
 if (decide (cS st.2 (i:Int) > 0)||!gd i own)=true then .next st
 else if decide (st.1.getD i 0=-1)=true then .done (true,(st.1.set i own,fc st.2 (i:Int) (cS st.2 (i:Int)+1)))
 else if (rec (st.1.getD i 0) (st.1,fc st.2 (i:Int) (cS st.2 (i:Int)+1))).1=true then .done (true,((rec (st.1.getD i 0) (st.1,fc st.2 (i:Int) (cS st.2 (i:Int)+1))).2.1.set i own,(rec (st.1.getD i 0) (st.1,fc st.2 (i:Int) (cS st.2 (i:Int)+1))).2.2))
 else .next (rec (st.1.getD i 0) (st.1,fc st.2 (i:Int) (cS st.2 (i:Int)+1))).2
def jZ(gd:Nat->Int->Bool)(m:Nat):Nat->Int->k5->Bool×k5
 | 0=>λ_ st=>(false,st)
 | f+1=>λown st=>eY (n_ gd (jZ gd m f) own) (λst=>(false,st)) (List.range m) st
def PE(m J:Nat)(g:z1'):Prop:=∀ i,i<m->g.getD i 0=-1\/(0<=g.getD i 0/\g.getD i 0<(J:Int))
structure yy(m J f:Nat)(st:k5):Prop where
 len:st.1.length=m
 l_:PE m J st.1
 seen:∀ k,0<=cS st.2 k/\cS st.2 k<=1
 cj:rJ m st.2<f
structure PF(m J:Nat)(st r:k5):Prop where
 len:r.1.length=m
 l_:PE m J r.1
 seen:∀ k,cS st.2 k<=cS r.2 k/\cS r.2 k<=1
def ZK(gd:Nat->Int->Bool)(m:Nat)(g:z1')(C:Int->Prop):Prop:=∀ j,C j->∀ i,i<m->gd i j=true->g.getD i 0≠-1/\C (g.getD i 0)
def ZL(gd:Nat->Int->Bool)(m:Nat)(g:z1')(s s':z4'):Prop:=∀ i,i<m->cS s (i:Int)=0->1<=cS s' (i:Int)->g.getD i 0≠-1/\∀ k,k<m->gd k (g.getD i 0)=true->1<=cS s' (k:Int)
structure PG(gd:Nat->Int->Bool)(m:Nat)(own:Int)(st:k5)(r:Bool×k5):Prop where
 PH:r.1=false->r.2.1=st.1/\(∀ i,i<m->gd i own=true->1<=cS r.2.2 (i:Int))/\ZL gd m st.1 st.2 r.2.2
 ZM:r.1=true->(∀ i,i<m->r.2.1.getD i 0=st.1.getD i 0\/(cS st.2 (i:Int)=0/\gd i (r.2.1.getD i 0)=true))/\∀ j,j≠-1->gR r.2.1 j=gR st.1 j+(if j=own then 1 else 0)
 cl:∀ C,ZK gd m st.1 C->(C own->r.1=false)/\(r.1=true->∀ i,i<m->r.2.1.getD i 0≠st.1.getD i 0->∀ c,C c->gd i c=false)
def ZN(gd:Nat->Int->Bool)(m J f:Nat)(rec:Int->k5->Bool×k5):Prop:=∀ own st,0<=own->own<(J:Int)->yy m J f st->PF m J st (rec own st).2/\PG gd m own st (rec own st)
theorem ap8{gd:Nat->Int->Bool}{m J f:Nat}{rec:Int->k5->Bool×k5}(Ek:ZN gd m J f rec){own:Int}(ZO:0<=own)(ZP:own<(J:Int)){st:k5}(aX:yy m J (f+1) st) :
  PF m J st (eY (n_ gd rec own) (λst=>(false,st)) (List.range m) st).2/\PG gd m own st (eY (n_ gd rec own) (λst=>(false,st)) (List.range m) st):=by
 refine ao1 (λk b=>b.1=st.1/\(∀ q,cS st.2 q<=cS b.2 q/\cS b.2 q<=1)/\(∀ i,i<k->i<m->gd i own=true->1<=cS b.2 (i:Int))/\ZL gd m st.1 st.2 b.2)
  (λr:Bool×k5=>PF m J st r.2/\PG gd m own st r) (List.range m) st ⟨rfl,λq=>⟨Int.le_refl _,(aX.seen q).2⟩,λi G=>by omega,λi _ E U=>by omega⟩ (λi G b W=>?_) λb W=>?_
 ·obtain⟨hw,nj,IV,lk⟩:=W;have G:i<m:=by grind
  rw[List.getElem_range];have vs:∀ q,0<=cS b.2 q:=λq=>Int.le_trans (aX.seen q).1 (nj q).1;unfold n_;by_cases hc:(decide (cS b.2 (i:Int) > 0)||!gd i own)=true
  ·grind
  ·rw[if_neg hc];simp only[Bool.or_eq_true,not_or,decide_eq_true_eq,Bool.not_eq_true',Bool.not_eq_false]at hc;obtain⟨bk,aB⟩:=hc;have bk:cS b.2 (i:Int)=0:=by grind
   have KT:cS st.2 (i:Int)=0:=by have:=(nj i).1;have:=(aX.seen i).1;omega
   have qa:i<st.1.length:=by rw[aX.len];exact G
   have kf:∀ q,cS b.2 q<=cS (fc b.2 (i:Int) (cS b.2 (i:Int)+1)) q/\cS (fc b.2 (i:Int) (cS b.2 (i:Int)+1)) q<=1:=λq=>by
    have:=nj q;rw[Bf];omega
   have ayB:cS (fc b.2 (i:Int) (cS b.2 (i:Int)+1)) (i:Int)=1:=by rw[Bf,if_pos rfl,bk];rfl
   by_cases ao:st.1.getD i 0=-1
   ·rw[hw,if_pos (by grind)];refine⟨⟨by show (st.1.set i own).length=m;rw[List.length_set];exact aX.len,λk al=>?_,λq=>⟨Int.le_trans (nj q).1 (kf q).1,(kf q).2⟩⟩,λh=>(by cases h),λ_=>⟨λk al=>?_,λj aE=>?_⟩,λC jn=>⟨λPI=>?_,λ_ k al eN c hc=>?_⟩⟩
    ·show (st.1.set i own).getD k 0=-1\/(0<=(st.1.set i own).getD k 0/\(st.1.set i own).getD k 0<(J:Int))
     rw[EK qa];split
     ·omega
     ·exact aX.l_ k al
    ·grind
    ·have:=PD (x:=own) j qa;grind
    ·exact absurd ao (jn own PI i G aB).1
    ·change (st.1.set i own).getD k 0≠_ at eN;rw[EK qa]at eN;split at eN
     ·rename_i e;subst e;cases PJ:gd k c with
      | false=>rfl
      | true=>exact absurd ao (jn c hc k G PJ).1
     omega
   ·rw[hw,if_neg (by grind)];have iL:=(aX.l_ i G).resolve_left ao;have wy:yy m J f (st.1,fc b.2 (i:Int) (cS b.2 (i:Int)+1)):=by
     refine⟨aX.len,aX.l_,λq=>⟨Int.le_trans (vs q) (kf q).1,(kf q).2⟩,?_⟩;have E:=Zs (n:=m) (m:=b.2) (s:=(i:Int)) (v:=cS b.2 (i:Int)+1) (by omega) (by omega) bk (by omega);have U:=Zt (n:=m) (a:=st.2) (b:=b.2) λk=>⟨(aX.seen k).1,(nj k).1⟩
     have ag:=aX.cj;grind
    obtain⟨an,M⟩:=Ek (st.1.getD i 0) _ iL.1 iL.2 wy;revert an M;generalize rec (st.1.getD i 0) (st.1,fc b.2 (i:Int) (cS b.2 (i:Int)+1))=r;intro an M;have xL:∀ q,cS (fc b.2 (i:Int) (cS b.2 (i:Int)+1)) q<=cS r.2.2 q:=λq=>(an.seen q).1;by_cases bL:r.1=true
    ·rw[if_pos bL];obtain⟨kT,Bm⟩:=M.ZM bL;have tR:i<r.2.1.length:=by rw[an.len];exact G
     have Ct:r.2.1.getD i 0=st.1.getD i 0:=by
      grind
     refine⟨⟨by show (r.2.1.set i own).length=m;rw[List.length_set];exact an.len,λk al=>?_,λq=>⟨Int.le_trans (nj q).1 (Int.le_trans (kf q).1 (xL q)),(an.seen q).2⟩⟩,λh=>(by cases h),λ_=>⟨λk al=>?_,λj aE=>?_⟩,λC jn=>⟨λPI=>?_,λ_ k al eN c hc=>?_⟩⟩
     ·show (r.2.1.set i own).getD k 0=-1\/(0<=(r.2.1.set i own).getD k 0/\(r.2.1.set i own).getD k 0<(J:Int))
      rw[EK tR];split
      ·omega
      ·exact an.l_ k al
     ·show (r.2.1.set i own).getD k 0=_\/(_/\gd k ((r.2.1.set i own).getD k 0)=true)
      rw[EK tR];split
      ·grind
      ·rcases kT k al with e | ⟨aw,aN⟩
       ·grind
       ·right;refine⟨?_,aN⟩;have a:=(kf (k:Int)).1;have d:=nj (k:Int);have c:=(aX.seen (k:Int)).1;grind
     ·have a:=PD (x:=own) j tR;have d:=Bm j aE;change gR r.2.1 j=gR st.1 j+_ at d;rw[Ct]at a;show gR (r.2.1.set i own) j=_;rw[ZJ j own];rw[ZJ j (st.1.getD i 0)]at d;omega
     ·have:=(M.cl C jn).1 (jn own PI i G aB).2;grind
     ·change (r.2.1.set i own).getD k 0≠_ at eN;rw[EK tR]at eN;split at eN
      ·rename_i e;subst e;cases PJ:gd k c with
       | false=>rfl
       | true=>
        have:=(M.cl C jn).1 (jn c hc k G PJ).2;grind
      ·exact (M.cl C jn).2 bL k al eN c hc
    ·rw[if_neg bL];have CW:r.1=false:=by grind
     obtain⟨CY,ayC,ap9⟩:=M.PH CW;refine⟨CY,λq=>⟨Int.le_trans (nj q).1 (Int.le_trans (kf q).1 (xL q)),(an.seen q).2⟩,λk al PK GS=>?_,λk PK bG aw=>?_⟩
     ·grind
     ·by_cases e:k=i
      ·grind
      ·by_cases aN:1<=cS b.2 (k:Int)
       ·obtain⟨a,c⟩:=lk k PK bG aN;grind
       ·refine ap9 k PK ?_ aw;show cS (fc b.2 (i:Int) (cS b.2 (i:Int)+1)) (k:Int)=0;rw[Bf,if_neg (by omega)];grind
 ·obtain⟨hw,nj,IV,lk⟩:=W;rw[List.length_range]at IV;refine⟨⟨by rw[hw];exact aX.len,by rw[hw];exact aX.l_,nj⟩,λ_=>⟨hw,λi G aB=>IV i G G aB,lk⟩,λh=>(by cases h),λC jn=>⟨λ_=>rfl,λh=>(by cases h)⟩⟩
theorem PL{gd:Nat->Int->Bool}{m J:Nat}:∀ f,ZN gd m J f (jZ gd m f)
 | 0=>λown st _ _ h=>absurd h.cj (by omega)
 | f+1=>λown st aX E h=>ap8 (PL f) aX E h
def yz(gd:Nat->Int->Bool)(m F:Nat)(st:z1'×Int)(j:Nat):z1'×Int:=((jZ gd m F (j:Int) (st.1,[])).2.1,if (jZ gd m F (j:Int) (st.1,[])).1=true then st.2 else st.2+1)
def PM(gd:Nat->Int->Bool)(m J F:Nat):z1'×Int:=(List.range J).foldl (yz gd m F) (List.replicate m (-1),0)
structure EL(gd:Nat->Int->Bool)(m J k:Nat)(st:z1'×Int):Prop where
 len:st.1.length=m
 l_:∀ i,i<m->st.1.getD i 0=-1\/(0<=st.1.getD i 0/\st.1.getD i 0<(k:Int)/\gd i (st.1.getD i 0)=true)
 one:∀ j,0<=j->gR st.1 j<=1
 num:st.2=(((List.range k).countP λ(j:Nat)=>decide (gR st.1 (j:Int)=0):Nat):Int)
 PC:∃ C,ZK gd m st.1 C/\(∀ c,C c->0<=c/\c<(k:Int))/\∀ j:Nat,j<k->gR st.1 (j:Int)=0->C (j:Int)
theorem ZQ{gd:Nat->Int->Bool}{m J F k:Nat}(bo:m<F)(al:k<J){st:z1'×Int}(h:EL gd m J k st):EL gd m J (k+1) (yz gd m F st k):=by
 obtain⟨g,n⟩:=st;have hu:rJ m []<=m:=by
  unfold rJ;exact Nat.le_trans List.countP_le_length (by simp)
 have wy:yy m J F (g,[]):=⟨h.len,λi G=>by have:=h.l_ i G;grind,λq=>⟨Int.le_refl _,by show (0:Int)<=1;decide⟩,by grind⟩
 obtain⟨an,M⟩:=PL F (k:Int) (g,[]) (by omega) (by omega) wy;unfold yz;revert an M;generalize jZ gd m F (k:Int) (g,[])=r;intro an M;have mW:gR g (k:Int)=0:=by
  unfold gR;rw[List.countP_eq_zero];intro x ah;obtain⟨i,G,rfl⟩:=List.mem_iff_getElem.1 ah;have:=h.l_ i (by rw[<-h.len];exact G);grind
 obtain⟨C,jn,ayD,ayE⟩:=h.PC;by_cases W:r.1=true
 ·obtain⟨kT,Bm⟩:=M.ZM W;have ayF:=(M.cl C jn).2 W;refine⟨an.len,λi G=>?_,λj aE=>?_,?_,C,λc t_ i G EM=>?_,λc t_=>?_,λj aE hu=>?_⟩
  ·show r.2.1.getD i 0=-1\/_;rcases kT i G with e | ⟨aw,aN⟩
   ·rw[e];rcases h.l_ i G with a | a
    ·exact .inl a
    ·exact .inr ⟨a.1,by have:=a.2.1;show g.getD i 0<_;change g.getD i 0<_ at this;omega,a.2.2⟩
   ·by_cases kf:r.2.1.getD i 0=-1
    ·omega
    ·refine .inr ⟨?_,?_,aN⟩
     ·have:=(an.l_ i G).resolve_left kf;grind
     ·have E:=Bm _ kf;have U:0<gR r.2.1 (r.2.1.getD i 0):=ap7 (by rw[an.len];exact G) rfl;by_cases e:r.2.1.getD i 0=(k:Int)
      ·grind
      ·rw[if_neg e]at E;have ag:0<gR g (r.2.1.getD i 0):=by grind
       unfold gR at ag;rw[List.countP_pos_iff]at ag;obtain⟨x,ah,e_⟩:=ag;obtain⟨q,br,rfl⟩:=List.mem_iff_getElem.1 ah;have:=h.l_ q (by rw[<-h.len];exact br);grind
  ·have E:=Bm j (by omega);have U:=h.one j aE;change gR r.2.1 j=gR g j+_ at E;change gR g j<=1 at U;show gR r.2.1 j<=1;by_cases e:j=(k:Int)
   ·subst e;rw[if_pos rfl]at E;omega
   ·rw[if_neg e]at E;omega
  ·rw[if_pos W];have E:=h.num;change n=_ at E;show n=_;rw[E,List.range_succ,List.countP_append];have U:∀ j:Nat,j<k->gR r.2.1 (j:Int)=gR g (j:Int):=λj aE=>by
    have:=Bm (j:Int) (by omega);rw[if_neg (by omega)]at this;omega
   have ag:gR r.2.1 (k:Int)=1:=by
    grind
   have a1:(List.range k).countP (λ(j:Nat)=>decide (gR r.2.1 (j:Int)=0))=(List.range k).countP (λ(j:Nat)=>decide (gR g (j:Int)=0)):=List.countP_congr λj aE=>by grind
   simp_all
  ·show r.2.1.getD i 0≠-1/\C (r.2.1.getD i 0);by_cases e:r.2.1.getD i 0=g.getD i 0
   ·rw[e];exact jn c t_ i G EM
   grind
  ·grind
  ·change gR r.2.1 (j:Int)=0 at hu;have E:=Bm (j:Int) (by omega);change gR r.2.1 _=gR g _+_ at E;by_cases e:j=k
   ·grind
   ·rw[if_neg (by omega)]at E;grind
 ·have CW:r.1=false:=by grind
  obtain⟨hw,IV,lk⟩:=M.PH CW;change r.2.1=g at hw;simp only[hw];refine⟨h.len,λi G=>?_,h.one,?_,λc=>C c\/c=(k:Int)\/∃ i,i<m/\1<=cS r.2.2 (i:Int)/\c=g.getD i 0,λc t_ i G EM=>?_,λc t_=>?_,λj aE hu=>?_⟩
  ·rcases h.l_ i G with a | a
   ·exact .inl a
   ·exact .inr ⟨a.1,by have:=a.2.1;show g.getD i 0<_;change g.getD i 0<_ at this;omega,a.2.2⟩
  ·rw[if_neg W];have E:=h.num;change n=_ at E;show n+1=_;rw[E,List.range_succ,List.countP_append];grind
  ·have aA:1<=cS r.2.2 (i:Int)->g.getD i 0≠-1/\(C (g.getD i 0)\/g.getD i 0=(k:Int)\/∃ q,q<m/\1<=cS r.2.2 (q:Int)/\g.getD i 0=g.getD q 0):=λaD=>⟨(lk i G rfl aD).1,.inr (.inr ⟨i,G,aD,rfl⟩)⟩
   rcases t_ with e | e | ⟨q,br,aD,e⟩
   ·exact⟨(jn c e i G EM).1,.inl (jn c e i G EM).2⟩
   ·grind
   ·subst e;exact aA ((lk q br rfl aD).2 i G EM)
  ·rcases t_ with e | e | ⟨q,br,aD,e⟩
   ·grind
   ·omega
   ·have:=(h.l_ q br).resolve_left (lk q br rfl aD).1;grind
  grind
theorem ap_(gd:Nat->Int->Bool)(m J F:Nat)(bo:m<F):EL gd m J J (PM gd m J F):=by
 unfold PM;have key:∀ k,k<=J->EL gd m J k ((List.range k).foldl (yz gd m F) (List.replicate m (-1),0)):=by
  intro k;induction k with
  | zero=>
   intro _;refine⟨by simp,λi G=>.inl (ap6 G),λj aE=>?_,by simp,λ_=>False,λ_ h=>h.elim,λ_ h=>h.elim,λj aE=>by omega⟩;show gR (List.replicate m (-1)) j<=1;have:gR (List.replicate m (-1)) j=0:=by
    unfold gR;grind
   omega
  | succ k aJ=>
   intro al;rw[List.range_succ,List.foldl_append];exact ZQ bo (by omega) (aJ (by omega))
 grind
def rN(t:dw)(sp:Int×Int)(j:rL):Bool:=decide (sp.2<=j.2.2)&&decide ((oZ t.2.2 (sp.1,j.1,j.2.1)).getD 0 > 0)
abbrev Bn:aK:=⟨.ay wu (.ay II IS),dd,λx=>∃ t,x.1=some t,λx=>rN (x.1.getD yw) x.2.1 x.2.2⟩
theorem ap'(x):A.le (V0 x) (Bn.sh x):=A.bq λh=>by
 obtain⟨o,sp,j⟩:=x;obtain⟨t,ao⟩:=h;change o=_ at ao;subst ao;unfold V0;simp only[Option.isSome_some,Option.getD_some,and_true,true_and,and_self,imp_self,implies_true,A.bp];rfl
def EN(t:dw)(l:List rL):Bool:=l.all λj=>(List.range t.1.2.1.length).any λ(i:Nat)=>rN t ((i:Int),0) j
abbrev PN:aK:=⟨.ay wu (.slice IS),dd,λx=>∃ t,x.1=some t/\t.1.2.1.length<2 ^ 63/\x.2.length<2 ^ 63,λx=>EN (x.1.getD yw) x.2⟩
theorem aqa(t:dw)(l:List rL)(E:t.1.2.1.length<2 ^ 63)(U:l.length<2 ^ 63):NT Bn.sh (some t,l)=A.pure (EN t l):=by
 unfold NT;rw[A.dt l (λi (_:Unit)=>(some t,l,(l.length:Int),(i:Int),())) (λj b=>if (!(List.range t.1.2.1.length).any λ(i:Nat)=>rN t ((i:Int),0) j)=true then .done (.done false) else .next b) (λ_=>.next ()) () ?_ ?_ ?_]
 ·rw[kg (q:=λj=>(List.range t.1.2.1.length).any λ(i:Nat)=>rN t ((i:Int),0) j) _ _ (λ_=>rfl)];unfold EN;cases l.all λj=>(List.range t.1.2.1.length).any λ(i:Nat)=>rN t ((i:Int),0) j<;>simp
 ·rfl
 ·intro i G b;have hw:=bz (n:=(i:Int)+1) (by omega) (by omega);simp only[bV,cU G,if_true,df G,cM G,A.bp,Option.isSome_some,Option.getD_some];rw[A.dt (List.range t.1.2.1.length) (λk (b:Bool)=>(some t,b,l,(l.length:Int),(i:Int),(t.1.2.1.length:Int),(k:Int),l[i],())) (λ(k:Nat) b=>.next (b||rN t ((k:Int),0) l[i])) (λb=>.next (some t,b,l,(l.length:Int),(i:Int),())) false ?_ ?_ ?_]
  ·rw[dP];have e:∀ (r:List Nat) (b:Bool),r.foldl (λ(b:Bool) (k:Nat)=>b||rN t ((k:Int),0) l[i]) b=(b||r.any λ(k:Nat)=>rN t ((k:Int),0) l[i]):=by
    intro r;induction r with
    | nil=>simp
    | cons k r aJ=>grind
   rw[e,Bool.false_or];simp only[A.aF,A.bY];cases (List.range t.1.2.1.length).any λ(k:Nat)=>rN t ((k:Int),0) l[i]<;>simp[V.hl,hw]
  ·rfl
  ·intro k al b;have al:k<t.1.2.1.length:=by grind
   have l7:=bz (n:=(k:Int)+1) (by omega) (by omega);simp only[cU al,if_true,List.getElem_range,aK.sh,A.jc,A.du];rw[A.bt (by simp)];simp only[Option.getD_some,ch,l7,V.hl];grind
  simp
 simp
theorem aqb(x):A.le (NT Bn.sh x) (PN.sh x):=A.bq λh=>by
 obtain⟨o,l⟩:=x;obtain⟨t,ao,E,U⟩:=h;change o=_ at ao;subst ao;exact aqa t l E U
def ha(t:dw)(l:List rL)(i:Nat)(j:Int):Bool:=rN t (t.2.1.getD i (0,0)) (l.getD j.toNat (0,0,0))
abbrev PO:=Option dw×List rL×Int×z4'×z1'×Unit
abbrev ZR:=Bool×z4'×z1'×Unit
def uP(r:Bool×k5):ZR:=(r.1,r.2.2,r.2.1,())
def PQ(f:Nat)(x:PO):Prop:=∃ t,x.1=some t/\t.2.1.length<=200/\x.2.1.length<=1000/\0<=x.2.2.1/\x.2.2.1<(x.2.1.length:Int)/\yy t.2.1.length x.2.1.length f (x.2.2.2.2.1,x.2.2.2.1)
def uQ(f:Nat)(x:PO):A ZR:=A.dR (PQ f x) (uP (jZ (ha (x.1.getD yw) x.2.1) (x.1.getD yw).2.1.length f x.2.2.1 (x.2.2.2.2.1,x.2.2.2.1)))
theorem aqc{t:dw}{l:List rL}(hm:t.2.1.length<=200)(aj:l.length<=1000){f:Nat}{own:Int}(ZO:0<=own)(ZP:own<(l.length:Int)){st:k5}(aX:yy t.2.1.length l.length (f+1) st) :
  N0 Bn.sh (uQ f) (some t,l,own,st.2,st.1,())=A.pure (uP (jZ (ha t l) t.2.1.length (f+1) own st)):=by
 have Ek:=PL (gd:=ha t l) (m:=t.2.1.length) (J:=l.length) f;unfold N0;simp only[bV,A.bp,ao2,Option.isSome_some,Option.getD_some];rw[A.f_ (List.range t.2.1.length) (λi (b:k5)=>(some t,l,own,t.2.1,(t.2.1.length:Int),(i:Int),b.2,b.1,())) (λi b=>V.uL (λr=>.done (uP r)) (n_ (ha t l) (jZ (ha t l) t.2.1.length f) own i b)) (λb=>.next (b.2,b.1,())) (λi b=>b.1=st.1/\∀ q,cS st.2 q<=cS b.2 q/\cS b.2 q<=1) st ?_ ?_ ?_ ?_]
 ·show _=A.pure (uP (eY (n_ (ha t l) (jZ (ha t l) t.2.1.length f) own) (λst=>(false,st)) (List.range t.2.1.length) st));rw[Po,Po,Zu];cases yq (n_ (ha t l) (jZ (ha t l) t.2.1.length f) own) (List.range t.2.1.length) st<;>(simp only[V.uL,V.fin,A.aF,A.bY,A.pv];try rfl)
 ·rfl
 ·exact⟨rfl,λq=>⟨Int.le_refl _,(aX.seen q).2⟩⟩
 ·intro i G b W;have G:i<t.2.1.length:=by grind
  have kl:=bz (n:=(i:Int)+1) (by omega) (by omega);rw[List.getElem_range];have aqd:b.1.length=t.2.1.length:=by rw[W.1];exact aX.len
  have eL:i<b.1.length:=by omega
  have aqe:0<=own/\own<(l.length:Int):=⟨ZO,ZP⟩
  have kT:=W.2 (i:Int);have nb:=aX.seen (i:Int);simp only[bV,cU G,if_true,cM G,cM eL,A.bp,aqe,aK.sh,A.mA,A.gz,Int.toNat_natCast,Option.getD_some];have zm:rN t (t.2.1.getD i (0,0)) (l.getD own.toNat (0,0,0))=ha t l i own:=rfl;rw[zm];have aqf:(∃ cX,(some t:Option dw)=some cX)=True:=by simp
  simp only[aqf,and_true,true_and,and_self,imp_self,implies_true,A.bp];by_cases IW:cS b.2 (i:Int) > 0
  ·have hu:n_ (ha t l) (jZ (ha t l) t.2.1.length f) own i b=.next b:=by unfold n_;grind
   rw[hu];refine⟨?_,λbe db=>by cases db;exact W⟩;simp only[IW,decide_true,Bool.true_or,if_true,A.aF,A.bY,ch,kl,V.hl,V.uL,Bool.not_true,Bool.false_eq_true,false_imp_iff,Bool.true_eq_false,A.bp,and_self,implies_true];rfl
  ·by_cases aB:ha t l i own=true
   ·have bk:cS b.2 (i:Int)=0:=by omega
    have IP:=bz (n:=cS b.2 (i:Int)+1) (by omega) (by omega);have kf:∀ q,cS b.2 q<=cS (fc b.2 (i:Int) (cS b.2 (i:Int)+1)) q/\cS (fc b.2 (i:Int) (cS b.2 (i:Int)+1)) q<=1:=λq=>by
     have:=W.2 q;rw[Bf];omega
    have Kv:¬(decide (cS b.2 (i:Int) > 0)||!ha t l i own)=true:=by grind
    by_cases ao:b.1.getD i 0=-1
    ·have hu:n_ (ha t l) (jZ (ha t l) t.2.1.length f) own i b=.done (true,(b.1.set i own,fc b.2 (i:Int) (cS b.2 (i:Int)+1))):=by
      unfold n_;grind
     rw[hu];refine⟨?_,λbe db=>by cases db⟩;simp only[IW,aB,ao,decide_true,decide_false,Bool.not_true,Bool.not_false,Bool.or_self,Bool.false_eq_true,if_false,if_true,false_imp_iff,Bool.true_eq_false,Bool.true_or,A.bp,A.aF,A.pv,ch,IP,cM eL,V.hl,V.uL,and_self,implies_true,true_imp_iff];rfl
    ·have ayG:=aX.l_ i G;have aE:0<=b.1.getD i 0/\b.1.getD i 0<(l.length:Int):=by grind
     have wy:yy t.2.1.length l.length f (b.1,fc b.2 (i:Int) (cS b.2 (i:Int)+1)):=by
      refine⟨aqd,?_,λk=>⟨?_,(kf k).2⟩,?_⟩
      ·show PE _ _ b.1;rw[W.1];exact aX.l_
      ·have:=(kf k).1;have:=W.2 k;have:=(aX.seen k).1;grind
      ·have E:=Zs (n:=t.2.1.length) (m:=b.2) (s:=(i:Int)) (v:=cS b.2 (i:Int)+1) (by omega) (by omega) bk (by omega);have U:=Zt (n:=t.2.1.length) (a:=st.2) (b:=b.2) λk=>⟨(aX.seen k).1,(W.2 k).1⟩
       have ag:=aX.cj;grind
     obtain⟨Ac,aqg⟩:=Ek (b.1.getD i 0) (b.1,fc b.2 (i:Int) (cS b.2 (i:Int)+1)) aE.1 aE.2 wy;have gM:PQ f (some t,l,b.1.getD i 0,fc b.2 (i:Int) (cS b.2 (i:Int)+1),b.1,()):=⟨t,rfl,hm,aj,aE.1,aE.2,wy⟩
     have vC:uQ f (some t,l,b.1.getD i 0,fc b.2 (i:Int) (cS b.2 (i:Int)+1),b.1,())=A.pure (uP (jZ (ha t l) t.2.1.length f (b.1.getD i 0) (b.1,fc b.2 (i:Int) (cS b.2 (i:Int)+1)))):=A.bR gM _;simp only[IW,aB,ao,decide_true,decide_false,Bool.not_true,Bool.not_false,Bool.or_self,Bool.false_eq_true,if_false,if_true,false_imp_iff,Bool.true_eq_false,Bool.false_or,A.bp,ch,IP,and_self,implies_true,true_imp_iff,vC,A.aF];have tR:(jZ (ha t l) t.2.1.length f (b.1.getD i 0) (b.1,fc b.2 (i:Int) (cS b.2 (i:Int)+1))).2.1.length=t.2.1.length:=Ac.len;have ayH:=Ac.seen;have ayI:=aqg.PH;have ZS:n_ (ha t l) (jZ (ha t l) t.2.1.length f) own i b=if (jZ (ha t l) t.2.1.length f (b.1.getD i 0) (b.1,fc b.2 (i:Int) (cS b.2 (i:Int)+1))).1=true then .done (true,((jZ (ha t l) t.2.1.length f (b.1.getD i 0) (b.1,fc b.2 (i:Int) (cS b.2 (i:Int)+1))).2.1.set i own,(jZ (ha t l) t.2.1.length f (b.1.getD i 0) (b.1,fc b.2 (i:Int) (cS b.2 (i:Int)+1))).2.2)) else .next (jZ (ha t l) t.2.1.length f (b.1.getD i 0) (b.1,fc b.2 (i:Int) (cS b.2 (i:Int)+1))).2:=by
      unfold n_;grind
     rw[ZS];clear ZS vC;generalize jZ (ha t l) t.2.1.length f (b.1.getD i 0) (b.1,fc b.2 (i:Int) (cS b.2 (i:Int)+1))=r at *
     obtain⟨ok,g',s'⟩:=r;have qa:i<g'.length:=by grind
     cases ok with
     | true=>
      refine⟨?_,λbe db=>by cases db⟩;simp only[uP,if_true,cM qa,A.bp,A.aF,A.pv,V.hl,V.uL]
     | false=>
      refine⟨?_,λbe db=>?_⟩
      ·simp only[uP,Bool.false_eq_true,if_false,A.aF,A.bY,ch,kl,V.hl,V.uL];rfl
      ·cases db;grind
   ·have hu:n_ (ha t l) (jZ (ha t l) t.2.1.length f) own i b=.next b:=by unfold n_;grind
    rw[hu];refine⟨?_,λbe db=>by cases db;exact W⟩;simp only[IW,aB,decide_false,Bool.not_false,Bool.or_true,if_true,A.aF,A.bY,ch,kl,V.hl,V.uL,Bool.false_eq_true,A.bp,and_self,implies_true];rfl
 simp
theorem aqh(f:Nat)(x):A.le (N0 Bn.sh (uQ f) x) (uQ (f+1) x):=A.bq λh=>by
 obtain⟨o,l,own,seen,g,u⟩:=x;obtain⟨t,ao,hm,aj,aX,E,wy⟩:=h;change o=_ at ao;subst ao;exact aqc (st:=(g,seen)) hm aj aX E wy
theorem aqi(x:PO):¬(uQ 0 x).ck:=λ⟨_,_,_,_,_,_,h⟩=>absurd h.cj (by omega)
def yA(t:dw)(l:List rL):Int:=(PM (ha t l) t.2.1.length l.length 201).2
abbrev IX:aK:=⟨.ay wu (.slice IS),bu,λx=>∃ t,x.1=some t/\t.2.1.length<=200/\x.2.length<=1000,λx=>yA (x.1.getD yw) x.2⟩
theorem aqj(t:dw)(l:List rL)(hm:t.2.1.length<=200)(aj:l.length<=1000):NU wk (uQ 201) (some t,l)=A.pure (yA t l):=by
 unfold NU;simp only[bV,Option.isSome_some,Option.getD_some,A.bp];unfold wk;simp only[A.du];rw[A.bt (by grind)];simp only[Int.toNat_natCast];rw[A.f_ (List.range l.length) (λi (b:z1'×Int)=>(some t,l,b.2,(l.length:Int),(i:Int),b.1,())) (λi b=>.next (yz (ha t l) t.2.1.length 201 b i)) (λb=>.next (b.2,())) (λi b=>EL (ha t l) t.2.1.length l.length i b/\0<=b.2/\b.2<=(i:Int)) (List.replicate t.2.1.length (-1),0) ?_ ?_ ?_ ?_]
 ·rw[dP,A.aF,A.bY];rfl
 ·rfl
 ·refine⟨?_,by simp⟩;have:=ap_ (ha t l) t.2.1.length 0 201 (by omega);exact⟨this.len,this.l_,this.one,this.num,this.PC⟩
 ·intro i G b W;have G:i<l.length:=by grind
  have kl:=bz (n:=(i:Int)+1) (by omega) (by omega);rw[List.getElem_range];obtain⟨g,n⟩:=b;obtain⟨W,sf,qb⟩:=W;change 0<=n at sf;change n<=(i:Int) at qb;have Be:=bz (n:=n+1) (by omega) (by omega);have gM:PQ 201 (some t,l,(i:Int),[],g,()):=by
   refine⟨t,rfl,hm,aj,Int.natCast_nonneg i,Int.ofNat_lt.2 G,W.len,λk al=>?_,λk=>by show 0<=cS [] k/\cS [] k<=1;simp[cS,uK],?_⟩
   ·rcases W.l_ k al with h | h
    ·exact .inl h
    ·exact .inr ⟨h.1,Int.lt_trans h.2.1 (Int.ofNat_lt.2 G)⟩
   ·have:rJ t.2.1.length []<=t.2.1.length:=by
     unfold rJ;exact Nat.le_trans List.countP_le_length (by simp)
    grind
  have vC:uQ 201 (some t,l,(i:Int),[],g,())=A.pure (uP (jZ (ha t l) t.2.1.length 201 (i:Int) (g,[]))):=A.bR gM _;have De:=ZQ (F:=201) (by omega) G W;refine⟨?_,λbe db=>?_⟩
  ·simp only[cU G,if_true,vC,A.aF,uP];unfold yz;cases cL:(jZ (ha t l) t.2.1.length 201 (i:Int) (g,[])).1 with
   | true=>
    simp_all
   | false=>
    simp_all
  ·cases db;refine⟨De,?_⟩;have aw:(0:Int)<=n+1:=by omega
   have aN:n+1<=((i+1:Nat):Int):=by omega
   have cE:n<=((i+1:Nat):Int):=by omega
   unfold yz;omega
 simp
theorem aqk(x):A.le (NU wk (uQ 201) x) (IX.sh x):=A.bq λh=>by
 obtain⟨o,l⟩:=x;obtain⟨t,ao,E,U⟩:=h;change o=_ at ao;subst ao;exact aqj t l E U
theorem ZT{s:bF}(ae:l9 s):(Px s).length<=200:=by
 have E:∀ (l:List Nat),(∀ i∈l,i<s.2.1.length)->(l.flatMap λ(i:Nat)=>lE ((i:Int),0) (s.2.1.getD i 0)).length<=10*l.length:=by
  intro l;induction l with
  | nil=>simp
  | cons i l aJ=>
   intro aj;have E:=aJ λj aE=>aj j (by grind);have U:=aj i (by simp);have ag:=ae.qD _ (List.getElem_mem U);have jv:s.2.1.getD i 0=s.2.1[i]:=by grind
   rw[List.flatMap_cons,List.length_append,List.length_cons,jv];simp only[lE,List.length_replicate];simp only[lE]at E;omega
 have U:∀ (l:List DR),(∀ d∈l,o1 s.1 d=true)->(l.flatMap λd=>lE (d.2.1,d.1) d.2.2).length<=10*l.length:=by
  intro l;induction l with
  | nil=>simp
  | cons d l aJ=>
   intro aj;have E:=aJ λj aE=>aj j (by grind);have ag:=aj d (by simp);simp only[o1,b3,Bool.and_eq_true,decide_eq_true_eq]at ag;rw[List.flatMap_cons,List.length_append,List.length_cons];simp only[lE,List.length_replicate];simp only[lE]at E;omega
 have a:=E (List.range s.2.1.length) λi G=>by grind
 have b:=U s.2.2.2.2.1 ae.Zz;have c:=ae.ZA;have d:=ae.Pw;have e:=ae.EH;unfold Px EI ZD;grind
theorem ZU{s:bF}(ae:l9 s){cz:z1'}(an:n8 s cz):(lF s cz).1.length<=24:=by
 unfold lF;split
 ·have:∀ (l:List Nat),(∀ i∈l,i<cz.length)->(l.flatMap λi=>(o2 s cz i).getD []).length<=4*l.length:=by
   intro l;induction l with
   | nil=>simp
   | cons i l aJ=>
    intro aj;have E:=aJ λj aE=>aj j (by grind);have U:=aj i (by simp);rw[List.flatMap_cons,List.length_append,List.length_cons];have:((o2 s cz i).getD []).length<=4:=by
     cases h:o2 s cz i with
     | none=>simp
     | some y=>exact ZG ae an U h
    omega
  have a:=this (List.range cz.length) λi G=>by grind
  rw[List.length_range]at a;have:=an.1;have:=ae.uN;grind
 ·simp
def pR(s:bF)(cz:z1'):Bool:=(lF s cz).2&&decide (yA (dq s) (lF s cz).1=0)
abbrev wz:aK:=⟨.ay wu fE,dd,λx=>∃ s,wx x.1 s/\n8 s x.2,λx=>pR (n9 x.1) x.2⟩
theorem aql(x):A.le (VT IT.sh IX.sh x) (wz.sh x):=A.bq λh=>by
 obtain⟨o,cz⟩:=x;obtain⟨s,⟨ao,ae⟩,an⟩:=h;change o=_ at ao;subst ao;unfold VT;simp only[aK.sh,A.du,A.jc];rw[A.bt (by exact⟨s,⟨rfl,ae⟩,an⟩),A.bt (by exact λ_=>⟨dq s,rfl,ZT ae,Nat.le_trans (ZU ae an) (by omega)⟩)];show A.pure ((lF s cz).2&&decide ((if (lF s cz).2=true then yA (dq s) (lF s cz).1 else 0)=0))=A.pure (pR s cz);unfold pR;grind
def Bo(s:bF)(first:z1')(p:Nat):Bool:=!(first.contains (p:Int)||decide (s_ (mH s (first.length:Int)) (np s (p:Int))=0))
def km(s:bF)(e:Int):Nat->z1'->List (z1')
 | 0,first=>[first]
 | n+1,first=>((List.range s.2.2.1.length).flatMap λp=>if Bo s first p=true then km s e n (first++[(p:Int)]) else [])++(if e=0 then [] else km s e n (first++[-1]))
abbrev ZV:Type:=Nat×(List (z1')->Prop)×List (z1')×Bool
abbrev PR:Type:=Option dw×z1'×Int×Nat×ZV×Unit
abbrev ZW:Type:=Bool×ZV×Unit
structure PS(f:Nat)(x:PR)(s:bF)(n:Nat)(a b:List (z1')):Prop where
 ayJ:wx x.1 s
 len:x.2.1.length+n=s.2.2.2.1.length
 cj:n<f
 ayK:x.2.2.2.2.1.1=x.2.2.2.1
 bx:x.2.2.2.2.1.2.2.2=false
 seq:x.2.2.2.2.1.2.1=λT=>T=a++km s x.2.2.1 n x.2.1++b
 pos:x.2.2.2.2.1.2.2.1=a
def aqm(x:PR)(y:ZW):Prop:=y.2.1.1=x.2.2.2.1/\y.2.1.2.1=x.2.2.2.2.1.2.1/\(y.1=true->y.2.1.2.2.2=false/\y.2.1.2.2.1=x.2.2.2.2.1.2.2.1++km (n9 x.1) x.2.2.1 ((n9 x.1).2.2.2.1.length - x.2.1.length) x.2.1)/\(y.1=false->y.2.1.2.2.2=true)
def rO(f:Nat)(x:PR):A ZW:=⟨∃ s n a b,PS f x s n a b,aqm x⟩
def l'(s:bF)(e:Int)(n:Nat)(first:z1')(k:Nat):List (z1'):=(List.range k).flatMap λp=>if Bo s first p=true then km s e n (first++[(p:Int)]) else []
theorem IY(s:bF)(e:Int)(n:Nat)(first:z1')(k:Nat):l' s e n first (k+1)=l' s e n first k++(if Bo s first k=true then km s e n (first++[(k:Int)]) else []):=by
 unfold l';rw[List.range_succ,List.flatMap_append];simp
theorem aqn(s:bF)(e:Int)(n:Nat)(first:z1'){k m:Nat}(h:k<=m):∃ t,l' s e n first m=l' s e n first k++t:=by
 induction m with
 | zero=>simp_all
 | succ m aJ=>
  by_cases al:k=m+1
  ·simp_all
  ·obtain⟨t,aH⟩:=aJ (by omega);rw[IY,aH,List.append_assoc];simp
theorem aqo{f:Nat}{s:bF}(ae:l9 s){first:z1'}{e:Int}{l:Nat}{L:List (z1')->Prop}{n:Nat}(hlen:first.length+n=s.2.2.2.1.length)(ao:n<f+1){a b:List (z1')}(iK:L=λT=>T=a++km s e n first++b) :
  A.cx (N1 wm.sh (rO f) mE.sh (some (dq s),first,e,l,(l,L,a,false),())) λy=>y.2.1.1=l/\y.2.1.2.1=L/\(y.1=true->y.2.1.2.2.2=false/\y.2.1.2.2.1=a++km s e n first)/\(y.1=false->y.2.1.2.2.2=true):=by
 have gy:(dq s).1=s:=rfl;have Bk:=ae.uN;have aqp:=ae.IM;unfold N1;simp only[Option.isSome_some,Option.getD_some,A.bp,bV,gy];cases n with
 | zero=>
  have au:decide ((first.length:Int)=(s.2.2.2.1.length:Int))=true:=by grind
  have aB:∃ T,L (a++first::T):=⟨b,by rw[iK];show _=_;simp[km]⟩
  simp only[au,if_true,true_and,and_self];rw[A.bt aB,A.gg];refine⟨⟨true,trivial⟩,λy _=>A.ea.2 ?_⟩;refine⟨rfl,rfl,λh=>?_,λh=>?_⟩
  ·change y=true at h;subst h;exact⟨rfl,rfl⟩
  grind
 | succ n=>
  have au:decide ((first.length:Int)=(s.2.2.2.1.length:Int))=false:=by grind
  simp only[au,Bool.false_eq_true,if_false,A.gg];obtain⟨z,bk⟩:∃ z,km s e (n+1) first=l' s e n first s.2.2.1.length++z:=⟨_,rfl⟩
  refine A.ao0 s.2.2.1.length (λk q=>q=(some (dq s),first,e,l,(first.length:Int),s.2.2.1,(s.2.2.1.length:Int),(k:Int),(l,L,a++l' s e n first k,false),())) ?_ ?_ ?_
  ·show _=_;simp[l']
  ·rintro k al q rfl;have l7:=bz (n:=(k:Int)+1) (by omega) (by omega);have fX:first.length<2 ^ 63:=by omega
   have ta:first.length<s.2.2.2.1.length:=by omega
   have IU:=PA ta;have Bl:List.getD s.2.2.2.1 first.length ([],(0,0),0,0,0)=mH s (first.length:Int):=rfl
   have PB:s.2.2.1[k]=np s (k:Int):=by simp[np,List.getD_eq_getElem?_getD,al]
   have n0:wm.pre (mH s (first.length:Int),np s (k:Int)):=ae.fK.2.2.2.2.2.2 _ IU;have aqq:(first.length<2 ^ 63)=True:=by grind
   simp only[cU al,if_true,cM al,df al,A.bp,aK.sh,A.mA,A.gz,aqq,gy,Int.toNat_natCast,cM ta,Bl,PB,and_true,true_and,and_self,imp_self,implies_true];have aqr:((mH s (first.length:Int)).1.length<2 ^ 63)=True:=by grind
   have aqs:List.getD s.2.2.1 k (0,0,0,0,[])=np s (k:Int):=rfl;have eN:first.contains (k:Int)=false->(!first.contains (k:Int))=true:=λh=>by grind
   have iL:((0:Int)<=0/\0<=(first.length:Int)/\(first.length:Int)<=(first.length:Int))=True:=by simp
   have kQ:List.take first.length first=first:=List.take_length
   have kR:(0<Add.add 0 1/\bP (Add.add first.length (Add.add 0 1))):=⟨by decide,by show bP (first.length+1);unfold bP;omega⟩
   have ij:(first.contains (k:Int)||decide (s_ (mH s (first.length:Int)) (np s (k:Int))=0))=!Bo s first k:=by unfold Bo;simp
   have jM:first.contains (k:Int)=first.contains (k:Int):=rfl
   simp only[Option.isSome_some,Option.getD_some,gy,cM ta,Bl,aqs,aqr,and_true,true_and,and_self,imp_self,implies_true,A.bp,A.bt eN,ij,iL,kQ];rw[A.bt (by omega)];obtain⟨t,aH⟩:=aqn s e n first (show k+1<=s.2.2.1.length by omega)
   cases aA:Bo s first k with
   | false=>
    simp only[Bool.not_false,if_true,A.aF,A.bY,A.ea,ch,l7];show _=_;rw[IY,aA];simp
   | true=>
    rw[IY,aA,if_pos rfl]at aH;simp only[Bool.not_true,Bool.false_eq_true,if_false,A.gg];have Em:PS f (some (dq s),first++[(k:Int)],e,l,(l,L,a++l' s e n first k,false),()) s n (a++l' s e n first k) (t++z++b):=by
     refine⟨⟨rfl,ae⟩,by grind,by omega,rfl,rfl,?_,rfl⟩;grind
    refine⟨⟨s,n,_,_,Em⟩,λy aQ=>?_⟩;obtain⟨Kc,⟨ZX,ZY,PT,ys⟩,aqt⟩:=y;obtain⟨dy,dO,ou,uM⟩:=aQ;change ZX=l at dy;change ZY=L at dO;subst dy;subst dO;cases Kc with
    | false=>
     have a1:ys=true:=uM rfl;subst a1;simp only[Bool.not_false,if_true,A.aF,A.ea,A.pv];simp
    | true=>
     obtain⟨bL,dm⟩:=ou rfl;change ys=false at bL;change PT=(a++l' s e n first k)++km s e (s.2.2.2.1.length - (first++[(k:Int)]).length) (first++[(k:Int)]) at dm;have vs:s.2.2.2.1.length - (first++[(k:Int)]).length=n:=by grind
     rw[vs]at dm;subst bL;subst dm;simp only[Bool.not_true,Bool.false_eq_true,if_false,A.aF,A.ea,A.bY,ch,l7];show _=_;rw[IY,aA,if_pos rfl];simp
  ·rintro q rfl;have kQ:List.take first.length first=first:=List.take_length
   have iL:((0:Int)<=0/\0<=(first.length:Int)/\(first.length:Int)=(first.length:Int)/\(first.length:Int)<=(first.length:Int))=True:=by simp
   have kR:(0<Add.add 0 1/\bP (Add.add first.length (Add.add 0 1))):=⟨by decide,by show bP (first.length+1);unfold bP;omega⟩
   simp only[Int.lt_irrefl,decide_false,Bool.false_eq_true,if_false,A.aF,A.ea,A.bY,iL,kQ,Int.toNat_natCast,and_true];by_cases he:e=0
   ·have zk:km s e (n+1) first=l' s e n first s.2.2.1.length:=by
     show l' s e n first s.2.2.1.length++(if e=0 then [] else km s e n (first++[-1]))=_
     grind
    simp only[he,decide_true,Bool.not_true,Bool.false_eq_true,if_false,false_imp_iff,A.bp,Bool.true_or,A.ea,Bool.true_eq_false,and_self,implies_true];grind
   ·have zk:km s e (n+1) first=l' s e n first s.2.2.1.length++km s e n (first++[-1]):=by
     show l' s e n first s.2.2.1.length++(if e=0 then [] else km s e n (first++[-1]))=_
     grind
    simp only[he,decide_false,Bool.not_false,if_true,true_imp_iff,A.bp,Bool.false_or,and_self,implies_true];rw[A.bt (by simp),A.bt (by omega)];have Em:PS f (some (dq s),first++[-1],e,l,(l,L,a++l' s e n first s.2.2.1.length,false),()) s n (a++l' s e n first s.2.2.1.length) b:=by
     refine⟨⟨rfl,ae⟩,by grind,by omega,rfl,rfl,?_,rfl⟩;grind
    rw[A.gg];refine⟨⟨s,n,_,_,Em⟩,λy aQ=>A.ea.2 ?_⟩;obtain⟨Kc,⟨ZX,ZY,PT,ys⟩,aqt⟩:=y;obtain⟨dy,dO,ou,uM⟩:=aQ;refine⟨dy,dO,λh=>?_,uM⟩;obtain⟨bL,dm⟩:=ou h;change PT=(a++l' s e n first s.2.2.1.length)++km s e (s.2.2.2.1.length - (first++[(-1:Int)]).length) (first++[-1]) at dm;grind
theorem aqu(f:Nat)(x):A.le (N1 wm.sh (rO f) mE.sh x) (rO (f+1) x):=λh=>by
 obtain⟨o,first,e,l,⟨dH,L,p,st⟩,u⟩:=x;obtain⟨s,n,a,b,an⟩:=h;obtain⟨⟨ao,ae⟩,E,U,ag,a1,bL,dm⟩:=an;change o=_ at ao;change dH=l at ag;change st=false at a1;change p=a at dm;change L=_ at bL;change first.length+n=_ at E
 change _ at bL;subst ao;subst ag;subst a1;subst dm;have vs:(n9 (some (dq s))).2.2.2.1.length - first.length=n:=by show s.2.2.2.1.length - first.length=n;omega
 refine A.cx.mono (aqo ae E U bL) λy aQ=>⟨aQ.1,aQ.2.1,λh=>?_,aQ.2.2.2⟩
 obtain⟨aP,aR⟩:=aQ.2.2.1 h;refine⟨aP,?_⟩;rw[aR];show _=p++km (n9 (some (dq s))) e ((n9 (some (dq s))).2.2.2.1.length - first.length) first
 rw[vs];rfl
theorem aqv(x):¬(rO 0 x).ck:=λ⟨s,n,a,b,h⟩=>by have:=h.cj;omega
def lG(e:Int)(s:bF):List (z1'):=km s e s.2.2.2.1.length []
def yB(o:Option dw):Prop:=∃ s,wx o s
def IZ(o:Option dw):List (z1'):=lG 1 (n9 o)
def PU(o:Option dw):List (z1'):=lG 0 (n9 o)
theorem aqw(s:bF)(ae:l9 s)(l:Nat):A.cx (HH (rO 10) (some (dq s),l,(l,(λT=>T=lG 1 s),[],false),())) λy=>y.1.1=l/\y.1.2.1=(λT=>T=lG 1 s)/\(y.1.2.2.2=false->y.1.2.2.1=lG 1 s):=by
 unfold HH;rw[A.gg];have Bk:=ae.uN;refine⟨⟨s,s.2.2.2.1.length,[],[],⟨rfl,ae⟩,by simp,by omega,rfl,rfl,by show (λT=>T=lG 1 s)=_;simp[lG],rfl⟩,λy aQ=>A.ea.2 ?_⟩;obtain⟨dy,dO,ou,uM⟩:=aQ;refine⟨dy,dO,λh=>?_⟩;cases E:y.1 with
 | false=>grind
 | true=>
  obtain⟨_,ag⟩:=ou E;show y.2.1.2.2.1=_;rw[ag];rfl
theorem aqx(s:bF)(ae:l9 s)(l:Nat):A.cx (HI (rO 10) (some (dq s),l,(l,(λT=>T=lG 0 s),[],false),())) λy=>y.1.1=l/\y.1.2.1=(λT=>T=lG 0 s)/\(y.1.2.2.2=false->y.1.2.2.1=lG 0 s):=by
 unfold HI;rw[A.gg];have Bk:=ae.uN;refine⟨⟨s,s.2.2.2.1.length,[],[],⟨rfl,ae⟩,by simp,by omega,rfl,rfl,by show (λT=>T=lG 0 s)=_;simp[lG],rfl⟩,λy aQ=>A.ea.2 ?_⟩;obtain⟨dy,dO,ou,uM⟩:=aQ;refine⟨dy,dO,λh=>?_⟩;cases E:y.1 with
 | false=>grind
 | true=>
  obtain⟨_,ag⟩:=ou E;show y.2.1.2.2.1=_;rw[ag];rfl
theorem PV{D ak:Type}{body:D->ak->A (di×D)}(g:D->ak->D)(I:D->Prop):∀ (l:List ak) (s:D),I s->(∀ x∈l,∀ s,I s->body s x=A.pure (di.normal,g s x)/\I (g s x))->jL body l s=A.pure (di.normal,l.foldl g s)
 | [],s,_,_=>rfl
 | x::l,s,eA,h=>by
  obtain⟨E,U⟩:=h x (by simp) s eA;unfold jL;rw[E,A.aF];exact PV g I l (g s x) U λy aQ=>h y (List.mem_cons_of_mem _ aQ)
theorem PW{s:bF}{e:Int}:∀ {n:Nat} {first y:z1'},y∈km s e n first->y.length=first.length+n/\∀ p∈y,p∈first\/p=-1\/(0<=p/\p<(s.2.2.1.length:Int))
 | 0,first,y,h=>by
  simp only[km,List.mem_singleton]at h;grind
 | n+1,first,y,h=>by
  simp only[km,List.mem_append,List.mem_flatMap,List.mem_range]at h;rcases h with⟨p,an,h⟩ | h
  ·split at h
   ·obtain⟨E,U⟩:=PW h;grind
   grind
  ·split at h
   ·cases h
   ·obtain⟨E,U⟩:=PW h;grind
theorem PX{s:bF}{e:Int}{y:z1'}(h:y∈lG e s):y.length=s.2.2.2.1.length/\n8 s y:=by
 obtain⟨E,U⟩:=PW h;have E:y.length=s.2.2.2.1.length:=by grind
 refine⟨E,by omega,λp an=>?_⟩;grind
theorem aqy(s:bF):n8 s (List.replicate s.2.2.2.1.length (-1)):=⟨by simp,λp an=>by grind⟩
def tc(s:bF)(b y:z1'):z1':=if (decide (rM s y > rM s b)&&pR s y)=true then y else b
def EO(s:bF):z1':=(lG 1 s).foldl (tc s) (List.replicate s.2.2.2.1.length (-1))
theorem ZZ{s:bF}:∀ (l:List (z1')) (b:z1'),(∀ y∈l,y.length=s.2.2.2.1.length/\n8 s y)->(b.length=s.2.2.2.1.length/\n8 s b)->((l.foldl (tc s) b).length=s.2.2.2.1.length/\n8 s (l.foldl (tc s) b))
 | [],b,_,W=>W
 | y::l,b,aj,W=>by
  rw[List.foldl_cons];refine ZZ l _ (λz bk=>aj z (List.mem_cons_of_mem _ bk)) ?_;unfold tc;grind
theorem aqz(s:bF):(EO s).length=s.2.2.2.1.length/\n8 s (EO s):=ZZ _ _ (λ_ h=>PX h) ⟨by simp,aqy s⟩
abbrev PY:aK:=⟨wu,fE,λo=>∃ s,wx o s,λo=>EO (n9 o)⟩
theorem aqA(s:bF)(ae:l9 s):NX IH.sh wz.sh tb.sh yB IZ (some (dq s))=A.pure (EO s):=by
 unfold NX;have Bk:=ae.uN;have gy:(dq s).1=s:=rfl;have gM:yB (some (dq s)):=⟨s,rfl,ae⟩
 have PZ:IZ (some (dq s))=lG 1 s:=rfl;simp only[Option.isSome_some,Option.getD_some,A.bp,bV,gy,aK.sh,A.du,PZ];rw[A.bt (by grind),A.bt gM];simp only[Int.toNat_natCast];rw[PV (λ(b:Option dw×z1'×Unit) (y:z1')=>(some (dq s),tc s b.2.1 y,())) (λb=>b.1=some (dq s)/\b.2.1.length=s.2.2.2.1.length) (lG 1 s) (some (dq s),List.replicate s.2.2.2.1.length (-1),()) ⟨rfl,by simp⟩ ?_]
 ·have ao:∀ (l:List (z1')) (b:z1'),l.foldl (λ(b:Option dw×z1'×Unit) (y:z1')=>(some (dq s),tc s b.2.1 y,())) (some (dq s),b,())=(some (dq s),l.foldl (tc s) b,()):=by
   intro l;induction l with
   | nil=>simp
   | cons y l aJ=>grind
  rw[ao,A.aF];rfl
 ·intro y aQ b W;obtain⟨dN,e0,aqB⟩:=b;obtain⟨mu,qZ⟩:=W;change dN=_ at mu;change e0.length=_ at qZ;subst mu;obtain⟨xJ,sv⟩:=PX aQ;have jH:tb.pre (some (dq s),y):=⟨s,⟨rfl,ae⟩,by grind⟩
  have p8:tb.pre (some (dq s),e0):=⟨s,⟨rfl,ae⟩,by grind⟩
  have mn:wz.pre (some (dq s),y):=⟨s,⟨rfl,ae⟩,sv⟩
  have aw:tb.g (some (dq s),y)=rM s y:=rfl;have aN:tb.g (some (dq s),e0)=rM s e0:=rfl;have cE:wz.g (some (dq s),y)=pR s y:=rfl;refine⟨?_,rfl,?_⟩
  ·simp only[A.mA,A.gz,A.bt jH,A.bt p8,aw,aN,cE,mn,and_true,true_and,and_self,imp_self,implies_true,A.bp,tc];have dy:∀ c:Prop,(c->c/\(∃ nq,wx (some (dq s)) nq/\n8 nq y)):=λc h=>⟨h,mn⟩
   rw[A.bt (dy _)];have aw:n9 (some (dq s))=s:=rfl;simp only[aw];cases hc:(decide (rM s y > rM s e0)&&pR s y)<;>simp
  ·show (tc s e0 y).length=_;unfold tc;grind
theorem aqC(x):A.le (NX IH.sh wz.sh tb.sh yB IZ x) (PY.sh x):=A.bq λh=>by
 obtain⟨s,ao,ae⟩:=h;subst ao;exact aqA s ae
theorem I0{s:bF}{b6:Bool}(h:k7 s b6=0):yv s b6=(some (dq s),0):=by simp[yv,h]
theorem I1{s:bF}{b6:Bool}(h:k7 s b6≠0):yv s b6=(none,k7 s b6):=by simp[yv,h]
def yC(s:bF)(b6:Bool):Int×Int:=if k7 s b6≠0 then (0,k7 s b6) else (rM s (EO s),0)
abbrev P0:aK:=⟨.ay k6 dd,.ay bu bu,λx=>e7 x.1,λx=>yC x.1 x.2⟩
theorem aqD(x):A.le (VR Bi.sh PY.sh tb.sh x) (P0.sh x):=A.bq λh=>by
 unfold VR;show _=A.pure (yC x.1 x.2);unfold yC;simp only[aK.sh,A.du];rw[A.bt (by exact h)];by_cases al:k7 x.1 x.2=0
 ·have ae:=Bh h (Bg al).1;simp only[I0 al,al,ne_eq,not_true,decide_false,Bool.false_eq_true,if_false];rw[A.bt (by exact⟨x.1,rfl,ae⟩),A.bt (by exact⟨x.1,⟨rfl,ae⟩,Nat.le_of_eq (aqz x.1).1⟩)];rfl
 ·simp[I1 al,al]
abbrev I2:aK:=⟨k6,.ay bu bu,e7,λs=>yC s true⟩
theorem aqE(x):A.le (VK P0.sh x) (I2.sh x):=A.bq λh=>by
 unfold VK;simp only[aK.sh,A.du];simp_all
def Bp(s:bF)(n:Int)(y:z1'):Int:=if (!(lF s y).2||!EN (dq s) (lF s y).1)=true then n else if (decide (n=-1)||decide (yA (dq s) (lF s y).1<n))=true then yA (dq s) (lF s y).1 else n
def I3(s:bF):Int:=(lG 0 s).foldl (Bp s) (-1)
def wA(s:bF):Int×Int:=if k7 s true≠0 then (0,k7 s true) else if I3 s=-1 then (0,3) else (I3 s,0)
abbrev Bq:aK:=⟨k6,.ay bu bu,e7,wA⟩
theorem aqF(x):A.le (VL Bi.sh yB PU IT.sh PN.sh IX.sh x) (Bq.sh x):=A.bq λh=>by
 unfold VL;show _=A.pure (wA x);unfold wA;simp only[aK.sh,A.du];rw[A.bt (by exact h)];by_cases al:k7 x true=0
 ·have ae:=Bh h (Bg al).1;have gM:yB (some (dq x)):=⟨x,rfl,ae⟩
  have PZ:PU (some (dq x))=lG 0 x:=rfl;simp only[I0 al,al,ne_eq,not_true,decide_false,Bool.false_eq_true,if_false,PZ];rw[A.bt gM];rw[PV (λ(b:Option dw×Int×Unit) (y:z1')=>(some (dq x),Bp x b.2.1 y,())) (λb=>b.1=some (dq x)) (lG 0 x) (some (dq x),-1,()) rfl ?_]
  ·have ao:∀ (l:List (z1')) (b:Int),l.foldl (λ(b:Option dw×Int×Unit) (y:z1')=>(some (dq x),Bp x b.2.1 y,())) (some (dq x),b,())=(some (dq x),l.foldl (Bp x) b,()):=by
    intro l;induction l with
    | nil=>simp
    | cons y l aJ=>grind
   rw[ao,A.aF];show (if decide (I3 x=-1)=true then A.pure ((0:Int),(3:Int)) else A.pure (I3 x,0))=_;grind
  ·intro y aQ b W;obtain⟨dN,e0,aqB⟩:=b;change dN=_ at W;subst W;obtain⟨xJ,sv⟩:=PX aQ;refine⟨?_,rfl⟩;have z6:=ZU ae sv;have jH:∃ nq,wx (some (dq x)) nq/\n8 nq y:=⟨x,⟨rfl,ae⟩,sv⟩
   have fl:(dq x).1.2.1.length<2 ^ 63:=h.2.1;have p8:∃ t,some (dq x)=some t/\t.1.2.1.length<2 ^ 63/\(lF x y).1.length<2 ^ 63:=⟨_,rfl,fl,by omega⟩
   have mn:∃ t,some (dq x)=some t/\t.2.1.length<=200/\(lF x y).1.length<=1000:=⟨_,rfl,ZT ae,by omega⟩
   have aw:n9 (some (dq x))=x:=rfl;have aN:Option.getD (some (dq x)) yw=dq x:=rfl;simp only[A.jc,A.du,aw,aN];rw[A.bt jH];simp only[p8,implies_true,A.bp];rw[A.bt (by exact mn)];show _=A.pure (di.normal,some (dq x),Bp x e0 y,());unfold Bp;cases E:(lF x y).2
   ·simp
   ·cases U:EN (dq x) (lF x y).1
    ·simp
    ·simp only[Bool.not_true,Bool.not_false,if_true,Bool.or_self,Bool.false_eq_true,if_false];cases ag:(decide (e0=-1)||decide (yA (dq x) (lF x y).1<e0))<;>simp
 ·simp[I1 al,al]
def nr(s:bF)(w p:Int):z1':=(List.replicate s.2.2.2.1.length (-1)).set w.toNat p
def Z0(s:bF)(w:Int):z1':=((List.range s.2.2.1.length).filter λ(p:Nat)=>pR s (nr s w (p:Int))).map λ(p:Nat)=>(p:Int)
def uR(s:bF)(w:Int):z1'×Int:=if k7 s (yt s w)≠0 then ([],k7 s (yt s w)) else (Z0 s w,0)
abbrev I4:aK:=⟨.ay k6 bu,.ay fE bu,λx=>e7 x.1,λx=>uR x.1 x.2⟩
theorem Z1{ak β:Type}{p:ak->Bool}{g:ak->β}:∀ (l:List ak) (b:List β),l.foldl (λb x=>if p x=true then b++[g x] else b) b=b++(l.filter p).map g
 | [],b=>by simp
 | x::l,b=>by
  simp only[List.foldl_cons,List.filter_cons];rw[Z1 l];grind
theorem aqG{s:bF}{w:Int}{p:Nat}(an:p<s.2.2.1.length):n8 s (nr s w (p:Int)):=by
 refine⟨by simp[nr],λq br=>?_⟩;unfold nr at br;grind
theorem aqH(x):A.le (VM Bi.sh Pu.sh wk wz.sh x) (I4.sh x):=A.bq λh=>by
 obtain⟨s,w⟩:=x;change e7 s at h;unfold VM;show _=A.pure (uR s w);unfold uR;simp only[aK.sh,A.mA,A.gz];rw[A.bt (by exact h),A.bt (by exact h)];by_cases al:k7 s (yt s w)=0
 ·have ae:=Bh h (Bg al).1;have hw:=apB.1 (Bg al).2.1;have Bk:=ae.uN;have aqp:=ae.IM;simp only[I0 al,al,ne_eq,not_true,decide_false,Bool.false_eq_true,if_false];unfold wk;simp only[A.du,bV];rw[A.bt (by grind)];simp only[Int.toNat_natCast];rw[A.f_ (List.range s.2.2.1.length) (λi (b:z1'×z1')=>(w,some (dq s),(s.2.2.1.length:Int),(i:Int),b.1,b.2,())) (λ(p:Nat) b=>.next (if pR s (nr s w (p:Int))=true then b.1++[(p:Int)] else b.1,nr s w (p:Int))) (λb=>.next (b.1,())) (λi b=>b.1.length<=i/\∀ p,b.2.set w.toNat p=nr s w p) ([],List.replicate s.2.2.2.1.length (-1)) ?_ ?_ ?_ ?_]
  ·rw[dP];have ao:∀ (l:List Nat) (b:z1'×z1'),(l.foldl (λb (p:Nat)=>(if pR s (nr s w (p:Int))=true then b.1++[(p:Int)] else b.1,nr s w (p:Int))) b).1=l.foldl (λb (p:Nat)=>if pR s (nr s w (p:Int))=true then b++[(p:Int)] else b) b.1:=by
    intro l;induction l with
    | nil=>simp
    | cons p l aJ=>grind
   rw[ao,Z1,A.aF,A.bY];rfl
  ·rfl
  ·exact⟨Nat.le_refl _,λp=>rfl⟩
  ·intro i G b W;have G:i<s.2.2.1.length:=by grind
   have kl:=bz (n:=(i:Int)+1) (by omega) (by omega);obtain⟨dN,e0⟩:=b;obtain⟨mu,qZ⟩:=W;change dN.length<=i at mu;change ∀ p,e0.set w.toNat p=nr s w p at qZ;have kR:bP (dN.length+(0+1)):=by unfold bP;omega
   have hlen:e0.length=s.2.2.2.1.length:=by
    have:=congrArg List.length (qZ 0);simpa [nr]using this
   have xP:0<=w/\w<(e0.length:Int):=by omega
   rw[List.getElem_range];refine⟨?_,λbe db=>?_⟩
   ·simp only[cU G,if_true,xP,and_self,A.bp,A.du,qZ];rw[A.bt (by exact⟨s,⟨rfl,ae⟩,aqG G⟩)];have aw:n9 (some (dq s))=s:=rfl;simp only[aw,ch,hX,A.bt kR];cases pR s (nr s w (i:Int))<;>simp[V.hl,kl]
   ·cases db;refine⟨?_,λp=>?_⟩
    ·grind
    ·show (nr s w (i:Int)).set w.toNat p=nr s w p;unfold nr;simp
  simp
 ·simp[I1 al,al]
def Br(s:bF)(cz:z1'):Int×Int:=if k7 s (wq s cz)≠0 then (0,k7 s (wq s cz)) else if (!pR s cz)=true then (0,3) else (rM s cz,0)
abbrev I5:aK:=⟨.ay k6 fE,.ay bu bu,λx=>e7 x.1/\x.2.length<2 ^ 63,λx=>Br x.1 x.2⟩
theorem aqI{s:bF}{cz:z1'}(h:wq s cz=true):cz.length=s.2.2.2.1.length/\n8 s cz:=by
 unfold wq at h;simp only[Bool.and_eq_true,List.all_eq_true,List.mem_range,decide_eq_true_eq]at h;obtain⟨E,U⟩:=h;refine⟨by omega,by omega,λp an=>?_⟩;obtain⟨i,G,rfl⟩:=List.mem_iff_getElem.1 an;have:=E i G;have jv:cz.getD i 0=cz[i]:=by grind
 unfold wo at this;simp only[jv,Bool.or_eq_true,decide_eq_true_eq,Bool.and_eq_true,apC]at this;omega
theorem aqJ(x):A.le (VQ Bi.sh wz.sh IK.sh tb.sh x) (I5.sh x):=A.bq λh=>by
 obtain⟨s,cz⟩:=x;obtain⟨aD,aj⟩:=h;unfold VQ;show _=A.pure (Br s cz);unfold Br;simp only[aK.sh,A.mA,A.gz];have an:IK.pre (s,cz):=⟨aD,aj⟩
 rw[A.bt (by exact an),A.bt (by exact aD)];by_cases al:k7 s (wq s cz)=0
 ·have ae:=Bh aD (Bg al).1;obtain⟨aqK,xL⟩:=aqI (Bg al).2.1;simp only[I0 al,al,ne_eq,not_true,decide_false,Bool.false_eq_true,if_false,A.du];rw[A.bt (by exact⟨s,⟨rfl,ae⟩,xL⟩)];have aw:n9 (some (dq s))=s:=rfl;simp only[aw];cases ao:pR s cz with
  | false=>simp
  | true=>
   simp only[Bool.not_true,Bool.false_eq_true,if_false];rw[A.bt (by exact⟨s,⟨rfl,ae⟩,Nat.le_of_eq aqK⟩)]
 ·simp[I1 al,al]
def yD(s:bF):Prop:=Pp s.1/\s.2.1.length<=2000000/\s.2.2.1.length<=2000000/\s.2.2.2.1.length<=2000000/\s.2.2.2.2.1.length<=2000000/\(∀ p∈s.2.2.1,p.2.2.2.2.length<=2000000)/\∀ x∈s.2.2.2.1,x.1.length<=2000000
theorem aqL{s:bF}(ae:l9 s):yD s:=by
 have Zb:=wi ae.sY.2;refine⟨⟨by omega,by omega,by omega,λm hm=>?_⟩,by have:=ae.EH;omega,by have:=ae.IM;omega,by have:=ae.uN;omega,by have:=ae.Pw;omega,λp an=>by have:=(Pz ae an).2.1;omega,λx ah=>?_⟩
 ·have kT:=(A_ ae.sY.2).2.2.1 m hm;simp only[pJ,Bool.and_eq_true,Bool.not_eq_true',decide_eq_false_iff_not,List.all_eq_true]at kT;refine⟨by omega,λs' r'=>?_⟩;have:=kT.2 s' r';simp only[pI,Bool.and_eq_true,decide_eq_true_eq]at this;omega
 ·have:=ae.Zy x ah;simp only[o0,b3,Bool.and_eq_true,decide_eq_true_eq]at this;omega
abbrev I6:aK:=⟨k6,k6,yD,λs=>s⟩
theorem aqM(x):A.le (VJ vS.sh x) (I6.sh x):=A.bq λh=>by
 obtain⟨E,U,ag,a1,bL,dm,fS⟩:=h;unfold VJ;simp only[aK.sh,A.du];have e1:bP (0+x.2.1.length):=by unfold bP;omega
 have og:bP (0+x.2.2.1.length):=by unfold bP;omega
 have EP:bP (0+x.2.2.2.1.length):=by unfold bP;omega
 have aqN:bP (0+x.2.2.2.2.1.length):=by unfold bP;omega
 rw[A.bt (by exact E)];simp only[hX,A.bt e1,A.bt og,A.bt EP,A.bt aqN,List.nil_append];rw[A.dt x.2.2.1 (λi (_:Unit)=>((i:Int),x,0,0,x.1.1,x.1.2.1,x.1.2.2.1,x.1.2.2.2,x.2.2.2.2.2,x.2.1,x.2.2.1,x.2.2.2.1,x.2.2.2.2.1,())) (λp b=>.next b) (λ_=>.next (x,0,0,x.1.1,x.1.2.1,x.1.2.2.1,x.1.2.2.2,x.2.2.2.2.2,x.2.1,x.2.2.1,x.2.2.2.1,x.2.2.2.2.1,())) () ?_ ?_ ?_]
 ·rw[dP,A.aF,A.bY];rw[A.dt x.2.2.2.1 (λi (_:Unit)=>((i:Int),x,0,0,x.1.1,x.1.2.1,x.1.2.2.1,x.1.2.2.2,x.2.2.2.2.2,x.2.1,x.2.2.1,x.2.2.2.1,x.2.2.2.2.1,())) (λp b=>.next b) (λ_=>.next (0,0,x.1.1,x.1.2.1,x.1.2.2.1,x.1.2.2.2,x.2.2.2.2.2,x.2.1,x.2.2.1,x.2.2.2.1,x.2.2.2.2.1,())) () ?_ ?_ ?_]
  ·rw[dP,A.aF,A.bY]<;>rfl
  ·rfl
  ·intro i G b;have kl:=bz (n:=(i:Int)+1) (by omega) (by omega);have hc:=fS _ (List.getElem_mem G);have kx:bP (0+x.2.2.2.1[i].1.length):=by unfold bP;omega
   have mS:x.2.2.2.1.set i (x.2.2.2.1[i].1,x.2.2.2.1[i].2)=x.2.2.2.1:=List.set_getElem_self G;simp_all
  simp
 ·rfl
 ·intro i G b;have kl:=bz (n:=(i:Int)+1) (by omega) (by omega);have hc:=dm _ (List.getElem_mem G);have kx:bP (0+x.2.2.1[i].2.2.2.2.length):=by unfold bP;omega
  have mS:x.2.2.1.set i (x.2.2.1[i].1,x.2.2.1[i].2.1,x.2.2.1[i].2.2.1,x.2.2.1[i].2.2.2.1,x.2.2.1[i].2.2.2.2)=x.2.2.1:=List.set_getElem_self G;simp_all
 simp
def Z2(s:bF):Int:=(s.2.2.1.map λp=>(p.2.2.2.2.length:Int)).foldl (·+·) 0
def rP(s:bF):Bool:=
 if (k1 s.1||decide ((s.2.1.length:Int) > 40)||decide ((s.2.2.1.length:Int) > 40)||decide ((s.2.2.2.1.length:Int) > 40)||decide ((s.2.2.2.2.1.length:Int) > 40))=true then true
 else if (s.2.2.1.any λp=>decide ((p.2.2.2.2.length:Int) > 40))=true then true
 else if (s.2.2.2.1.any λx=>decide ((x.1.length:Int) > 40))=true then true
 else if iS s≠0 then false
 else decide ((s.2.2.2.1.length:Int) > 3)||decide ((s.2.2.1.length:Int) > 4)||decide ((s.2.2.2.2.1.length:Int) > 3)||decide (Z2 s > 4)
abbrev I7:aK:=⟨k6,dd,e7,rP⟩
theorem aqO(x):A.le (Y1 pQ.sh wb.sh x) (I7.sh x):=A.bq λh=>by
 change e7 x at h;unfold Y1;show _=A.pure (rP x);unfold rP;simp only[aK.sh,A.du,bV];rw[A.bt (by exact h.1)];obtain⟨g1,ew,g3,g4,g5,g6,g7⟩:=id h;by_cases E:(k1 x.1||decide ((x.2.1.length:Int) > 40)||decide ((x.2.2.1.length:Int) > 40)||decide ((x.2.2.2.1.length:Int) > 40)||decide ((x.2.2.2.2.1.length:Int) > 40))=true
 ·grind
 ·rw[if_neg E,if_neg E];simp only[Bool.or_eq_true,decide_eq_true_eq,not_or]at E;rw[A.dt x.2.2.1 (λi (_:Unit)=>((i:Int),x,())) (λp u=>if decide ((p.2.2.2.2.length:Int) > 40)=true then .done (.done true) else .next u) (λ_=>.next (x,())) () ?_ ?_ ?_]
  ·rw[rs (p:=λp:dj=>decide ((p.2.2.2.2.length:Int) > 40))];by_cases U:(x.2.2.1.any λp=>decide ((p.2.2.2.2.length:Int) > 40))=true
   ·simp only[U,if_true,A.aF,A.pv]
   ·simp only[U,Bool.false_eq_true,if_false,A.aF,A.bY];rw[A.dt x.2.2.2.1 (λi (_:Unit)=>((i:Int),x,())) (λp u=>if decide ((p.1.length:Int) > 40)=true then .done (.done true) else .next u) (λ_=>.next (x,())) () ?_ ?_ ?_]
    ·rw[rs (p:=λp:dA=>decide ((p.1.length:Int) > 40))];by_cases ag:(x.2.2.2.1.any λx=>decide ((x.1.length:Int) > 40))=true
     ·simp only[ag,if_true,A.aF,A.pv]
     ·simp only[ag,Bool.false_eq_true,if_false,A.aF,A.bY];rw[A.bt (by exact h)];by_cases he:iS x=0
      ·simp only[he,ne_eq,not_true,decide_false,Bool.false_eq_true,if_false];have W:∀ p∈x.2.2.1,p.2.2.2.2.length<=40:=λp an=>by
        grind
       rw[A.f_ x.2.2.1 (λi (n:Int)=>(n,(i:Int),x,())) (λp n=>.next (n+(p.2.2.2.2.length:Int))) (λn=>.next (n,x,())) (λi n=>0<=n/\n<=40*i) 0 ?_ ?_ ?_ ?_]
       ·rw[dP,A.aF,A.bY];unfold Z2;rw[List.foldl_map]
       ·rfl
       ·simp
       ·intro i G n aA;have kl:=bz (n:=(i:Int)+1) (by omega) (by omega);have ayL:=W _ (List.getElem_mem G);have Be:=bz (n:=n+(x.2.2.1[i].2.2.2.2.length:Int)) (by omega) (by omega);refine⟨?_,λbe db=>?_⟩
        ·simp only[cU G,if_true,cM G,A.bp,df G,ch,kl,Be];rfl
        grind
       simp
      grind
    ·rfl
    ·intro i G u;have kl:=bz (n:=(i:Int)+1) (by omega) (by omega);simp only[cU G,if_true,cM G,A.bp,df G,A.aF,ch,kl];exact l1 (mk:=λ_:Unit=>((i:Int)+1,x,()))
    simp
  ·rfl
  ·intro i G u;have kl:=bz (n:=(i:Int)+1) (by omega) (by omega);simp only[cU G,if_true,cM G,A.bp,df G,A.aF,ch,kl];exact l1 (mk:=λ_:Unit=>((i:Int)+1,x,()))
  simp
def Bs:bF:=(IA,[1,0,0,0],[(1,60,0,0,[0]),(1,60,7,0,[]),(2,65,0,1,[0]),(2,60,0,0,[0,1])],[([1],(55,65),7,3,500),([1,2],(60,60),0,5,400),([2],(60,70),9,8,700),([2],(65,65),0,5,300)],[(4,2,1),(6,3,1)],2)
abbrev I8:aK:=⟨.cT,k6,λ_=>True,λ_=>Bs⟩
theorem aqP(x):A.le (Y2 Pq.sh x) (I8.sh x):=A.bq λ_=>by
 unfold Y2;simp only[aK.sh,A.du,A.bp];rfl
theorem aqQ:e7 Bs:=by
 refine⟨ao7,by decide,by decide,by decide,by decide,?_,?_⟩
 ·intro p an;simp only[Bs,List.mem_cons,List.not_mem_nil,or_false]at an;grind
 ·intro x ah;simp only[Bs,List.mem_cons,List.not_mem_nil,or_false]at ah;grind
end Go.Fer
namespace Go.Fer.H
open A (V)
def Z3(Ax:aZ->A Int)(N6:List a_->A (List a_×Bool))(aqR:List (List a_)->A (List a_))(aqS:List (z1')×Unit->A (z1'×Unit))(N8:z1'×Unit->A (z1'×Unit))(aqT:z1'×Unit->A ((Nat×Nat)×z1'×Unit))(I9:z4'->A (z4'))(x:aZ×List a_×z1'):A (aZ×Int):=
 letI a:=x.1.2.2.2;A.bind (Ax x.1) λy=>if decide (y≠0)=true then A.pure (([],[],[],[],0,0,0,0,0,0,0),y) else A.bind (Ax (x.1.1,x.2.1,x.2.2,a)) λy=>if decide (y≠0)=true then A.pure (([],[],[],[],0,0,0,0,0,0,0),y) else A.bind (aqR [x.1.2.1,x.2.1]) λy=>A.bind (N6 y) λy=>if (!y.2)=true then A.pure (([],[],[],[],0,0,0,0,0,0,0),91) else A.bind (aqS ([x.1.2.2.1,x.2.2],())) λb2=>A.bind (N8 (b2.1,())) λdE=>A.bind (aqT (dE.1,())) λgA=>if (decide (Int.ofNat (List.length y.1) > 12)||decide (Int.ofNat (gA.1.2-gA.1.1) > 12))=true then A.pure (([],[],[],[],0,0,0,0,0,0,0),90) else A.ab (I9 x.1.1).ck (A.ab (I9 a.1).ck (A.pure ((A.val (I9 x.1.1) [],y.1,List.drop gA.1.1 (List.take gA.1.2 gA.2.1),A.val (I9 a.1) [],a.2),0)))
def Z4(aqU:Int×Unit->A (List a_×Unit))(x:List (List a_)):A (List a_):=
 A.bind (A.loop (λ(D:List (List a_)×Int×List (List a_)×Int×Int×Unit)=>letI d:=D.2.2;letI b:=d.2.2.1;letI a:=IntKind.wrap .i64 (Add.add D.2.1 (Int.ofNat (List.length (List.getD d.1 (Int.toNat b) []))));if decide (b<d.2.1)=true then A.bind (A.ab (0<=b/\b<Int.ofNat (List.length d.1)) (if decide (a<0)=true then A.ab False (A.ab False (A.pure (V.next (D.1,a,d.1,d.2.1,b,())))) else A.pure (V.next (D.1,a,d.1,d.2.1,b,())))) (V.bx (λ(D:List (List a_)×Int×List (List a_)×Int×Int×Unit)=>A.pure (V.next (D.1,D.2.1,D.2.2.1,D.2.2.2.1,IntKind.wrap .i64 (Add.add D.2.2.2.2.1 1),())))) else A.bind (A.pure (V.next (D.1,D.2.1,()))) λr=>A.pure (V.done r)) (x,0,x,Int.ofNat (List.length x),0,())) (V.bx (λ(D:List (List a_)×Int×Unit)=>A.bind (aqU (D.2.1,())) λy=>A.bind (A.loop (λ(D:List (List a_)×Int×Int×List a_×Unit)=>letI e:=D.2.2;letI c:=List.getD D.1 (Int.toNat e.1) [];if decide (e.1<D.2.1)=true then A.ab (0<=e.1/\e.1<Int.ofNat (List.length D.1)) (A.ab (bP (Add.add (List.length e.2.1) (List.length c))) (A.pure (V.next (D.1,D.2.1,IntKind.wrap .i64 (Add.add e.1 1),e.2.1++c,())))) else A.bind (A.pure (V.next (e.2.1,()))) λr=>A.pure (V.done r)) (D.1,Int.ofNat (List.length D.1),0,y.1,())) (V.bx (λ(D:List a_×Unit)=>A.pure D.1))))
def Z5(aqV:Int×Unit->A (z1'×Unit))(x:List (z1')×Unit):A (z1'×Unit):=
 A.bind (A.loop (λ(D:List (z1')×Int×List (z1')×Int×Int×Unit)=>letI d:=D.2.2;letI b:=d.2.2.1;letI a:=IntKind.wrap .i64 (Add.add D.2.1 (Int.ofNat (List.length (List.getD d.1 (Int.toNat b) []))));if decide (b<d.2.1)=true then A.bind (A.ab (0<=b/\b<Int.ofNat (List.length d.1)) (if decide (a<0)=true then A.ab False (A.ab False (A.pure (V.next (D.1,a,d.1,d.2.1,b,())))) else A.pure (V.next (D.1,a,d.1,d.2.1,b,())))) (V.bx (λ(D:List (z1')×Int×List (z1')×Int×Int×Unit)=>A.pure (V.next (D.1,D.2.1,D.2.2.1,D.2.2.2.1,IntKind.wrap .i64 (Add.add D.2.2.2.2.1 1),())))) else A.bind (A.pure (V.next (D.1,D.2.1,()))) λr=>A.pure (V.done r)) (x.1,0,x.1,Int.ofNat (List.length x.1),0,())) (V.bx (λ(D:List (z1')×Int×Unit)=>A.bind (aqV (D.2.1,())) λy=>A.bind (A.loop (λ(D:List (z1')×Int×Int×z1'×Unit)=>letI e:=D.2.2;letI c:=List.getD D.1 (Int.toNat e.1) [];if decide (e.1<D.2.1)=true then A.ab (0<=e.1/\e.1<Int.ofNat (List.length D.1)) (A.ab (bP (Add.add (List.length e.2.1) (List.length c))) (A.pure (V.next (D.1,D.2.1,IntKind.wrap .i64 (Add.add e.1 1),e.2.1++c,())))) else A.bind (A.pure (V.next (e.2.1,()))) λr=>A.pure (V.done r)) (D.1,Int.ofNat (List.length D.1),0,y.1,())) (V.bx (λ(D:z1'×Unit)=>A.pure (D.1,())))))
def aqW(x:z1'×Unit):A ((Nat×Nat)×z1'×Unit):=
 if decide (Int.ofNat (List.length x.1)<2)=true then A.pure ((0,List.length x.1),x.1,()) else A.bind (A.loop (λ(D:Int×z1'×Unit)=>letI l:=D.1;letI j:=D.2.1;letI g:=IntKind.wrap .i64 (l-1);letI b:=Int.ofNat (List.length j);if decide (l<b)=true then A.bind (A.ab (0<=l/\l<b) (A.ab (0<=g/\g<b) (if decide (List.getD j (Int.toNat l) 0=List.getD j (Int.toNat g) 0)=true then A.ab (0<=l/\l<=b/\b<=b) (A.bind (A.loop (λ(D:Int×(Nat×Nat)×Int×z1'×Unit)=>letI k:=D.2.1;letI e:=D.2.2;letI i:=IntKind.wrap .i64 (e.1-1);letI h:=List.getD e.2.1 (Add.add k.1 (Int.toNat e.1)) 0;letI d:=Int.ofNat (k.2-k.1);if decide (e.1<d)=true then A.bind (A.ab (0<=e.1/\e.1<d) (A.ab (0<=i/\i<d) (if decide (h≠List.getD e.2.1 (Add.add k.1 (Int.toNat i)) 0)=true then A.ab (0<=e.1/\e.1<d) (A.ab (0<=D.1/\D.1<Int.ofNat (List.length e.2.1)) (A.pure (V.next (IntKind.wrap .i64 (Add.add D.1 1),k,e.1,List.set e.2.1 (Int.toNat D.1) h,())))) else A.pure (V.next (D.1,k,e.1,e.2.1,()))))) (V.bx (λ(D:Int×(Nat×Nat)×Int×z1'×Unit)=>A.pure (V.next (D.1,D.2.1,IntKind.wrap .i64 (Add.add D.2.2.1 1),D.2.2.2.1,())))) else A.bind (A.pure (V.next (D.1,e.2.1,()))) λr=>A.pure (V.done r)) (l,(Int.toNat l,Int.toNat b),1,j,())) (V.bx (λ(D:Int×z1'×Unit)=>letI f:=Int.toNat D.1;letI c:=Int.ofNat (List.length D.2.1);letI a:=List.take f D.2.1++List.replicate (Int.toNat c-f) 0++List.drop (Add.add f (List.length (List.replicate (Int.toNat c-f) (0:Int)))) D.2.1;A.ab (0<=D.1/\D.1<=c/\c<=c) (A.ab True (A.ab ((0:Int)<=0/\0<=D.1/\D.1<=Int.ofNat (List.length a)) (A.bind (A.bind (A.bind (A.pure ((Int.toNat 0,f),a,())) (λr=>A.pure (V.done r))) (λr=>A.pure (V.done r))) (λr=>A.pure (V.done r)))))))) else A.pure (V.next (l,j,()))))) (V.bx (λ(D:Int×z1'×Unit)=>A.pure (V.next (IntKind.wrap .i64 (Add.add D.1 1),D.2.1,())))) else A.bind (A.pure (V.next (j,()))) λr=>A.pure (V.done r)) (1,x.1,())) (V.bx (λ(D:z1'×Unit)=>A.pure ((0,List.length D.1),D.1,())))
end Go.Fer.H
