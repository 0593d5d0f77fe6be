/- Part 6 of the proof of TopShop: shallow programs of Go functions, and what they compute. No condition. -/
import Derived.Test.YtplfnoecifjgeaaGreatDoorTopShopE
noncomputable section
set_option linter.unusedVariables false
set_option linter.unusedSimpArgs false
namespace Go.Fer
open A (V)
abbrev aQ:Type:=List UInt8
abbrev ba:Type:=bp×H.aZ
abbrev vW:Type:=z2'×List (List (Int×z1'×Int×Int))×Int×Int×z2'×z1'×List c1×List dm×List rr×Unit
abbrev A4:Type:=Int×Bool×Option Nat
abbrev k2(l:List (aQ×A4))(a:aQ)(b:A4):List (aQ×A4):=lL (k:=.str) (v:=.st (.az (.int .i64) (.az .bool .ep))) l a b
def Ys(Pd:H.aZ->A Int)(Ex:bp->A Int)(x:ba):A Int:=
 A.bind (Ex x.1) λy=>A.bind (cq (!(decide (y≠0))) (Pd x.2) 0) λb3=>if (decide (y≠0)||decide (b3≠0))=true then A.pure 120 else A.pure 0
def Yt(anz:ba->A Int)(anA:ba×Unit->A (ba×Unit))(anB:Unit->A (List (aQ×Int×Bool×Option Nat)))(anC:List (aQ×Int×Bool×Option Nat)×aQ×ba×Unit->A (aQ×ba×Unit))(x:ba×List aQ):A (List aQ×ba×Int):=
 letI d:=Int.ofNat (List.length x.2);A.bind (anz x.1) λy=>if decide (y≠0)=true then A.pure ([],((([],[],0,[]),[],[],[],[],0),[],[],[],[],0,0,0,0,0,0,0),y) else if decide (d > 40)=true then A.pure ([],((([],[],0,[]),[],[],[],[],0),[],[],[],[],0,0,0,0,0,0,0),2) else A.bind (anA (x.1,())) λy=>A.bind (anB ()) λb3=>A.bind (A.loop (λ(D:List (aQ×Int×Bool×Option Nat)×List aQ×Int×Int×List aQ×Int×Int×Int×Int×Int×Int×Int×Int×Int×ba×Unit)=>letI b:=D.2.2.2;letI a:=b.2.2.2.2;letI c:=a.2.2.2.2;if decide (b.1<D.2.2.1)=true then A.ab (0<=b.1/\b.1<Int.ofNat (List.length D.2.1)) (A.bind (anC (D.1,List.getD D.2.1 (Int.toNat b.1) [],c.2.2.2.1,())) (λy=>A.ab (bM (Add.add (List.length b.2.1) (Add.add 0 1))) (A.pure (V.next (D.1,D.2.1,D.2.2.1,IntKind.wrap .i64 (Add.add b.1 1),b.2.1++[y.1],b.2.2.1,b.2.2.2.1,a.1,a.2.1,a.2.2.1,a.2.2.2.1,c.1,c.2.1,c.2.2.1,y.2.1,()))))) else A.bind (A.pure (V.next (b.2.1,b.2.2.1,b.2.2.2.1,a.1,a.2.1,a.2.2.1,a.2.2.2.1,c.1,c.2.1,c.2.2.1,c.2.2.2.1,()))) λr=>A.pure (V.done r)) (b3,x.2,d,0,[],0,0,0,0,0,0,0,0,0,y.1,())) (V.bz (λ(D:List aQ×Int×Int×Int×Int×Int×Int×Int×Int×Int×ba×Unit)=>A.ab True (A.pure (D.1,D.2.2.2.2.2.2.2.2.2.2.1,0))))
def Yu(DY:bp->A Int)(Av:H.aZ->A Int)(x:ba):A Int:=
 A.bind (DY x.1) λy=>A.bind (cq (!(decide (y≠0))) (Av x.2) 0) λb3=>if (decide (y≠0)||decide (b3≠0))=true then A.pure 120 else A.pure 0
def Yv(Pe:H.aZ×z7'×z1'->A (H.aZ×Int))(Yw:bp->A bp)(x:ba×Unit):A (ba×Unit):=
 A.bind (Pe (x.1.2,[],[])) λy=>A.ab (Yw x.1.1).ck (A.pure ((A.val (Yw x.1.1) (([],[],0,[]),[],[],[],[],0),y.1),()))
def anD(x:Unit):A (List (aQ×Int×Bool×Option Nat)):=
 A.pure (k2 (k2 (k2 (k2 (k2 (k2 (k2 (k2 (k2 (k2 (k2 (k2 (k2 (k2 (k2 (k2 (k2 (k2 (k2 (k2 [] [108,101,110,100] (5,false,some 119)) [98,97,99,107] (4,false,some 120)) [118,111,105,100] (1,false,some 121)) [108,97,115,116,115] (1,false,some 122)) [102,101,101] (1,false,some 123)) [111,119,101,115] (1,false,some 124)) [104,101,108,100] (1,false,some 125)) [119,104,101,114,101] (2,false,some 126)) [109,105,115,115,105,110,103] (1,false,some 127)) [116,114,105,97,108] (4,false,some 128)) [102,105,116,115] (3,false,some 129)) [115,116,111,99,107] (2,false,some 130)) [99,111,109,101,115] (3,false,some 131)) [112,105,101,99,101] (4,true,some 132)) [119,105,115,104] (5,true,some 133)) [100,114,111,112] (1,false,some 134)) [99,97,110] (1,false,some 135)) [116,97,107,101,115] (0,true,some 136)) [109,111,115,116] (0,false,some 137)) [101,120,116,114,97] (0,false,some 138))
def Yx(anE:aQ×aQ->A (List aQ))(anF:aQ->A (Int×Bool))(anG:Nat->z1'×ba×Unit->A (aQ×ba×Unit))(x:List (aQ×Int×Bool×Option Nat)×aQ×ba×Unit):A (aQ×ba×Unit):=
 A.bind (anE (x.2.1,[32])) λy=>letI b:=Int.ofNat (List.length y);letI f:=IntKind.wrap .i64 (b-1);letI d:=List.drop (Int.toNat 1) (List.take (Int.toNat b) y);letI a:=Option.map (λx=>x.2) (List.find? (λp=>decide (List.getD y (Int.toNat 0) []=p.1)) x.1);letI c:=Option.getD a (0,false,none);A.ab ((0:Int)<=0/\0<b) (if (!(Option.isSome a)||decide (f<c.1)||decide (f > c.1)&&!c.2.1)=true then A.pure ([63],x.2.2.1,()) else A.bind (A.ab ((0:Int)<=1/\1<=b/\b<=b) (A.loop (λ(D:List aQ×Int×Int×(Int×Bool×Option Nat)×z1'×ba×Unit)=>letI e:=D.2.2;if decide (e.1<D.2.1)=true then A.ab (0<=e.1/\e.1<Int.ofNat (List.length D.1)) (A.bind (anF (List.getD D.1 (Int.toNat e.1) [])) (λy=>if (!y.2)=true then A.bind (A.bind (A.pure ([63],e.2.2.2.1,())) (λr=>A.pure (V.done r))) λr=>A.pure (V.done r) else A.ab (bM (Add.add (List.length e.2.2.1) (Add.add 0 1))) (A.pure (V.next (D.1,D.2.1,IntKind.wrap .i64 (Add.add e.1 1),e.2.1,e.2.2.1++[y.1],e.2.2.2.1,()))))) else A.bind (A.pure (V.next (e.2.1,e.2.2.1,e.2.2.2.1,()))) λr=>A.pure (V.done r)) (d,Int.ofNat (List.length d),0,c,[],x.2.2.1,()))) (V.bz (λ(D:(Int×Bool×Option Nat)×z1'×ba×Unit)=>A.bind (A.ab (∃ (k:Nat),List.Mem k [119,120,121,122,123,124,125,126,127,128,129,130,131,132,133,134,135,136,137,138]/\D.1.2.2=some k) (anG (Option.getD D.1.2.2 0) (D.2.1,D.2.2.1,()))) λy=>A.pure (y.1,y.2.1,()))))
def Yy(Ey:z7'×z1'×ba×Unit->A (aQ×ba×Unit))(x:z1'×ba×Unit):A (aQ×ba×Unit):=
 letI a:=Int.ofNat (List.length x.1);A.ab ((0:Int)<=0/\0<a) (A.ab ((0:Int)<=1/\1<a) (A.ab ((0:Int)<=2/\2<a) (A.ab ((0:Int)<=3/\3<a) (A.ab ((0:Int)<=4/\4<a) (A.bind (Ey ([(List.getD x.1 (Int.toNat 0) 0,List.getD x.1 (Int.toNat 1) 0,List.getD x.1 (Int.toNat 2) 0,1,List.getD x.1 (Int.toNat 3) 0,List.getD x.1 (Int.toNat 4) 0)],[],x.2.1,())) (λy=>A.pure (y.1,y.2.1,())))))))
def Yz(Pe:H.aZ×z7'×z1'->A (H.aZ×Int))(x:z7'×z1'×ba×Unit):A (aQ×ba×Unit):=
 A.ab True (A.bind (Pe (x.2.2.1.2,x.1,x.2.1)) (λy=>if decide (y.2≠0)=true then A.pure ([110,111],x.2.2.1,()) else A.ab True (A.pure ([111,107],(x.2.2.1.1,y.1),()))))
def YA(Ey:z7'×z1'×ba×Unit->A (aQ×ba×Unit))(x:z1'×ba×Unit):A (aQ×ba×Unit):=
 letI a:=Int.ofNat (List.length x.1);A.ab ((0:Int)<=0/\0<a) (A.ab ((0:Int)<=1/\1<a) (A.ab ((0:Int)<=2/\2<a) (A.ab ((0:Int)<=3/\3<a) (A.bind (Ey ([(List.getD x.1 (Int.toNat 0) 0,List.getD x.1 (Int.toNat 1) 0,List.getD x.1 (Int.toNat 2) 0,2,List.getD x.1 (Int.toNat 3) 0,0)],[],x.2.1,())) (λy=>A.pure (y.1,y.2.1,()))))))
def YB(Ey:z7'×z1'×ba×Unit->A (aQ×ba×Unit))(x:z1'×ba×Unit):A (aQ×ba×Unit):=
 A.bind (Ey ([],x.1,x.2.1,())) λy=>A.pure (y.1,y.2.1,())
def YC(Pf:H.aZ×Int->A ((Int×Int)×Int))(rz:(Int×Int)×Int->A aQ)(x:z1'×ba×Unit):A (aQ×ba×Unit):=
 letI a:=(x.2.1.2,List.getD x.1 (Int.toNat 0) 0);A.ab True (A.ab ((0:Int)<=0/\0<Int.ofNat (List.length x.1)) (A.ab (Pf a).ck (A.ab (rz (A.val (Pf a) ((0,0),0))).ck (A.pure (A.val (rz (A.val (Pf a) ((0,0),0))) [],x.2.1,())))))
def YD(n_:Int×z1'->A aQ)(x:(Int×Int)×Int):A aQ:=
 A.bind (n_ (x.2,[x.1.1,x.1.2])) λy=>A.pure y
def YE(A5:z1'->A aQ)(x:Int×z1'):A aQ:=
 if decide (x.1=0)=true then A.bind (A5 x.2) λy=>A.pure y else if decide (x.1=3)=true then A.pure [110,111,110,101] else A.pure [110,111]
def YF(anH:Int->A aQ)(anI:List aQ×aQ->A aQ)(x:z1'):A aQ:=
 letI b:=Int.ofNat (List.length x);if decide (b=0)=true then A.pure [110,111,110,101] else A.bind (A.loop (λ(D:z1'×Int×Int×List aQ×Unit)=>letI a:=D.2.2;if decide (a.1<D.2.1)=true then A.ab (0<=a.1/\a.1<Int.ofNat (List.length D.1)) (A.bind (anH (List.getD D.1 (Int.toNat a.1) 0)) (λy=>A.ab (bM (Add.add (List.length a.2.1) (Add.add 0 1))) (A.pure (V.next (D.1,D.2.1,IntKind.wrap .i64 (Add.add a.1 1),a.2.1++[y],()))))) else A.bind (A.pure (V.next (a.2.1,()))) λr=>A.pure (V.done r)) (x,b,0,[],())) (V.bz (λ(D:List aQ×Unit)=>A.bind (anI (D.1,[32])) λy=>A.pure y))
def YG(Ez:H.aZ×Int->A ((Int×Int)×Int))(rz:(Int×Int)×Int->A aQ)(x:z1'×ba×Unit):A (aQ×ba×Unit):=
 letI a:=(x.2.1.2,List.getD x.1 (Int.toNat 0) 0);A.ab True (A.ab ((0:Int)<=0/\0<Int.ofNat (List.length x.1)) (A.ab (Ez a).ck (A.ab (rz (A.val (Ez a) ((0,0),0))).ck (A.pure (A.val (rz (A.val (Ez a) ((0,0),0))) [],x.2.1,())))))
def YH(Pg:H.aZ×Int->A ((Int×Int)×Int))(rz:(Int×Int)×Int->A aQ)(x:z1'×ba×Unit):A (aQ×ba×Unit):=
 letI a:=(x.2.1.2,List.getD x.1 (Int.toNat 0) 0);A.ab True (A.ab ((0:Int)<=0/\0<Int.ofNat (List.length x.1)) (A.ab (Pg a).ck (A.ab (rz (A.val (Pg a) ((0,0),0))).ck (A.pure (A.val (rz (A.val (Pg a) ((0,0),0))) [],x.2.1,())))))
def YI(Ph:H.aZ×Int->A ((Int×Int)×Int))(rz:(Int×Int)×Int->A aQ)(x:z1'×ba×Unit):A (aQ×ba×Unit):=
 letI a:=(x.2.1.2,List.getD x.1 (Int.toNat 0) 0);A.ab True (A.ab ((0:Int)<=0/\0<Int.ofNat (List.length x.1)) (A.ab (Ph a).ck (A.ab (rz (A.val (Ph a) ((0,0),0))).ck (A.pure (A.val (rz (A.val (Ph a) ((0,0),0))) [],x.2.1,())))))
def YJ(oZ:H.aZ×Int×Int->A (z1'×Int))(n_:Int×z1'->A aQ)(A5:z1'->A aQ)(x:z1'×ba×Unit):A (aQ×ba×Unit):=
 letI b:=Int.ofNat (List.length x.1);letI a:=(x.2.1.2,List.getD x.1 (Int.toNat 0) 0,List.getD x.1 (Int.toNat 1) 0);A.ab True (A.ab ((0:Int)<=0/\0<b) (A.ab ((0:Int)<=1/\1<b) (A.ab (oZ a).ck (A.ab ((!(decide ((A.val (oZ a) ([],0)).2≠0)))=true->((!(decide ((A.val (oZ a) ([],0)).2≠0)))=true/\True)/\((0:Int)<=0/\0<Int.ofNat (List.length (A.val (oZ a) ([],0)).1))/\True) (if (decide ((A.val (oZ a) ([],0)).2≠0)||decide (List.getD (A.val (oZ a) ([],0)).1 (Int.toNat 0) (0:Int)>=0))=true then A.bind (n_ ((A.val (oZ a) ([],0)).2,(A.val (oZ a) ([],0)).1)) λy=>A.pure (y,x.2.1,()) else if decide (Int.ofNat (List.length (A.val (oZ a) ([],0)).1)=1)=true then A.pure ([115,104,111,112],x.2.1,()) else A.ab ((0:Int)<=1/\1<=Int.ofNat (List.length (A.val (oZ a) ([],0)).1)/\Int.ofNat (List.length (A.val (oZ a) ([],0)).1)<=Int.ofNat (List.length (A.val (oZ a) ([],0)).1)) (A.bind (A5 (List.drop (Int.toNat 1) (List.take (Int.toNat (Int.ofNat (List.length (A.val (oZ a) ([],0)).1))) (A.val (oZ a) ([],0)).1))) (λy=>A.ab (bM (Add.add (Add.add (Add.add (Add.add (Add.add (Add.add 0 1) 1) 1) 1) 1) (List.length y))) (A.pure ([115,104,111,112,32]++y,x.2.1,())))))))))
def YK(EA:H.aZ×Int->A (z1'×z1'×Int))(n_:Int×z1'->A aQ)(A5:z1'->A aQ)(x:z1'×ba×Unit):A (aQ×ba×Unit):=
 letI a:=(x.2.1.2,List.getD x.1 (Int.toNat 0) 0);A.ab True (A.ab ((0:Int)<=0/\0<Int.ofNat (List.length x.1)) (A.ab (EA a).ck (if decide ((A.val (EA a) ([],[],0)).2.2≠0)=true then A.bind (n_ ((A.val (EA a) ([],[],0)).2.2,[])) λy=>A.pure (y,x.2.1,()) else A.bind (A5 (A.val (EA a) ([],[],0)).1) λy=>A.ab (bM (Add.add (List.length y) (Add.add (Add.add (Add.add 0 1) 1) 1))) (A.bind (A5 (A.val (EA a) ([],[],0)).2.1) (λb3=>A.ab (bM (Add.add (List.length (y++[32,47,32])) (List.length b3))) (A.pure (y++[32,47,32]++b3,x.2.1,())))))))
def YL(HK:bj×Int->A ((Int×Int)×Int))(uu:bp×Unit->A (vW))(DV:z2'×List (List (Int×z1'×Int×Int))×Int×z2'->A Int)(x:z1'×ba×Unit):A (aQ×ba×Unit):=
 letI c:=List.getD x.1 (Int.toNat 0) 0;letI b:=Int.ofNat (List.length x.1);A.ab True (A.bind (uu (x.2.1.1,())) (λy=>letI d:=y.2.2.2.2;letI a:=(y.1,y.2.1,y.2.2.1,d.1++[(c,List.getD x.1 (Int.toNat 1) 0,List.getD x.1 (Int.toNat 2) 0,List.getD x.1 (Int.toNat 3) 0)]);A.ab True (A.ab ((0:Int)<=0/\0<b) (A.ab ((0:Int)<=1/\1<b) (A.ab ((0:Int)<=2/\2<b) (A.ab ((0:Int)<=3/\3<b) (A.ab (bM (Add.add (List.length d.1) (Add.add 0 1))) (A.ab True (A.ab True (A.bind (DV a) (λb3=>if decide (b3≠0)=true then A.pure ([110,111],x.2.1,()) else A.ab True (A.ab ((0:Int)<=0/\0<b) (A.ab (HK (a,c)).ck (if decide ((A.val (HK (a,c)) ((0,0),0)).2≠0)=true then A.pure ([108,105,97,114],x.2.1,()) else A.ab True (A.pure ([111,107],((a,d.2.1,d.2.2.1,d.2.2.2.1,d.2.2.2.2.1,y.2.2.2.1),x.2.1.2),()))))))))))))))))
def YM(vz:bj×Int×Int×Int->A (Int×Int))(n_:Int×z1'->A aQ)(x:z1'×ba×Unit):A (aQ×ba×Unit):=
 letI b:=Int.ofNat (List.length x.1);letI a:=(x.2.1.1.1,List.getD x.1 (Int.toNat 0) 0,List.getD x.1 (Int.toNat 1) 0,List.getD x.1 (Int.toNat 2) 0);A.ab True (A.ab ((0:Int)<=0/\0<b) (A.ab ((0:Int)<=1/\1<b) (A.ab ((0:Int)<=2/\2<b) (A.ab (vz a).ck (if decide ((A.val (vz a) (0,0)).2≠0)=true then A.bind (n_ ((A.val (vz a) (0,0)).2,[])) λy=>A.pure (y,x.2.1,()) else A.ab (0<=(A.val (vz a) (0,0)).1/\(A.val (vz a) (0,0)).1<Int.ofNat 4) (A.pure (List.getD [[],[115,117,114,101,108,121],[110,101,118,101,114],[112,101,114,104,97,112,115]] (Int.toNat (A.val (vz a) (0,0)).1) [],x.2.1,())))))))
def YN(uu:bp×Unit->A (vW))(yi:bp×ba×Unit->A (aQ×ba×Unit))(x:z1'×ba×Unit):A (aQ×ba×Unit):=
 letI c:=Int.ofNat (List.length x.1);letI a:=List.getD x.1 (Int.toNat 0) 0;A.ab True (A.bind (uu (x.2.1.1,())) (λy=>letI d:=y.2.2.2.2.2;letI b:=Int.ofNat (List.length d.1);A.ab ((0:Int)<=0/\0<c) (if decide (a>=b)=true then A.pure ([110,111],x.2.1,()) else A.ab ((0:Int)<=0/\0<c) (A.ab (0<=a/\a<b) (A.ab ((0:Int)<=1/\1<c) (A.ab (0<=a/\a<b) (A.bind (yi (((y.1,y.2.1,y.2.2.1,y.2.2.2.2.1),List.set d.1 (Int.toNat a) (IntKind.wrap .i64 (Add.add (List.getD d.1 (Int.toNat a) 0) (List.getD x.1 (Int.toNat 1) 0))),d.2.1,d.2.2.1,d.2.2.2.1,y.2.2.2.1),x.2.1,())) (λy=>A.pure (y.1,y.2.1,())))))))))
def YO(DY:bp->A Int)(x:bp×ba×Unit):A (aQ×ba×Unit):=
 A.bind (DY x.1) λy=>if decide (y≠0)=true then A.pure ([110,111],x.2.1,()) else A.ab True (A.pure ([111,107],(x.1,x.2.1.2),()))
def YP(uu:bp×Unit->A (vW))(yi:bp×ba×Unit->A (aQ×ba×Unit))(x:z1'×ba×Unit):A (aQ×ba×Unit):=
 letI a:=Int.ofNat (List.length x.1);A.ab True (A.bind (uu (x.2.1.1,())) (λy=>letI b:=y.2.2.2.2.2;A.ab ((0:Int)<=0/\0<a) (A.ab ((0:Int)<=1/\1<a) (A.ab ((0:Int)<=2/\2<a) (A.ab (bM (Add.add (List.length b.2.2.2.1) (Add.add 0 1))) (A.bind (yi (((y.1,y.2.1,y.2.2.1,y.2.2.2.2.1),b.1,b.2.1,b.2.2.1,b.2.2.2.1++[(List.getD x.1 (Int.toNat 0) 0,List.getD x.1 (Int.toNat 1) 0,List.getD x.1 (Int.toNat 2) 0)],y.2.2.2.1),x.2.1,())) (λy=>A.pure (y.1,y.2.1,()))))))))
def YQ(uu:bp×Unit->A (vW))(yi:bp×ba×Unit->A (aQ×ba×Unit))(x:z1'×ba×Unit):A (aQ×ba×Unit):=
 letI a:=Int.ofNat (List.length x.1);A.ab True (A.bind (uu (x.2.1.1,())) (λy=>letI b:=y.2.2.2.2.2;A.ab ((0:Int)<=0/\0<a) (A.ab ((0:Int)<=1/\1<a) (A.ab ((0:Int)<=2/\2<a) (A.ab ((0:Int)<=3/\3<a) (A.ab ((0:Int)<=4/\4<=a/\a<=a) (A.ab (bM (Add.add (List.length b.2.1) (Add.add 0 1))) (A.bind (yi (((y.1,y.2.1,y.2.2.1,y.2.2.2.2.1),b.1,b.2.1++[(List.getD x.1 (Int.toNat 0) 0,List.getD x.1 (Int.toNat 1) 0,List.getD x.1 (Int.toNat 2) 0,List.getD x.1 (Int.toNat 3) 0,List.drop (Int.toNat 4) (List.take (Int.toNat a) x.1))],b.2.2.1,b.2.2.2.1,y.2.2.2.1),x.2.1,())) (λy=>A.pure (y.1,y.2.1,()))))))))))
def YR(uu:bp×Unit->A (vW))(yi:bp×ba×Unit->A (aQ×ba×Unit))(x:z1'×ba×Unit):A (aQ×ba×Unit):=
 letI a:=Int.ofNat (List.length x.1);A.ab True (A.bind (uu (x.2.1.1,())) (λy=>letI b:=y.2.2.2.2.2;A.ab ((0:Int)<=0/\0<a) (A.ab ((0:Int)<=1/\1<a) (A.ab ((0:Int)<=2/\2<a) (A.ab ((0:Int)<=3/\3<a) (A.ab ((0:Int)<=4/\4<a) (A.ab ((0:Int)<=5/\5<=a/\a<=a) (A.ab (bM (Add.add (List.length b.2.2.1) (Add.add 0 1))) (A.bind (yi (((y.1,y.2.1,y.2.2.1,y.2.2.2.2.1),b.1,b.2.1,b.2.2.1++[(List.drop (Int.toNat 5) (List.take (Int.toNat a) x.1),(List.getD x.1 (Int.toNat 0) 0,List.getD x.1 (Int.toNat 1) 0),List.getD x.1 (Int.toNat 2) 0,List.getD x.1 (Int.toNat 3) 0,List.getD x.1 (Int.toNat 4) 0)],b.2.2.2.1,y.2.2.2.1),x.2.1,())) (λy=>A.pure (y.1,y.2.1,())))))))))))
def YS(YT:List dm->A (List dm))(anJ:Int×Int×List dm×Unit->A ((Nat×Nat)×List dm×Unit))(x:z1'×ba×Unit):A (aQ×ba×Unit):=
 letI c:=x.2.1.1.2.2;letI b:=List.getD x.1 (Int.toNat 0) 0;letI a:=(0:Int)<=0/\0<Int.ofNat (List.length x.1);A.ab a (A.ab True (if decide (b>=Int.ofNat (List.length c.2.1))=true then A.pure ([110,111],x.2.1,()) else A.ab True (A.ab (YT c.2.1).ck (A.ab a (A.ab a (A.bind (anJ (b,IntKind.wrap .i64 (Add.add b 1),A.val (YT c.2.1) [],())) (λy=>A.ab True (A.pure ([111,107],((x.2.1.1.1,x.2.1.1.2.1,c.1,List.drop y.1.1 (List.take y.1.2 y.2.1),c.2.2),x.2.1.2),())))))))))
def YU(Pj:bp×Int->A (z1'×Int))(n_:Int×z1'->A aQ)(x:z1'×ba×Unit):A (aQ×ba×Unit):=
 letI a:=(x.2.1.1,List.getD x.1 (Int.toNat 0) 0);A.ab True (A.ab ((0:Int)<=0/\0<Int.ofNat (List.length x.1)) (A.ab (Pj a).ck (A.bind (n_ ((A.val (Pj a) ([],0)).2,(A.val (Pj a) ([],0)).1)) (λy=>A.pure (y,x.2.1,())))))
def YV(Ir:bp×z1'->A (Int×Int))(anK:z1'×Unit->A (z1'×Unit))(n_:Int×z1'->A aQ)(x:z1'×ba×Unit):A (aQ×ba×Unit):=
 A.bind (anK (x.1,())) λy=>A.bind (A.loop (λ(D:Int×Int×z1'×ba×Unit)=>letI b:=D.2;letI a:=0<=b.1/\b.1<Int.ofNat (List.length b.2.1);if decide (b.1<D.1)=true then A.ab a (A.ab a (A.pure (V.next (D.1,IntKind.wrap .i64 (Add.add b.1 1),List.set b.2.1 (Int.toNat b.1) (IntKind.wrap .i64 (List.getD b.2.1 (Int.toNat b.1) 0-1)),b.2.2.1,())))) else A.bind (A.pure (V.next (b.2.1,b.2.2.1,()))) λr=>A.pure (V.done r)) (Int.ofNat (List.length y.1),0,y.1,x.2.1,())) (V.bz (λ(D:z1'×ba×Unit)=>A.ab True (A.bind (Ir (D.2.1.1,D.1)) (λy=>A.bind (n_ (y.2,[y.1])) λy=>A.pure (y,D.2.1,())))))
def YW(Is:bp->A (Int×Int))(n_:Int×z1'->A aQ)(x:z1'×ba×Unit):A (aQ×ba×Unit):=
 A.ab True (A.bind (Is x.2.1.1) (λy=>A.bind (n_ (y.2,[y.1])) λy=>A.pure (y,x.2.1,())))
def YX(A6:bp->A (Int×Int))(n_:Int×z1'->A aQ)(x:z1'×ba×Unit):A (aQ×ba×Unit):=
 A.ab True (A.bind (A6 x.2.1.1) (λy=>A.bind (n_ (y.2,[y.1])) λy=>A.pure (y,x.2.1,())))
def YY(anL:H.aZ×H.aZ->A Bool)(anM:bj×bj->A Bool)(vY:z1'×z1'->A Bool)(x:ba×ba):A Bool:=
 letI l:=x.2.1.2.2;letI k:=x.1.1.2.2;A.bind (anL (x.1.2,x.2.2)) λy=>A.bind (cq (!(!y)) (anM (x.1.1.1,x.2.1.1)) false) λb3=>A.bind (cq (!(!y||!b3)) (vY (x.1.1.2.1,x.2.1.2.1)) false) λdC=>if (!y||!b3||!dC||decide (Int.ofNat (List.length k.1)≠Int.ofNat (List.length l.1))||decide (Int.ofNat (List.length k.2.1)≠Int.ofNat (List.length l.2.1))||decide (Int.ofNat (List.length k.2.2.1)≠Int.ofNat (List.length l.2.2.1))||decide (k.2.2.2≠l.2.2.2))=true then A.pure false else A.bind (A.loop (λ(D:Int×bp×bp×Unit)=>letI m:=D.2.2.1;letI j:=D.1<Int.ofNat (List.length D.2.1.2.2.1);letI e:=List.getD D.2.1.2.2.1 (Int.toNat D.1) (0,0,0,0,[]);letI d:=List.getD m.2.2.1 (Int.toNat D.1) (0,0,0,0,[]);letI a:=decide (e.1≠d.1)||decide (e.2.1≠d.2.1)||decide (e.2.2.1≠d.2.2.1)||decide (e.2.2.2.1≠d.2.2.2.1);if decide j=true then A.ab (0<=D.1/\j) (A.ab (0<=D.1/\D.1<Int.ofNat (List.length m.2.2.1)) (A.bind (cq (!a) (vY (e.2.2.2.2,d.2.2.2.2)) false) (λy=>if (a||!y)=true then A.bind (A.bind (A.pure false) (λr=>A.pure (V.done r))) λr=>A.pure (V.done r) else A.pure (V.next (IntKind.wrap .i64 (Add.add D.1 1),D.2.1,m,()))))) else A.bind (A.pure (V.next (D.2.1,m,()))) λr=>A.pure (V.done r)) (0,x.1.1,x.2.1,())) (V.bz (λ(D:bp×bp×Unit)=>A.bind (A.loop (λ(D:Int×bp×bp×Unit)=>letI n:=D.2.2.1;letI i:=D.1<Int.ofNat (List.length D.2.1.2.2.2.1);letI c:=List.getD D.2.1.2.2.2.1 (Int.toNat D.1) ([],(0,0),0,0,0);letI b:=List.getD n.2.2.2.1 (Int.toNat D.1) ([],(0,0),0,0,0);if decide i=true then A.ab (0<=D.1/\i) (A.ab (0<=D.1/\D.1<Int.ofNat (List.length n.2.2.2.1)) (A.bind (vY (c.1,b.1)) (λy=>if (!y||!(decide (c.2.1.1=b.2.1.1)&&decide (c.2.1.2=b.2.1.2))||decide (c.2.2.1≠b.2.2.1)||decide (c.2.2.2.1≠b.2.2.2.1)||decide (c.2.2.2.2≠b.2.2.2.2))=true then A.bind (A.bind (A.pure false) (λr=>A.pure (V.done r))) λr=>A.pure (V.done r) else A.pure (V.next (IntKind.wrap .i64 (Add.add D.1 1),D.2.1,n,()))))) else A.bind (A.pure (V.next (D.2.1,n,()))) λr=>A.pure (V.done r)) (0,D.1,D.2.1,())) (V.bz (λ(D:bp×bp×Unit)=>A.bind (A.loop (λ(D:Int×bp×bp×Unit)=>letI h:=D.1<Int.ofNat (List.length D.2.1.2.2.2.2.1);letI g:=List.getD D.2.1.2.2.2.2.1 (Int.toNat D.1) (0,0,0);letI f:=List.getD D.2.2.1.2.2.2.2.1 (Int.toNat D.1) (0,0,0);if decide h=true then A.ab (0<=D.1/\h) (A.ab (0<=D.1/\D.1<Int.ofNat (List.length D.2.2.1.2.2.2.2.1)) (if (!(decide (g.1=f.1)&&(decide (g.2.1=f.2.1)&&decide (g.2.2=f.2.2))))=true then A.bind (A.bind (A.pure false) (λr=>A.pure (V.done r))) λr=>A.pure (V.done r) else A.pure (V.next (IntKind.wrap .i64 (Add.add D.1 1),D.2.1,D.2.2.1,())))) else A.bind (A.pure (V.next ())) λr=>A.pure (V.done r)) (0,D.1,D.2.1,())) (V.bz (λ(D:Unit)=>A.pure true))))))
def YZ(vY:z1'×z1'->A Bool)(x:H.aZ×H.aZ):A Bool:=
 letI e:=x.2.2.2.2.2.2;letI d:=x.1.2.2.2.2.2;letI c:=decide (Int.ofNat (List.length x.1.1)≠Int.ofNat (List.length x.2.1))||decide (Int.ofNat (List.length x.1.2.1)≠Int.ofNat (List.length x.2.2.1));A.bind (cq (!c) (vY (x.1.2.2.1,x.2.2.2.1)) false) λy=>if (c||!y||decide (Int.ofNat (List.length x.1.2.2.2.1)≠Int.ofNat (List.length x.2.2.2.2.1))||!(decide (x.1.2.2.2.2.1=x.2.2.2.2.2.1)&&(decide (d.1=e.1)&&(decide (d.2.1=e.2.1)&&(decide (d.2.2.1=e.2.2.1)&&(decide (d.2.2.2.1=e.2.2.2.1)&&(decide (d.2.2.2.2.1=e.2.2.2.2.1)&&decide (d.2.2.2.2.2=e.2.2.2.2.2))))))))=true then A.pure false else A.bind (A.loop (λ(D:Int×H.aZ×H.aZ×Unit)=>letI m:=D.2.2.1;letI l:=D.1<Int.ofNat (List.length D.2.1.1);letI j:=List.getD D.2.1.1 (Int.toNat D.1) (0,0);letI h:=List.getD m.1 (Int.toNat D.1) (0,0);if decide l=true then A.ab (0<=D.1/\l) (A.ab (0<=D.1/\D.1<Int.ofNat (List.length m.1)) (if (!(decide (j.1=h.1)&&decide (j.2=h.2)))=true then A.bind (A.bind (A.pure false) (λr=>A.pure (V.done r))) λr=>A.pure (V.done r) else A.pure (V.next (IntKind.wrap .i64 (Add.add D.1 1),D.2.1,m,())))) else A.bind (A.pure (V.next (D.2.1,m,()))) λr=>A.pure (V.done r)) (0,x.1,x.2,())) (V.bz (λ(D:H.aZ×H.aZ×Unit)=>A.bind (A.loop (λ(D:Int×H.aZ×H.aZ×Unit)=>letI n:=D.2.2.1;letI k:=D.1<Int.ofNat (List.length D.2.1.2.1);letI b:=List.getD D.2.1.2.1 (Int.toNat D.1) (0,0,0,0,0,0);letI a:=List.getD n.2.1 (Int.toNat D.1) (0,0,0,0,0,0);if decide k=true then A.ab (0<=D.1/\k) (A.ab (0<=D.1/\D.1<Int.ofNat (List.length n.2.1)) (if (!(decide (b.1=a.1)&&(decide (b.2.1=a.2.1)&&(decide (b.2.2.1=a.2.2.1)&&(decide (b.2.2.2.1=a.2.2.2.1)&&(decide (b.2.2.2.2.1=a.2.2.2.2.1)&&decide (b.2.2.2.2.2=a.2.2.2.2.2)))))))=true then A.bind (A.bind (A.pure false) (λr=>A.pure (V.done r))) λr=>A.pure (V.done r) else A.pure (V.next (IntKind.wrap .i64 (Add.add D.1 1),D.2.1,n,())))) else A.bind (A.pure (V.next (D.2.1,n,()))) λr=>A.pure (V.done r)) (0,D.1,D.2.1,())) (V.bz (λ(D:H.aZ×H.aZ×Unit)=>A.bind (A.loop (λ(D:Int×H.aZ×H.aZ×Unit)=>letI i:=D.1<Int.ofNat (List.length D.2.1.2.2.2.1);letI g:=List.getD D.2.1.2.2.2.1 (Int.toNat D.1) (0,0);letI f:=List.getD D.2.2.1.2.2.2.1 (Int.toNat D.1) (0,0);if decide i=true then A.ab (0<=D.1/\i) (A.ab (0<=D.1/\D.1<Int.ofNat (List.length D.2.2.1.2.2.2.1)) (if (!(decide (g.1=f.1)&&decide (g.2=f.2)))=true then A.bind (A.bind (A.pure false) (λr=>A.pure (V.done r))) λr=>A.pure (V.done r) else A.pure (V.next (IntKind.wrap .i64 (Add.add D.1 1),D.2.1,D.2.2.1,())))) else A.bind (A.pure (V.next ())) λr=>A.pure (V.done r)) (0,D.1,D.2.1,())) (V.bz (λ(D:Unit)=>A.pure true))))))
def Y0(x:z1'×z1'):A Bool:=
 if decide (Int.ofNat (List.length x.1)≠Int.ofNat (List.length x.2))=true then A.pure false else A.bind (A.loop (λ(D:z1'×z1'×Int×Unit)=>letI a:=D.2.2.1;letI b:=a<Int.ofNat (List.length D.1);if decide b=true then A.ab (0<=a/\b) (A.ab (0<=a/\a<Int.ofNat (List.length D.2.1)) (if decide (List.getD D.1 (Int.toNat a) 0≠List.getD D.2.1 (Int.toNat a) 0)=true then A.bind (A.bind (A.pure false) (λr=>A.pure (V.done r))) λr=>A.pure (V.done r) else A.pure (V.next (D.1,D.2.1,IntKind.wrap .i64 (Add.add a 1),())))) else A.bind (A.pure (V.next ())) λr=>A.pure (V.done r)) (x.1,x.2,0,())) (V.bz (λ(D:Unit)=>A.pure true))
def Y1(vY:z1'×z1'->A Bool)(x:bj×bj):A Bool:=
 if (decide (Int.ofNat (List.length x.1.1)≠Int.ofNat (List.length x.2.1))||decide (Int.ofNat (List.length x.1.2.1)≠Int.ofNat (List.length x.2.2.1))||decide (x.1.2.2.1≠x.2.2.2.1)||decide (Int.ofNat (List.length x.1.2.2.2)≠Int.ofNat (List.length x.2.2.2.2)))=true then A.pure false else A.bind (A.loop (λ(D:Int×bj×bj×Unit)=>letI y:=D.2.2.1;letI t:=D.1<Int.ofNat (List.length D.2.1.1);letI j:=List.getD D.2.1.1 (Int.toNat D.1) (0,0,0,0);letI i:=List.getD y.1 (Int.toNat D.1) (0,0,0,0);if decide t=true then A.ab (0<=D.1/\t) (A.ab (0<=D.1/\D.1<Int.ofNat (List.length y.1)) (if (!(decide (j.1=i.1)&&(decide (j.2.1=i.2.1)&&(decide (j.2.2.1=i.2.2.1)&&decide (j.2.2.2=i.2.2.2)))))=true then A.bind (A.bind (A.pure false) (λr=>A.pure (V.done r))) λr=>A.pure (V.done r) else A.pure (V.next (IntKind.wrap .i64 (Add.add D.1 1),D.2.1,y,())))) else A.bind (A.pure (V.next (D.2.1,y,()))) λr=>A.pure (V.done r)) (0,x.1,x.2,())) (V.bz (λ(D:bj×bj×Unit)=>A.bind (A.loop (λ(D:Int×bj×bj×Unit)=>letI z:=D.2.2.1;letI q:=D.1<Int.ofNat (List.length D.2.1.2.2.2);letI h:=List.getD D.2.1.2.2.2 (Int.toNat D.1) (0,0,0,0);letI f:=List.getD z.2.2.2 (Int.toNat D.1) (0,0,0,0);if decide q=true then A.ab (0<=D.1/\q) (A.ab (0<=D.1/\D.1<Int.ofNat (List.length z.2.2.2)) (if (!(decide (h.1=f.1)&&(decide (h.2.1=f.2.1)&&(decide (h.2.2.1=f.2.2.1)&&decide (h.2.2.2=f.2.2.2)))))=true then A.bind (A.bind (A.pure false) (λr=>A.pure (V.done r))) λr=>A.pure (V.done r) else A.pure (V.next (IntKind.wrap .i64 (Add.add D.1 1),D.2.1,z,())))) else A.bind (A.pure (V.next (D.2.1,z,()))) λr=>A.pure (V.done r)) (0,D.1,D.2.1,())) (V.bz (λ(D:bj×bj×Unit)=>A.bind (A.loop (λ(D:Int×bj×bj×Unit)=>letI s:=D.1<Int.ofNat (List.length D.2.1.2.1);letI p:=Int.toNat D.1;letI v:=List.getD D.2.1.2.1 p [];letI u:=List.getD D.2.2.1.2.1 p [];if decide s=true then A.bind (A.ab (0<=D.1/\s) (A.ab (0<=D.1/\D.1<Int.ofNat (List.length D.2.2.1.2.1)) (if decide (Int.ofNat (List.length v)≠Int.ofNat (List.length u))=true then A.bind (A.bind (A.bind (A.pure false) (λr=>A.pure (V.done r))) (λr=>A.pure (V.done r))) λr=>A.pure (V.done r) else A.loop (λ(D:Int×List (Int×z1'×Int×Int)×List (Int×z1'×Int×Int)×Int×bj×bj×Unit)=>letI n:=D.2.2.2;letI l:=0<=n.1/\n.1<Int.ofNat (List.length D.2.2.1);letI k:=n.1<Int.ofNat (List.length D.2.1);letI w:=0<=n.1/\k;letI d:=List.getD D.2.1 (Int.toNat n.1) (0,[],0,0);letI c:=List.getD D.2.2.1 (Int.toNat n.1) (0,[],0,0);letI b:=decide (d.1≠c.1);letI g:=(!b)=true;letI o:=g->g/\True/\True;letI a:=b||!(decide (d.2.2.1=c.2.2.1)&&decide (d.2.2.2=c.2.2.2));letI e:=(!a)=true;letI m:=e->e/\True/\True;if decide k=true then A.ab w (A.ab l (A.ab (g->(g/\g)/\w/\True) (A.ab o (A.ab o (A.ab (g->(g/\g)/\l/\True) (A.ab o (A.ab o (A.ab (g->(g/\g)/\True/\True) (A.ab (True/\(b=false->g)) (A.ab (e->(e/\e)/\w/\True) (A.ab m (A.ab m (A.ab (e->(e/\e)/\l/\True) (A.ab m (A.ab m (A.ab (e->(e/\e/\True)/\(vY (d.2.1,c.2.1)).ck/\True) (A.ab m (A.ab (True/\(a=false->e)) (if (a||!(A.val (vY (d.2.1,c.2.1)) false))=true then A.bind (A.bind (A.bind (A.bind (A.pure false) (λr=>A.pure (V.done r))) (λr=>A.pure (V.done r))) (λr=>A.pure (V.done r))) λr=>A.pure (V.done r) else A.pure (V.next (D.1,D.2.1,D.2.2.1,IntKind.wrap .i64 (Add.add n.1 1),n.2.1,n.2.2.1,()))))))))))))))))))))) else A.bind (A.pure (V.next (D.1,n.2.1,n.2.2.1,()))) λr=>A.pure (V.done r)) (D.1,v,u,0,D.2.1,D.2.2.1,())))) (V.bz (λ(D:Int×bj×bj×Unit)=>A.pure (V.next (IntKind.wrap .i64 (Add.add D.1 1),D.2.1,D.2.2.1,())))) else A.bind (A.pure (V.next ())) λr=>A.pure (V.done r)) (0,D.1,D.2.1,())) (V.bz (λ(D:Unit)=>A.pure true))))))
def Y2(Pk:ba->A Int)(anN:bp->A Bool)(anO:H.aZ->A Bool)(anP:aQ->A (aQ×z1'×Bool))(x:ba×List aQ):A Bool:=
 A.bind (anN x.1.1) λy=>A.bind (cq (!y) (anO x.1.2) false) λb3=>if (y||b3||decide (Int.ofNat (List.length x.2) > 60))=true then A.pure true else A.bind (A.loop (λ(D:List aQ×Int×Int×Int×Int×Int×ba×Unit)=>letI h:=D.2.2.2;letI b:=h.2.2;letI e:=b.1<Int.ofNat (List.length b.2.1.1.2.2.1);if decide e=true then A.ab (0<=b.1/\e) (A.pure (V.next (D.1,D.2.1,D.2.2.1,h.1,IntKind.wrap .i64 (Add.add h.2.1 (Int.ofNat (List.length (List.getD b.2.1.1.2.2.1 (Int.toNat b.1) (0,0,0,0,[])).2.2.2.2))),IntKind.wrap .i64 (Add.add b.1 1),b.2.1,()))) else A.bind (A.pure (V.next (D.1,D.2.1,D.2.2.1,h.1,h.2.1,b.2.1,()))) λr=>A.pure (V.done r)) (x.2,Int.ofNat (List.length x.1.1.2.2.2.1),Int.ofNat (List.length x.1.1.2.2.1),Int.ofNat (List.length x.1.1.2.2.2.2.1),0,0,x.1,())) (V.bz (λ(D:List aQ×Int×Int×Int×Int×ba×Unit)=>A.bind (A.loop (λ(D:List aQ×Int×Int×Int×Int×Int×ba×Unit)=>letI j:=D.2.1;letI d:=D.2.2;letI a:=d.2.2;letI i:=a.2.1;letI g:=a.2.2.1;letI f:=List.getD D.1 (Int.toNat i) [];letI c:=i<Int.ofNat (List.length D.1);if decide c=true then A.bind (A.ab (0<=i/\c) (if decide (Int.ofNat (List.length f) > 80)=true then A.bind (A.bind (A.bind (A.pure true) (λr=>A.pure (V.done r))) (λr=>A.pure (V.done r))) λr=>A.pure (V.done r) else A.ab (0<=i/\c) (A.bind (anP f) (λy=>if (!y.2.2)=true then A.pure (V.next (D.1,j,d.1,d.2.1,a.1,i,g,())) else if decide (y.1=[119,105,115,104])=true then A.pure (V.next (D.1,IntKind.wrap .i64 (Add.add j 1),d.1,d.2.1,a.1,i,g,())) else if decide (y.1=[112,105,101,99,101])=true then A.pure (V.next (D.1,j,IntKind.wrap .i64 (Add.add d.1 1),d.2.1,IntKind.wrap .i64 (Add.add a.1 (IntKind.wrap .i64 (Int.ofNat (List.length y.2.1)-4))),i,g,())) else if decide (y.1=[99,111,109,101,115])=true then A.pure (V.next (D.1,j,d.1,IntKind.wrap .i64 (Add.add d.2.1 1),a.1,i,g,())) else A.pure (V.next (D.1,j,d.1,d.2.1,a.1,i,g,())))))) (V.bz (λ(D:List aQ×Int×Int×Int×Int×Int×ba×Unit)=>letI k:=D.2.2.2;A.pure (V.next (D.1,D.2.1,D.2.2.1,k.1,k.2.1,IntKind.wrap .i64 (Add.add k.2.2.1 1),k.2.2.2.1,())))) else A.bind (A.pure (V.next (j,d.1,d.2.1,a.1,g,()))) λr=>A.pure (V.done r)) (D.1,D.2.1,D.2.2.1,D.2.2.2.1,D.2.2.2.2.1,0,D.2.2.2.2.2.1,())) (V.bz (λ(D:Int×Int×Int×Int×ba×Unit)=>A.bind (Pk D.2.2.2.2.1) λy=>A.pure (decide (y=0)&&(decide (D.1 > 3)||decide (D.2.1 > 4)||decide (D.2.2.1 > 3)||decide (D.2.2.2.1 > 4)))))))
def Y3(anQ:aQ->A (List aQ))(anR:aQ->A Int)(anS:Unit->A (List aQ×z1'×z1'))(x:aQ):A (aQ×z1'×Bool):=
 A.bind (anQ x) λy=>A.bind (A.loop (λ(D:List aQ×Int×z1'×Unit)=>letI j:=D.2.1<Int.ofNat (List.length D.1);if decide j=true then A.ab (0<=D.2.1/\j) (A.bind (anR (List.getD D.1 (Int.toNat D.2.1) [])) (λy=>if decide (y<0)=true then A.bind (A.bind (A.pure ([],[],false)) (λr=>A.pure (V.done r))) λr=>A.pure (V.done r) else A.ab (bM (Add.add (List.length D.2.2.1) (Add.add 0 1))) (A.pure (V.next (D.1,IntKind.wrap .i64 (Add.add D.2.1 1),D.2.2.1++[y],()))))) else A.bind (A.pure (V.next (D.1,D.2.2.1,()))) λr=>A.pure (V.done r)) (y,1,[],())) (V.bz (λ(D:List aQ×z1'×Unit)=>A.bind (anS ()) λy=>A.bind (A.loop (λ(D:List aQ×List aQ×z1'×z1'×Int×z1'×Unit)=>letI l:=List.getD D.1 (Int.toNat 0) [];letI h:=(0:Int)<=0/\0<Int.ofNat (List.length D.1);letI c:=D.2.2.2;letI m:=c.2.1;letI k:=Int.ofNat (List.length c.2.2.1);letI i:=m<Int.ofNat (List.length D.2.1);letI g:=Int.toNat m;letI f:=(0<=m/\m<Int.ofNat (List.length c.1))/\True;letI d:=decide (List.getD c.1 g (0:Int)<0);letI a:=decide (k>=List.getD D.2.2.1 g 0);letI e:=a=true;letI b:=(a&&!d)=true;letI n:=b->b/\True/\True;if decide i=true then A.ab (0<=m/\i) (A.ab h (if decide (List.getD D.2.1 g []=l)=true then A.ab h (A.ab (0<=m/\m<Int.ofNat (List.length D.2.2.1)) (A.ab (e->(e/\e)/\f) (A.ab (e->e/\True/\True) (A.ab (e->(e/\True)/\True/\True) (A.ab (e->True/\True/\e) (A.ab n (A.ab (b->(b/\b)/\f) (A.ab n (A.ab (b->(b/\b)/\True/\True) (A.ab (e->(e/\(d=false->b))/\True/\True) (A.ab (True/\(e->e)) (A.bind (A.bind (A.pure (l,c.2.2.1,a&&(d||decide (k<=List.getD c.1 g 0)))) (λr=>A.pure (V.done r))) (λr=>A.pure (V.done r)))))))))))))) else A.pure (V.next (D.1,D.2.1,D.2.2.1,c.1,IntKind.wrap .i64 (Add.add m 1),c.2.2.1,())))) else A.bind (A.pure (V.next ())) λr=>A.pure (V.done r)) (D.1,y.1,y.2.1,y.2.2,0,D.2.1,())) (V.bz (λ(D:Unit)=>A.pure ([],[],false)))))
def Y4(x:aQ):A (List aQ):=
 A.bind (A.loop (λ(D:aQ×Int×List aQ×Unit)=>letI g:=D.2.1;letI f:=D.2.2.1;letI e:=Int.ofNat (List.length D.1);letI c:=Int.ofNat (List.length f);letI b:=IntKind.wrap .i64 (Add.add g 1);letI d:=List.drop (Int.toNat g) (List.take (Int.toNat b) D.1);letI a:=IntKind.wrap .i64 (c-1);letI h:=List.getD f (Int.toNat a) [];if decide (g<e)=true then A.bind (A.ab (0<=g/\g<e) (if decide (Int.ofNat (List.getD D.1 (Int.toNat g) 0).1.1.1=32)=true then A.ab (bM (Add.add (List.length f) (Add.add 0 1))) (A.pure (V.next (D.1,g,f++[[]],()))) else A.ab (0<=a/\a<c) (A.ab (0<=g/\g<=b/\b<=e) (A.ab (bM (Add.add (List.length h) (List.length d))) (A.ab (0<=a/\a<c) (A.pure (V.next (D.1,g,List.set f (Int.toNat a) (h++d),())))))))) (V.bz (λ(D:aQ×Int×List aQ×Unit)=>A.pure (V.next (D.1,IntKind.wrap .i64 (Add.add D.2.1 1),D.2.2.1,())))) else A.bind (A.pure (V.next (f,()))) λr=>A.pure (V.done r)) (x,0,[[]],())) (V.bz (λ(D:List aQ×Unit)=>A.pure D.1))
def Y5(x:aQ):A Int:=
 letI b:=Int.ofNat (List.length x);letI g:=decide (b > 1);letI d:=decide (b=0)||decide (b > 6);A.ab ((!d&&g)=true->((!d&&g)=true/\True)/\((0:Int)<=0/\0<b)/\True) (if (d||g&&decide (Int.ofNat (List.getD x (Int.toNat 0) 0).1.1.1=48))=true then A.pure (-1) else A.bind (A.loop (λ(D:aQ×Int×Int×Unit)=>letI h:=D.2.2.1;letI c:=h<Int.ofNat (List.length D.1);letI f:=0<=h/\c;letI a:=Int.ofNat (List.getD D.1 (Int.toNat h) 0).1.1.1;letI e:=(!(decide (a<48)))=true;if decide c=true then A.ab f (A.ab (e->(e/\e)/\f/\True) (if (decide (a<48)||decide (a > 57))=true then A.bind (A.bind (A.pure (-1)) (λr=>A.pure (V.done r))) λr=>A.pure (V.done r) else A.ab f (A.pure (V.next (D.1,IntKind.wrap .i64 (Add.add (IntKind.wrap .i64 (10*D.2.1)) (IntKind.wrap .i64 (IntKind.wrap .u8 (a-48)))),IntKind.wrap .i64 (Add.add h 1),()))))) else A.bind (A.pure (V.next (D.2.1,()))) λr=>A.pure (V.done r)) (x,0,0,())) (V.bz (λ(D:Int×Unit)=>A.pure D.1)))
def anT(x:Unit):A (List aQ×z1'×z1'):=
 A.pure ([[108,101,110,100],[98,97,99,107],[118,111,105,100],[108,97,115,116,115],[102,101,101],[111,119,101,115],[104,101,108,100],[119,104,101,114,101],[109,105,115,115,105,110,103],[116,114,105,97,108],[102,105,116,115],[115,116,111,99,107],[99,111,109,101,115],[112,105,101,99,101],[119,105,115,104],[100,114,111,112],[99,97,110],[116,97,107,101,115],[109,111,115,116],[101,120,116,114,97]],[5,4,1,1,1,1,1,2,1,4,3,2,3,4,5,1,1,0,0,0],[5,4,1,1,1,1,1,2,1,4,3,2,3,-1,-1,1,1,-1,0,0])
def Y6(Pl:ba×List aQ->A (List aQ×ba×Int))(Ez:H.aZ×Int->A ((Int×Int)×Int))(A6:bp->A (Int×Int))(anU:Unit->A ba)(x:Unit):A Bool:=
 A.bind (anU ()) λy=>A.bind (Pl (y,[[108,101,110,100,32,49,32,48,32,49,48,48,32,51,32,55],[98,97,99,107,32,50,32,48,32,49,55,49,32,51],[115,116,111,99,107,32,48,32,49]])) λy=>A.bind (Ez (y.2.1.2,1)) λb3=>A.bind (A6 y.2.1.1) λdC=>A.pure (decide (y.2.2=0)&&decide (b3.2=0)&&decide (dC.2=0)&&decide (Int.ofNat (List.length y.1)=3)&&(decide (b3.1.1=300)&&decide (b3.1.2=300))&&decide (dC.1=1))
def Y7(x:Int):A aQ:=
 if decide (x<0)=true then A.pure [115,104,111,112] else A.ab ((10:Int)≠0) (A.bind (A.loop (λ(D:Int×aQ×Unit)=>letI a:=IntKind.wrap .i64 (Int.tdiv D.1 10);if decide (D.1>=10)=true then A.ab ((10:Int)≠0) (A.ab ((10:Int)≠0) (A.ab (bM (Add.add (Add.add 0 1) (List.length D.2.1))) (A.pure (V.next (a,[UInt8.ofNat (Int.toNat (IntKind.wrap .u8 (IntKind.wrap .i64 (Add.add 48 (Int.tmod a 10)))))]++D.2.1,()))))) else A.bind (A.pure (V.next (D.2.1,()))) λr=>A.pure (V.done r)) (x,[UInt8.ofNat (Int.toNat (IntKind.wrap .u8 (IntKind.wrap .i64 (Add.add 48 (Int.tmod x 10)))))],())) (V.bz (λ(D:aQ×Unit)=>A.pure D.1)))
def Y8(Y9:bp->A bp)(Y_:H.aZ->A H.aZ)(x:ba):A ba:=
 A.ab (Y9 x.1).ck (A.ab (Y_ x.2).ck (A.pure (A.val (Y9 x.1) (([],[],0,[]),[],[],[],[],0),A.val (Y_ x.2) ([],[],[],[],0,0,0,0,0,0,0))))
def Y'(x:List aQ×Int):A Bool:=
 A.bind (A.loop (λ(D:List aQ×Int×Int×Unit)=>letI b:=D.2.2.1;letI a:=b<Int.ofNat (List.length D.1);if decide a=true then A.ab (0<=b/\a) (if decide (List.getD D.1 (Int.toNat b) []≠[111,107])=true then A.bind (A.bind (A.pure false) (λr=>A.pure (V.done r))) λr=>A.pure (V.done r) else A.pure (V.next (D.1,D.2.1,IntKind.wrap .i64 (Add.add b 1),()))) else A.bind (A.pure (V.next (D.1,D.2.1,()))) λr=>A.pure (V.done r)) (x.1,x.2,0,())) (V.bz (λ(D:List aQ×Int×Unit)=>A.pure (decide (Int.ofNat (List.length D.1)=D.2.1))))
def Pm(anV:ba×List aQ->A Bool)(Pk:ba->A Int)(Za:Unit->A Bool)(EB:aQ×z1'->A aQ)(anW:ba->A ba)(Pl:ba×List aQ->A (List aQ×ba×Int))(anX:List aQ×Int->A Bool)(anY:ba×ba->A Bool)(Is:bp->A (Int×Int))(A6:bp->A (Int×Int))(Ex:bp->A Int)(Ir:bp×z1'->A (Int×Int))(x:ba×z1'):A Bool:=
 A.bind (anV (x.1,[])) λy=>A.bind (cq (!y) (Pk x.1) 0) λb3=>if (y||decide (b3≠0)||decide (Int.ofNat (List.length x.2) > 20))=true then A.bind (Za ()) λy=>A.pure y else A.bind (A.loop (λ(D:z1'×Int×ba×bp×List aQ×Unit)=>letI k:=D.2.2.2;letI j:=D.2.1<Int.ofNat (List.length k.1.2.1);if decide j=true then A.ab (0<=D.2.1/\j) (A.bind (EB ([115,116,111,99,107],[D.2.1,List.getD k.1.2.1 (Int.toNat D.2.1) 0])) (λy=>A.ab (bM (Add.add (List.length k.2.1) (Add.add 0 1))) (A.pure (V.next (D.1,IntKind.wrap .i64 (Add.add D.2.1 1),D.2.2.1,k.1,k.2.1++[y],()))))) else A.bind (A.pure (V.next (D.1,D.2.2.1,k.1,k.2.1,()))) λr=>A.pure (V.done r)) (x.2,0,x.1,x.1.1,[],())) (V.bz (λ(D:z1'×ba×bp×List aQ×Unit)=>A.bind (A.loop (λ(D:z1'×Int×ba×bp×List aQ×Unit)=>letI l:=D.2.2.2;letI d:=D.2.1<Int.ofNat (List.length l.1.2.2.2.2.1);letI o:=0<=D.2.1/\d;letI c:=List.getD l.1.2.2.2.2.1 (Int.toNat D.2.1) (0,0,0);if decide d=true then A.ab o (A.ab o (A.ab o (A.ab (EB ([99,111,109,101,115],[c.1,c.2.1,c.2.2])).ck (A.ab (bM (Add.add (List.length l.2.1) (Add.add 0 1))) (A.pure (V.next (D.1,IntKind.wrap .i64 (Add.add D.2.1 1),D.2.2.1,l.1,l.2.1++[A.val (EB ([99,111,109,101,115],[c.1,c.2.1,c.2.2])) []],()))))))) else A.bind (A.pure (V.next (D.1,D.2.2.1,l.1,l.2.1,()))) λr=>A.pure (V.done r)) (D.1,0,D.2.1,D.2.2.1,D.2.2.2.1,())) (V.bz (λ(D:z1'×ba×bp×List aQ×Unit)=>A.bind (A.loop (λ(D:z1'×Int×ba×bp×List aQ×Unit)=>letI m:=D.2.2.2;letI i:=D.2.1<Int.ofNat (List.length m.1.2.2.1);letI b:=List.getD m.1.2.2.1 (Int.toNat D.2.1) (0,0,0,0,[]);if decide i=true then A.ab (0<=D.2.1/\i) (A.ab (bM (Add.add (Add.add (Add.add (Add.add (Add.add 0 1) 1) 1) 1) (List.length b.2.2.2.2))) (A.bind (EB ([112,105,101,99,101],[b.1,b.2.1,b.2.2.1,b.2.2.2.1]++b.2.2.2.2)) (λy=>A.ab (bM (Add.add (List.length m.2.1) (Add.add 0 1))) (A.pure (V.next (D.1,IntKind.wrap .i64 (Add.add D.2.1 1),D.2.2.1,m.1,m.2.1++[y],())))))) else A.bind (A.pure (V.next (D.1,D.2.2.1,m.1,m.2.1,()))) λr=>A.pure (V.done r)) (D.1,0,D.2.1,D.2.2.1,D.2.2.2.1,())) (V.bz (λ(D:z1'×ba×bp×List aQ×Unit)=>A.bind (A.loop (λ(D:z1'×Int×ba×bp×List aQ×Unit)=>letI n:=D.2.2.2;letI h:=D.2.1<Int.ofNat (List.length n.1.2.2.2.1);letI a:=List.getD n.1.2.2.2.1 (Int.toNat D.2.1) ([],(0,0),0,0,0);if decide h=true then A.ab (0<=D.2.1/\h) (A.ab (bM (Add.add (Add.add (Add.add (Add.add (Add.add (Add.add 0 1) 1) 1) 1) 1) (List.length a.1))) (A.bind (EB ([119,105,115,104],[a.2.1.1,a.2.1.2,a.2.2.1,a.2.2.2.1,a.2.2.2.2]++a.1)) (λy=>A.ab (bM (Add.add (List.length n.2.1) (Add.add 0 1))) (A.pure (V.next (D.1,IntKind.wrap .i64 (Add.add D.2.1 1),D.2.2.1,n.1,n.2.1++[y],())))))) else A.bind (A.pure (V.next (D.1,D.2.2.1,n.1,n.2.1,()))) λr=>A.pure (V.done r)) (D.1,0,D.2.1,D.2.2.1,D.2.2.2.1,())) (V.bz (λ(D:z1'×ba×bp×List aQ×Unit)=>letI q:=D.2.2.1;letI e:=Int.ofNat (List.length q.2.1);A.bind (anW D.2.1) λy=>A.ab (0<=e/\e=e/\bM (Int.toNat e)) (A.bind (Pl (((y.1.1,List.replicate (Int.toNat e) 0,[],[],[],y.1.2.2.2.2.2),y.2),D.2.2.2.1)) (λy=>letI s:=y.2.1.1;letI g:=decide (y.2.2≠0);A.bind (cq (!g) (anX (y.1,Int.ofNat (List.length D.2.2.2.1))) false) λdC=>A.bind (cq (!(g||!dC)) (Ex s) 0) λgD=>letI p:=g||!dC||decide (gD≠0);A.bind (cq (!p) (anY ((s,[],[],[],[],0,0,0,0,0,0,0),q,[],[],[],[],0,0,0,0,0,0,0)) false) λlu=>if (p||!lu)=true then A.pure false else A.bind (Is q) λvC=>A.bind (Is s) λAr=>A.bind (A6 q) λZb=>A.bind (A6 s) λZc=>A.bind (Ir (q,D.1)) λZd=>A.bind (Ir (s,D.1)) λy=>letI f:=decide (vC.1=Ar.1)&&decide (vC.2=Ar.2)&&decide (Zb.1=Zc.1)&&decide (Zb.2=Zc.2)&&decide (Zd.1=y.1)&&decide (Zd.2=y.2);A.bind (cq f (Za ()) false) λanZ=>A.pure (f&&anZ)))))))))))
def Ze(an0:Int->A aQ)(x:aQ×z1'):A aQ:=
 A.bind (A.loop (λ(D:aQ×z1'×Int×Unit)=>letI b:=D.2.2.1;letI a:=b<Int.ofNat (List.length D.2.1);if decide a=true then A.ab (0<=b/\a) (A.bind (an0 (List.getD D.2.1 (Int.toNat b) 0)) (λy=>A.ab (bM (Add.add (Add.add 0 1) (List.length y))) (A.ab (bM (Add.add (List.length D.1) (Add.add (List.length y) 1))) (A.pure (V.next (D.1++([32]++y),D.2.1,IntKind.wrap .i64 (Add.add b 1),())))))) else A.bind (A.pure (V.next (D.1,()))) λr=>A.pure (V.done r)) (x.1,x.2,0,())) (V.bz (λ(D:aQ×Unit)=>A.pure D.1))
def It{gx:Type}(c0:z2'->A (z2'))(bE:List (List (Int×z1'×Int×Int))->A (List (List (Int×z1'×Int×Int))))(c2:z2'->A (z2'))(c3:List (Int×z1'×Int×Int)×Unit->A (List (Int×z1'×Int×Int)×Unit))(c4:z1'->A (z1'))(c5:List c1->A (List c1))(lM:List dm->A (List dm))(ox:z3'->A (z3'))(x:bp)(fin:bp->A gx):A gx:=
 A.ab True (A.ab (c0 x.1.1).ck (A.ab True (A.ab (bE x.1.2.1).ck (A.ab True (A.ab (c2 x.1.2.2.2).ck (A.ab True (A.ab True (A.ab True (A.bind (A.ab True (A.loop (λ(D:Int×Int×Int×z1'×List c1×List dm×z3'×Int×Int×Int×z2'×List (List (Int×z1'×Int×Int))×z2'×Unit)=>letI g1:=D.2;letI s:=g1.2.2.2;letI h:=Int.toNat g1.1;letI f:=s.2.2.2;letI v:=f.2.2.2.2;if decide (g1.1<D.1)=true then A.bind (A.ab True (A.ab (0<=g1.1/\g1.1<Int.ofNat (List.length v.1)) (A.ab True (A.ab (h=h) (A.bind (c3 (List.getD v.1 h [],())) (λy=>A.ab True (A.ab (h=h) (A.ab True (A.ab (h=h) (A.loop (λ(D:Nat×Int×Int×Int×Int×Int×z1'×List c1×List dm×z3'×Int×Int×Int×z2'×(List (List (Int×z1'×Int×Int))×Nat)×z2'×List (Int×z1'×Int×Int)×Unit)=>letI g:=D.2.2.2.2;letI z:=g.2.2.2;letI a:=z.2.2.2;letI k:=a.2.2.2.2;letI u:=0<=g.1/\g.1<Int.ofNat (List.length k.2.2.1);letI e:=List.getD k.2.2.1 (Int.toNat g.1) (0,[],0,0);if decide (g.1<D.2.2.2.1)=true then A.ab True (A.ab (D.1=k.1.2) (A.ab True (A.ab (D.1=k.1.2) (A.ab u (A.ab (c4 e.2.1).ck (A.ab u (A.pure (V.next (D.1,D.2.1,D.2.2.1,D.2.2.2.1,IntKind.wrap .i64 (Add.add g.1 1),g.2.1,g.2.2.1,z.1,z.2.1,z.2.2.1,a.1,a.2.1,a.2.2.1,a.2.2.2.1,k.1,k.2.1,List.set k.2.2.1 (Int.toNat g.1) (e.1,A.val (c4 e.2.1) [],e.2.2),()))))))))) else A.bind (A.pure (V.next (D.2.1,D.2.2.1,g.2.1,g.2.2.1,z.1,z.2.1,z.2.2.1,a.1,a.2.1,a.2.2.1,a.2.2.2.1,k.1,k.2.1,k.2.2.1,()))) λr=>A.pure (V.done r)) (h,D.1,g1.1,Int.ofNat (List.length y.1),0,g1.2.1,g1.2.2.1,s.1,s.2.1,s.2.2.1,f.1,f.2.1,f.2.2.1,f.2.2.2.1,(v.1,h),v.2.1,y.1,()))))))))))) (V.bz (λ(D:Int×Int×Int×z1'×List c1×List dm×z3'×Int×Int×Int×z2'×(List (List (Int×z1'×Int×Int))×Nat)×z2'×List (Int×z1'×Int×Int)×Unit)=>letI dL:=D.2.2.2.2;letI j:=dL.2.2.2;letI bE:=j.2.2.2.2;A.pure (V.next (D.1,IntKind.wrap .i64 (Add.add D.2.1 1),D.2.2.1,D.2.2.2.1,dL.1,dL.2.1,dL.2.2.1,j.1,j.2.1,j.2.2.1,j.2.2.2.1,List.set bE.1.1 bE.1.2 bE.2.2.1,bE.2.1,())))) else A.bind (A.pure (V.next (g1.2.1,g1.2.2.1,s.1,s.2.1,s.2.2.1,f.1,f.2.1,f.2.2.1,f.2.2.2.1,v.1,v.2.1,()))) λr=>A.pure (V.done r)) (Int.ofNat (List.length (A.val (bE x.1.2.1) [])),0,x.1.2.2.1,x.2.1,x.2.2.1,x.2.2.2.1,x.2.2.2.2.1,x.2.2.2.2.2,0,0,A.val (c0 x.1.1) [],A.val (bE x.1.2.1) [],A.val (c2 x.1.2.2.2) [],()))) (V.bz (λ(D:Int×z1'×List c1×List dm×z3'×Int×Int×Int×z2'×List (List (Int×z1'×Int×Int))×z2'×Unit)=>letI d1:=D.2.2;letI n:=d1.2.2;A.ab (c4 D.2.1).ck (A.ab (c5 d1.1).ck (A.ab (lM d1.2.1).ck (A.ab (ox n.1).ck (A.bind (A.loop (λ(D:Int×Int×Int×Int×Int×Int×z2'×List (List (Int×z1'×Int×Int))×z2'×z1'×List c1×List dm×z3'×Unit)=>letI ax:=D.2;letI t:=ax.2.2.2;letI d:=t.2.2.2;letI w:=d.2.2.2;letI o:=0<=ax.1/\ax.1<Int.ofNat (List.length w.1);letI b:=List.getD w.1 (Int.toNat ax.1) (0,0,0,0,[]);if decide (ax.1<D.1)=true then A.ab o (A.ab (c4 b.2.2.2.2).ck (A.ab o (A.pure (V.next (D.1,IntKind.wrap .i64 (Add.add ax.1 1),ax.2.1,ax.2.2.1,t.1,t.2.1,t.2.2.1,d.1,d.2.1,d.2.2.1,List.set w.1 (Int.toNat ax.1) (b.1,b.2.1,b.2.2.1,b.2.2.2.1,A.val (c4 b.2.2.2.2) []),w.2.1,w.2.2.1,()))))) else A.bind (A.pure (V.next (ax.2.1,ax.2.2.1,t.1,t.2.1,t.2.2.1,d.1,d.2.1,d.2.2.1,w.1,w.2.1,w.2.2.1,()))) λr=>A.pure (V.done r)) (Int.ofNat (List.length (A.val (c5 d1.1) [])),0,D.1,n.2.1,n.2.2.1,n.2.2.2.1,n.2.2.2.2.1,n.2.2.2.2.2.1,n.2.2.2.2.2.2.1,A.val (c4 D.2.1) [],A.val (c5 d1.1) [],A.val (lM d1.2.1) [],A.val (ox n.1) [],())) (V.bz (λ(D:Int×Int×Int×Int×z2'×List (List (Int×z1'×Int×Int))×z2'×z1'×List c1×List dm×z3'×Unit)=>letI E:=D.2.2.2;letI m:=E.2.2.2;A.bind (A.loop (λ(D:Int×Int×Int×Int×Int×Int×z2'×List (List (Int×z1'×Int×Int))×z2'×z1'×List c1×List dm×z3'×Unit)=>letI f1:=D.2;letI l:=f1.2.2.2;letI c:=l.2.2.2.2;letI b8:=c.2.2.2;letI p:=0<=f1.1/\f1.1<Int.ofNat (List.length b8.1);letI i:=List.getD b8.1 (Int.toNat f1.1) ([],(0,0),0,0,0);if decide (f1.1<D.1)=true then A.ab p (A.ab (c4 i.1).ck (A.ab p (A.pure (V.next (D.1,IntKind.wrap .i64 (Add.add f1.1 1),f1.2.1,f1.2.2.1,l.1,l.2.1,l.2.2.1,l.2.2.2.1,c.1,c.2.1,c.2.2.1,List.set b8.1 (Int.toNat f1.1) (A.val (c4 i.1) [],i.2),b8.2.1,()))))) else A.bind (A.pure (V.next (f1.2.1,f1.2.2.1,l.1,l.2.1,l.2.2.1,l.2.2.2.1,c.1,c.2.1,c.2.2.1,b8.1,b8.2.1,()))) λr=>A.pure (V.done r)) (Int.ofNat (List.length m.2.2.2.1),0,D.1,D.2.1,D.2.2.1,E.1,E.2.1,E.2.2.1,m.1,m.2.1,m.2.2.1,m.2.2.2.1,m.2.2.2.2.1,())) (V.bz (λ(D:Int×Int×Int×Int×z2'×List (List (Int×z1'×Int×Int))×z2'×z1'×List c1×List dm×z3'×Unit)=>letI q:=D.2.2.2.2.2;fin ((D.2.2.2.2.1,q.1,D.1,q.2.1),q.2.2.1,q.2.2.2.1,q.2.2.2.2.1,q.2.2.2.2.2.1,D.2.1))))))))))))))))))))
def iR(s:bp):vW:=(s.1.1,s.1.2.1,s.1.2.2.1,s.2.2.2.2.2,s.1.2.2.2,s.2.1,s.2.2.1,s.2.2.2.1,s.2.2.2.2.1,())
def an1(c0:z2'->A (z2'))(bE:List (List (Int×z1'×Int×Int))->A (List (List (Int×z1'×Int×Int))))(c2:z2'->A (z2'))(c3:List (Int×z1'×Int×Int)×Unit->A (List (Int×z1'×Int×Int)×Unit))(c4:z1'->A (z1'))(c5:List c1->A (List c1))(lM:List dm->A (List dm))(ox:z3'->A (z3'))(x:bp):A bp:=It c0 bE c2 c3 c4 c5 lM ox x A.pure
def an2(c0:z2'->A (z2'))(bE:List (List (Int×z1'×Int×Int))->A (List (List (Int×z1'×Int×Int))))(c2:z2'->A (z2'))(c3:List (Int×z1'×Int×Int)×Unit->A (List (Int×z1'×Int×Int)×Unit))(c4:z1'->A (z1'))(c5:List c1->A (List c1))(lM:List dm->A (List dm))(ox:z3'->A (z3'))(x:bp×Unit):A vW:=It c0 bE c2 c3 c4 c5 lM ox x.1 λs=>A.pure (iR s)
def Zf(Ex:bp->A Int)(an3:z2'×List (List (Int×z1'×Int×Int))×Int×z2'->A Bool)(x:bp):A Bool:=
 A.bind (an3 x.1) λy=>if (y||decide (Int.ofNat (List.length x.2.1) > 40)||decide (Int.ofNat (List.length x.2.2.1) > 40)||decide (Int.ofNat (List.length x.2.2.2.1) > 40)||decide (Int.ofNat (List.length x.2.2.2.2.1) > 40))=true then A.pure true else A.bind (A.loop (λ(D:Int×bp×Unit)=>letI c:=D.1<Int.ofNat (List.length D.2.1.2.2.1);if decide c=true then A.ab (0<=D.1/\c) (if decide (Int.ofNat (List.length (List.getD D.2.1.2.2.1 (Int.toNat D.1) (0,0,0,0,[])).2.2.2.2) > 40)=true then A.bind (A.bind (A.pure true) (λr=>A.pure (V.done r))) λr=>A.pure (V.done r) else A.pure (V.next (IntKind.wrap .i64 (Add.add D.1 1),D.2.1,()))) else A.bind (A.pure (V.next (D.2.1,()))) λr=>A.pure (V.done r)) (0,x,())) (V.bz (λ(D:(bj×z1'×List c1×List dm×z3'×Int)×Unit)=>A.bind (A.loop (λ(D:Int×(bj×z1'×List (Int×Int×Int×Int×z1')×List dm×z3'×Int)×Unit)=>letI b:=D.1<Int.ofNat (List.length D.2.1.2.2.2.1);if decide b=true then A.ab (0<=D.1/\b) (if decide (Int.ofNat (List.length (List.getD D.2.1.2.2.2.1 (Int.toNat D.1) ([],(0,0),0,0,0)).1) > 40)=true then A.bind (A.bind (A.pure true) (λr=>A.pure (V.done r))) λr=>A.pure (V.done r) else A.pure (V.next (IntKind.wrap .i64 (Add.add D.1 1),D.2.1,()))) else A.bind (A.pure (V.next (D.2.1,()))) λr=>A.pure (V.done r)) (0,D.1,())) (V.bz (λ(D:(bj×z1'×List c1×List (z1'×(Int×Int)×Int×Int×Int)×z3'×Int)×Unit)=>A.bind (Ex D.1) λy=>if decide (y≠0)=true then A.pure false else A.bind (A.loop (λ(D:Int×Int×(bj×z1'×List c1×List dm×z3'×Int)×Unit)=>letI d:=D.2.2.1;letI a:=D.2.1<Int.ofNat (List.length d.2.2.1);if decide a=true then A.ab (0<=D.2.1/\a) (A.pure (V.next (IntKind.wrap .i64 (Add.add D.1 (Int.ofNat (List.length (List.getD d.2.2.1 (Int.toNat D.2.1) (0,0,0,0,[])).2.2.2.2))),IntKind.wrap .i64 (Add.add D.2.1 1),d,()))) else A.bind (A.pure (V.next (D.1,d,()))) λr=>A.pure (V.done r)) (0,0,D.1,())) (V.bz (λ(D:Int×(bj×z1'×List c1×List (z1'×(Int×Int)×Int×Int×Int)×z3'×Int)×Unit)=>A.pure (decide (Int.ofNat (List.length D.2.1.2.2.2.1) > 3)||decide (Int.ofNat (List.length D.2.1.2.2.1) > 4)||decide (Int.ofNat (List.length D.2.1.2.2.2.2.1) > 3)||decide (D.1 > 4))))))))
def Zg(an4:Unit->A bj)(x:Unit):A (bp):=
 A.bind (an4 ()) λy=>A.pure (y,[1,0,0,0],[(1,60,0,0,[0]),(1,60,7,0,[]),(2,65,0,1,[0]),(2,60,0,0,[0,1])],[([1],(55,65),7,3,500),([1,2],(60,60),0,5,400),([2],(60,70),9,8,700),([2],(65,65),0,5,300)],[(4,2,1),(6,3,1)],2)
abbrev bx:ad:=.int .i64
abbrev dk:ad:=.bool
abbrev fP:ad:=.slice bx
abbrev mx:ad:=.st (.az bx bx)
abbrev kE:ad:=.st (.az bx (.az bx mx))
abbrev qz:ad:=.st (.az bx (.az fP mx))
abbrev k3:ad:=.st (.slice qz)
abbrev jX:ad:=.st (.az bx (.az bx (.az bx bx)))
abbrev jY:ad:=.st (.az (.slice kE) (.az (.slice k3) (.az bx (.slice jX))))
attribute [simp] qp Vx vw A.dF A.Fq A.Rr A.gL A.fs A.n7 A.jd A.kT A.bX A.pz ch gW Vw V.hn
abbrev cr:aL:=⟨.az bx (.az bx bx),dk,λ_=>True,λx=>decide (x.2.1<=x.1)&&decide (x.1<=x.2.2)⟩
theorem an5(x):A.le (ajE x) (cr.sh x):=A.bu λ_=>rfl
abbrev oU:aL:=⟨.az fP bx,dk,λx=>x.1.length<2 ^ 63,λx=>x.1.contains x.2⟩
abbrev Iu:Type:=Int×Int×Int×Int
abbrev vZ:Type:=Int×z1'×Int×Int
abbrev mz:Type:=Int×Int×Int×Int
def gO(w:bj):Prop:=w.1.length<2 ^ 63/\w.2.1.length<2 ^ 63/\w.2.2.2.length<2 ^ 63/\∀ m∈w.2.1,m.length<2 ^ 63/\∀ s∈m,s.2.1.length<2 ^ 63
def ha(w:bj)(n:Int):Bool:=decide (0<=n)&&decide (n<(w.1.length:Int))
def nl(w:bj)(n:Int):Bool:=decide (0<=n)&&decide (n<(w.2.1.length:Int))
def iT(w:bj)(m:Int):List vZ:=w.2.1.getD m.toNat []
def iU(w:bj)(m k:Int):Bool:=nl w m&&(decide (0<=k)&&decide (k<((iT w m).length:Int)))
theorem sU{w:bj}{n:Int}:ha w n=true<->0<=n/\n<(w.1.length:Int):=by simp[ha]
theorem A7{w:bj}{n:Int}:nl w n=true<->0<=n/\n<(w.2.1.length:Int):=by simp[nl]
theorem A8{w:bj}{m k:Int}:iU w m k=true<->(0<=m/\m<(w.2.1.length:Int))/\0<=k/\k<((iT w m).length:Int):=by simp[iU,nl]
theorem Iv{w:bj}(hw:gO w)(m:Int):(iT w m).length<2 ^ 63:=by
 unfold iT;rw[List.getD_eq_getElem?_getD];cases h:w.2.1[m.toNat]? with
 | none=>simp
 | some x=>exact (hw.2.2.2 x (List.mem_of_getElem? h)).1
theorem rA(n m:Int):decide (n<=m - 1)=decide (n<m):=by
 grind
abbrev pL:aL:=⟨.az jY bx,dk,λx=>gO x.1,λx=>ha x.1 x.2⟩
theorem Zh(w:bj)(n:Int)(h:gO w):NG cr.sh (w,n)=A.pure (ha w n):=by
 unfold NG;have aj:=h.1;have hw:=bC (n:=(w.1.length:Int) - 1) (by omega) (by omega);simp[aL.sh,cr,hw,ha,rA]
theorem an6(x):A.le (NG cr.sh x) (pL.sh x):=A.bu λh=>Zh x.1 x.2 h
abbrev A9:aL:=⟨.az jY bx,dk,λx=>gO x.1,λx=>nl x.1 x.2⟩
theorem an7(w:bj)(n:Int)(h:gO w):NJ cr.sh (w,n)=A.pure (nl w n):=by
 unfold NJ;have aj:=h.2.1;have hw:=bC (n:=(w.2.1.length:Int) - 1) (by omega) (by omega);simp[aL.sh,cr,hw,nl,rA]
theorem an8(x):A.le (NJ cr.sh x) (A9.sh x):=A.bu λh=>an7 x.1 x.2 h
abbrev rB:aL:=⟨.az jY (.az bx bx),dk,λx=>gO x.1,λx=>iU x.1 x.2.1 x.2.2⟩
theorem Zi(w:bj)(m k:Int)(h:gO w):HI cr.sh A9.sh (w,m,k)=A.pure (iU w m k):=by
 unfold HI;have aj:=Iv h m;have hw:=bC (n:=((iT w m).length:Int) - 1) (by omega) (by omega);unfold iT at hw;simp only[aL.sh,cr,A9,A.dF,A.jd,bV,hw,rA,A.bo h];rw[A.bo,A.bo (by simp)]
 ·simp only[iU,iT];simp
 ·intro hm;exact⟨⟨hm,hm⟩,A7.1 hm,trivial⟩
theorem an9(x):A.le (HI cr.sh A9.sh x) (rB.sh x):=A.bu λh=>Zi x.1 x.2.1 x.2.2 h
def v7(s:Int×Int):Bool:=(decide (0<=s.1)&&decide (s.1<=s.2))&&decide (s.2<=999)
abbrev o0:aL:=⟨mx,dk,λ_=>True,v7⟩
theorem Zj(s:Int×Int):NM cr.sh s=A.pure (v7 s):=by
 unfold NM;simp[aL.sh,cr,v7]
theorem an_(x):A.le (NM cr.sh x) (o0.sh x):=A.bu λ_=>Zj x
def rv(l:z1'):Bool:=(List.range (l.length - 1)).all λi=>decide (l.getD i 0<l.getD (i+1) 0)
abbrev uv:aL:=⟨fP,dk,λx=>x.length<2 ^ 63,rv⟩
theorem Zk(l:z1')(h:l.length<2 ^ 63):NI l=A.pure (rv l):=by
 unfold NI;rw[A.dB (List.range (l.length - 1)) (λi (_:Unit)=>(l,((i+1:Nat):Int),())) (λi b=>if (decide (l.getD i 0<l.getD (i+1) 0))=true then .next b else .done (.done false)) (λ_=>.next ()) () ?_ ?_ ?_]
 ·rw[HD];unfold rv;cases (List.range (l.length - 1)).all λi=>decide (l.getD i 0<l.getD (i+1) 0)<;>simp
 ·simp
 ·intro i G b;have dO:i+1<l.length:=by grind
  have hw:=bC (n:=(i:Int)+1+1) (by omega) (by omega);have gU:=bC (n:=(i:Int)+1 - 1) (by omega) (by omega);have ax:((i:Int)+1).toNat=i+1:=by omega
  have aM:((i:Int)+1 - 1).toNat=i:=by omega
  have b_:(0:Int)<=(i:Int)+1/\(i:Int)+1<(l.length:Int):=by omega
  have cy:(0:Int)<=(i:Int)+1 - 1/\(i:Int)+1 - 1<(l.length:Int):=by omega
  simp only[bV,Int.natCast_add,Int.cast_ofNat_Int,hw,gU,b_,cy,A.bo,ax,aM,ch,List.getElem_range,decide_eq_true_eq,if_true,A.aF,decide_true,and_self,Int.natCast_one];generalize l.getD i 0=aK;generalize l.getD (i+1) 0=B;by_cases hc:aK<B
  ·simp[hc,Int.not_le.2 hc]
  ·simp[hc,Int.not_lt.1 hc]
 ·intro b;have:¬(((List.range (l.length - 1)).length:Int)+1<(l.length:Int)):=by grind
  simp[this];omega
theorem an'(x):A.le (NI x) (uv.sh x):=A.bu λh=>Zk x h
def qA(n:Int):Bool:=decide (0<=n)&&decide (n<=9)
def pM(s:vZ):Bool:=s.2.1.all qA&&(qA s.1&&decide ((s.2.1.length:Int)<=4)&&rv s.2.1&&v7 s.2.2)
def rC(s:Iu):Bool:=qA s.1&&qA s.2.1&&v7 s.2.2
def sV(w:bj)(t:mz):Bool:=ha w t.1&&iU w t.2.1 t.2.2.1&&(decide (0<=t.2.2.2)&&decide (t.2.2.2<=1))
def pN(m:List vZ):Bool:=!decide ((m.length:Int) > 4)&&m.all pM
def v8(w:bj):Bool:=!(decide ((w.1.length:Int) > 10)||decide ((w.2.1.length:Int) > 6)||!(decide (0<=w.2.2.1)&&decide (w.2.2.1<=99))||decide ((w.2.2.2.length:Int) > 30))
def kF(w:bj):Bool:=v8 w&&w.1.all rC&&w.2.1.all pN&&w.2.2.2.all (sV w)
abbrev sW:aL:=⟨qz,dk,λx=>x.2.1.length<2 ^ 63,pM⟩
theorem aoa(s:vZ)(h:s.2.1.length<2 ^ 63):NN uv.sh cr.sh o0.sh s=A.pure (pM s):=by
 unfold NN;rw[A.dB s.2.1 (λi (_:Unit)=>((i:Int),s,())) (λn b=>if qA n=true then .next b else .done (.done false)) (λ_=>.next (s,())) () ?_ ?_ ?_]
 ·rw[HD];unfold pM;cases s.2.1.all qA with
  | false=>simp
  | true=>
   simp only[aL.sh,cr,uv,o0,A.bo h,qA,if_true,A.aF,A.bX,A.dF,A.jd,A.br,bV,h,implies_true,Bool.true_and];simp
 ·rfl
 ·intro i G b;have hw:=bC (n:=(i:Int)+1) (by omega) (by omega);simp[aL.sh,cr,G,hw,qA];grind
 simp
theorem aob(x):A.le (NN uv.sh cr.sh o0.sh x) (sW.sh x):=A.bu λh=>aoa x h
abbrev sX:aL:=⟨jY,dk,gO,kF⟩
theorem aoc(w:bj)(h:gO w):NK pL.sh rB.sh cr.sh o0.sh sW.sh w=A.pure (kF w):=by
 have aD:=h;obtain⟨E,U,ah,a1⟩:=h;unfold NK;simp only[aL.sh,cr,A.jd,A.dF,implies_true,A.br,bV,qp];split
 ·rename_i hc;have:v8 w=false:=by unfold v8;grind
  simp[kF,this]
 ·rename_i hc;have cW:v8 w=true:=by unfold v8;grind
  have ayg:w.2.1.length<=6:=by grind
  rw[A.dB w.1 (λi (_:Unit)=>((i:Int),w,())) (λn b=>if (!qA n.1||!qA n.2.1||!v7 n.2.2)=true then .done (.done false) else .next b) (λ_=>.next (w,())) () ?_ ?_ ?_]
  ·rw[kU (q:=rC) _ _ (λt=>by simp only[rC,Bool.not_and])];cases ik:w.1.all rC with
   | false=>simp[kF,ik]
   | true=>
    simp only[A.aF,if_true,A.bX];rw[A.dB w.2.1 (λi (_:Unit)=>((i:Int),w,())) (λm b=>if pN m=true then .next b else .done (.done false)) (λ_=>.next (w,())) () ?_ ?_ ?_]
    ·rw[HD];cases aT:w.2.1.all pN with
     | false=>simp[kF,aT]
     | true=>
      simp only[A.aF,if_true,A.bX];rw[A.dB w.2.2.2 (λi (_:Unit)=>((i:Int),w,())) (λt b=>if (!ha w t.1||!iU w t.2.1 t.2.2.1||!(decide (0<=t.2.2.2)&&decide (t.2.2.2<=1)))=true then .done (.done false) else .next b) (λ_=>.next ()) () ?_ ?_ ?_]
      ·rw[kU (q:=sV w) _ _ (λt=>by simp only[sV,Bool.not_and])];cases jo:w.2.2.2.all (sV w)<;>simp[kF,ik,aT,jo,cW]
      ·rfl
      ·intro i G b;have hw:=bC (n:=(i:Int)+1) (by omega) (by omega);simp only[bV,cT G,if_true,df G,cG G,A.br,aL.sh,pL,rB,A.dF,A.jd,aD,implies_true,qp,A.aF,ch,hw];exact nc (mk:=λ_:Unit=>((i:Int)+1,w,()))
      simp
    ·rfl
    ·intro i G b;have hw:=bC (n:=(i:Int)+1) (by omega) (by omega);obtain⟨ke,pt⟩:=a1 w.2.1[i] (List.getElem_mem G);simp only[bV,Int.ofNat_lt,G,decide_true,if_true,df G,Int.natCast_nonneg,and_self,A.br];by_cases hlen:(w.2.1[i].length:Int) > 4
     ·simp[hlen,pN]
     ·simp only[hlen,decide_false,Bool.false_eq_true,if_false];rw[A.dB w.2.1[i] (λk (_:Unit)=>((i:Int),(k:Int),w,())) (λs b=>if (!pM s)=true then .done (.done (.done (.done false))) else .next b) (λ_=>.next ((i:Int),w,())) () ?_ ?_ ?_]
      ·rw[kU (q:=pM) _ _ (λ_=>rfl)];cases Pn:w.2.1[i].all pM<;>simp[pN,Pn,hlen,hw]
      ·rfl
      ·intro k al b;have l4:=bC (n:=(k:Int)+1) (by omega) (by omega);have A_:=pt w.2.1[i][k] (List.getElem_mem al);simp only[bV,cT al,cT G,if_true,df G,df al,cG G,cG al,A.br,sW,A.dF,A_,A.bo A_,A.aF,ch,l4];exact nc (mk:=λ_:Unit=>((i:Int),(k:Int)+1,w,()))
      simp_all
    simp
  ·rfl
  ·intro i G b;have hw:=bC (n:=(i:Int)+1) (by omega) (by omega);simp only[bV,cT G,if_true,df G,cG G,A.br,aL.sh,o0,A.dF,A.jd,implies_true,qp,A.aF,ch,hw,Bool.not_not];exact nc (mk:=λ_:Unit=>((i:Int)+1,w,()))
  simp
theorem aod(x):A.le (NK pL.sh rB.sh cr.sh o0.sh sW.sh x) (sX.sh x):=A.bu λh=>aoc x h
abbrev qB:mz:=(0,0,0,0)
def nm(a b:mz):Bool:=decide (a.1=b.1)&&decide (a.2.1=b.2.1)&&decide (a.2.2.1=b.2.2.1)&&decide (a.2.2.2≠b.2.2.2)
def n6(l:List mz):Bool:=(List.range l.length).all λi=>(List.range i).all λk=>!nm (l.getD k qB) (l.getD i qB)
def cM(w:bj):Int:=if kF w=true then (if n6 w.2.2.2=true then 0 else 71) else 70
theorem Zl{a b:Nat}(h:a<b):((0:Int)<=(a:Int)/\(a:Int)<(b:Int))=True:=cG h
abbrev hZ:aL:=⟨jY,bx,gO,cM⟩
theorem aoe(w:bj)(h:gO w):NH sX.sh w=A.pure (cM w):=by
 have aD:=h;obtain⟨E,U,ah,a1⟩:=h;unfold NH;simp only[aL.sh,sX,A.dF,A.bo aD];unfold cM;cases hw:kF w with
 | false=>simp
 | true=>
  simp only[Bool.not_true,Bool.false_eq_true,if_false,if_true];rw[A.dB (List.range w.2.2.2.length) (λi (_:Unit)=>((i:Int),w,())) (λi b=>if (List.range i).any (λk=>nm (w.2.2.2.getD k qB) (w.2.2.2.getD i qB))=true then .done (.done (71:Int)) else .next b) (λ_=>.next ()) () ?_ ?_ ?_]
  ·rw[kU (q:=λi=>(List.range i).all λk=>!nm (w.2.2.2.getD k qB) (w.2.2.2.getD i qB)) _ _ (λi=>Vz (λk=>by simp) _)];have e:((List.range w.2.2.2.length).all λi=>(List.range i).all λk=>!nm (w.2.2.2.getD k qB) (w.2.2.2.getD i qB))=n6 w.2.2.2:=rfl;rw[e];cases n6 w.2.2.2<;>simp
  ·rfl
  ·intro i G b;have G:i<w.2.2.2.length:=by grind
   have h1:=bC (n:=(i:Int)+1) (by omega) (by omega);simp only[bV,cT G,if_true,List.getElem_range];rw[A.dB (List.range i) (λk (_:Unit)=>((i:Int),(k:Int),w,())) (λk b=>if nm (w.2.2.2.getD k qB) (w.2.2.2.getD i qB)=true then .done (.done (.done (.done (71:Int)))) else .next b) (λ_=>.next ((i:Int),w,())) () ?_ ?_ ?_]
   ·rw[sB];cases (List.range i).any (λk=>nm (w.2.2.2.getD k qB) (w.2.2.2.getD i qB))<;>simp[h1]
   ·rfl
   ·intro k al b;have al:k<i:=by grind
    have vL:k<w.2.2.2.length:=by omega
    have l4:=bC (n:=(k:Int)+1) (by omega) (by omega);simp only[cT al,if_true,List.getElem_range,Zl vL,Zl G,A.br,Int.toNat_natCast,A.aF,ch,l4];exact nc (mk:=λ_:Unit=>((i:Int),(k:Int)+1,w,()))
   simp
  simp
theorem aof(x):A.le (NH sX.sh x) (hZ.sh x):=A.bu λh=>aoe x h
def gF(w:bj)(i:Int):Iu:=w.1.getD i.toNat (0,0,0,0)
def uw(w:bj)(m k:Int):vZ:=(iT w m).getD k.toNat (0,[],0,0)
theorem aog{w:bj}{i:Int}(h:ha w i=true):gF w i∈w.1:=by
 rw[sU]at h;exact xY h.1 h.2
theorem Po{w:bj}{m k:Int}(h:iU w m k=true):iT w m∈w.2.1:=by
 rw[A8]at h;exact xY h.1.1 h.1.2
theorem Zm{w:bj}{m k:Int}(h:iU w m k=true):uw w m k∈iT w m:=by
 rw[A8]at h;exact xY h.2.1 h.2.2
theorem A'{w:bj}(h:kF w=true):v8 w=true/\(∀ s∈w.1,rC s=true)/\(∀ m∈w.2.1,pN m=true)/\∀ t∈w.2.2.2,sV w t=true:=by
 simp only[kF,Bool.and_eq_true,List.all_eq_true]at h;grind
theorem Ba{w:bj}(h:kF w=true):w.1.length<=10/\w.2.1.length<=6/\(0<=w.2.2.1/\w.2.2.1<=99)/\w.2.2.2.length<=30:=by
 have:=(A' h).1;simp[v8]at this;omega
theorem aoh{w:bj}(h:kF w=true){m k:Int}(hm:iU w m k=true):(iT w m).length<=4:=by
 have:=(A' h).2.2.1 _ (Po hm);simp[pN]at this;omega
theorem aoi{w:bj}(h:kF w=true){m k:Int}(hm:iU w m k=true):pM (uw w m k)=true:=by
 have:=(A' h).2.2.1 _ (Po hm);simp only[pN,Bool.and_eq_true,List.all_eq_true]at this;exact this.2 _ (Zm hm)
theorem aoj{s:vZ}(h:pM s=true):0<=s.2.2.1/\s.2.2.1<=s.2.2.2/\s.2.2.2<=999:=by
 simp only[pM,v7,Bool.and_eq_true,decide_eq_true_eq]at h;omega
theorem Zn{w:bj}(h:kF w=true){i:Int}(G:ha w i=true):0<=(gF w i).2.2.1/\(gF w i).2.2.1<=(gF w i).2.2.2/\(gF w i).2.2.2<=999:=by
 have:=(A' h).2.1 _ (aog G);simp only[rC,v7,Bool.and_eq_true,decide_eq_true_eq]at this;omega
theorem aok{w:bj}(h:kF w=true){t:mz}(aH:t∈w.2.2.2):ha w t.1=true/\iU w t.2.1 t.2.2.1=true:=by
 have:=(A' h).2.2.2 _ aH;simp only[sV,Bool.and_eq_true]at this;grind
def v_(w:bj)(i n m k:Int):Bool:=
 decide ((gF w i).1=(uw w m k).1)&&(uw w m k).2.1.contains (gF w i).2.1&&(decide ((uw w m k).2.2.1<=n)&&decide (n<=(uw w m k).2.2.2+w.2.2.1))
def qC(w:bj):Prop:=gO w/\kF w=true
abbrev EC:aL:=⟨.az jY (.az bx (.az bx (.az bx bx))),dk,λx=>qC x.1/\ha x.1 x.2.1=true/\iU x.1 x.2.2.2.1 x.2.2.2.2=true,λx=>v_ x.1 x.2.1 x.2.2.1 x.2.2.2.1 x.2.2.2.2⟩
theorem aol(w:bj)(i n m k:Int)(hw:qC w)(G:ha w i=true)(hm:iU w m k=true):VI oU.sh cr.sh (w,i,n,m,k)=A.pure (v_ w i n m k):=by
 unfold VI;have b_:=sU.1 G;have cy:=A8.1 hm;have fm:=aoj (aoi hw.2 hm);have Se:=(Ba hw.2).2.2.1;have A_:(uw w m k).2.1.length<2 ^ 63:=(hw.1.2.2.2 _ (Po hm)).2 _ (Zm hm);have h1:=bC (n:=(uw w m k).2.2.2+w.2.2.1) (by omega) (by omega);unfold v_;simp only[uw,iT,gF]at *
 simp only[aL.sh,oU,cr,A.jd,A.dF,bV,b_,cy,and_self,A.br,implies_true,ch,h1,vw,A.bo (λ_=>A_),A_];rfl
def ux(w:bj)(i n:Int)(t:mz):Bool:=!(decide (t.1=i)&&!decide (v_ w i n t.2.1 t.2.2.1=decide (t.2.2.2=1)))
def Pp(w:bj)(i n:Int):Bool:=w.2.2.2.all (ux w i n)&&(decide ((gF w i).2.2.1<=n)&&decide (n<=(gF w i).2.2.2))
def hb(w:bj)(i:Int):z1':=(ev (gF w i).2.2.1 (gF w i).2.2.2).filter (Pp w i)
theorem Zo{w:bj}{i:Int}(hw:qC w)(G:ha w i=true):(hb w i).length<=1000:=by
 have:=Zn hw.2 G;have U:=List.length_filter_le (Pp w i) (ev (gF w i).2.2.1 (gF w i).2.2.2);rw[xZ]at U;unfold hb;omega
theorem aom{w:bj}{i:Nat}(h:i<w.1.length):ha w (i:Int)=true:=by rw[sU];omega
def v'(w:bj):Bool:=(List.range w.1.length).all λi=>!decide (((hb w (i:Int)).length:Int)=0)
def eK(w:bj)(cb:Bool):Int:=if cM w≠0 then cM w else if cb=false then 1 else if v' w=true then 0 else 3
theorem Pq{w:bj}(h:cM w=0):kF w=true:=by
 unfold cM at h;grind
theorem ED{w:bj}{cb:Bool}(h:eK w cb=0):cM w=0/\cb=true/\v' w=true:=by
 unfold eK at h;grind
theorem Zp{w:bj}{cb:Bool}(aD:gO w)(h:eK w cb=0):qC w:=⟨aD,Pq (ED h).1⟩
theorem aon{w:bj}(h:v' w=true){i:Int}(G:ha w i=true):0<(hb w i).length:=by
 rw[sU]at G;have:=List.all_eq_true.1 h i.toNat (by grind);grind
def wa(w:bj)(i:Int):(Int×Int)×Int:=if eK w (ha w i)≠0 then ((0,0),eK w (ha w i)) else (((hb w i).getD 0 0,(hb w i).getD ((hb w i).length - 1) 0),0)
abbrev yj:aL:=⟨.az jY bx,.az mx bx,λx=>gO x.1,λx=>wa x.1 x.2⟩
def Iw(some many:Int):Int:=if some=many then 1 else if some=0 then 2 else 3
abbrev Ix:aL:=⟨.az bx bx,bx,λ_=>True,λx=>Iw x.1 x.2⟩
theorem Zq{ak:Type}{p:ak->Bool}:∀ (l:List ak) (n:Int),l.foldl (λn x=>if p x=true then n+1 else n) n=n+(l.countP p:Int)
 | [],n=>by simp
 | x::l,n=>by
  simp only[List.foldl_cons,List.countP_cons];rw[Zq l];grind
def uy(w:bj)(i m k:Int):Int:=Iw ((hb w i).countP λn=>v_ w i n m k:Int) ((hb w i).length:Int)
def qD(w:bj)(i m k:Int):Int×Int:=if eK w (ha w i&&iU w m k)≠0 then (0,eK w (ha w i&&iU w m k)) else (uy w i m k,0)
abbrev Bb:aL:=⟨.az jY (.az bx (.az bx bx)),.az bx bx,λx=>gO x.1,λx=>qD x.1 x.2.1 x.2.2.1 x.2.2.2⟩
section
variable {ak:Type}
def x6(d:ak)(x:List ak×(ak->A Bool)):A Int:=
 A.bind (A.loop (λ(D:List ak×(ak->A Bool)×Int×Int×Unit)=>if decide (D.2.2.2.1<D.2.2.1)=true then A.ab (0<=D.2.2.2.1/\
 D.2.2.2.1<Int.ofNat (List.length D.1)) (A.bind (D.2.1 (List.getD D.1 (Int.toNat D.2.2.2.1) d)) λy=>if y=true then A.bind (A.bind (A.pure
 D.2.2.2.1) λr=>A.pure (V.done r)) λr=>A.pure (V.done r) else A.pure (V.next (D.1,D.2.1,D.2.2.1,IntKind.wrap .i64 (Add.add
 D.2.2.2.1 1),()))) else A.bind (A.pure (V.next ())) λr=>A.pure (V.done r)) (x.1,x.2,Int.ofNat (List.length x.1),0,())) (V.bz λ(D
 : Unit)=>A.pure (-1))
def D_(c:List ak×(ak->A Bool)->A Int)(x:List ak×(ak->A Bool)):A Bool:=A.bind (c x) λy=>A.pure (decide (y>=0))
def Zr(c:List ak×(ak->A Bool)->A Bool)(bE:ak×Option (ak->A Bool)->A Bool)(x:List ak×(ak->A Bool)):A Bool:=
 A.bind (c (x.1,λhy=>bE (hy,some x.2))) λy=>A.pure !y
def Zs(x:ak×Option (ak->A Bool)):A Bool:=A.bind (Option.getD x.2 (λx=>{ ck:=False,bL:=λx=>False }) x.1) λy=>A.pure !y
def hO(p:ak->Bool):List ak->Int->Int
 | [],_=>-1
 | x::l,i=>if p x=true then i else hO p l (i+1)
theorem Ax(p:ak->Bool):∀ (l:List ak) (i:Int),0<=i->(decide (hO p l i>=0))=l.any p
 | [],i,_=>by rfl
 | x::l,i,h=>by
  simp only[hO,List.any_cons];by_cases ag:p x=true
  ·grind
  ·have:=Ax p l (i+1) (by omega);grind
theorem Ay(p:ak->Bool):∀ (l:List ak) (i:Int),eZ (λx (i:Int)=>if p x=true then (.done (.done i):V Int (V Unit Int)) else .next (i+1)) (λ_=>.next ()) l i=if l.any p=true then .done (hO p l i) else .next ()
 | [],i=>by rfl
 | x::l,i=>by
  simp only[eZ,List.any_cons,hO];by_cases ag:p x=true
  ·grind
  ·have:=Ay p l (i+1);grind
theorem D'{p:ak->Bool}:∀ (l:List ak) (i:Int),¬l.any p=true->hO p l i=-1
 | [],_,_=>rfl
 | x::l,i,aw=>by
  simp only[List.any_cons,Bool.or_eq_true,not_or]at aw;simp only[hO,aw.1,Bool.false_eq_true,if_false];exact D' l _ aw.2
theorem Ou(d:ak)(l:List ak)(f:ak->A Bool)(h:l.length<2 ^ 63)(ao:∀ y∈l,∃ b,f y=A.pure b):x6 d (l,f)=A.pure (hO (λy=>(f y).val false) l 0):=by
 unfold x6;rw[A.fC l (λi (b:Int)=>(l,f,(l.length:Int),b,())) (λy (i:Int)=>if (f y).val false=true then (.done (.done i):V Int (V Unit Int)) else .next (i+1)) (λ_=>.next ()) (λi b=>b=(i:Int)) 0 ?_ ?_ ?_ ?_]
 ·rw[Ay (λy=>(f y).val false)];by_cases a8:(l.any λy=>(f y).val false)=true
  ·simp[a8]
  ·have:hO (λy=>(f y).val false) l 0=-1:=by
    have:∀ (l:List ak) (i:Int),¬(l.any λy=>(f y).val false)=true->hO (λy=>(f y).val false) l i=-1:=by
     intro l;induction l with
     | nil=>intro i _;rfl
     | cons x l aJ=>
      intro i aw;simp only[List.any_cons,Bool.or_eq_true,not_or]at aw;simp only[hO,aw.1,Bool.false_eq_true,if_false];grind
    grind
   simp[a8,this]
 ·rfl
 ·rfl
 ·intro i G b W;subst W;have hw:=bC (n:=(i:Int)+1) (by omega) (by omega);refine⟨?_,λbd cR=>?_⟩
  ·obtain⟨b,W⟩:=ao _ (List.getElem_mem G);simp only[bV,cT G,if_true,df G,cG G,A.br,W,A.fs,A.aF,ch,hw];split<;>rfl
  grind
 simp
end
abbrev kZ(e:ad):aL:=⟨.az (.slice e) (.fn e .bool),bx,λx=>x.1.length<2 ^ 63/\∀ y∈x.1,∃ b,x.2 y=A.pure b,λx=>hO (λy=>(x.2 y).val false) x.1 0⟩
theorem sH(e:ad)(x):A.le (x6 e.dh x) ((kZ e).sh x):=A.bu λh=>Ou e.dh x.1 x.2 h.1 h.2
abbrev je(e:ad):aL:=⟨.az (.slice e) (.fn e .bool),dk,λx=>x.1.length<2 ^ 63/\∀ y∈x.1,∃ b,x.2 y=A.pure b,λx=>x.1.any λy=>(x.2 y).val false⟩
theorem sI(e:ad)(x):A.le (D_ (kZ e).sh x) ((je e).sh x):=A.bu λh=>by
 unfold D_;simp only[aL.sh,kZ,A.dF];rw[A.bo (by exact h)];exact congrArg A.pure (Ax (λy=>(x.2 y).val false) x.1 0 (by omega))
abbrev wb(e:ad):aL:=⟨.az e (.bH (.fn e .bool)),dk,λx=>∃ f,x.2=some f/\∃ b,f x.1=A.pure b,λx=>!((x.2.getD λ_=>A.fail) x.1).val false⟩
theorem EE(e:ad)(x):A.le (Zs x) ((wb e).sh x):=A.bu λh=>by
 obtain⟨y,o⟩:=x;obtain⟨f,ao,b,W⟩:=h;change o=some f at ao;subst ao;change f y=A.pure b at W;unfold Zs;simp_all
abbrev jz(e:ad):aL:=⟨.az (.slice e) (.fn e .bool),dk,λx=>x.1.length<2 ^ 63/\∀ y∈x.1,∃ b,x.2 y=A.pure b,λx=>x.1.all λy=>(x.2 y).val false⟩
theorem EF(e:ad)(x):A.le (Zr (je e).sh (wb e).sh x) ((jz e).sh x):=A.bu λh=>by
 obtain⟨l,f⟩:=x;obtain⟨E,U⟩:=h;unfold Zr;have hc:∀ y∈l,(wb e).sh (y,some f)=A.pure (!(f y).val false):=λy aS=>by
  obtain⟨b,W⟩:=U y aS;exact A.bR ⟨f,rfl,b,W⟩ _
 simp only[aL.sh,je,A.dF];rw[A.bo ⟨E,λy aS=>⟨_,hc y aS⟩⟩];refine congrArg A.pure ?_;rw[List.not_any_eq_all_not];simp
end Go.Fer
namespace Go.Fer
open A (V)
theorem Iy{ak:Type}{p q:ak->Bool}:∀ {l:List ak},(∀ x∈l,p x=q x)->l.all p=l.all q
 | [],_=>rfl
 | x::l,h=>by
  grind
theorem aoo(x):A.le (ajX x) (cr.sh x):=A.bu λ_=>rfl
theorem aop(x):A.le (ajY cr.sh x) (o0.sh x):=A.bu λ_=>Zj x
abbrev yk:aL:=⟨bx,dk,λ_=>True,qA⟩
theorem aoq(x):A.le (VP cr.sh x) (yk.sh x):=A.bu λ_=>by
 unfold VP;simp only[aL.sh,cr,A.dF,A.br,yk,qA]
theorem aor(x):A.le (ajU cr.sh x) (pL.sh x):=A.bu λh=>Zh x.1 x.2 h
theorem aos(x):A.le (VN cr.sh x) (rB.sh x):=A.bu λh=>by
 obtain⟨w,m,k⟩:=x;change gO w at h;have:=Zi w m k h;unfold HI at this;unfold VN;simp only[aL.sh,A9,A.dF,A.bo h,cr,A.br,bV]at this ⊢;have aj:=h.2.1;have hw:=bC (n:=(w.2.1.length:Int) - 1) (by omega) (by omega);simp only[hw,rA];exact this
theorem aot(x):A.le (ajW x) (uv.sh x):=A.bu λh=>Zk x h
theorem aou(l:z1')(n:Int)(h:l.length<2 ^ 63):NO (l,n)=A.pure (hO (λy=>decide (n=y)) l 0):=by
 unfold NO;rw[A.fC l (λi (b:Int)=>(l,n,(l.length:Int),b,())) (λy (i:Int)=>if decide (n=y)=true then (.done (.done i):V Int (V Unit Int)) else .next (i+1)) (λ_=>.next ()) (λi b=>b=(i:Int)) 0 ?_ ?_ ?_ ?_]
 ·rw[Ay (λy=>decide (n=y))];by_cases a8:(l.any λy=>decide (n=y))=true
  ·simp_all
  ·rw[if_neg a8,D' l 0 a8];simp
 ·rfl
 ·rfl
 ·intro i G b W;subst W;have hw:=bC (n:=(i:Int)+1) (by omega) (by omega);refine⟨?_,λbd cR=>?_⟩
  ·simp only[bV,cT G,if_true,df G,cG G,A.br,A.aF,ch,hw];split<;>rfl
  grind
 simp
abbrev Iz:aL:=⟨.az fP bx,bx,λx=>x.1.length<2 ^ 63,λx=>hO (λy=>decide (x.2=y)) x.1 0⟩
theorem aov(x):A.le (NO x) (Iz.sh x):=A.bu λh=>aou x.1 x.2 h
theorem aow(x):A.le (VK Iz.sh x) (oU.sh x):=A.bu λh=>by
 unfold VK;simp only[aL.sh,Iz,A.dF];rw[A.bo (by exact h),Ax _ _ _ (by omega)];grind
theorem aox(x):A.le (VO yk.sh o0.sh x) ((⟨kE,dk,λ_=>True,rC⟩:aL).sh x):=A.bu λ_=>by
 unfold VO;simp only[aL.sh,yk,o0,A.dF,A.jd,A.br,implies_true,vw,rC]
abbrev IA:aL:=⟨kE,dk,λ_=>True,rC⟩
theorem aoy(x):A.le (VQ uv.sh (jz bx).sh yk.sh o0.sh x) (sW.sh x):=A.bu λh=>by
 unfold VQ;simp only[aL.sh,uv,o0,jz,yk,A.dF,A.jd,A.br,implies_true,A.gL];rw[A.bo (by exact λ_=>⟨h,λy _=>⟨_,A.bR trivial _⟩⟩),A.bo (by omega)];simp only[vw,bV];refine congrArg A.pure ?_;show _=pM x;unfold pM;grind
abbrev Bc:aL:=⟨.az k3 (.bH (.fn qz .bool)),dk,λx=>∃ f,x.2=some f/\x.1.length<2 ^ 63/\∀ y∈x.1,∃ b,f y=A.pure b,λx=>decide ((x.1.length:Int)<=4)&&x.1.all λy=>((x.2.getD λ_=>A.fail) y).val false⟩
theorem aoz(x):A.le (VR (jz qz).sh x) (Bc.sh x):=A.bu λh=>by
 obtain⟨m,o⟩:=x;obtain⟨f,ao,E,U⟩:=h;change o=some f at ao;subst ao;unfold VR;simp only[aL.sh,jz,A.dF,A.jd,Option.getD_some];simp_all
abbrev Bd:aL:=⟨.az jX (.bH jY),dk,λx=>∃ w,x.2=some w/\gO w,λx=>sV (x.2.getD ([],[],0,[])) x.1⟩
theorem aoA(x):A.le (VS pL.sh rB.sh cr.sh x) (Bd.sh x):=A.bu λh=>by
 obtain⟨t,o⟩:=x;obtain⟨w,ao,E⟩:=h;change o=some w at ao;subst ao;unfold VS;simp only[aL.sh,pL,rB,cr,A.dF,A.jd,Option.getD_some,A.bo E,E,implies_true,A.br,vw,Bd,sV]
theorem aoB(x):A.le (VM cr.sh (jz kE).sh (jz k3).sh (jz jX).sh Bc.sh Bd.sh IA.sh sW.sh x) (sX.sh x):=A.bu λh=>by
 have aX:gO x:=h;obtain⟨E,U,ah,a1⟩:=(h:gO x)
 unfold VM;have d1:∀ s,IA.sh s=A.pure (rC s):=λ_=>rfl;have d2:∀ m∈x.2.1,Bc.sh (m,some sW.sh)=A.pure (pN m):=λm hm=>by
  refine (A.bR ⟨_,rfl,(a1 m hm).1,λy aS=>⟨_,A.bR ((a1 m hm).2 y aS) _⟩⟩ _).trans (congrArg A.pure ?_);simp only[Bc,Option.getD_some,pN,aL.sh,A.gL];grind
 have d3:∀ t,Bd.sh (t,some x)=A.pure (sV x t):=λt=>A.bR ⟨_,rfl,aX⟩ _;have b8:(x.1.all λy=>(IA.sh y).val false)=x.1.all rC:=Iy λs _=>A.gL;have a2:(x.2.1.all λy=>(Bc.sh (y,some sW.sh)).val false)=x.2.1.all pN:=Iy λm hm=>(congrArg (λz:A Bool=>z.val false) (d2 m hm)).trans A.fs;have a3:(x.2.2.2.all λy=>(Bd.sh (y,some x)).val false)=x.2.2.2.all (sV x):=Iy λt _=>A.gL;have ax:∀ y,(jz kE).sh y=A.dR ((jz kE).pre y) ((jz kE).g y):=λ_=>rfl;have aM:∀ y,(jz k3).sh y=A.dR ((jz k3).pre y) ((jz k3).g y):=λ_=>rfl;have cD:∀ y,(jz jX).sh y=A.dR ((jz jX).pre y) ((jz jX).g y):=λ_=>rfl;have et:∀ y,cr.sh y=A.pure (cr.g y):=λ_=>rfl;simp only[ax,aM,cD,et,A.dF,A.jd,A.kT,A.aF];rw[A.bo (by grind),A.bo (by grind),A.bo (by exact λ_=>⟨ah,λy _=>⟨_,d3 y⟩⟩)];simp only[vw,bV];refine congrArg A.pure ?_;show _=kF x;rw[b8,a2,a3];unfold kF v8;grind
def o1(m:z5')(k:Int×Int×Int):Option Int:=Option.map (λx=>x.2) (List.find? (λp=>decide (k.1=p.1.1)&&(decide (k.2.1=p.1.2.1)&&decide (k.2.2=p.1.2.2))) m)
def uz(m:z4')(k:Int):Option Int:=Option.map (λx=>x.2) (List.find? (λp=>decide (k=p.1)) m)
theorem IB{a b:Int×Int×Int}:(decide (a.1=b.1)&&(decide (a.2.1=b.2.1)&&decide (a.2.2=b.2.2)))=decide (a=b):=by
 grind
theorem aoC(k):o1 [] k=none:=rfl
theorem Zt(k:Int×Int×Int)(v:Int)(k':Int×Int×Int):∀ m,o1 (vy m k v) k'=if k'=k then some v else o1 m k'
 | []=>by
  show o1 [(k,v)] k'=_;by_cases h:k'=k<;>simp[o1,IB,h]
 | p::m=>by
  have aJ:=Zt k v k' m;show o1 (if (decide (k.1=p.1.1)&&(decide (k.2.1=p.1.2.1)&&decide (k.2.2=p.1.2.2)))=true then (p.1,v)::m else p::vy m k v) k'=_;rw[IB];by_cases h:k=p.1
  ·subst h;by_cases dw:k'=p.1<;>simp[o1,IB,dw]
  ·simp only[h,decide_false,Bool.false_eq_true,if_false];simp only[o1,IB,List.find?_cons]at aJ ⊢;grind
theorem Zu(k v k':Int):∀ m,uz (fe m k v) k'=if k'=k then some v else uz m k'
 | []=>by
  show uz [(k,v)] k'=_;by_cases h:k'=k<;>simp[uz,h]
 | p::m=>by
  have aJ:=Zu k v k' m;show uz (if decide (k=p.1)=true then (p.1,v)::m else p::fe m k v) k'=_;by_cases h:k=p.1
  ·subst h;by_cases dw:k'=p.1<;>simp[uz,dw]
  ·simp only[h,decide_false,Bool.false_eq_true,if_false];simp only[uz,List.find?_cons]at aJ ⊢;grind
def pO(t:mz):Int×Int×Int:=(t.1,t.2.1,t.2.2.1)
theorem IC{a b:mz}:nm a b=true<->pO a=pO b/\a.2.2.2≠b.2.2.2:=by
 simp only[nm,Bool.and_eq_true,decide_eq_true_eq,pO,Prod.mk.injEq];omega
theorem Zv(l:List mz):n6 l=true<->l.Pairwise λa b=>nm a b=false:=by
 unfold n6;rw[List.pairwise_iff_getElem];simp only[List.all_eq_true,List.mem_range,Bool.not_eq_true'];grind
def ID(m:z5')(pre:List mz):Prop:=∀ k v,o1 m k=some v<->(∃ t∈pre,pO t=k/\t.2.2.2=v)
def EG(m:z5')(t:mz):Bool:=Option.isSome (o1 m (pO t))&&decide (Option.getD (o1 m (pO t)) 0≠t.2.2.2)
theorem Zw{m pre}(h:ID m pre)(an:pre.Pairwise λa b=>nm a b=false)(t:mz):EG m t=true<->∃ a∈pre,nm a t=true:=by
 unfold EG;cases aj:o1 m (pO t) with
 | none=>
  simp only[Option.isSome_none,Bool.false_and,Bool.false_eq_true,false_iff];rintro⟨a,a8,hc⟩;have:=(h (pO t) a.2.2.2).2 ⟨a,a8,(IC.1 hc).1,rfl⟩;grind
 | some v=>
  simp only[Option.isSome_some,Bool.true_and,Option.getD_some,decide_eq_true_eq];obtain⟨b,W,al,ae⟩:=(h _ _).1 aj;constructor
  ·intro eP;exact⟨b,W,IC.2 ⟨al,by omega⟩⟩
  ·rintro⟨a,a8,hc⟩ rfl;obtain⟨bE,c2⟩:=IC.1 hc;have:=(h (pO t) a.2.2.2).2 ⟨a,a8,bE,rfl⟩;grind
theorem aoD{m pre}(h:ID m pre){t:mz}(W:∀ a∈pre,nm a t=false):ID (vy m (pO t) t.2.2.2) (pre++[t]):=by
 intro k v;rw[Zt];by_cases al:k=pO t
 ·rw[if_pos al];constructor
  ·grind
  ·rintro⟨a,a8,E,U⟩;rcases List.mem_append.1 a8 with a8 | a8
   ·have hc:=W a a8;have:¬nm a t=true:=by grind
    rw[IC]at this;grind
   grind
 ·rw[if_neg al,h];grind
theorem Zx:∀ (cm:List mz) (m) (pre:List mz),ID m pre->(pre.Pairwise λa b=>nm a b=false)->
  eZ (λt m=>if EG m t=true then (.done (.done 71):V _ (V Unit Int)) else .next (vy m (pO t) t.2.2.2)) (λ_=>.next ()) cm m=if n6 (pre++cm)=true then .next () else .done 71
 | [],m,pre,h,an=>by
  have:=(Zv pre).2 an;simp[eZ,this]
 | t::cm,m,pre,h,an=>by
  simp only[eZ];by_cases W:EG m t=true
  ·simp only[W,if_true];obtain⟨a,a8,hc⟩:=(Zw h an t).1 W;have:¬n6 (pre++t::cm)=true:=by
    rw[Zv,List.pairwise_append];grind
   grind
  ·have aw:∀ a∈pre,nm a t=false:=λa a8=>by
    have:=λhc=>W ((Zw h an t).2 ⟨a,a8,hc⟩);grind
   simp only[W,Bool.false_eq_true,if_false];have Ce:(pre++[t]).Pairwise λa b=>nm a b=false:=by
    grind
   have:=Zx cm _ (pre++[t]) (aoD h aw) Ce;grind
theorem aoE(w:bj)(h:gO w):NP sX.sh w=A.pure (cM w):=by
 have aD:=h;obtain⟨E,U,ah,a1⟩:=h;unfold NP;simp only[aL.sh,sX,A.dF,A.bo aD];unfold cM;cases hw:kF w with
 | false=>simp
 | true=>
  simp only[Bool.not_true,Bool.false_eq_true,if_false,if_true];rw[A.dB w.2.2.2 (λi (m:z5')=>(w.2.2.2,(w.2.2.2.length:Int),(i:Int),m,())) (λt m=>if EG m t=true then (.done (.done 71):V _ (V Unit Int)) else .next (vy m (pO t) t.2.2.2)) (λ_=>.next ()) [] ?_ ?_ ?_]
  ·rw[Zx w.2.2.2 [] [] (λk v=>by simp[aoC]) (by simp)];simp only[List.nil_append];by_cases aH:n6 w.2.2.2=true<;>simp[aH]
  ·rfl
  ·intro i G m;have h1:=bC (n:=(i:Int)+1) (by omega) (by omega);simp only[bV,cT G,if_true,df G,cG G,A.br,A.aF,ch,h1];exact VA (mk:=λm=>(w.2.2.2,(w.2.2.2.length:Int),(i:Int)+1,m,()))
  simp
theorem aoF(x):A.le (NP sX.sh x) (hZ.sh x):=A.bu λh=>aoE x h
theorem aoG(w:bj)(i n m k:Int)(hw:qC w)(G:ha w i=true)(hm:iU w m k=true):VU cr.sh oU.sh (w,i,n,m,k)=A.pure (v_ w i n m k):=aol w i n m k hw G hm
theorem aoH(x):A.le (VU cr.sh oU.sh x) (EC.sh x):=A.bu λh=>aoG x.1 x.2.1 x.2.2.1 x.2.2.2.1 x.2.2.2.2 h.1 h.2.1 h.2.2
abbrev yl:aL:=⟨.az jX (.az (.bH bx) (.az (.bH jY) (.bH bx))),dk,λx=>∃ i w n,x.2=(some i,some w,some n)/\qC w/\ha w i=true/\iU w x.1.2.1 x.1.2.2.1=true,λx=>ux (x.2.2.1.getD ([],[],0,[])) (x.2.1.getD 0) (x.2.2.2.getD 0) x.1⟩
theorem aoI(x):A.le (VT EC.sh x) (yl.sh x):=A.bu λh=>by
 obtain⟨t,o⟩:=x;obtain⟨i,w,n,ao,hw,G,hm⟩:=h;change o=_ at ao;subst ao;unfold VT;simp only[aL.sh,A.n7,A.gL,Option.getD_some,and_true,true_and,and_self,imp_self,A.br,ne_eq];by_cases aH:t.1=i
 ·have an:qC w/\ha w i=true/\iU w t.2.1 t.2.2.1=true:=⟨hw,G,hm⟩
  simp[ux,aH,an,A.bo an]
 ·simp[ux,aH]
def pP(w:bj):List (z1'):=(List.range w.1.length).map λ(i:Nat)=>hb w (i:Int)
def iv(w:bj)(cb:Bool):Option qt×Int:=if eK w cb≠0 then (none,eK w cb) else (some (w,pP w),0)
abbrev Be:aL:=⟨.az jY dk,.az (.bH (.st (.az jY (.slice fP)))) bx,λx=>gO x.1,λx=>iv x.1 x.2⟩
theorem aoJ{w:bj}{i:Int}:hb w i=(ev (gF w i).2.2.1 (gF w i).2.2.2).filter λn=>w.2.2.2.all (ux w i n):=by
 unfold hb;refine List.filter_congr λn aw=>?_;rw[sC]at aw;simp[Pp,aw]
theorem Zy{w:bj}:∀ (l:List Nat) (acc:List (z1')),eZ (λ(i:Nat) (acc:List (z1'))=>if decide (((hb w (i:Int)).length:Int)=0)=true then (.done (.done (none,(3:Int))):V _ (V (List Iu×List (List vZ)×Int×List mz×List (z1')×Unit) (Option qt×Int))) else .next (acc++[hb w (i:Int)])) (λacc=>.next (w.1,w.2.1,w.2.2.1,w.2.2.2,acc,())) l acc
  =if (l.all λ(i:Nat)=>!decide (((hb w (i:Int)).length:Int)=0))=true then .next (w.1,w.2.1,w.2.2.1,w.2.2.2,acc++l.map (λ(i:Nat)=>hb w (i:Int)),()) else .done (none,3)
 | [],acc=>by simp[eZ]
 | i::l,acc=>by
  simp only[eZ,List.all_cons,List.map_cons];by_cases h:((hb w (i:Int)).length:Int)=0
  ·simp[h]
  ·simp only[h,decide_false,Bool.false_eq_true,if_false,Bool.not_false,Bool.true_and];rw[Zy l];simp
theorem aoK(w:bj)(cb:Bool)(h:gO w):NT hZ.sh (jz jX).sh yl.sh (w,cb)=A.pure (iv w cb):=by
 unfold NT iv eK;simp only[aL.sh,A.dF,A.bo h];by_cases hc:cM w=0
 ·have hw:qC w:=⟨h,Pq hc⟩
  have aoL:=Ba hw.2;simp only[hc,ne_eq,not_true,decide_false,Bool.false_eq_true,if_false];cases cb with
  | false=>simp
  | true=>
   simp only[Bool.not_true,Bool.false_eq_true,if_false,Bool.true_eq_false];rw[A.fC (List.range w.1.length) (λi (acc:List (z1'))=>(w.1,(w.1.length:Int),(i:Int),w,w.1,w.2.1,w.2.2.1,w.2.2.2,acc,())) (λ(i:Nat) (acc:List (z1'))=>if decide (((hb w (i:Int)).length:Int)=0)=true then (.done (.done (none,(3:Int))):V _ (V (List Iu×List (List vZ)×Int×List mz×List (z1')×Unit) (Option qt×Int))) else .next (acc++[hb w (i:Int)])) (λacc=>.next (w.1,w.2.1,w.2.2.1,w.2.2.2,acc,())) (λi acc=>acc.length<=i) [] ?_ ?_ ?_ ?_]
   ·rw[Zy];have e:((List.range w.1.length).all λ(i:Nat)=>!decide (((hb w (i:Int)).length:Int)=0))=v' w:=rfl;rw[e];by_cases aH:v' w=true<;>simp[aH,pP]
   ·rfl
   ·simp
   ·intro i G acc Pr;have G:i<w.1.length:=by grind
    have n2:=aom G;have aj:=Zn hw.2 n2;have h1:=bC (n:=(i:Int)+1) (by omega) (by omega);have aB:w.1[i]=gF w (i:Int):=by simp[gF,List.getD_eq_getElem?_getD,G]
    refine⟨?_,λbd W=>?_⟩
    ·simp only[bV,cT G,if_true,df G,cG G,A.br,aB,List.getElem_range];rw[A.fC (ev (gF w (i:Int)).2.2.1 (gF w (i:Int)).2.2.2) (λk (l:z1')=>(w.1,(w.1.length:Int),(i:Int),w,(i:Int),gF w (i:Int),l,(gF w (i:Int)).2.2.1+(k:Int),w.1,w.2.1,w.2.2.1,w.2.2.2,acc,())) (λn l=>.next (if w.2.2.2.all (ux w (i:Int) n)=true then l++[n] else l)) (λl=>.next (w.1,(w.1.length:Int),(i:Int),w,l,w.1,w.2.1,w.2.2.1,w.2.2.2,acc,())) (λk l=>l.length<=k) [] ?_ ?_ ?_ ?_]
     ·rw[dP,Vy];simp only[A.aF,A.bX,List.nil_append];rw[<-aoJ];by_cases bk:((hb w (i:Int)).length:Int)=0
      ·simp[bk]
      ·have lP:bM (acc.length+(0+1)):=by unfold bM;omega
       simp_all
     ·simp
     ·simp
     ·intro k al l Zz;have vL:k<1000:=by rw[xZ]at al;omega
      have r5:(gF w (i:Int)).2.2.1+(k:Int)<=(gF w (i:Int)).2.2.2:=by rw[xZ]at al;omega
      have EH:=bC (n:=(gF w (i:Int)).2.2.1+((k:Int)+1)) (by omega) (by omega);have lP:bM (l.length+(0+1)):=by unfold bM;omega
      refine⟨?_,λbd W=>?_⟩
      ·have lN:∀ t∈w.2.2.2,yl.sh (t,some (i:Int),some w,some ((gF w (i:Int)).2.2.1+(k:Int)))=A.pure (ux w (i:Int) ((gF w (i:Int)).2.2.1+(k:Int)) t):=λt aH=>A.bR ⟨_,_,_,rfl,hw,n2,(aok hw.2 aH).2⟩ _;simp only[r5,decide_true,if_true,DQ];rw[A.bo (by exact⟨h.2.2.1,λt aH=>⟨_,lN t aH⟩⟩)];have e:(w.2.2.2.all λy=>(A.dR (yl.pre (y,some (i:Int),some w,some ((gF w (i:Int)).2.2.1+(k:Int)))) (yl.g (y,some (i:Int),some w,some ((gF w (i:Int)).2.2.1+(k:Int))))).val false)=w.2.2.2.all (ux w (i:Int) ((gF w (i:Int)).2.2.1+(k:Int))):=Iy λt aH=>A.gL;rw[e];by_cases W:w.2.2.2.all (ux w (i:Int) ((gF w (i:Int)).2.2.1+(k:Int)))=true
       ·simp only[W,if_true,ch,gW,A.bo lP,A.aF,A.bX,EH,V.hn,Int.natCast_add,Int.natCast_one,Int.add_assoc]
       ·simp only[W,Bool.false_eq_true,if_false,ch,gW,A.aF,A.bX,EH,V.hn,Int.natCast_add,Int.natCast_one,Int.add_assoc]
      grind
     ·intro l Zz;have:¬(gF w (i:Int)).2.2.1+((ev (gF w (i:Int)).2.2.1 (gF w (i:Int)).2.2.2).length:Int)<=(gF w (i:Int)).2.2.2:=by rw[xZ];omega
      simp only[this,decide_false,Bool.false_eq_true,if_false,A.aF]
    grind
   simp
 grind
theorem aoM(x):A.le (NT hZ.sh (jz jX).sh yl.sh x) (Be.sh x):=A.bu λh=>aoK x.1 x.2 h
theorem aoN(x):A.le (VV x) (Ix.sh x):=A.bu λ_=>by
 unfold VV;simp only[Iw,decide_eq_true_eq];grind
theorem ZA(w:bj):(pP w).length=w.1.length:=by simp[pP]
theorem Ps{w:bj}{i:Int}(h:ha w i=true):List.getD (pP w) i.toNat []=hb w i:=by
 rw[sU]at h;have:i.toNat<w.1.length:=by omega
 have e:((i.toNat:Nat):Int)=i:=by omega
 simp[pP,List.getD_eq_getElem?_getD,this,e]
abbrev aoO:ad:=.bH (.st (.az jY (.slice fP)))
def aoP(o:Option qt)(w:bj):Prop:=o=some (w,pP w)/\qC w
abbrev IE:aL:=⟨.az aoO (.az bx (.az bx bx)),bx,λx=>∃ w,aoP x.1 w/\ha w x.2.1=true/\iU w x.2.2.1 x.2.2.2=true,λx=>uy ((x.1.getD (([],[],0,[]),[])).1) x.2.1 x.2.2.1 x.2.2.2⟩
theorem aoQ(w:bj)(i m k:Int)(hw:qC w)(G:ha w i=true)(hm:iU w m k=true):NU EC.sh Ix.sh (some (w,pP w),i,m,k)=A.pure (uy w i m k):=by
 unfold NU;have lP:=Zo hw G;have b_:0<=i/\i<((pP w).length:Int):=by rw[ZA];exact sU.1 G
 simp only[Option.isSome_some,Option.getD_some,A.br,bV,Ps G,A.bo b_];rw[A.fC (hb w i) (λj (n:Int)=>(some (w,pP w),i,m,k,n,hb w i,((hb w i).length:Int),(j:Int),())) (λx n=>.next (if v_ w i x m k=true then n+1 else n)) (λn=>.next (some (w,pP w),i,n,())) (λj n=>0<=n/\n<=(j:Int)) 0 ?_ ?_ ?_ ?_]
 ·rw[dP,Zq];simp only[A.aF,A.bX,Option.isSome_some,Option.getD_some,A.br,A.bo b_,Ps G,aL.sh,A.dF,Int.zero_add];rfl
 ·rfl
 ·simp
 ·intro j aE n aw;have aoR:=bC (n:=(j:Int)+1) (by omega) (by omega);have Bf:=bC (n:=n+1) (by omega) (by omega);have an:qC w/\ha w i=true/\iU w m k=true:=⟨hw,G,hm⟩
  refine⟨?_,λbd W=>?_⟩
  ·simp only[cT aE,if_true,df aE,cG aE,A.br,Option.isSome_some,Option.getD_some,aL.sh,A.dF,A.bo an,ch,Bf];cases v_ w i (hb w i)[j] m k<;>simp[aoR]
  grind
 simp
theorem aoS(x):A.le (NU EC.sh Ix.sh x) (IE.sh x):=A.bu λh=>by
 obtain⟨o,i,m,k⟩:=x;obtain⟨w,⟨ao,hw⟩,G,hm⟩:=h;change o=_ at ao;subst ao;exact aoQ w i m k hw G hm
theorem ZB{w:bj}{cb:Bool}(h:eK w cb=0):iv w cb=(some (w,pP w),0):=by simp[iv,h]
theorem ZC{w:bj}{cb:Bool}(h:eK w cb≠0):iv w cb=(none,eK w cb):=by simp[iv,h]
theorem aoT(w:bj)(i:Int)(h:gO w):NQ Be.sh pL.sh (w,i)=A.pure (wa w i):=by
 unfold NQ wa;simp only[aL.sh,A.n7,A.gL,h,A.br];by_cases al:eK w (ha w i)=0
 ·have hw:=Zp h al;have G:=(ED al).2.1;have an:=aon (ED al).2.2 G;have lP:=Zo hw G;have h1:=bC (n:=((hb w i).length:Int) - 1) (by omega) (by omega);have ax:(((hb w i).length:Int) - 1).toNat=(hb w i).length - 1:=by omega
  have sy:0<=i/\i<((pP w).length:Int):=by rw[ZA];exact sU.1 G
  have b_:(0:Int)<=0/\(0:Int)<((hb w i).length:Int):=by omega
  have cy:(0:Int)<=((hb w i).length:Int) - 1/\((hb w i).length:Int) - 1<((hb w i).length:Int):=by omega
  simp only[ZB al,al,ne_eq,not_true,decide_false,Bool.false_eq_true,if_false,Option.isSome_some,Option.getD_some,A.br,bV,Ps G,A.bo sy,h1,ax,A.bo cy];simp_all
 ·simp[ZC al,al]
theorem aoU(x):A.le (NQ Be.sh pL.sh x) (yj.sh x):=A.bu λh=>aoT x.1 x.2 h
theorem aoV(w:bj)(i m k:Int)(h:gO w):NR Be.sh pL.sh rB.sh IE.sh (w,i,m,k)=A.pure (qD w i m k):=by
 unfold NR qD;simp only[aL.sh,A.n7,A.gL,h,A.br,and_true,and_self,imp_self,true_and];by_cases al:eK w (ha w i&&iU w m k)=0
 ·have hw:=Zp h al;have G:=(ED al).2.1;simp only[Bool.and_eq_true]at G;simp only[ZB al,al,ne_eq,not_true,decide_false,Bool.false_eq_true,if_false,A.dF];rw[A.bo (by exact⟨w,⟨rfl,hw⟩,G.1,G.2⟩)];rfl
 ·simp[ZC al,al]
theorem aoW(x):A.le (NR Be.sh pL.sh rB.sh IE.sh x) (Bb.sh x):=A.bu λh=>aoV x.1 x.2.1 x.2.2.1 x.2.2.2 h
theorem Pt{n:Int}(E:0<=n)(U:n<18446744073709551616):IntKind.u64.wrap n=n:=by
 show (if (false&&decide (n % 2 ^ 64>=(2 ^ (64 - 1):Int)))=true then n % 2 ^ 64 - 2 ^ 64 else n % 2 ^ 64)=n;grind
theorem Pu:∀ (n:Nat) (l:z1'),l.Nodup->(∀ x∈l,0<=x/\x<(n:Int))->l.length<=n
 | 0,l,_,h=>by
  cases l with
  | nil=>simp
  | cons x l=>have:=h x (by simp);omega
 | n+1,l,aw,h=>by
  have U:=Pu n (l.erase (n:Int)) (aw.erase _) λx ag=>by
   grind
  grind
def aoX(l:z1'):Prop:=∀ x∈l,0<=x/\x<16
def ZD(l:z1'):Prop:=l.Nodup/\aoX l
theorem ZD.len{l:z1'}(h:ZD l):l.length<=16:=Pu 16 l h.1 h.2
theorem A.aoY{D aI:Type}{body:D->A (V D aI)}{p:aI->Prop}{s0:D}(n:Nat)(I:Nat->D->Prop)(aX:I 0 s0)
  (aD:∀ i,i<n->∀ s,I i s->A.cw (body s) λst=>match st with | .next s'=>I (i+1) s' | .done r=>p r)
  (ao:∀ s,I n s->A.cw (body s) λst=>match st with | .next _=>False | .done r=>p r):A.cw (A.loop body s0) p:=by
 have key:∀ k i s,n - i=k->i<=n->I i s->A.cw (A.loop body s) p:=by
  intro k;induction k with
  | zero=>
   intro i s al G h;have:i=n:=by omega
   subst this;rw[A.BT,A.f'];refine (ao s h).mono λy aS=>?_;cases y with
   | next s'=>grind
   | done r=>exact A.ea.2 aS
  | succ k aJ=>
   intro i s al G h;rw[A.BT,A.f'];refine (aD i (by omega) s h).mono λy aS=>?_;cases y with
   | next s'=>grind
   | done r=>exact A.ea.2 aS
 grind
def Pv(x:Int×Int):Int:=IntKind.wrap .u64
 (Add.add (IntKind.wrap .u64 (Add.add (IntKind.wrap .u64 (ji .u64 x.1 32*ji .u64 x.2 32)) (ji .u64 (IntKind.wrap .u64 (Add.add (IntKind.wrap
 .u64 (ji .u64 x.1 32*lK .u64 x.2 4294967295)) (ji .u64 (IntKind.wrap .u64 (lK .u64 x.1 4294967295*lK .u64 x.2 4294967295)) 32))) 32)))
 (ji .u64 (IntKind.wrap .u64 (Add.add (lK .u64 (IntKind.wrap .u64 (Add.add (IntKind.wrap .u64 (ji .u64 x.1 32*lK .u64 x.2 4294967295)) (ji
 .u64 (IntKind.wrap .u64 (lK .u64 x.1 4294967295*lK .u64 x.2 4294967295)) 32))) 4294967295) (IntKind.wrap .u64 (lK .u64 x.1 4294967295*ji
 .u64 x.2 32)))) 32))
def IF:Nat->Bool
 | 0=>true
 | n+1=>decide (Pv (1,(n:Int))=0)&&IF n
theorem ZE:∀ (N n:Nat),IF N=true->n<N->Pv (1,(n:Int))=0
 | 0,n,_,h=>by omega
 | N+1,n,hc,h=>by
  simp only[IF,Bool.and_eq_true,decide_eq_true_eq]at hc;by_cases e:n=N
  ·grind
  ·exact ZE N n hc.2 (by omega)
def Pw(work:z1')(s:Int):z1':=((List.range work.length).filter λj=>decide (work.getD j 0=s)).map λ(j:Nat)=>(j:Int)
theorem aoZ{ak β aI:Type}{f:ak->β->V β aI}{fin:β->aI}(I:Nat->β->Prop)(Q:aI->Prop)(l:List ak)(b:β)(aX:I 0 b)
  (aD:∀ i (h:i<l.length) b,I i b->match f l[i] b with | .next bd=>I (i+1) bd | .done r=>Q r) (ao:∀ b,I l.length b->Q (fin b)):Q (eZ f fin l b):=by
 have key:∀ (k:Nat) (r:List ak) (b:β),k<=l.length->r=l.drop k->I k b->Q (eZ f fin r b):=by
  intro k r;induction r generalizing k with
  | nil=>
   intro b al M eB;have:k=l.length:=by have:=congrArg List.length M;grind
   subst this;exact ao b eB
  | cons x r aJ=>
   intro b al M eB;have cc:k<l.length:=by
    grind
   rw[List.drop_eq_getElem_cons cc]at M;injection M with ag M
   have E:=aD k cc b eB;rw[<-ag]at E;simp only[eZ];grind
 grind
def cU(m:z4')(k:Int):Int:=(uz m k).getD 0
theorem ao0(m:z4')(k:Int):Option.getD (Option.map (λx=>x.2) (List.find? (λp=>decide (k=p.1)) m)) 0=cU m k:=rfl
theorem Bg(k v k':Int)(m:z4'):cU (fe m k v) k'=if k'=k then v else cU m k':=by
 unfold cU;rw[Zu];grind
def rD(n:Nat)(m:z4'):Nat:=(List.range n).countP λ(s:Nat)=>decide (cU m (s:Int)=0)
theorem ZF{p q:Nat->Bool}{s:Nat}(h:∀ x,x≠s->p x=q x)(an:p s=true)(bt:q s=false):∀ (l:List Nat),l.Nodup->s∈l->l.countP p=l.countP q+1
 | [],_,aD=>by cases aD
 | x::l,aw,aD=>by
  rw[List.nodup_cons]at aw;rw[List.countP_cons,List.countP_cons];by_cases e:x=s
  ·subst e;have:l.countP p=l.countP q:=List.countP_congr λy aS=>by
    grind
   grind
  ·have:=ZF h an bt l aw.2 (by grind);grind
theorem ZG{n:Nat}{m:z4'}{s v:Int}(aX:0<=s)(aw:s<(n:Int))(hm:cU m s=0)(ae:v≠0):rD n m=rD n (fe m s v)+1:=by
 unfold rD;refine ZF (s:=s.toNat) (λx ag=>?_) ?_ ?_ _ List.nodup_range (by grind)
 ·rw[Bg,if_neg (by omega)]
 ·grind
 ·rw[Bg,if_pos (by omega)];grind
theorem ZH{n:Nat}{a b:z4'}(h:∀ k,0<=cU a k/\cU a k<=cU b k):rD n b<=rD n a:=by
 unfold rD;refine List.countP_mono_left λx _ ag=>?_;grind
abbrev k4:=z1'×z4'
def V.uA{β aI js:Type}(g:aI->js):V β aI->V β js
 | .next b=>.next b
 | .done r=>.done (g r)
def ym{ak β aI:Type}(f:ak->β->V β aI):List ak->β->V β aI
 | [],b=>.next b
 | x::l,b=>match f x b with
  | .next bd=>ym f l bd
  | .done r=>.done r
def V.fin{β aI:Type}(n:β->aI):V β aI->aI
 | .next b=>n b
 | .done r=>r
theorem Px{ak β aI:Type}{f:ak->β->V β aI}{n:β->aI}:∀ (l:List ak) (b:β),eZ f n l b=V.fin n (ym f l b)
 | [],b=>rfl
 | x::l,b=>by
  simp only[eZ,ym];cases f x b with
  | next bd=>exact Px l bd
  | done r=>rfl
theorem ZI{ak β aI js:Type}{f:ak->β->V β aI}{g:aI->js}:∀ (l:List ak) (b:β),ym (λx b=>V.uA g (f x b)) l b=V.uA g (ym f l b)
 | [],b=>rfl
 | x::l,b=>by
  simp only[ym];cases f x b with
  | next bd=>exact ZI l bd
  | done r=>rfl
def Py(w:bj):Prop:=w.1.length<=2000000/\w.2.1.length<=2000000/\w.2.2.2.length<=2000000/\∀ m∈w.2.1,m.length<=2000000/\∀ s∈m,s.2.1.length<=2000000
abbrev vI:aL:=⟨jY,jY,Py,λw=>w⟩
theorem ao1(w:bj)(h:Py w):NF w=A.pure w:=by
 obtain⟨E,U,ah,a1⟩:=h;unfold NF;have b_:bM (0+w.1.length):=by unfold bM;omega
 have cy:bM (0+w.2.2.2.length):=by unfold bM;omega
 simp only[gW,A.bo b_,A.bo cy,List.nil_append];rw[A.fC w.2.1 (λi (bL:List (List (Int×z1'×Int×Int)))=>((i:Int),w,0,w.2.2.1,w.1,w.2.2.2,bL,())) (λm bL=>.next (bL++[m])) (λbL=>.next (0,w.2.2.1,w.1,w.2.2.2,bL,())) (λi bL=>bL.length<=i) [] ?_ ?_ ?_ ?_]
 ·rw[dP,qq (g:=λm=>m)];simp
 ·rfl
 ·simp
 ·intro i G bL pv;have hm:=a1 w.2.1[i] (List.getElem_mem G);have ki:=bC (n:=(i:Int)+1) (by omega) (by omega);have eg:bM (0+w.2.1[i].length):=by have:=hm.1;unfold bM;omega
  have ld:bM (bL.length+(0+1)):=by unfold bM;omega
  refine⟨?_,λbd cR=>?_⟩
  ·simp only[bV,cT G,if_true,cG G,A.br,df G,A.bo eg];rw[A.dB w.2.1[i] (λk (_:Unit)=>((i:Int),(k:Int),w,0,w.2.2.1,w.1,w.2.2.2,w.2.1[i],bL,())) (λs u=>.next u) (λ_=>.next ((i:Int),w,0,w.2.2.1,w.1,w.2.2.2,w.2.1[i],bL,())) () ?_ ?_ ?_]
   ·rw[dP];simp_all
   ·rfl
   ·intro k al u;have aD:=hm.2 _ (List.getElem_mem al);have Zz:=hm.1;have l4:=bC (n:=(k:Int)+1) (by omega) (by omega);have ku:bM (0+(w.2.1[i])[k].2.1.length):=by unfold bM;omega
    have mQ:(w.2.1[i]).set k ((w.2.1[i])[k].1,(w.2.1[i])[k].2.1,(w.2.1[i])[k].2.2)=w.2.1[i]:=List.set_getElem_self al;simp_all
   simp
  grind
 simp
theorem Ov(x):A.le (NF x) (vI.sh x):=A.bu λh=>ao1 x h
def yn(m:List (Int×z1'×Int×Int)):Bool:=decide ((m.length:Int) > 20)||m.any λs=>decide ((s.2.1.length:Int) > 20)
def k1(w:bj):Bool:=
 if (decide ((w.1.length:Int) > 40)||decide ((w.2.1.length:Int) > 40)||decide ((w.2.2.2.length:Int) > 60))=true then true
 else if w.2.1.any yn=true then true
 else if cM w≠0 then false
 else if (w.1.any λs=>decide (IntKind.i64.wrap (s.2.2.2 - s.2.2.1)>=50))=true then true
 else decide ((w.1.length:Int) > 6)||decide ((w.2.1.length:Int) > 4)||decide ((w.2.2.2.length:Int) > 10)
abbrev vV:aL:=⟨jY,dk,gO,k1⟩
theorem ao2(w:bj)(h:gO w):NW hZ.sh w=A.pure (k1 w):=by
 unfold NW k1;simp only[bV];by_cases E:(decide ((w.1.length:Int) > 40)||decide ((w.2.1.length:Int) > 40)||decide ((w.2.2.2.length:Int) > 60))=true
 ·grind
 ·rw[if_neg E,if_neg E];have aj:=h;obtain⟨ds,dI,nP,uB⟩:=h;rw[A.dB w.2.1 (λi (_:Unit)=>((i:Int),w,())) (λm u=>if yn m=true then .done (.done true) else .next u) (λ_=>.next (w,())) () ?_ ?_ ?_]
  ·rw[sB];by_cases U:w.2.1.any yn=true
   ·simp only[U,if_true,A.aF,A.pz]
   ·simp only[U,Bool.false_eq_true,if_false,A.aF,A.bX,aL.sh,A.dF,A.bo aj];by_cases ah:cM w=0
    ·simp only[ah,ne_eq,not_true,decide_false,Bool.false_eq_true,if_false];rw[A.dB w.1 (λi (_:Unit)=>((i:Int),w,())) (λs u=>if decide (IntKind.i64.wrap (s.2.2.2 - s.2.2.1)>=50)=true then .done (.done true) else .next u) (λ_=>.next (w,())) () ?_ ?_ ?_]
     ·rw[sB];by_cases a1:(w.1.any λs=>decide (IntKind.i64.wrap (s.2.2.2 - s.2.2.1)>=50))=true
      ·simp_all
      ·simp only[a1,Bool.false_eq_true,if_false,A.aF,A.bX]
     ·rfl
     ·intro i G u;have ki:=bC (n:=(i:Int)+1) (by omega) (by omega);simp only[bV,cT G,if_true,cG G,A.br,df G,A.aF,ch,ki];exact nc (mk:=λ_:Unit=>((i:Int)+1,w,()))
     simp
    grind
  ·rfl
  ·intro i G u;have ki:=bC (n:=(i:Int)+1) (by omega) (by omega);have hm:=uB _ (List.getElem_mem G);simp only[bV,cT G,if_true,cG G,A.br,df G,A.aF];by_cases bK:decide ((w.2.1[i].length:Int) > 20)=true
   ·have ao:yn w.2.1[i]=true:=by unfold yn;grind
    simp_all
   ·have ao:yn w.2.1[i]=w.2.1[i].any λs=>decide ((s.2.1.length:Int) > 20):=by unfold yn;grind
    rw[if_neg bK];rw[A.dB w.2.1[i] (λk (_:Unit)=>((i:Int),(k:Int),w,())) (λs u=>if decide ((s.2.1.length:Int) > 20)=true then .done (.done (.done (.done true))) else .next u) (λ_=>.next ((i:Int),w,())) () ?_ ?_ ?_]
    ·rw[sB,ao];by_cases dp:(w.2.1[i].any λs=>decide ((s.2.1.length:Int) > 20))=true
     ·simp_all
     ·simp only[dp,Bool.false_eq_true,if_false,A.aF,A.bX,ch,ki];rfl
    ·rfl
    ·intro k al u;have l4:=bC (n:=(k:Int)+1) (by omega) (by omega);simp only[cG G,A.br,df G,cT al,if_true,cG al,df al,A.aF,ch,l4];exact nc (mk:=λ_:Unit=>((i:Int),(k:Int)+1,w,()))
    simp_all
  simp
theorem ao3(x):A.le (NW hZ.sh x) (vV.sh x):=A.bu λh=>ao2 x h
def IG:bj:=([(1,2,300,310),(1,3,305,305),(2,1,50,60),(1,2,320,330)],[[(1,[2,3],300,306),(2,[1],40,58)],[(1,[2],310,326)]],5,[(0,1,0,0)])
abbrev Pz:aL:=⟨.cV,jY,λ_=>True,λ_=>IG⟩
theorem ao4(x):A.le (aj2 x) (Pz.sh x):=A.bu λ_=>rfl
theorem ao5:gO IG:=by
 refine⟨by decide,by decide,by decide,?_⟩;intro m hm;simp only[IG,List.mem_cons,List.not_mem_nil,or_false]at hm;grind
abbrev nn:ad:=.st (.az bx (.az bx (.az bx (.az bx fP))))
abbrev mA:ad:=.st (.az fP (.az mx (.az bx (.az bx bx))))
abbrev pQ:ad:=.st (.az bx (.az bx bx))
abbrev k5:ad:=.st (.az jY (.az fP (.az (.slice nn) (.az (.slice mA) (.az (.slice pQ) bx)))))
def e8(s:bp):Prop:=gO s.1/\s.2.1.length<2 ^ 63/\s.2.2.1.length<2 ^ 63/\s.2.2.2.1.length<2 ^ 63/\s.2.2.2.2.1.length<2 ^ 63/\(∀ p∈s.2.2.1,p.2.2.2.2.length<2 ^ 63)/\∀ x∈s.2.2.2.1,x.1.length<2 ^ 63
def bZ(n aY G:Int):Bool:=decide (aY<=n)&&decide (n<=G)
def iw(n:Int):Bool:=bZ n 0 99
def jA(p:Int->Bool)(l:z1'):Bool:=(List.range l.length).all λi=>p (l.getD i 0)&&!(decide (0<i)&&decide (l.getD i 0<=l.getD (i - 1) 0))
def Bh(w:bj)(m:Int)(n:Int):Bool:=decide (0<=n)&&decide (n<((iT w m).length:Int))
def o2(w:bj)(p:c1):Bool:=iw p.1&&iw p.2.1&&iw p.2.2.1&&nl w p.2.2.2.1&&jA (Bh w p.2.2.2.1) p.2.2.2.2
def n'(x:dm):Bool:=bZ (x.1.length:Int) 1 8&&jA iw x.1&&iw x.2.1.1&&iw x.2.1.2&&decide (x.2.1.1<=x.2.1.2)&&iw x.2.2.1&&iw x.2.2.2.1&&bZ x.2.2.2.2 0 100000
def oa(w:bj)(d:rr):Bool:=iw d.1&&ha w d.2.1&&bZ d.2.2 1 10
def l5(s:bp):Bool:=decide ((s.2.1.length:Int)=(s.1.1.length:Int))&&(s.2.1.all λn=>bZ n 0 10)&&decide ((s.2.2.1.length:Int)<=8)&&s.2.2.1.all (o2 s.1)&&decide ((s.2.2.2.1.length:Int)<=6)&&s.2.2.2.1.all n'&&decide ((s.2.2.2.2.1.length:Int)<=8)&&s.2.2.2.2.1.all (oa s.1)&&iw s.2.2.2.2.2
def hz(s:bp):Int:=if cM s.1≠0 then cM s.1 else if l5 s=true then 0 else 80
theorem ao6(x):A.le (akn x) (cr.sh x):=A.bu λ_=>rfl
theorem ao7(x):A.le (akh x) (cr.sh x):=A.bu λ_=>rfl
abbrev rE:aL:=⟨bx,dk,λ_=>True,iw⟩
theorem ao8(x):A.le (Wd cr.sh x) (rE.sh x):=A.bu λ_=>by
 unfold Wd;simp[aL.sh,cr,iw,bZ]
theorem ao9(x):A.le (Wh cr.sh x) (rE.sh x):=A.bu λ_=>by
 unfold Wh;simp[aL.sh,cr,iw,bZ]
abbrev IH:aL:=⟨.az fP (.fn bx .bool),dk,λx=>x.1.length<2 ^ 63/\∀ y∈x.1,∃ b,x.2 y=A.pure b,λx=>jA (λy=>(x.2 y).val false) x.1⟩
theorem ao_(x):A.le (We x) (IH.sh x):=A.bu λh=>by
 obtain⟨l,f⟩:=x;obtain⟨E,U⟩:=h;change l.length<2 ^ 63 at E;change ∀ y∈l,∃ b,f y=A.pure b at U;unfold We;rw[A.dB (List.range l.length) (λi (_:Unit)=>(l,f,l,(l.length:Int),(i:Int),())) (λi b=>if (!((f (l.getD i 0)).val false&&!(decide (0<i)&&decide (l.getD i 0<=l.getD (i - 1) 0))))=true then .done (.done false) else .next b) (λ_=>.next ()) () ?_ ?_ ?_]
 ·rw[kU (q:=λi=>(f (l.getD i 0)).val false&&!(decide (0<i)&&decide (l.getD i 0<=l.getD (i - 1) 0))) _ _ (λ_=>rfl)];show _=A.pure (jA (λy=>(f y).val false) l);unfold jA;cases (List.range l.length).all λi=>(f (l.getD i 0)).val false&&!(decide (0<i)&&decide (l.getD i 0<=l.getD (i - 1) 0))<;>simp
 ·rfl
 ·intro i G b;have G:i<l.length:=by grind
  have hw:=bC (n:=(i:Int)+1) (by omega) (by omega);have gU:=bC (n:=(i:Int) - 1) (by omega) (by omega);have aM:((i:Int) - 1).toNat=i - 1:=by omega
  obtain⟨c,hc⟩:=U _ (List.getElem_mem G);have jw:l.getD i 0=l[i]:=by grind
  have sM:(decide ((i:Int) > 0))=decide (0<i):=by simp
  simp only[bV,cT G,if_true,List.getElem_range,df G,cG G,A.br,jw,hc,A.fs,A.aF,ch,hw,gU,aM,sM];rw[A.bo (by grind)];cases c<;>cases (decide (0<i)&&decide (l[i]<=l.getD (i - 1) 0))<;>rfl
 simp
abbrev II:aL:=⟨.az fP bx,dk,λx=>x.1.length<2 ^ 63,λx=>jA (λn=>bZ n 0 x.2) x.1⟩
theorem ao'(x):A.le (Wk x) (II.sh x):=A.bu λh=>by
 obtain⟨l,m⟩:=x;change l.length<2 ^ 63 at h;unfold Wk;rw[A.dB (List.range l.length) (λi (_:Unit)=>(l,m,(i:Int),())) (λi b=>if (!(bZ (l.getD i 0) 0 m&&!(decide (0<i)&&decide (l.getD i 0<=l.getD (i - 1) 0))))=true then .done (.done false) else .next b) (λ_=>.next ()) () ?_ ?_ ?_]
 ·rw[kU (q:=λi=>bZ (l.getD i 0) 0 m&&!(decide (0<i)&&decide (l.getD i 0<=l.getD (i - 1) 0))) _ _ (λ_=>rfl)];show _=A.pure (jA (λn=>bZ n 0 m) l);unfold jA;cases (List.range l.length).all λi=>bZ (l.getD i 0) 0 m&&!(decide (0<i)&&decide (l.getD i 0<=l.getD (i - 1) 0))<;>simp
 ·rfl
 ·intro i G b;have G:i<l.length:=by grind
  have hw:=bC (n:=(i:Int)+1) (by omega) (by omega);have gU:=bC (n:=(i:Int) - 1) (by omega) (by omega);have aM:((i:Int) - 1).toNat=i - 1:=by omega
  have jw:l.getD i 0=l[i]:=by grind
  have sM:(decide ((i:Int) > 0))=decide (0<i):=by simp
  simp only[bV,cT G,if_true,List.getElem_range,df G,cG G,A.br,jw,A.aF,ch,hw,gU,aM,sM];have sy:0<i->(0:Int)<=(i:Int) - 1/\(i:Int) - 1<(l.length:Int):=by omega
  generalize l.getD (i - 1) 0=B;generalize l[i]=aK;by_cases ik:aK<0<;>by_cases tH:aK > m<;>by_cases aX:0<i<;>by_cases aT:aK<=B<;>simp_all[bZ,V.hn,A.bo]<;>(grind)<;>(grind)
 simp
theorem PA{p q:Int->Bool}{l:z1'}(h:∀ y∈l,p y=q y):jA p l=jA q l:=by
 unfold jA;grind
theorem apa(n:Int)(k:Nat):bZ n 0 ((k:Int) - 1)=(decide (0<=n)&&decide (n<(k:Int))):=by
 unfold bZ;grind
theorem apb(a b:Int):decide (a > b)=!decide (a<=b):=by grind
abbrev EI:aL:=⟨.az bx (.az (.bH jY) (.bH nn)),dk,λx=>∃ w p,x.2=(some w,some p)/\gO w/\nl w p.2.2.2.1=true,λx=>Bh (x.2.1.getD ([],[],0,[])) (x.2.2.getD (0,0,0,0,[])).2.2.2.1 x.1⟩
theorem apc(x):A.le (Wf cr.sh x) (EI.sh x):=A.bu λh=>by
 obtain⟨n,o⟩:=x;obtain⟨w,p,ao,hw,hm⟩:=h;change o=_ at ao;subst ao;unfold Wf;have r:=A7.1 hm;have aj:=Iv hw p.2.2.2.1;have h1:=bC (n:=((iT w p.2.2.2.1).length:Int) - 1) (by omega) (by omega);unfold iT at h1;simp only[aL.sh,cr,Option.getD_some,bV,r,and_self,A.br,h1,A.dF,rA];rfl
abbrev EJ:aL:=⟨.az nn (.bH jY),dk,λx=>x.1.2.2.2.2.length<2 ^ 63/\∃ w,x.2=some w/\gO w,λx=>!o2 (x.2.getD ([],[],0,[])) x.1⟩
theorem apd(x):A.le (Wc cr.sh rE.sh IH.sh EI.sh x) (EJ.sh x):=A.bu λh=>by
 obtain⟨p,o⟩:=x;obtain⟨an,w,ao,hw⟩:=h;change o=_ at ao;change p.2.2.2.2.length<2 ^ 63 at an;subst ao;unfold Wc;have aj:=hw.2.1;have h1:=bC (n:=((w.2.1.length:Int)) - 1) (by omega) (by omega);have ax:(decide (0<=p.2.2.2.1)&&decide (p.2.2.2.1<(w.2.1.length:Int)))=nl w p.2.2.2.1:=rfl;simp only[aL.sh,cr,Option.getD_some,bV,A.br,h1,A.dF,A.jd,rA,implies_true,qp,ax];have key:nl w p.2.2.2.1=true->(jA (λy=>(A.dR (EI.pre (y,some w,some p)) (EI.g (y,some w,some p))).val false) p.2.2.2.2)=jA (Bh w p.2.2.2.1) p.2.2.2.2:=λhm=>PA λy aS=>A.gL;rw[A.bo]
 ·show A.pure _=A.pure _;congr 1;show _=!o2 w p;unfold o2;simp
 ·intro cW;have hm:nl w p.2.2.2.1=true:=by
   grind
  exact⟨an,λy aS=>⟨_,A.bR ⟨w,p,rfl,hw,hm⟩ _⟩⟩
abbrev EK:aL:=⟨mA,dk,λx=>x.1.length<2 ^ 63,λx=>!n' x⟩
theorem ape(x):A.le (Wg cr.sh rE.sh IH.sh rE.sh x) (EK.sh x):=A.bu λh=>by
 unfold Wg;have key:(jA (λy=>(A.dR (rE.pre y) (rE.g y)).val false) x.1)=jA iw x.1:=PA λy aS=>A.gL;simp only[aL.sh,cr,bV,A.br,A.dF,A.jd,implies_true,qp];rw[A.bo]
 ·show A.pure _=A.pure (!n' x);congr 1;unfold n';rw[key];have e:decide (x.2.1.1 > x.2.1.2)=!decide (x.2.1.1<=x.2.1.2):=by grind
  rw[e];show _=!(bZ (x.1.length:Int) 1 8&&_&&_&&_&&_&&_&&_&&_);unfold bZ;simp
 ·exact λ_=>⟨h,λy aS=>⟨_,A.bR trivial _⟩⟩
abbrev EL:aL:=⟨.az pQ (.bH jY),dk,λx=>∃ w,x.2=some w/\gO w,λx=>!oa (x.2.getD ([],[],0,[])) x.1⟩
theorem apf(x):A.le (Wi cr.sh rE.sh x) (EL.sh x):=A.bu λh=>by
 obtain⟨d,o⟩:=x;obtain⟨w,ao,hw⟩:=h;change o=_ at ao;subst ao;unfold Wi;have aj:=hw.1;have h1:=bC (n:=((w.1.length:Int)) - 1) (by omega) (by omega);simp only[aL.sh,cr,Option.getD_some,bV,A.br,h1,A.dF,A.jd,rA,implies_true,qp];show A.pure _=A.pure (!oa w d);congr 1;unfold oa ha bZ;simp
abbrev EM:aL:=⟨bx,dk,λ_=>True,λn=>!bZ n 0 10⟩
theorem apg(x):A.le (Wj cr.sh x) (EM.sh x):=A.bu λ_=>by
 unfold Wj;simp[aL.sh,cr,bZ]
theorem IJ{ak:Type}{p q:ak->Bool}{l:List ak}(h:∀ x∈l,p x=!q x):l.any p=!l.all q:=by
 grind
abbrev PB:aL:=⟨k5,dk,e8,l5⟩
theorem aph(x):A.le (V7 rE.sh (je bx).sh (je nn).sh (je mA).sh (je pQ).sh EJ.sh EL.sh EK.sh EM.sh x) (PB.sh x):=A.bu λh=>by
 obtain⟨E,U,ah,a1,bK,dp,fF⟩:=h;unfold V7;simp only[aL.sh,bV,A.br,A.dF,A.jd,implies_true];have aO:(x.2.1.any λy=>(A.dR (EM.pre y) (EM.g y)).val false)=!x.2.1.all λn=>bZ n 0 10:=IJ λy _=>A.gL;have aR:(x.2.2.1.any λy=>(A.dR (EJ.pre (y,some x.1)) (EJ.g (y,some x.1))).val false)=!x.2.2.1.all (o2 x.1):=IJ λy _=>A.gL;have bO:(x.2.2.2.1.any λy=>(A.dR (EK.pre y) (EK.g y)).val false)=!x.2.2.2.1.all n':=IJ λy _=>A.gL;have fI:(x.2.2.2.2.1.any λy=>(A.dR (EL.pre (y,some x.1)) (EL.g (y,some x.1))).val false)=!x.2.2.2.2.1.all (oa x.1):=IJ λy _=>A.gL;rw[A.bo,A.bo,A.bo,A.bo]
 ·show A.pure _=A.pure (l5 x);congr 1;unfold l5;grind
 ·exact λ_=>⟨bK,λy aS=>⟨_,A.bR ⟨_,rfl,E⟩ _⟩⟩
 ·exact λ_=>⟨a1,λy aS=>⟨_,A.bR (fF y aS) _⟩⟩
 ·exact λ_=>⟨ah,λy aS=>⟨_,A.bR ⟨dp y aS,_,rfl,E⟩ _⟩⟩
 ·exact λ_=>⟨U,λy aS=>⟨_,A.bR trivial _⟩⟩
abbrev mB:aL:=⟨k5,bx,e8,hz⟩
theorem api(x):A.le (V0 hZ.sh PB.sh x) (mB.sh x):=A.bu λh=>by
 unfold V0;simp only[aL.sh,A.dF,A.bo h.1];show _=A.pure (hz x);unfold hz;by_cases hc:cM x.1=0
 ·simp only[hc,ne_eq,not_true,decide_false,Bool.false_eq_true,if_false,A.bo h];grind
 grind
abbrev IK:aL:=⟨.az k5 nn,dk,λx=>e8 x.1/\x.2.2.2.2.2.length<2 ^ 63,λx=>o2 x.1.1 x.2⟩
theorem apj(x):A.le (V8 cr.sh II.sh x) (IK.sh x):=A.bu λh=>by
 obtain⟨s,p⟩:=x;obtain⟨aD,an⟩:=h;change e8 s at aD;change p.2.2.2.2.length<2 ^ 63 at an;unfold V8;have aj:=aD.1.2.1;have gq:=Iv aD.1 p.2.2.2.1;have h1:=bC (n:=((s.1.2.1.length:Int)) - 1) (by omega) (by omega);have EH:=bC (n:=((iT s.1 p.2.2.2.1).length:Int) - 1) (by omega) (by omega);unfold iT at EH;have ax:(decide (0<=p.2.2.2.1)&&decide (p.2.2.2.1<(s.1.2.1.length:Int)))=nl s.1 p.2.2.2.1:=rfl;simp only[aL.sh,cr,bV,A.br,h1,EH,A.dF,A.jd,rA,implies_true,qp,ax,A.n7,A.gL];show _=A.pure (o2 s.1 p);unfold o2;have Ee:jA (λn=>bZ n 0 (((List.getD s.1.2.1 (Int.toNat p.2.2.2.1) []).length:Int) - 1)) p.2.2.2.2=jA (Bh s.1 p.2.2.2.1) p.2.2.2.2:=PA λy _=>apa y _;rw[Ee];cases hm:nl s.1 p.2.2.2.1
 ·simp
 ·have r:=A7.1 hm;rw[A.bo r,A.bo (by exact an)];unfold iw bZ;grind
abbrev IL:aL:=⟨mA,dk,λx=>x.1.length<2 ^ 63,n'⟩
theorem apk(x):A.le (V9 cr.sh II.sh x) (IL.sh x):=A.bu λh=>by
 unfold V9;simp only[aL.sh,cr,bV,A.br,A.dF,A.jd,implies_true];rw[A.bo (by omega)];show A.pure _=A.pure (n' x);congr 1;unfold n';have Ee:jA (λn=>bZ n 0 99) x.1=jA iw x.1:=rfl;rw[Ee];unfold iw bZ;grind
theorem apl(x):A.le (V1 hZ.sh cr.sh IK.sh IL.sh x) (mB.sh x):=A.bu λh=>by
 have aD:=h;obtain⟨E,U,ah,a1,bK,dp,fF⟩:=h;unfold V1;simp only[aL.sh,A.dF,A.bo E];show _=A.pure (hz x);unfold hz;by_cases hc:cM x.1=0
 ·simp only[hc,ne_eq,not_true,decide_false,Bool.false_eq_true,if_false,cr,A.jd,A.dF,implies_true,A.br,bV,qp,decide_not];have e:(!decide ((x.2.1.length:Int)=(x.1.1.length:Int))||decide ((x.2.2.1.length:Int) > 8)||decide ((x.2.2.2.1.length:Int) > 6)||decide ((x.2.2.2.2.1.length:Int) > 8)||!(decide (0<=x.2.2.2.2.2)&&decide (x.2.2.2.2.2<=99)))=!(decide ((x.2.1.length:Int)=(x.1.1.length:Int))&&decide ((x.2.2.1.length:Int)<=8)&&decide ((x.2.2.2.1.length:Int)<=6)&&decide ((x.2.2.2.2.1.length:Int)<=8)&&iw x.2.2.2.2.2):=by
   simp only[apb,iw,bZ,Bool.not_and]
  rw[e];by_cases cW:(decide ((x.2.1.length:Int)=(x.1.1.length:Int))&&decide ((x.2.2.1.length:Int)<=8)&&decide ((x.2.2.2.1.length:Int)<=6)&&decide ((x.2.2.2.2.1.length:Int)<=8)&&iw x.2.2.2.2.2)=true
  ·rw[if_neg (by grind)]
   ·rw[A.dB x.2.1 (λi (_:Unit)=>((i:Int),x,())) (λn b=>if (!bZ n 0 10)=true then .done (.done (80:Int)) else .next b) (λ_=>.next (x,())) () ?_ ?_ ?_]
    ·rw[kU (q:=λn=>bZ n 0 10) _ _ (λ_=>rfl)];cases ik:x.2.1.all λn=>bZ n 0 10 with
     | false=>simp[l5,ik]
     | true=>
      simp only[A.aF,if_true,A.bX];rw[A.dB x.2.2.1 (λi (_:Unit)=>((i:Int),x,())) (λp b=>if (!o2 x.1 p)=true then .done (.done (80:Int)) else .next b) (λ_=>.next (x,())) () ?_ ?_ ?_]
      ·rw[kU (q:=o2 x.1) _ _ (λ_=>rfl)];cases aT:x.2.2.1.all (o2 x.1) with
       | false=>simp[l5,aT]
       | true=>
        simp only[A.aF,if_true,A.bX];rw[A.dB x.2.2.2.1 (λi (_:Unit)=>((i:Int),x,())) (λp b=>if (!n' p)=true then .done (.done (80:Int)) else .next b) (λ_=>.next (x,())) () ?_ ?_ ?_]
        ·rw[kU (q:=n') _ _ (λ_=>rfl)];cases jo:x.2.2.2.1.all n' with
         | false=>simp[l5,jo]
         | true=>
          simp only[A.aF,if_true,A.bX];rw[A.dB x.2.2.2.2.1 (λi (_:Unit)=>((i:Int),x,())) (λp b=>if (!oa x.1 p)=true then .done (.done (80:Int)) else .next b) (λ_=>.next ()) () ?_ ?_ ?_]
          ·rw[kU (q:=oa x.1) _ _ (λ_=>rfl)];simp only[Bool.and_eq_true]at cW;cases Pn:x.2.2.2.2.1.all (oa x.1)<;>simp[l5,ik,aT,jo,Pn,cW]
          ·rfl
          ·intro i G b;have hw:=bC (n:=(i:Int)+1) (by omega) (by omega);have aj:=E.1;have h1:=bC (n:=((x.1.1.length:Int)) - 1) (by omega) (by omega);simp only[bV,cT G,if_true,df G,cG G,A.br,A.aF,ch,hw,h1,qp,rA];have e:(!(decide (0<=(x.2.2.2.2.1[i]).1)&&decide ((x.2.2.2.2.1[i]).1<=99))||!(decide (0<=(x.2.2.2.2.1[i]).2.1)&&decide ((x.2.2.2.2.1[i]).2.1<(x.1.1.length:Int)))||!(decide (1<=(x.2.2.2.2.1[i]).2.2)&&decide ((x.2.2.2.2.1[i]).2.2<=10)))=!oa x.1 x.2.2.2.2.1[i]:=by
            unfold oa iw ha bZ;simp
           rw[e];exact nc (mk:=λ_:Unit=>((i:Int)+1,x,()))
          simp
        ·rfl
        ·intro i G b;have hw:=bC (n:=(i:Int)+1) (by omega) (by omega);simp only[bV,cT G,if_true,df G,cG G,A.br,A.aF,ch,hw,A.bo (show IL.pre x.2.2.2.1[i] from fF _ (List.getElem_mem G))];exact nc (mk:=λ_:Unit=>((i:Int)+1,x,()))
        simp
      ·rfl
      ·intro i G b;have hw:=bC (n:=(i:Int)+1) (by omega) (by omega);simp only[bV,cT G,if_true,df G,cG G,A.br,A.aF,ch,hw,A.n7,A.gL,A.bo (show IK.pre (x,x.2.2.1[i]) from⟨aD,dp _ (List.getElem_mem G)⟩)];exact nc (mk:=λ_:Unit=>((i:Int)+1,x,()))
      simp
    ·rfl
    ·intro i G b;have hw:=bC (n:=(i:Int)+1) (by omega) (by omega);simp only[bV,cT G,if_true,df G,cG G,A.br,A.aF,ch,hw];exact nc (mk:=λ_:Unit=>((i:Int)+1,x,()))
    simp
  ·rw[if_pos (by grind)]
   ·have:l5 x=false:=by
     unfold l5;grind
    grind
 grind
theorem apm:IF 201=true:=by decide +kernel
abbrev sY:aL:=⟨.az (.int .u64) (.int .u64),.az (.int .u64) (.int .u64),λx=>x.1=1/\0<=x.2/\x.2<=200,λx=>(0,x.2)⟩
theorem apn(x):A.le (VL x) (sY.sh x):=A.bu λh=>by
 obtain⟨a,b⟩:=x;obtain⟨E,U,ah⟩:=h;change a=1 at E;change 0<=b at U;change b<=200 at ah;subst E;have aX:=ZE 201 b.toNat apm (by omega);rw[Int.toNat_of_nonneg U]at aX;have hw:=Pt (n:=1*b) (by omega) (by omega);have apo:((0:Int)<=32)=True:=by simp
 unfold VL;simp only[apo,A.br];show A.pure (Pv (1,b),IntKind.wrap .u64 (1*b))=_;grind
theorem apq(apr)(x):A.le (VJ apr sY.sh x) (sY.sh x):=A.bu λh=>by
 unfold VJ;simp only[aL.sh,A.dF];simp_all
section
variable {ak β:Type}
theorem aps(a d:ak)(m J:Nat)(E:1<=m)(U:m<J) :
  List.take m (List.replicate m a++List.replicate (J - m) d)++List.take (J - m) (List.take m (List.replicate m a++List.replicate (J - m) d))++
   List.drop (m+(List.take (J - m) (List.take m (List.replicate m a++List.replicate (J - m) d))).length) (List.replicate m a++List.replicate (J - m) d)
  =List.replicate (m+min (J - m) m) a++List.replicate (J - (m+min (J - m) m)) d:=by
 have ax:List.take m (List.replicate m a++List.replicate (J - m) d)=List.replicate m a:=by
  simp
 rw[ax,List.take_replicate,List.replicate_append_replicate,List.length_replicate,List.drop_append,List.length_replicate];have aM:List.drop (m+min (J - m) m) (List.replicate m a)=[]:=by simp
 grind
def ZJ(d:ak)(fin:List ak->A β)(x2:Int×Int->A (Int×Int))(x:List ak)(n:Int):A β:=
 A.bind (if decide (n<0)=true then A.ab False (A.ab False (A.pure (V.next (x,n,())))) else A.pure (V.next (x,n,())))
 (V.bz λ(D:List ak×Int×Unit)=>A.bind (x2 (IntKind.wrap .u64 (Int.ofNat (List.length D.1)),IntKind.wrap .u64 D.2.1)) λy
 =>A.bind (if (decide (y.1 > 0)||decide (y.2 > 9223372036854775807))=true then A.ab False (A.ab False (A.pure (V.next (D.1,y.2,())))) else
 A.pure (V.next (D.1,y.2,()))) (V.bz λ(D:List ak×Int×Unit)=>A.ab (0<=IntKind.wrap .i64 D.2.1/\IntKind.wrap .i64 D.2.1=
 IntKind.wrap .i64 D.2.1/\bM (Int.toNat (IntKind.wrap .i64 D.2.1))) (A.ab True (A.bind (A.loop (λ(D:Int×List ak×Unit)=>if decide (D.1
 < Int.ofNat (List.length D.2.1))=true then A.ab (0<=D.1/\D.1<=Int.ofNat (List.length D.2.1)/\Int.ofNat (List.length D.2.1)<=Int.ofNat
 (List.length D.2.1)) (A.ab ((0:Int)<=0/\0<=D.1/\D.1<=Int.ofNat (List.length D.2.1)) (A.ab True (A.pure (V.next (IntKind.wrap .i64
 (Add.add D.1 (Int.ofNat (if Int.toNat (Int.ofNat (List.length D.2.1)) - Int.toNat D.1<=List.length (List.take (Int.toNat D.1) D.2.1) then Int.toNat
 (Int.ofNat (List.length D.2.1)) - Int.toNat D.1 else List.length (List.take (Int.toNat D.1) D.2.1)))),List.take (Int.toNat D.1) D.2.1++List.take
 (Int.toNat (Int.ofNat (List.length D.2.1)) - Int.toNat D.1) (List.take (Int.toNat D.1) D.2.1)++List.drop (Add.add (Int.toNat D.1) (List.length
 (List.take (Int.toNat (Int.ofNat (List.length D.2.1)) - Int.toNat D.1) (List.take (Int.toNat D.1) D.2.1)))) D.2.1,()))))) else A.bind (A.pure
 (V.next (D.2.1,()))) λr=>A.pure (V.done r)) (Int.ofNat (if List.length (List.replicate (Int.toNat (IntKind.wrap .i64 D.2.1)) d) - 0<=
 List.length D.1 then List.length (List.replicate (Int.toNat (IntKind.wrap .i64 D.2.1)) d) - 0 else List.length D.1),[]++List.take (List.length
 (List.replicate (Int.toNat (IntKind.wrap .i64 D.2.1)) d) - 0) D.1++List.drop (Add.add 0 (List.length (List.take (List.length (List.replicate
 (Int.toNat (IntKind.wrap .i64 D.2.1)) d) - 0) D.1))) (List.replicate (Int.toNat (IntKind.wrap .i64 D.2.1)) d),())) (V.bz λ(D:List ak×
 Unit)=>fin D.1)))))
theorem PC(d a:ak)(Mv:List ak->β)(n:Int)(U:0<=n)(ah:n<=200):A.cw (ZJ d (λl=>A.pure (Mv l)) sY.sh [a] n) λy=>y=Mv (List.replicate n.toNat a):=by
 obtain⟨J,rfl⟩:=Int.eq_ofNat_of_zero_le U;have IM:decide ((J:Int)<0)=false:=by simp
 have lR:IntKind.u64.wrap (Int.ofNat ([a]:List ak).length)=1:=Pt (by simp) (by simp);have apt:=Pt (n:=(J:Int)) (by omega) (by omega);have ki:=bC (n:=(J:Int)) (by omega) (by omega);have an:sY.pre (1,(J:Int)):=⟨rfl,U,ah⟩
 have apu:decide ((J:Int) > 9223372036854775807)=false:=by grind
 have lP:bM J:=by unfold bM;omega
 have M:0<=(J:Int)/\True/\bM (Int.toNat (J:Int)):=⟨U,trivial,by grind⟩
 unfold ZJ;simp only[IM,Bool.false_eq_true,if_false,A.aF,A.bX,lR,apt,aL.sh,A.dF];rw[A.bo (by grind)];simp only[gt_iff_lt,Int.lt_irrefl,decide_false,Bool.false_or,Bool.false_eq_true,if_false,A.aF,A.bX,ki];have apv:decide ((9223372036854775807:Int)<(J:Int))=false:=apu;simp only[apv,Bool.false_eq_true,if_false,A.aF,A.bX,ki];rw[A.bo M];simp only[A.br,A.f',Int.toNat_natCast,List.length_replicate,Nat.sub_zero,List.nil_append,List.length_singleton,bV,gW,Nat.zero_add];refine A.BU (λs=>∃ m:Nat,(1<=m\/J=0)/\m<=J/\s=((m:Int),List.replicate m a++List.replicate (J - m) d,())) (λs=>J - s.1.toNat) ?_ _ ?_
 ·rintro s ⟨m,hm,ayh,rfl⟩;have hlen:(List.replicate m a++List.replicate (J - m) d).length=J:=by grind
  simp only[hlen];by_cases cc:m<J
  ·have gK:0<=(m:Int)/\(m:Int)<=(J:Int)/\(J:Int)<=(J:Int):=by omega
   have cN:(0:Int)<=0/\0<=(m:Int)/\(m:Int)<=(J:Int):=by omega
   have ke:1<=m:=by omega
   have ZK:(List.take m (List.replicate m a++List.replicate (J - m) d)).length=m:=by simp
   simp only[cT cc,if_true,A.bo gK,A.bo cN,A.br,Int.toNat_natCast,ZK,ch];rw[A.ea,aps a d m J ke cc];have apw:(if J - m<=m then J - m else m)=min (J - m) m:=by rfl
   rw[apw];have gU:=bC (n:=(m:Int)+((min (J - m) m:Nat):Int)) (by omega) (by omega);refine⟨⟨m+min (J - m) m,.inl (by omega),by omega,?_⟩,?_⟩
   ·rw[gU];simp
   ·simp only[gU];omega
  ·have:m=J:=by omega
   subst this;simp only[Int.lt_irrefl,decide_false,Bool.false_eq_true,if_false,A.aF,A.ea,A.bX,Nat.sub_self,List.replicate_zero,List.append_nil]
 ·by_cases ayi:J=0
  ·grind
  ·refine⟨1,.inl (Nat.le_refl _),by omega,?_⟩;grind
end
abbrev IN:aL:=⟨.az fP bx,fP,λx=>x.1=[-1]/\0<=x.2/\x.2<=200,λx=>List.replicate x.2.toNat (-1)⟩
theorem apx(x):A.le (aj' sY.sh x) (IN.sh x):=A.sA λh=>by
 obtain⟨l,n⟩:=x;obtain⟨E,U,ah⟩:=h;change l=[-1]at E;subst E;exact PC (0:Int) (-1) (λl=>l) n U ah
def wc(x:z1'×Int×Unit):A (z1'×Unit):=A.dR (x.1=[-1]/\0<=x.2.1/\x.2.1<=200) (List.replicate x.2.1.toNat (-1),())
theorem ZL(x):A.le (akp sY.sh x) (wc x):=A.sA λh=>by
 obtain⟨l,n,u⟩:=x;obtain⟨E,U,ah⟩:=h;change l=[-1]at E;subst E;exact PC (0:Int) (-1) (λl=>(l,())) n U ah
abbrev IP:ad:=.st (.az bx bx)
abbrev IQ:aL:=⟨.az (.slice IP) bx,.slice IP,λx=>x.1.length=1/\0<=x.2/\x.2<=200,λx=>List.replicate x.2.toNat (x.1.getD 0 (0,0))⟩
theorem apy(x):A.le (akm sY.sh x) (IQ.sh x):=A.sA λh=>by
 obtain⟨l,n⟩:=x;obtain⟨E,U,ah⟩:=h;change l.length=1 at E;obtain⟨a,rfl⟩:=List.length_eq_one_iff.1 E;exact PC ((0,0):Int×Int) a (λl=>l) n U ah
end Go.Fer
namespace Go.Fer
open A (V)
def yo(s:bp)(n:Int):Bool:=decide (0<=n)&&decide (n<(s.2.2.2.1.length:Int))
def yp(s:bp)(n:Int):Bool:=decide (0<=n)&&decide (n<(s.2.2.1.length:Int))
theorem apz{s:bp}{n:Int}:yo s n=true<->0<=n/\n<(s.2.2.2.1.length:Int):=by simp[yo]
theorem apA{s:bp}{n:Int}:yp s n=true<->0<=n/\n<(s.2.2.1.length:Int):=by simp[yp]
abbrev PD:aL:=⟨.az k5 bx,dk,λx=>e8 x.1,λx=>yo x.1 x.2⟩
abbrev PE:aL:=⟨.az k5 bx,dk,λx=>e8 x.1,λx=>yp x.1 x.2⟩
theorem apB(x):A.le (V5 cr.sh x) (PD.sh x):=A.bu λh=>by
 have aj:=h.2.2.2.1;have hw:=bC (n:=(x.1.2.2.2.1.length:Int) - 1) (by omega) (by omega);unfold V5;simp[aL.sh,cr,hw,yo,rA]
theorem apC(x):A.le (V_ cr.sh x) (PE.sh x):=A.bu λh=>by
 have aj:=h.2.2.1;have hw:=bC (n:=(x.1.2.2.1.length:Int) - 1) (by omega) (by omega);unfold V_;simp[aL.sh,cr,hw,yp,rA]
def sZ(x:dm)(p:c1):Int:=if (!x.1.contains p.1||!bZ p.2.1 x.2.1.1 x.2.1.2)=true then 0 else if p.2.2.1=x.2.2.1 then 1 else if p.2.2.1=0 then 2 else 0
abbrev we:aL:=⟨.az mA nn,bx,λx=>x.1.1.length<2 ^ 63,λx=>sZ x.1 x.2⟩
theorem apD(x):A.le (V' cr.sh oU.sh x) (we.sh x):=A.bu λh=>by
 unfold V';simp only[aL.sh,cr,oU,A.dF,A.jd,implies_true,A.br,qp];rw[A.bo (by exact h)];show _=A.pure (sZ x.1 x.2);unfold sZ bZ;grind
def wg(s:bp)(l:z1')(i:Nat):Bool:=decide (l.getD i 0=-1)||(yp s (l.getD i 0)&&!(l.take i).contains (l.getD i 0))
def wh(s:bp)(l:z1'):Bool:=((List.range l.length).all (wg s l))&&decide ((l.length:Int)=(s.2.2.2.1.length:Int))
abbrev IS:aL:=⟨.az k5 fP,dk,λx=>e8 x.1/\x.2.length<2 ^ 63,λx=>wh x.1 x.2⟩
theorem apE(x):A.le (Wa PE.sh oU.sh x) (IS.sh x):=A.bu λh=>by
 obtain⟨s,l⟩:=x;obtain⟨aD,aj⟩:=h;change e8 s at aD;change l.length<2 ^ 63 at aj;unfold Wa;rw[A.dB (List.range l.length) (λi (_:Unit)=>(l,l,(l.length:Int),(i:Int),s,())) (λi b=>if (!wg s l i)=true then .done (.done false) else .next b) (λ_=>.next (l,s,())) () ?_ ?_ ?_]
 ·rw[kU (q:=wg s l) _ _ (λ_=>rfl)];show _=A.pure (wh s l);unfold wh;cases (List.range l.length).all (wg s l)<;>simp
 ·simp
 ·intro i G b;have G:i<l.length:=by grind
  have hw:=bC (n:=(i:Int)+1) (by omega) (by omega);obtain⟨aK,jw⟩:∃ aK,l.getD i 0=aK:=⟨_,rfl⟩
  have cL:wg s l i=(decide (aK=-1)||(yp s aK&&!(l.take i).contains aK)):=by unfold wg;rw[jw]
  simp only[bV,cT G,if_true,List.getElem_range,cG G,A.br,aL.sh,A.dF,A.jd,Int.toNat_natCast,jw];rw[A.bo (by grind),A.bo,A.bo]
  ·simp only[A.aF,ch,hw,wg,jw];by_cases E:aK=-1
   ·simp_all
   ·cases U:yp s aK<;>cases ah:(l.take i).contains aK<;>simp[E,U,ah,V.hn]
  ·intro _;show (l.take i).length<2 ^ 63;rw[List.length_take];omega
  ·intro cW;exact⟨⟨cW,trivial,cW⟩,⟨by omega,by omega,by omega⟩,trivial⟩
 simp
def k6(s:bp)(cb:Bool):Int:=if hz s≠0 then hz s else if cb=false then 1 else eK s.1 true
theorem IT{s:bp}(h:hz s=0):cM s.1=0/\l5 s=true:=by
 unfold hz at h;grind
theorem Bi{s:bp}{cb:Bool}(h:k6 s cb=0):hz s=0/\cb=true/\eK s.1 true=0/\v' s.1=true:=by
 unfold k6 at h;by_cases he:hz s=0
 ·rw[if_neg (by omega)]at h;cases cb with
  | false=>grind
  | true=>
   simp only[Bool.true_eq_false,if_false]at h;exact⟨he,rfl,h,(ED h).2.2⟩
 omega
structure h2(s:bp):Prop where
 fU:e8 s
 qy:qC s.1
 wj:s.2.1.length=s.1.1.length
 ob:∀ n∈s.2.1,0<=n/\n<=10
 EN:s.2.2.1.length<=8
 PF:∀ p∈s.2.2.1,o2 s.1 p=true
 s3:s.2.2.2.1.length<=6
 IU:∀ x∈s.2.2.2.1,n' x=true
 IV:s.2.2.2.2.1.length<=8
 IW:∀ d∈s.2.2.2.2.1,oa s.1 d=true
 ZM:0<=s.2.2.2.2.2/\s.2.2.2.2.2<=99
theorem Bj{s:bp}(aD:e8 s)(h:hz s=0):h2 s:=by
 obtain⟨E,U⟩:=IT h;simp only[l5,Bool.and_eq_true,decide_eq_true_eq,List.all_eq_true,bZ,iw]at U;obtain⟨⟨⟨⟨⟨⟨⟨⟨aO,aR⟩,bO⟩,fI⟩,mT⟩,tS⟩,DA⟩,DB⟩,MX⟩:=U;exact⟨aD,⟨aD.1,Pq E⟩,by omega,aR,by omega,fI,by omega,tS,by omega,DB,MX⟩
theorem h2.IX{s:bp}(h:h2 s):s.1.1.length<=10:=(Ba h.qy.2).1
def IY(w:bj)(t:z5')(q:Int×Int×Int):z5':=if uy w q.1 q.2.1 q.2.2=1 then vy t q (IntKind.i64.wrap ((o1 t q).getD 0+1)) else t
def ZN(w:bj)(i m:Nat)(t:z5'):z5':=(List.range (iT w (m:Int)).length).foldl (λt (k:Nat)=>IY w t ((i:Int),(m:Int),(k:Int))) t
def ZO(w:bj)(i:Nat)(t:z5'):z5':=(List.range w.2.1.length).foldl (λt m=>ZN w i m t) t
def uC(w:bj)(n:Nat):z5':=(List.range n).foldl (λt i=>ZO w i t) []
def lC(p:Int×Int)(n:Int):z4':=List.replicate n.toNat p
def EO(l:z1'):z4':=(List.range l.length).flatMap λ(i:Nat)=>lC ((i:Int),0) (l.getD i 0)
def ZP(l:List rr):z4':=l.flatMap λd=>lC (d.2.1,d.1) d.2.2
def PG(s:bp):z4':=EO s.2.1++ZP s.2.2.2.2.1
def dt(s:bp):dy:=(s,PG s,uC s.1 s.2.1.length)
def yq(s:bp)(cb:Bool):Option dy×Int:=if k6 s cb≠0 then (none,k6 s cb) else (some (dt s),0)
theorem PH{ak β:Type}(f:ak->List β):∀ (l:List ak) (b:List β),l.foldl (λb x=>b++f x) b=b++l.flatMap f
 | [],b=>by simp
 | x::l,b=>by rw[List.foldl_cons,PH f l,List.flatMap_cons,List.append_assoc]
abbrev apF:ad:=.st (.az bx (.az bx bx))
abbrev wk:ad:=.bH (.st (.az k5 (.az (.slice IP) (.map apF bx))))
abbrev Bk:aL:=⟨.az k5 dk,.az wk bx,λx=>e8 x.1,λx=>yq x.1 x.2⟩
theorem apG(s:bp)(cb:Bool)(aD:e8 s):N1 mB.sh yj.sh Bb.sh IQ.sh (s,cb)=A.pure (yq s cb):=by
 unfold N1 yq k6;simp only[aL.sh,A.dF,A.bo aD];by_cases he:hz s=0
 ·have ae:=Bj aD he;simp only[he,ne_eq,not_true,decide_false,Bool.false_eq_true,if_false];cases cb with
  | false=>simp
  | true=>
   simp only[Bool.not_true,Bool.false_eq_true,if_false,Bool.true_eq_false];refine Eq.trans (congrArg (λm=>A.bind m _) (show _=(if eK s.1 true≠0 then A.pure (V.done ((none:Option dy),eK s.1 true)) else A.pure (V.next (s,([]:z5'),s.1.1,s.1.2.1,s.1.2.2.1,s.1.2.2.2,s.2.1,s.2.2.1,s.2.2.2.1,s.2.2.2.2.1,s.2.2.2.2.2,()))) from ?_)) ?_
   ·by_cases bk:s.2.1.length=0
    ·have aH:eK s.1 true=0:=by
      unfold eK;have aX:s.1.1.length=0:=by rw[<-ae.wj];exact bk
      have:v' s.1=true:=by unfold v';grind
      simp[(IT he).1,this]
     grind
    ·have E:decide (Int.ofNat (List.length s.2.1) > 0)=true:=by grind
     have U:ha s.1 0=true:=by rw[sU];have:=ae.wj;omega
     rw[if_pos E,A.bo aD.1];unfold wa;rw[U];by_cases al:eK s.1 true=0
     ·simp[al]
     ·simp[al]
   by_cases y1:eK s.1 true=0
   ·simp only[y1,ne_eq,not_true,if_false,A.aF,A.bX];have ayj:=ae.IX;have fm:=ae.wj;have apH:s.1.2.1.length<=6:=(Ba ae.qy.2).2.1;rw[A.dB (List.range s.2.1.length) (λi t=>((s.2.1.length:Int),(i:Int),s,t,s.1.1,s.1.2.1,s.1.2.2.1,s.1.2.2.2,s.2.1,s.2.2.1,s.2.2.2.1,s.2.2.2.2.1,s.2.2.2.2.2,())) (λi t=>.next (ZO s.1 i t)) (λt=>.next (s,t,s.1.1,s.1.2.1,s.1.2.2.1,s.1.2.2.2,s.2.1,s.2.2.1,s.2.2.2.1,s.2.2.2.2.1,s.2.2.2.2.2,())) [] ?_ ?_ ?_]
    ·rw[dP];simp only[A.aF,A.bX];rw[A.fC (List.range s.2.1.length) (λi acc=>(s.2.1,(s.2.1.length:Int),(i:Int),s,uC s.1 s.2.1.length,s.1.1,s.1.2.1,s.1.2.2.1,s.1.2.2.2,s.2.1,s.2.2.1,s.2.2.2.1,s.2.2.2.2.1,s.2.2.2.2.2,acc,())) (λi acc=>.next (acc++lC ((i:Int),0) (s.2.1.getD i 0))) (λacc=>.next (s,uC s.1 s.2.1.length,s.1.1,s.1.2.1,s.1.2.2.1,s.1.2.2.2,s.2.1,s.2.2.1,s.2.2.2.1,s.2.2.2.2.1,s.2.2.2.2.2,acc,())) (λi acc=>acc.length<=10*i) [] ?_ ?_ ?_ ?_]
     ·rw[dP,PH];simp only[A.aF,A.bX,List.nil_append];have fY:(EO s.2.1).length<=100:=by
       have:∀ (l:List Nat),(∀ i∈l,i<s.2.1.length)->(l.flatMap λ(i:Nat)=>lC ((i:Int),0) (s.2.1.getD i 0)).length<=10*l.length:=by
        intro l;induction l with
        | nil=>simp
        | cons i l aJ=>
         intro aj;have E:=aJ λj aE=>aj j (by grind);have U:=aj i (by simp);have ah:=ae.ob _ (List.getElem_mem U);have jw:s.2.1.getD i 0=s.2.1[i]:=by grind
         rw[List.flatMap_cons,List.length_append,List.length_cons,jw];simp only[lC,List.length_replicate];simp only[lC]at E;omega
       have:=this (List.range s.2.1.length) (λi G=>by grind);rw[List.length_range]at this;unfold EO;omega
      rw[A.fC s.2.2.2.2.1 (λi acc=>(s.2.2.2.2.1,(s.2.2.2.2.1.length:Int),(i:Int),uC s.1 s.2.1.length,s.1.1,s.1.2.1,s.1.2.2.1,s.1.2.2.2,s.2.1,s.2.2.1,s.2.2.2.1,s.2.2.2.2.1,s.2.2.2.2.2,acc,())) (λd acc=>.next (acc++lC (d.2.1,d.1) d.2.2)) (λacc=>.next (uC s.1 s.2.1.length,s.1.1,s.1.2.1,s.1.2.2.1,s.1.2.2.2,s.2.1,s.2.2.1,s.2.2.2.1,s.2.2.2.2.1,s.2.2.2.2.2,acc,())) (λi acc=>acc.length<=100+10*i) (EO s.2.1) ?_ ?_ ?_ ?_]
      ·rw[dP,PH,A.aF,A.bX];rfl
      ·rfl
      ·omega
      ·intro i G acc Pr;have ayk:=ae.IV;have h1:=bC (n:=(i:Int)+1) (by omega) (by omega);have ar:=ae.IW _ (List.getElem_mem G);have Df:1<=s.2.2.2.2.1[i].2.2/\s.2.2.2.2.1[i].2.2<=10:=by
        simp only[oa,bZ,Bool.and_eq_true,decide_eq_true_eq]at ar;omega
       have hlen:(lC (s.2.2.2.2.1[i].2.1,s.2.2.2.2.1[i].1) s.2.2.2.2.1[i].2.2).length<=10:=by simp only[lC,List.length_replicate];omega
       have lP:bM (acc.length+(lC (s.2.2.2.2.1[i].2.1,s.2.2.2.2.1[i].1) s.2.2.2.2.1[i].2.2).length):=by unfold bM;omega
       refine⟨?_,λbd W=>?_⟩
       ·simp only[bV,cT G,if_true,df G,cG G,A.br,A.n7,A.gL,ch,gW,h1];rw[A.bo (by grind),A.bo (by exact lP)];rfl
       grind
      simp
     ·rfl
     ·simp
     ·intro i G acc Pr;have G:i<s.2.1.length:=by grind
      have h1:=bC (n:=(i:Int)+1) (by omega) (by omega);have jw:s.2.1.getD i 0=s.2.1[i]:=by grind
      have Df:=ae.ob _ (List.getElem_mem G);have hlen:(lC ((i:Int),0) s.2.1[i]).length<=10:=by simp only[lC,List.length_replicate];omega
      have lP:bM (acc.length+(lC ((i:Int),0) s.2.1[i]).length):=by unfold bM;omega
      refine⟨?_,λbd W=>?_⟩
      ·simp only[bV,cT G,if_true,df G,cG G,A.br,A.n7,A.gL,ch,gW,h1,List.getElem_range,jw];rw[A.bo (by grind),A.bo (by exact lP)];rfl
      grind
     simp
    ·simp
    ·intro i G t;have G:i<s.2.1.length:=by grind
     have h1:=bC (n:=(i:Int)+1) (by omega) (by omega);simp only[bV,cT G,if_true,List.getElem_range];rw[A.dB (List.range s.1.2.1.length) (λm t=>((i:Int),(s.2.1.length:Int),(i:Int),s.1.2.1,(s.1.2.1.length:Int),(m:Int),s,t,s.1.1,s.1.2.1,s.1.2.2.1,s.1.2.2.2,s.2.1,s.2.2.1,s.2.2.2.1,s.2.2.2.2.1,s.2.2.2.2.2,())) (λm t=>.next (ZN s.1 i m t)) (λt=>.next ((s.2.1.length:Int),(i:Int),s,t,s.1.1,s.1.2.1,s.1.2.2.1,s.1.2.2.2,s.2.1,s.2.2.1,s.2.2.2.1,s.2.2.2.2.1,s.2.2.2.2.2,())) t ?_ ?_ ?_]
     ·rw[dP];simp only[A.aF,A.bX,ch,h1];rfl
     ·rfl
     ·intro m hm t;have hm:m<s.1.2.1.length:=by grind
      have IZ:=bC (n:=(m:Int)+1) (by omega) (by omega);have apI:s.1.2.1[m]=iT s.1 (m:Int):=by simp[iT,List.getD_eq_getElem?_getD,hm]
      simp only[bV,cT hm,if_true,List.getElem_range,cG hm,A.br,df hm,apI];have A_:=Iv aD.1 (m:Int);rw[A.dB (List.range (iT s.1 (m:Int)).length) (λk t=>((i:Int),(m:Int),(s.2.1.length:Int),(i:Int),s.1.2.1,(s.1.2.1.length:Int),(m:Int),((iT s.1 (m:Int)).length:Int),(k:Int),s,t,s.1.1,s.1.2.1,s.1.2.2.1,s.1.2.2.2,s.2.1,s.2.2.1,s.2.2.2.1,s.2.2.2.2.1,s.2.2.2.2.2,())) (λk t=>.next (IY s.1 t ((i:Int),(m:Int),(k:Int)))) (λt=>.next ((i:Int),(s.2.1.length:Int),(i:Int),s.1.2.1,(s.1.2.1.length:Int),(m:Int),s,t,s.1.1,s.1.2.1,s.1.2.2.1,s.1.2.2.2,s.2.1,s.2.2.1,s.2.2.2.1,s.2.2.2.2.1,s.2.2.2.2.2,())) t ?_ ?_ ?_]
      ·rw[dP];simp only[A.aF,A.bX,ch,IZ];rfl
      ·rfl
      ·intro k al t;have al:k<(iT s.1 (m:Int)).length:=by grind
       have l4:=bC (n:=(k:Int)+1) (by omega) (by omega);have n2:ha s.1 (i:Int)=true:=by rw[sU];omega
       have apJ:iU s.1 (m:Int) (k:Int)=true:=by rw[A8];omega
       have ao:qD s.1 (i:Int) (m:Int) (k:Int)=(uy s.1 (i:Int) (m:Int) (k:Int),0):=by simp[qD,n2,apJ,y1]
       simp only[cT al,if_true,List.getElem_range];simp only[ao,A.bo aD.1,decide_eq_true_eq];by_cases E:uy s.1 (i:Int) (m:Int) (k:Int)=1
       ·simp only[E,if_true,and_self,A.br,A.aF,A.bX,ch,l4,V.hn,IY];rfl
       ·simp only[E,if_false,A.aF,A.bX,ch,l4,V.hn,IY];rfl
      simp
     simp
    simp
   ·simp[y1]
 grind
theorem apK(x):A.le (N1 mB.sh yj.sh Bb.sh IQ.sh x) (Bk.sh x):=A.bu λh=>apG x.1 x.2 h
theorem apL{p:Int->Bool}{l:z1'}(h:jA p l=true):∀ x∈l,p x=true:=by
 intro x ag;obtain⟨i,G,rfl⟩:=List.mem_iff_getElem.1 ag;unfold jA at h;simp_all
theorem apM{p:Int->Bool}{l:z1'}(h:jA p l=true):l.Pairwise (·<·):=by
 unfold jA at h;rw[List.all_eq_true]at h;have step:∀ i,i+1<l.length->l.getD i 0<l.getD (i+1) 0:=λi G=>by
  grind
 have key:∀ j i,i<j->j<l.length->l.getD i 0<l.getD j 0:=by
  intro j;induction j with
  | zero=>omega
  | succ j aJ=>
   grind
 rw[List.pairwise_iff_getElem];grind
theorem I0{s:bp}(ae:h2 s){p:c1}(an:p∈s.2.2.1):nl s.1 p.2.2.2.1=true/\p.2.2.2.2.length<=4/\∀ k∈p.2.2.2.2,iU s.1 p.2.2.2.1 k=true:=by
 have h:=ae.PF p an;simp only[o2,Bool.and_eq_true]at h;obtain⟨⟨_,hm⟩,M⟩:=h;have fR:∀ k∈p.2.2.2.2,iU s.1 p.2.2.2.1 k=true:=λk al=>by
  have:=apL M k al;rw[A8];simp only[Bh,Bool.and_eq_true,decide_eq_true_eq]at this;exact⟨A7.1 hm,this⟩
 refine⟨hm,?_,fR⟩;have apN:=apM M;have tD:p.2.2.2.2.Nodup:=apN.imp λh e=>by omega
 cases W:p.2.2.2.2 with
 | nil=>simp
 | cons k l=>
  rw[<-W];have a1:=aoh ae.qy.2 (fR k (by grind));have:=Pu (iT s.1 p.2.2.2.1).length p.2.2.2.2 tD λk al=>by
   have:=A8.1 (fR k al);omega
  omega
abbrev rF:Type:=Int×Int×Int
abbrev apO:dm:=([],(0,0),0,0,0)
abbrev apP:c1:=(0,0,0,0,[])
abbrev yr:dy:=((([],[],0,[]),[],[],[],[],0),[],[])
def mC(s:bp)(i:Int):dm:=s.2.2.2.1.getD i.toNat apO
def np(s:bp)(i:Int):c1:=s.2.2.1.getD i.toNat apP
def wm(s:bp)(x:dm)(p:c1):Option Int:=if sZ x p=0 then none else if (if sZ x p=2 then x.2.2.2.1 - s.2.2.2.2.2 else x.2.2.2.1)<0 then none else some (if sZ x p=2 then x.2.2.2.1 - s.2.2.2.2.2 else x.2.2.2.1)
def o3(s:bp)(b':z1')(i:Nat):Option (List rF):=if b'.getD i 0<0 then some [] else (wm s (mC s (i:Int)) (np s (b'.getD i 0))).map λd=>(np s (b'.getD i 0)).2.2.2.2.map λk=>((np s (b'.getD i 0)).2.2.2.1,k,d)
def lD(s:bp)(b':z1'):List rF×Bool:=if ((List.range b'.length).all λi=>(o3 s b' i).isSome)=true then ((List.range b'.length).flatMap λi=>(o3 s b' i).getD [],true) else ([],false)
def oc(s:bp)(b':z1'):Prop:=b'.length<=s.2.2.2.1.length/\∀ p∈b',p<(s.2.2.1.length:Int)
def od(o:Option dy):bp:=(o.getD yr).1
def wo(o:Option dy)(s:bp):Prop:=o=some (dt s)/\h2 s
theorem PI{s:bp}{i:Nat}(h:i<s.2.2.2.1.length):mC s (i:Int)∈s.2.2.2.1:=by
 simp[mC,List.getD_eq_getElem?_getD,h]
theorem ZQ{s:bp}{i:Int}(aX:0<=i)(h:i<(s.2.2.1.length:Int)):np s i∈s.2.2.1:=xY aX h
theorem ZR{s:bp}(ae:h2 s){x:dm}(ag:x∈s.2.2.2.1):(0<=x.2.2.2.1/\x.2.2.2.1<=99)/\(0<=x.2.2.2.2/\x.2.2.2.2<=100000):=by
 have:=ae.IU x ag;simp only[n',iw,bZ,Bool.and_eq_true,decide_eq_true_eq]at this;omega
theorem ZS{s:bp}(ae:h2 s){b':z1'}(an:oc s b'){i:Nat}(G:i<b'.length){l:List rF}(h:o3 s b' i=some l):l.length<=4:=by
 unfold o3 at h;split at h
 ·grind
 ·rename_i IM;rw[Option.map_eq_some_iff]at h;obtain⟨d,_,rfl⟩:=h;rw[List.length_map];have hm:b'.getD i 0∈b':=by grind
  exact (I0 ae (ZQ (by omega) (an.2 _ hm))).2.1
def Bl{ak β aI:Type}(f:ak->Option (List β))(r:aI)(x:ak)(b:List β):V (List β) aI:=if (f x).isSome=true then .next (b++(f x).getD []) else .done r
theorem EP{ak β aI:Type}{f:ak->Option (List β)}{r:aI}{x:ak}{b y:List β}(h:f x=some y):Bl f r x b=.next (b++y):=by simp[Bl,h]
theorem I1{ak β aI:Type}{f:ak->Option (List β)}{r:aI}{x:ak}{b:List β}(h:f x=none):Bl f r x b=.done r:=by simp[Bl,h]
theorem ZT{ak β aI:Type}{f:ak->Option (List β)}{r:aI}{fin:List β->aI}:∀ (l:List ak) (b:List β),eZ (Bl f r) fin l b=if (l.all λx=>(f x).isSome)=true then fin (b++l.flatMap λx=>(f x).getD []) else r
 | [],b=>by simp[eZ]
 | x::l,b=>by
  simp only[eZ];cases h:f x with
  | none=>simp[I1 h,h]
  | some y=>
   have:=ZT (f:=f) (r:=r) (fin:=fin) l (b++y);simp only[EP h,List.all_cons,h,Option.isSome_some,Bool.true_and,List.flatMap_cons,Option.getD_some];grind
abbrev I2:ad:=.st (.az bx (.az bx bx))
abbrev I3:aL:=⟨.az wk fP,.az (.slice I2) dk,λx=>∃ s,wo x.1 s/\oc s x.2,λx=>lD (od x.1) x.2⟩
theorem apQ(s:bp)(ae:h2 s)(b':z1')(an:oc s b'):N2 we.sh (some (dt s),b')=A.pure (lD s b'):=by
 unfold N2;have Bm:=ae.s3;have ayl:=an.1;simp only[Option.isSome_some,Option.getD_some,A.br];rw[A.fC (List.range b'.length) (λi acc=>(some (dt s),b',(b'.length:Int),(i:Int),acc,())) (Bl (o3 s b') (.done ([],false))) (λacc=>.next (acc,())) (λi acc=>acc.length<=4*i) [] ?_ ?_ ?_ ?_]
 ·rw[ZT];unfold lD;by_cases h:((List.range b'.length).all λi=>(o3 s b' i).isSome)=true
  ·simp[h]
  ·simp[h]
 ·rfl
 ·simp
 ·intro i G acc Pr;have G:i<b'.length:=by grind
  have s4:i<s.2.2.2.1.length:=by omega
  have h1:=bC (n:=(i:Int)+1) (by omega) (by omega);have I4:=PI s4;rw[List.getElem_range];obtain⟨aK,apR⟩:∃ aK,b'.getD i 0=aK:=⟨_,rfl⟩
  have apS:aK∈b':=by grind
  refine⟨?_,λbd W=>?_⟩
  ·simp only[bV,cT G,if_true,Int.toNat_natCast,apR,cG G,A.br,Option.isSome_some,Option.getD_some];by_cases IM:aK<0
   ·have mU:o3 s b' i=some []:=by unfold o3;grind
    rw[EP mU];simp_all
   ·have ik:aK<(s.2.2.1.length:Int):=an.2 aK apS;have apT:=ZQ (s:=s) (by omega) ik;have gK:0<=aK/\aK<(s.2.2.1.length:Int):=⟨by omega,ik⟩
    have fY:(dt s).1=s:=rfl;have Bn:List.getD s.2.2.2.1 i ([],(0,0),0,0,0)=mC s (i:Int):=rfl;have PJ:List.getD s.2.2.1 aK.toNat (0,0,0,0,[])=np s aK:=rfl;simp only[IM,decide_false,Bool.false_eq_true,if_false,fY,cG s4,A.bo gK,A.br,aL.sh,A.dF,Bn,PJ];have mU:o3 s b' i=(wm s (mC s (i:Int)) (np s aK)).map λd=>(np s aK).2.2.2.2.map λk=>((np s aK).2.2.2.1,k,d):=by unfold o3;grind
    rw[A.bo (show we.pre (mC s (i:Int),np s aK) from ae.fU.2.2.2.2.2.2 _ I4)];obtain⟨aym,_⟩:=ZR ae I4;have lS:=ae.ZM;obtain⟨apH,iF,C9⟩:=I0 ae apT;have apU:=bC (n:=(mC s (i:Int)).2.2.2.1 - s.2.2.2.2.2) (by omega) (by omega);generalize mC s (i:Int)=x at *
    generalize np s aK=p at *
    by_cases aX:sZ x p=0
    ·have ar:wm s x p=none:=by unfold wm;grind
     rw[ar]at mU;rw[I1 mU];simp only[aX,decide_true,if_true,A.aF,A.pz,V.hn]
    ·by_cases U:sZ x p=2;all_goals simp only[aX,U,decide_true,decide_false,Bool.false_eq_true,if_false,if_true,A.aF,A.bX,apU,Int.reduceEq]
     ·have ar:wm s x p=(if x.2.2.2.1 - s.2.2.2.2.2<0 then none else some (x.2.2.2.1 - s.2.2.2.2.2)):=by unfold wm;grind
      generalize x.2.2.2.1 - s.2.2.2.2.2=d at *
      by_cases rb:d<0
      ·rw[if_pos rb]at ar;rw[ar]at mU;rw[I1 mU];simp_all
      ·rw[if_neg rb]at ar;rw[ar]at mU;rw[EP mU];simp only[rb,decide_false,Bool.false_eq_true,if_false];rw[A.fC p.2.2.2.2 (λk acc=>(some (dt s),d,b',(b'.length:Int),(i:Int),p.2.2.2.2,(p.2.2.2.2.length:Int),(k:Int),acc,p,())) (λk acc=>.next (acc++[(p.2.2.2.1,k,d)])) (λacc=>.next (some (dt s),b',(b'.length:Int),(i:Int),acc,())) (λk yt=>yt.length<=4*i+k) acc ?_ ?_ ?_ ?_]
       ·rw[dP,qq];simp_all
       ·rfl
       ·omega
       ·intro k al yt apV;have l4:=bC (n:=(k:Int)+1) (by omega) (by omega);have lP:bM (yt.length+(0+1)):=by unfold bM;omega
        refine⟨?_,λbd W=>?_⟩
        ·simp_all
        grind
       simp
     ·have ar:wm s x p=(if x.2.2.2.1<0 then none else some x.2.2.2.1):=by unfold wm;grind
      generalize x.2.2.2.1=d at *
      by_cases rb:d<0
      ·omega
      ·rw[if_neg rb]at ar;rw[ar]at mU;rw[EP mU];simp only[rb,decide_false,Bool.false_eq_true,if_false];rw[A.fC p.2.2.2.2 (λk acc=>(some (dt s),d,b',(b'.length:Int),(i:Int),p.2.2.2.2,(p.2.2.2.2.length:Int),(k:Int),acc,p,())) (λk acc=>.next (acc++[(p.2.2.2.1,k,d)])) (λacc=>.next (some (dt s),b',(b'.length:Int),(i:Int),acc,())) (λk yt=>yt.length<=4*i+k) acc ?_ ?_ ?_ ?_]
       ·rw[dP,qq];simp_all
       ·rfl
       ·omega
       ·intro k al yt apV;have l4:=bC (n:=(k:Int)+1) (by omega) (by omega);have lP:bM (yt.length+(0+1)):=by unfold bM;omega
        refine⟨?_,λbd W=>?_⟩
        ·simp_all
        grind
       simp
  ·cases mU:o3 s b' i with
   | none=>rw[I1 mU]at W;cases W
   | some y=>
    rw[EP mU]at W;cases W;have:=ZS ae an G mU;grind
 simp
theorem apW(x):A.le (N2 we.sh x) (I3.sh x):=A.bu λh=>by
 obtain⟨o,b'⟩:=x;obtain⟨s,⟨ao,ae⟩,an⟩:=h;change o=_ at ao;subst ao;exact apQ s ae b' an
def rG(s:bp)(b':z1'):Int:=((List.range b'.length).map λ(i:Nat)=>if b'.getD i 0=-1 then 0 else (mC s (i:Int)).2.2.2.2).foldl (·+·) 0
abbrev s5:aL:=⟨.az wk fP,bx,λx=>∃ s,wo x.1 s/\x.2.length<=s.2.2.2.1.length,λx=>rG (od x.1) x.2⟩
theorem apX(s:bp)(ae:h2 s)(b':z1')(an:b'.length<=s.2.2.2.1.length):N8 (some (dt s),b')=A.pure (rG s b'):=by
 unfold N8;have Bm:=ae.s3;rw[A.fC (List.range b'.length) (λi (n:Int)=>(some (dt s),n,b',(b'.length:Int),(i:Int),())) (λ(i:Nat) n=>.next (n+if b'.getD i 0=-1 then 0 else (mC s (i:Int)).2.2.2.2)) (λn=>.next (n,())) (λi n=>0<=n/\n<=100000*i) 0 ?_ ?_ ?_ ?_]
 ·rw[dP];unfold rG;rw[List.foldl_map,A.aF,A.bX]
 ·rfl
 ·simp
 ·intro i G n aw;have G:i<b'.length:=by grind
  have s4:i<s.2.2.2.1.length:=by omega
  have h1:=bC (n:=(i:Int)+1) (by omega) (by omega);obtain⟨_,oG⟩:=ZR ae (PI s4);have Bn:List.getD s.2.2.2.1 i ([],(0,0),0,0,0)=mC s (i:Int):=rfl;have Bf:=bC (n:=n+(mC s (i:Int)).2.2.2.2) (by omega) (by omega);have fY:(dt s).1=s:=rfl;rw[List.getElem_range];refine⟨?_,λbd W=>?_⟩
  ·simp only[bV,cT G,if_true,Int.toNat_natCast,cG G,cG s4,A.br,Option.isSome_some,Option.getD_some,ch,fY,Bn];by_cases E:b'.getD i 0=-1
   ·simp only[E,ne_eq,not_true,decide_false,Bool.false_eq_true,if_false,if_true,A.aF,A.bX,h1,Int.add_zero,V.hn];rfl
   ·simp only[E,ne_eq,not_false_iff,decide_true,if_false,if_true,cG s4,A.br,A.aF,A.bX,h1,Bf,V.hn];rfl
  grind
 simp
theorem apY(x):A.le (N8 x) (s5.sh x):=A.bu λh=>by
 obtain⟨o,b'⟩:=x;obtain⟨s,⟨ao,ae⟩,an⟩:=h;change o=_ at ao;subst ao;exact apX s ae b' an
theorem ER{l:z1'}{j i:Nat}{s:Int}(aE:j<l.length):(l.set j s).getD i 0=if i=j then s else l.getD i 0:=by
 grind
abbrev ZU(fit:List (z1'))(j:Int):z1':=fit.getD j.toNat []
def apZ(ob work:z1')(s:Int):Prop:=ob.getD s.toNat 0<=((Pw work s).length:Int)
def ap0(fit:List (z1'))(ob work:z1')(C:Int->Prop):Prop:=∀ j,C j->∀ s∈ZU fit j,apZ ob work s/\∀ h∈Pw work s,C h
def ap1(n:Nat)(ob work:z1'):Prop:=∀ s,0<=s->s<(n:Int)->((Pw work s).length:Int)<=ob.getD s.toNat 0
structure ayn(n:Nat)(fit:List (z1'))(ob:z1')(k:Nat)(work:z1'):Prop where
 len:work.length=fit.length
 val:ap1 n ob work
 mem:∀ i:Nat,i<fit.length->work.getD i 0=-1\/work.getD i 0∈ZU fit (i:Int)
 cm:∀ i:Nat,k<=i->i<fit.length->work.getD i 0=-1
 PK:∃ C,ap0 fit ob work C/\(∀ c,C c->0<=c/\c<(k:Int))/\∀ i:Nat,i<k->work.getD i 0=-1->C (i:Int)
theorem ap2{J i:Nat}(h:i<J):(List.replicate J (-1:Int)).getD i 0=-1:=by
 grind
theorem ZV(a b:Int):(if a=b then 1 else 0)=(if b=a then 1 else (0:Nat)):=by
 grind
def gP(g:z1')(j:Int):Nat:=g.countP λx=>decide (x=j)
theorem PL:∀ {g:z1'} {i:Nat} {x:Int} (j:Int),i<g.length->gP (g.set i x) j+(if g.getD i 0=j then 1 else 0)=gP g j+(if x=j then 1 else 0)
 | [],i,x,j,h=>by grind
 | y::g,0,x,j,h=>by
  unfold gP;grind
 | y::g,i+1,x,j,h=>by
  have:=PL (g:=g) (i:=i) (x:=x) j (by grind);unfold gP at *
  grind
theorem ap3{g:z1'}{i:Nat}{j:Int}(G:i<g.length)(h:g.getD i 0=j):0<gP g j:=by
 unfold gP;grind
def oe(gd:Nat->Int->Bool)(rec:Int->k4->Bool×k4)(own:Int)(i:Nat)(st:k4):V k4 (Bool×k4):=
 if (decide (cU st.2 (i:Int) > 0)||!gd i own)=true then .next st
 else if decide (st.1.getD i 0=-1)=true then .done (true,(st.1.set i own,fe st.2 (i:Int) (cU st.2 (i:Int)+1)))
 else if (rec (st.1.getD i 0) (st.1,fe st.2 (i:Int) (cU st.2 (i:Int)+1))).1=true then .done (true,((rec (st.1.getD i 0) (st.1,fe st.2 (i:Int) (cU st.2 (i:Int)+1))).2.1.set i own,(rec (st.1.getD i 0) (st.1,fe st.2 (i:Int) (cU st.2 (i:Int)+1))).2.2))
 else .next (rec (st.1.getD i 0) (st.1,fe st.2 (i:Int) (cU st.2 (i:Int)+1))).2
def jZ(gd:Nat->Int->Bool)(m:Nat):Nat->Int->k4->Bool×k4
 | 0=>λ_ st=>(false,st)
 | f+1=>λown st=>eZ (oe gd (jZ gd m f) own) (λst=>(false,st)) (List.range m) st
def PM(m J:Nat)(g:z1'):Prop:=∀ i,i<m->g.getD i 0=-1\/(0<=g.getD i 0/\g.getD i 0<(J:Int))
structure yu(m J f:Nat)(st:k4):Prop where
 len:st.1.length=m
 l6:PM m J st.1
 seen:∀ k,0<=cU st.2 k/\cU st.2 k<=1
 cj:rD m st.2<f
structure PN(m J:Nat)(st r:k4):Prop where
 len:r.1.length=m
 l6:PM m J r.1
 seen:∀ k,cU st.2 k<=cU r.2 k/\cU r.2 k<=1
def ZW(gd:Nat->Int->Bool)(m:Nat)(g:z1')(C:Int->Prop):Prop:=∀ j,C j->∀ i,i<m->gd i j=true->g.getD i 0≠-1/\C (g.getD i 0)
def ZX(gd:Nat->Int->Bool)(m:Nat)(g:z1')(s s':z4'):Prop:=∀ i,i<m->cU s (i:Int)=0->1<=cU s' (i:Int)->g.getD i 0≠-1/\∀ k,k<m->gd k (g.getD i 0)=true->1<=cU s' (k:Int)
structure PO(gd:Nat->Int->Bool)(m:Nat)(own:Int)(st:k4)(r:Bool×k4):Prop where
 PQ:r.1=false->r.2.1=st.1/\(∀ i,i<m->gd i own=true->1<=cU r.2.2 (i:Int))/\ZX gd m st.1 st.2 r.2.2
 ZY:r.1=true->(∀ i,i<m->r.2.1.getD i 0=st.1.getD i 0\/(cU st.2 (i:Int)=0/\gd i (r.2.1.getD i 0)=true))/\∀ j,j≠-1->gP r.2.1 j=gP st.1 j+(if j=own then 1 else 0)
 cl:∀ C,ZW gd m st.1 C->(C own->r.1=false)/\(r.1=true->∀ i,i<m->r.2.1.getD i 0≠st.1.getD i 0->∀ c,C c->gd i c=false)
def ZZ(gd:Nat->Int->Bool)(m J f:Nat)(rec:Int->k4->Bool×k4):Prop:=∀ own st,0<=own->own<(J:Int)->yu m J f st->PN m J st (rec own st).2/\PO gd m own st (rec own st)
theorem ap4{gd:Nat->Int->Bool}{m J f:Nat}{rec:Int->k4->Bool×k4}(Eo:ZZ gd m J f rec){own:Int}(Z0:0<=own)(Z1:own<(J:Int)){st:k4}(aX:yu m J (f+1) st) :
  PN m J st (eZ (oe gd rec own) (λst=>(false,st)) (List.range m) st).2/\PO gd m own st (eZ (oe gd rec own) (λst=>(false,st)) (List.range m) st):=by
 refine aoZ (λk b=>b.1=st.1/\(∀ q,cU st.2 q<=cU b.2 q/\cU b.2 q<=1)/\(∀ i,i<k->i<m->gd i own=true->1<=cU b.2 (i:Int))/\ZX gd m st.1 st.2 b.2)
  (λr:Bool×k4=>PN m J st r.2/\PO gd m own st r) (List.range m) st ⟨rfl,λq=>⟨Int.le_refl _,(aX.seen q).2⟩,λi G=>by omega,λi _ E U=>by omega⟩ (λi G b W=>?_) λb W=>?_
 ·obtain⟨hw,nj,I5,lg⟩:=W;have G:i<m:=by grind
  rw[List.getElem_range];have vi:∀ q,0<=cU b.2 q:=λq=>Int.le_trans (aX.seen q).1 (nj q).1;unfold oe;by_cases hc:(decide (cU b.2 (i:Int) > 0)||!gd i own)=true
  ·grind
  ·rw[if_neg hc];simp only[Bool.or_eq_true,not_or,decide_eq_true_eq,Bool.not_eq_true',Bool.not_eq_false]at hc;obtain⟨bk,aB⟩:=hc;have bk:cU b.2 (i:Int)=0:=by grind
   have K_:cU st.2 (i:Int)=0:=by have:=(nj i).1;have:=(aX.seen i).1;omega
   have p9:i<st.1.length:=by rw[aX.len];exact G
   have ke:∀ q,cU b.2 q<=cU (fe b.2 (i:Int) (cU b.2 (i:Int)+1)) q/\cU (fe b.2 (i:Int) (cU b.2 (i:Int)+1)) q<=1:=λq=>by
    have:=nj q;rw[Bg];omega
   have ayo:cU (fe b.2 (i:Int) (cU b.2 (i:Int)+1)) (i:Int)=1:=by rw[Bg,if_pos rfl,bk];rfl
   by_cases ao:st.1.getD i 0=-1
   ·rw[hw,if_pos (by grind)];refine⟨⟨by show (st.1.set i own).length=m;rw[List.length_set];exact aX.len,λk al=>?_,λq=>⟨Int.le_trans (nj q).1 (ke q).1,(ke q).2⟩⟩,λh=>(by cases h),λ_=>⟨λk al=>?_,λj aE=>?_⟩,λC jo=>⟨λPR=>?_,λ_ k al eP c hc=>?_⟩⟩
    ·show (st.1.set i own).getD k 0=-1\/(0<=(st.1.set i own).getD k 0/\(st.1.set i own).getD k 0<(J:Int))
     rw[ER p9];split
     ·omega
     ·exact aX.l6 k al
    ·grind
    ·have:=PL (x:=own) j p9;grind
    ·exact absurd ao (jo own PR i G aB).1
    ·change (st.1.set i own).getD k 0≠_ at eP;rw[ER p9]at eP;split at eP
     ·rename_i e;subst e;cases PS:gd k c with
      | false=>rfl
      | true=>exact absurd ao (jo c hc k G PS).1
     omega
   ·rw[hw,if_neg (by grind)];have iN:=(aX.l6 i G).resolve_left ao;have wq:yu m J f (st.1,fe b.2 (i:Int) (cU b.2 (i:Int)+1)):=by
     refine⟨aX.len,aX.l6,λq=>⟨Int.le_trans (vi q) (ke q).1,(ke q).2⟩,?_⟩;have E:=ZG (n:=m) (m:=b.2) (s:=(i:Int)) (v:=cU b.2 (i:Int)+1) (by omega) (by omega) bk (by omega);have U:=ZH (n:=m) (a:=st.2) (b:=b.2) λk=>⟨(aX.seen k).1,(nj k).1⟩
     have ah:=aX.cj;grind
    obtain⟨an,M⟩:=Eo (st.1.getD i 0) _ iN.1 iN.2 wq;revert an M;generalize rec (st.1.getD i 0) (st.1,fe b.2 (i:Int) (cU b.2 (i:Int)+1))=r;intro an M;have xI:∀ q,cU (fe b.2 (i:Int) (cU b.2 (i:Int)+1)) q<=cU r.2.2 q:=λq=>(an.seen q).1;by_cases bK:r.1=true
    ·rw[if_pos bK];obtain⟨kR,Bo⟩:=M.ZY bK;have tJ:i<r.2.1.length:=by rw[an.len];exact G
     have Cy:r.2.1.getD i 0=st.1.getD i 0:=by
      grind
     refine⟨⟨by show (r.2.1.set i own).length=m;rw[List.length_set];exact an.len,λk al=>?_,λq=>⟨Int.le_trans (nj q).1 (Int.le_trans (ke q).1 (xI q)),(an.seen q).2⟩⟩,λh=>(by cases h),λ_=>⟨λk al=>?_,λj aE=>?_⟩,λC jo=>⟨λPR=>?_,λ_ k al eP c hc=>?_⟩⟩
     ·show (r.2.1.set i own).getD k 0=-1\/(0<=(r.2.1.set i own).getD k 0/\(r.2.1.set i own).getD k 0<(J:Int))
      rw[ER tJ];split
      ·omega
      ·exact an.l6 k al
     ·show (r.2.1.set i own).getD k 0=_\/(_/\gd k ((r.2.1.set i own).getD k 0)=true)
      rw[ER tJ];split
      ·grind
      ·rcases kR k al with e | ⟨ax,aM⟩
       ·grind
       ·right;refine⟨?_,aM⟩;have a:=(ke (k:Int)).1;have d:=nj (k:Int);have c:=(aX.seen (k:Int)).1;grind
     ·have a:=PL (x:=own) j tJ;have d:=Bo j aE;change gP r.2.1 j=gP st.1 j+_ at d;rw[Cy]at a;show gP (r.2.1.set i own) j=_;rw[ZV j own];rw[ZV j (st.1.getD i 0)]at d;omega
     ·have:=(M.cl C jo).1 (jo own PR i G aB).2;grind
     ·change (r.2.1.set i own).getD k 0≠_ at eP;rw[ER tJ]at eP;split at eP
      ·rename_i e;subst e;cases PS:gd k c with
       | false=>rfl
       | true=>
        have:=(M.cl C jo).1 (jo c hc k G PS).2;grind
      ·exact (M.cl C jo).2 bK k al eP c hc
    ·rw[if_neg bK];have C2:r.1=false:=by grind
     obtain⟨C4,ayp,ap5⟩:=M.PQ C2;refine⟨C4,λq=>⟨Int.le_trans (nj q).1 (Int.le_trans (ke q).1 (xI q)),(an.seen q).2⟩,λk al PT GZ=>?_,λk PT bG ax=>?_⟩
     ·grind
     ·by_cases e:k=i
      ·grind
      ·by_cases aM:1<=cU b.2 (k:Int)
       ·obtain⟨a,c⟩:=lg k PT bG aM;grind
       ·refine ap5 k PT ?_ ax;show cU (fe b.2 (i:Int) (cU b.2 (i:Int)+1)) (k:Int)=0;rw[Bg,if_neg (by omega)];grind
 ·obtain⟨hw,nj,I5,lg⟩:=W;rw[List.length_range]at I5;refine⟨⟨by rw[hw];exact aX.len,by rw[hw];exact aX.l6,nj⟩,λ_=>⟨hw,λi G aB=>I5 i G G aB,lg⟩,λh=>(by cases h),λC jo=>⟨λ_=>rfl,λh=>(by cases h)⟩⟩
theorem PU{gd:Nat->Int->Bool}{m J:Nat}:∀ f,ZZ gd m J f (jZ gd m f)
 | 0=>λown st _ _ h=>absurd h.cj (by omega)
 | f+1=>λown st aX E h=>ap4 (PU f) aX E h
def yv(gd:Nat->Int->Bool)(m F:Nat)(st:z1'×Int)(j:Nat):z1'×Int:=((jZ gd m F (j:Int) (st.1,[])).2.1,if (jZ gd m F (j:Int) (st.1,[])).1=true then st.2 else st.2+1)
def PV(gd:Nat->Int->Bool)(m J F:Nat):z1'×Int:=(List.range J).foldl (yv gd m F) (List.replicate m (-1),0)
structure ES(gd:Nat->Int->Bool)(m J k:Nat)(st:z1'×Int):Prop where
 len:st.1.length=m
 l6:∀ i,i<m->st.1.getD i 0=-1\/(0<=st.1.getD i 0/\st.1.getD i 0<(k:Int)/\gd i (st.1.getD i 0)=true)
 one:∀ j,0<=j->gP st.1 j<=1
 num:st.2=(((List.range k).countP λ(j:Nat)=>decide (gP st.1 (j:Int)=0):Nat):Int)
 PK:∃ C,ZW gd m st.1 C/\(∀ c,C c->0<=c/\c<(k:Int))/\∀ j:Nat,j<k->gP st.1 (j:Int)=0->C (j:Int)
theorem Z2{gd:Nat->Int->Bool}{m J F k:Nat}(bn:m<F)(al:k<J){st:z1'×Int}(h:ES gd m J k st):ES gd m J (k+1) (yv gd m F st k):=by
 obtain⟨g,n⟩:=st;have hu:rD m []<=m:=by
  unfold rD;exact Nat.le_trans List.countP_le_length (by simp)
 have wq:yu m J F (g,[]):=⟨h.len,λi G=>by have:=h.l6 i G;grind,λq=>⟨Int.le_refl _,by show (0:Int)<=1;decide⟩,by grind⟩
 obtain⟨an,M⟩:=PU F (k:Int) (g,[]) (by omega) (by omega) wq;unfold yv;revert an M;generalize jZ gd m F (k:Int) (g,[])=r;intro an M;have mV:gP g (k:Int)=0:=by
  unfold gP;rw[List.countP_eq_zero];intro x ag;obtain⟨i,G,rfl⟩:=List.mem_iff_getElem.1 ag;have:=h.l6 i (by rw[<-h.len];exact G);grind
 obtain⟨C,jo,ayq,ayr⟩:=h.PK;by_cases W:r.1=true
 ·obtain⟨kR,Bo⟩:=M.ZY W;have ays:=(M.cl C jo).2 W;refine⟨an.len,λi G=>?_,λj aE=>?_,?_,C,λc tT i G ET=>?_,λc tT=>?_,λj aE hu=>?_⟩
  ·show r.2.1.getD i 0=-1\/_;rcases kR i G with e | ⟨ax,aM⟩
   ·rw[e];rcases h.l6 i G with a | a
    ·exact .inl a
    ·exact .inr ⟨a.1,by have:=a.2.1;show g.getD i 0<_;change g.getD i 0<_ at this;omega,a.2.2⟩
   ·by_cases ke:r.2.1.getD i 0=-1
    ·omega
    ·refine .inr ⟨?_,?_,aM⟩
     ·have:=(an.l6 i G).resolve_left ke;grind
     ·have E:=Bo _ ke;have U:0<gP r.2.1 (r.2.1.getD i 0):=ap3 (by rw[an.len];exact G) rfl;by_cases e:r.2.1.getD i 0=(k:Int)
      ·grind
      ·rw[if_neg e]at E;have ah:0<gP g (r.2.1.getD i 0):=by grind
       unfold gP at ah;rw[List.countP_pos_iff]at ah;obtain⟨x,ag,e'⟩:=ah;obtain⟨q,bt,rfl⟩:=List.mem_iff_getElem.1 ag;have:=h.l6 q (by rw[<-h.len];exact bt);grind
  ·have E:=Bo j (by omega);have U:=h.one j aE;change gP r.2.1 j=gP g j+_ at E;change gP g j<=1 at U;show gP r.2.1 j<=1;by_cases e:j=(k:Int)
   ·subst e;rw[if_pos rfl]at E;omega
   ·rw[if_neg e]at E;omega
  ·rw[if_pos W];have E:=h.num;change n=_ at E;show n=_;rw[E,List.range_succ,List.countP_append];have U:∀ j:Nat,j<k->gP r.2.1 (j:Int)=gP g (j:Int):=λj aE=>by
    have:=Bo (j:Int) (by omega);rw[if_neg (by omega)]at this;omega
   have ah:gP r.2.1 (k:Int)=1:=by
    grind
   have a1:(List.range k).countP (λ(j:Nat)=>decide (gP r.2.1 (j:Int)=0))=(List.range k).countP (λ(j:Nat)=>decide (gP g (j:Int)=0)):=List.countP_congr λj aE=>by grind
   simp_all
  ·show r.2.1.getD i 0≠-1/\C (r.2.1.getD i 0);by_cases e:r.2.1.getD i 0=g.getD i 0
   ·rw[e];exact jo c tT i G ET
   grind
  ·grind
  ·change gP r.2.1 (j:Int)=0 at hu;have E:=Bo (j:Int) (by omega);change gP r.2.1 _=gP g _+_ at E;by_cases e:j=k
   ·grind
   ·rw[if_neg (by omega)]at E;grind
 ·have C2:r.1=false:=by grind
  obtain⟨hw,I5,lg⟩:=M.PQ C2;change r.2.1=g at hw;simp only[hw];refine⟨h.len,λi G=>?_,h.one,?_,λc=>C c\/c=(k:Int)\/∃ i,i<m/\1<=cU r.2.2 (i:Int)/\c=g.getD i 0,λc tT i G ET=>?_,λc tT=>?_,λj aE hu=>?_⟩
  ·rcases h.l6 i G with a | a
   ·exact .inl a
   ·exact .inr ⟨a.1,by have:=a.2.1;show g.getD i 0<_;change g.getD i 0<_ at this;omega,a.2.2⟩
  ·rw[if_neg W];have E:=h.num;change n=_ at E;show n+1=_;rw[E,List.range_succ,List.countP_append];grind
  ·have aw:1<=cU r.2.2 (i:Int)->g.getD i 0≠-1/\(C (g.getD i 0)\/g.getD i 0=(k:Int)\/∃ q,q<m/\1<=cU r.2.2 (q:Int)/\g.getD i 0=g.getD q 0):=λaD=>⟨(lg i G rfl aD).1,.inr (.inr ⟨i,G,aD,rfl⟩)⟩
   rcases tT with e | e | ⟨q,bt,aD,e⟩
   ·exact⟨(jo c e i G ET).1,.inl (jo c e i G ET).2⟩
   ·grind
   ·subst e;exact aw ((lg q bt rfl aD).2 i G ET)
  ·rcases tT with e | e | ⟨q,bt,aD,e⟩
   ·grind
   ·omega
   ·have:=(h.l6 q bt).resolve_left (lg q bt rfl aD).1;grind
  grind
theorem ap6(gd:Nat->Int->Bool)(m J F:Nat)(bn:m<F):ES gd m J J (PV gd m J F):=by
 unfold PV;have key:∀ k,k<=J->ES gd m J k ((List.range k).foldl (yv gd m F) (List.replicate m (-1),0)):=by
  intro k;induction k with
  | zero=>
   intro _;refine⟨by simp,λi G=>.inl (ap2 G),λj aE=>?_,by simp,λ_=>False,λ_ h=>h.elim,λ_ h=>h.elim,λj aE=>by omega⟩;show gP (List.replicate m (-1)) j<=1;have:gP (List.replicate m (-1)) j=0:=by
    unfold gP;grind
   omega
  | succ k aJ=>
   intro al;rw[List.range_succ,List.foldl_append];exact Z2 bn (by omega) (aJ (by omega))
 grind
def rH(t:dy)(sp:Int×Int)(j:rF):Bool:=decide (sp.2<=j.2.2)&&decide ((o1 t.2.2 (sp.1,j.1,j.2.1)).getD 0 > 0)
abbrev Bp:aL:=⟨.az wk (.az IP I2),dk,λx=>∃ t,x.1=some t,λx=>rH (x.1.getD yr) x.2.1 x.2.2⟩
theorem ap7(x):A.le (Wb x) (Bp.sh x):=A.bu λh=>by
 obtain⟨o,sp,j⟩:=x;obtain⟨t,ao⟩:=h;change o=_ at ao;subst ao;unfold Wb;simp only[Option.isSome_some,Option.getD_some,and_true,true_and,and_self,imp_self,implies_true,A.br];rfl
def EU(t:dy)(l:List rF):Bool:=l.all λj=>(List.range t.1.2.1.length).any λ(i:Nat)=>rH t ((i:Int),0) j
abbrev PW:aL:=⟨.az wk (.slice I2),dk,λx=>∃ t,x.1=some t/\t.1.2.1.length<2 ^ 63/\x.2.length<2 ^ 63,λx=>EU (x.1.getD yr) x.2⟩
theorem ap8(t:dy)(l:List rF)(E:t.1.2.1.length<2 ^ 63)(U:l.length<2 ^ 63):N3 Bp.sh (some t,l)=A.pure (EU t l):=by
 unfold N3;rw[A.dB l (λi (_:Unit)=>(some t,l,(l.length:Int),(i:Int),())) (λj b=>if (!(List.range t.1.2.1.length).any λ(i:Nat)=>rH t ((i:Int),0) j)=true then .done (.done false) else .next b) (λ_=>.next ()) () ?_ ?_ ?_]
 ·rw[kU (q:=λj=>(List.range t.1.2.1.length).any λ(i:Nat)=>rH t ((i:Int),0) j) _ _ (λ_=>rfl)];unfold EU;cases l.all λj=>(List.range t.1.2.1.length).any λ(i:Nat)=>rH t ((i:Int),0) j<;>simp
 ·rfl
 ·intro i G b;have hw:=bC (n:=(i:Int)+1) (by omega) (by omega);simp only[bV,cT G,if_true,df G,cG G,A.br,Option.isSome_some,Option.getD_some];rw[A.dB (List.range t.1.2.1.length) (λk (b:Bool)=>(some t,b,l,(l.length:Int),(i:Int),(t.1.2.1.length:Int),(k:Int),l[i],())) (λ(k:Nat) b=>.next (b||rH t ((k:Int),0) l[i])) (λb=>.next (some t,b,l,(l.length:Int),(i:Int),())) false ?_ ?_ ?_]
  ·rw[dP];have e:∀ (r:List Nat) (b:Bool),r.foldl (λ(b:Bool) (k:Nat)=>b||rH t ((k:Int),0) l[i]) b=(b||r.any λ(k:Nat)=>rH t ((k:Int),0) l[i]):=by
    intro r;induction r with
    | nil=>simp
    | cons k r aJ=>grind
   rw[e,Bool.false_or];simp only[A.aF,A.bX];cases (List.range t.1.2.1.length).any λ(k:Nat)=>rH t ((k:Int),0) l[i]<;>simp[V.hn,hw]
  ·rfl
  ·intro k al b;have al:k<t.1.2.1.length:=by grind
   have l4:=bC (n:=(k:Int)+1) (by omega) (by omega);simp only[cT al,if_true,List.getElem_range,aL.sh,A.jd,A.dF];rw[A.bo (by simp)];simp only[Option.getD_some,ch,l4,V.hn];grind
  simp
 simp
theorem ap9(x):A.le (N3 Bp.sh x) (PW.sh x):=A.bu λh=>by
 obtain⟨o,l⟩:=x;obtain⟨t,ao,E,U⟩:=h;change o=_ at ao;subst ao;exact ap8 t l E U
def hd(t:dy)(l:List rF)(i:Nat)(j:Int):Bool:=rH t (t.2.1.getD i (0,0)) (l.getD j.toNat (0,0,0))
abbrev PX:=Option dy×List rF×Int×z4'×z1'×Unit
abbrev Z3:=Bool×z4'×z1'×Unit
def uD(r:Bool×k4):Z3:=(r.1,r.2.2,r.2.1,())
def PY(f:Nat)(x:PX):Prop:=∃ t,x.1=some t/\t.2.1.length<=200/\x.2.1.length<=1000/\0<=x.2.2.1/\x.2.2.1<(x.2.1.length:Int)/\yu t.2.1.length x.2.1.length f (x.2.2.2.2.1,x.2.2.2.1)
def uE(f:Nat)(x:PX):A Z3:=A.dR (PY f x) (uD (jZ (hd (x.1.getD yr) x.2.1) (x.1.getD yr).2.1.length f x.2.2.1 (x.2.2.2.2.1,x.2.2.2.1)))
theorem ap_{t:dy}{l:List rF}(hm:t.2.1.length<=200)(aj:l.length<=1000){f:Nat}{own:Int}(Z0:0<=own)(Z1:own<(l.length:Int)){st:k4}(aX:yu t.2.1.length l.length (f+1) st) :
  N_ Bp.sh (uE f) (some t,l,own,st.2,st.1,())=A.pure (uD (jZ (hd t l) t.2.1.length (f+1) own st)):=by
 have Eo:=PU (gd:=hd t l) (m:=t.2.1.length) (J:=l.length) f;unfold N_;simp only[bV,A.br,ao0,Option.isSome_some,Option.getD_some];rw[A.fC (List.range t.2.1.length) (λi (b:k4)=>(some t,l,own,t.2.1,(t.2.1.length:Int),(i:Int),b.2,b.1,())) (λi b=>V.uA (λr=>.done (uD r)) (oe (hd t l) (jZ (hd t l) t.2.1.length f) own i b)) (λb=>.next (b.2,b.1,())) (λi b=>b.1=st.1/\∀ q,cU st.2 q<=cU b.2 q/\cU b.2 q<=1) st ?_ ?_ ?_ ?_]
 ·show _=A.pure (uD (eZ (oe (hd t l) (jZ (hd t l) t.2.1.length f) own) (λst=>(false,st)) (List.range t.2.1.length) st));rw[Px,Px,ZI];cases ym (oe (hd t l) (jZ (hd t l) t.2.1.length f) own) (List.range t.2.1.length) st<;>(simp only[V.uA,V.fin,A.aF,A.bX,A.pz];try rfl)
 ·rfl
 ·exact⟨rfl,λq=>⟨Int.le_refl _,(aX.seen q).2⟩⟩
 ·intro i G b W;have G:i<t.2.1.length:=by grind
  have ki:=bC (n:=(i:Int)+1) (by omega) (by omega);rw[List.getElem_range];have ap':b.1.length=t.2.1.length:=by rw[W.1];exact aX.len
  have eN:i<b.1.length:=by omega
  have aqa:0<=own/\own<(l.length:Int):=⟨Z0,Z1⟩
  have kR:=W.2 (i:Int);have na:=aX.seen (i:Int);simp only[bV,cT G,if_true,cG G,cG eN,A.br,aqa,aL.sh,A.n7,A.gL,Int.toNat_natCast,Option.getD_some];have zl:rH t (t.2.1.getD i (0,0)) (l.getD own.toNat (0,0,0))=hd t l i own:=rfl;rw[zl];have aqb:(∃ cY,(some t:Option dy)=some cY)=True:=by simp
  simp only[aqb,and_true,true_and,and_self,imp_self,implies_true,A.br];by_cases I6:cU b.2 (i:Int) > 0
  ·have hu:oe (hd t l) (jZ (hd t l) t.2.1.length f) own i b=.next b:=by unfold oe;grind
   rw[hu];refine⟨?_,λbd cR=>by cases cR;exact W⟩;simp only[I6,decide_true,Bool.true_or,if_true,A.aF,A.bX,ch,ki,V.hn,V.uA,Bool.not_true,Bool.false_eq_true,false_imp_iff,Bool.true_eq_false,A.br,and_self,implies_true];rfl
  ·by_cases aB:hd t l i own=true
   ·have bk:cU b.2 (i:Int)=0:=by omega
    have IZ:=bC (n:=cU b.2 (i:Int)+1) (by omega) (by omega);have ke:∀ q,cU b.2 q<=cU (fe b.2 (i:Int) (cU b.2 (i:Int)+1)) q/\cU (fe b.2 (i:Int) (cU b.2 (i:Int)+1)) q<=1:=λq=>by
     have:=W.2 q;rw[Bg];omega
    have KL:¬(decide (cU b.2 (i:Int) > 0)||!hd t l i own)=true:=by grind
    by_cases ao:b.1.getD i 0=-1
    ·have hu:oe (hd t l) (jZ (hd t l) t.2.1.length f) own i b=.done (true,(b.1.set i own,fe b.2 (i:Int) (cU b.2 (i:Int)+1))):=by
      unfold oe;grind
     rw[hu];refine⟨?_,λbd cR=>by cases cR⟩;simp only[I6,aB,ao,decide_true,decide_false,Bool.not_true,Bool.not_false,Bool.or_self,Bool.false_eq_true,if_false,if_true,false_imp_iff,Bool.true_eq_false,Bool.true_or,A.br,A.aF,A.pz,ch,IZ,cG eN,V.hn,V.uA,and_self,implies_true,true_imp_iff];rfl
    ·have ayt:=aX.l6 i G;have aE:0<=b.1.getD i 0/\b.1.getD i 0<(l.length:Int):=by grind
     have wq:yu t.2.1.length l.length f (b.1,fe b.2 (i:Int) (cU b.2 (i:Int)+1)):=by
      refine⟨ap',?_,λk=>⟨?_,(ke k).2⟩,?_⟩
      ·show PM _ _ b.1;rw[W.1];exact aX.l6
      ·have:=(ke k).1;have:=W.2 k;have:=(aX.seen k).1;grind
      ·have E:=ZG (n:=t.2.1.length) (m:=b.2) (s:=(i:Int)) (v:=cU b.2 (i:Int)+1) (by omega) (by omega) bk (by omega);have U:=ZH (n:=t.2.1.length) (a:=st.2) (b:=b.2) λk=>⟨(aX.seen k).1,(W.2 k).1⟩
       have ah:=aX.cj;grind
     obtain⟨Aa,aqc⟩:=Eo (b.1.getD i 0) (b.1,fe b.2 (i:Int) (cU b.2 (i:Int)+1)) aE.1 aE.2 wq;have gJ:PY f (some t,l,b.1.getD i 0,fe b.2 (i:Int) (cU b.2 (i:Int)+1),b.1,()):=⟨t,rfl,hm,aj,aE.1,aE.2,wq⟩
     have vq:uE f (some t,l,b.1.getD i 0,fe b.2 (i:Int) (cU b.2 (i:Int)+1),b.1,())=A.pure (uD (jZ (hd t l) t.2.1.length f (b.1.getD i 0) (b.1,fe b.2 (i:Int) (cU b.2 (i:Int)+1)))):=A.bR gJ _;simp only[I6,aB,ao,decide_true,decide_false,Bool.not_true,Bool.not_false,Bool.or_self,Bool.false_eq_true,if_false,if_true,false_imp_iff,Bool.true_eq_false,Bool.false_or,A.br,ch,IZ,and_self,implies_true,true_imp_iff,vq,A.aF];have tJ:(jZ (hd t l) t.2.1.length f (b.1.getD i 0) (b.1,fe b.2 (i:Int) (cU b.2 (i:Int)+1))).2.1.length=t.2.1.length:=Aa.len;have ayu:=Aa.seen;have ayv:=aqc.PQ;have Z4:oe (hd t l) (jZ (hd t l) t.2.1.length f) own i b=if (jZ (hd t l) t.2.1.length f (b.1.getD i 0) (b.1,fe b.2 (i:Int) (cU b.2 (i:Int)+1))).1=true then .done (true,((jZ (hd t l) t.2.1.length f (b.1.getD i 0) (b.1,fe b.2 (i:Int) (cU b.2 (i:Int)+1))).2.1.set i own,(jZ (hd t l) t.2.1.length f (b.1.getD i 0) (b.1,fe b.2 (i:Int) (cU b.2 (i:Int)+1))).2.2)) else .next (jZ (hd t l) t.2.1.length f (b.1.getD i 0) (b.1,fe b.2 (i:Int) (cU b.2 (i:Int)+1))).2:=by
      unfold oe;grind
     rw[Z4];clear Z4 vq;generalize jZ (hd t l) t.2.1.length f (b.1.getD i 0) (b.1,fe b.2 (i:Int) (cU b.2 (i:Int)+1))=r at *
     obtain⟨ok,g',s'⟩:=r;have p9:i<g'.length:=by grind
     cases ok with
     | true=>
      refine⟨?_,λbd cR=>by cases cR⟩;simp only[uD,if_true,cG p9,A.br,A.aF,A.pz,V.hn,V.uA]
     | false=>
      refine⟨?_,λbd cR=>?_⟩
      ·simp only[uD,Bool.false_eq_true,if_false,A.aF,A.bX,ch,ki,V.hn,V.uA];rfl
      ·cases cR;grind
   ·have hu:oe (hd t l) (jZ (hd t l) t.2.1.length f) own i b=.next b:=by unfold oe;grind
    rw[hu];refine⟨?_,λbd cR=>by cases cR;exact W⟩;simp only[I6,aB,decide_false,Bool.not_false,Bool.or_true,if_true,A.aF,A.bX,ch,ki,V.hn,V.uA,Bool.false_eq_true,A.br,and_self,implies_true];rfl
 simp
theorem aqd(f:Nat)(x):A.le (N_ Bp.sh (uE f) x) (uE (f+1) x):=A.bu λh=>by
 obtain⟨o,l,own,seen,g,u⟩:=x;obtain⟨t,ao,hm,aj,aX,E,wq⟩:=h;change o=_ at ao;subst ao;exact ap_ (st:=(g,seen)) hm aj aX E wq
theorem aqe(x:PX):¬(uE 0 x).ck:=λ⟨_,_,_,_,_,_,h⟩=>absurd h.cj (by omega)
def yw(t:dy)(l:List rF):Int:=(PV (hd t l) t.2.1.length l.length 201).2
abbrev I7:aL:=⟨.az wk (.slice I2),bx,λx=>∃ t,x.1=some t/\t.2.1.length<=200/\x.2.length<=1000,λx=>yw (x.1.getD yr) x.2⟩
theorem aqf(t:dy)(l:List rF)(hm:t.2.1.length<=200)(aj:l.length<=1000):N4 wc (uE 201) (some t,l)=A.pure (yw t l):=by
 unfold N4;simp only[bV,Option.isSome_some,Option.getD_some,A.br];unfold wc;simp only[A.dF];rw[A.bo (by grind)];simp only[Int.toNat_natCast];rw[A.fC (List.range l.length) (λi (b:z1'×Int)=>(some t,l,b.2,(l.length:Int),(i:Int),b.1,())) (λi b=>.next (yv (hd t l) t.2.1.length 201 b i)) (λb=>.next (b.2,())) (λi b=>ES (hd t l) t.2.1.length l.length i b/\0<=b.2/\b.2<=(i:Int)) (List.replicate t.2.1.length (-1),0) ?_ ?_ ?_ ?_]
 ·rw[dP,A.aF,A.bX];rfl
 ·rfl
 ·refine⟨?_,by simp⟩;have:=ap6 (hd t l) t.2.1.length 0 201 (by omega);exact⟨this.len,this.l6,this.one,this.num,this.PK⟩
 ·intro i G b W;have G:i<l.length:=by grind
  have ki:=bC (n:=(i:Int)+1) (by omega) (by omega);rw[List.getElem_range];obtain⟨g,n⟩:=b;obtain⟨W,r',p_⟩:=W;change 0<=n at r';change n<=(i:Int) at p_;have Bf:=bC (n:=n+1) (by omega) (by omega);have gJ:PY 201 (some t,l,(i:Int),[],g,()):=by
   refine⟨t,rfl,hm,aj,Int.natCast_nonneg i,Int.ofNat_lt.2 G,W.len,λk al=>?_,λk=>by show 0<=cU [] k/\cU [] k<=1;simp[cU,uz],?_⟩
   ·rcases W.l6 k al with h | h
    ·exact .inl h
    ·exact .inr ⟨h.1,Int.lt_trans h.2.1 (Int.ofNat_lt.2 G)⟩
   ·have:rD t.2.1.length []<=t.2.1.length:=by
     unfold rD;exact Nat.le_trans List.countP_le_length (by simp)
    grind
  have vq:uE 201 (some t,l,(i:Int),[],g,())=A.pure (uD (jZ (hd t l) t.2.1.length 201 (i:Int) (g,[]))):=A.bR gJ _;have Dj:=Z2 (F:=201) (by omega) G W;refine⟨?_,λbd cR=>?_⟩
  ·simp only[cT G,if_true,vq,A.aF,uD];unfold yv;cases cL:(jZ (hd t l) t.2.1.length 201 (i:Int) (g,[])).1 with
   | true=>
    simp_all
   | false=>
    simp_all
  ·cases cR;refine⟨Dj,?_⟩;have ax:(0:Int)<=n+1:=by omega
   have aM:n+1<=((i+1:Nat):Int):=by omega
   have cD:n<=((i+1:Nat):Int):=by omega
   unfold yv;omega
 simp
theorem aqg(x):A.le (N4 wc (uE 201) x) (I7.sh x):=A.bu λh=>by
 obtain⟨o,l⟩:=x;obtain⟨t,ao,E,U⟩:=h;change o=_ at ao;subst ao;exact aqf t l E U
theorem Z5{s:bp}(ae:h2 s):(PG s).length<=200:=by
 have E:∀ (l:List Nat),(∀ i∈l,i<s.2.1.length)->(l.flatMap λ(i:Nat)=>lC ((i:Int),0) (s.2.1.getD i 0)).length<=10*l.length:=by
  intro l;induction l with
  | nil=>simp
  | cons i l aJ=>
   intro aj;have E:=aJ λj aE=>aj j (by grind);have U:=aj i (by simp);have ah:=ae.ob _ (List.getElem_mem U);have jw:s.2.1.getD i 0=s.2.1[i]:=by grind
   rw[List.flatMap_cons,List.length_append,List.length_cons,jw];simp only[lC,List.length_replicate];simp only[lC]at E;omega
 have U:∀ (l:List rr),(∀ d∈l,oa s.1 d=true)->(l.flatMap λd=>lC (d.2.1,d.1) d.2.2).length<=10*l.length:=by
  intro l;induction l with
  | nil=>simp
  | cons d l aJ=>
   intro aj;have E:=aJ λj aE=>aj j (by grind);have ah:=aj d (by simp);simp only[oa,bZ,Bool.and_eq_true,decide_eq_true_eq]at ah;rw[List.flatMap_cons,List.length_append,List.length_cons];simp only[lC,List.length_replicate];simp only[lC]at E;omega
 have a:=E (List.range s.2.1.length) λi G=>by grind
 have b:=U s.2.2.2.2.1 ae.IW;have c:=ae.IX;have d:=ae.IV;have e:=ae.wj;unfold PG EO ZP;grind
theorem Z6{s:bp}(ae:h2 s){b':z1'}(an:oc s b'):(lD s b').1.length<=24:=by
 unfold lD;split
 ·have:∀ (l:List Nat),(∀ i∈l,i<b'.length)->(l.flatMap λi=>(o3 s b' i).getD []).length<=4*l.length:=by
   intro l;induction l with
   | nil=>simp
   | cons i l aJ=>
    intro aj;have E:=aJ λj aE=>aj j (by grind);have U:=aj i (by simp);rw[List.flatMap_cons,List.length_append,List.length_cons];have:((o3 s b' i).getD []).length<=4:=by
     cases h:o3 s b' i with
     | none=>simp
     | some y=>exact ZS ae an U h
    omega
  have a:=this (List.range b'.length) λi G=>by grind
  rw[List.length_range]at a;have:=an.1;have:=ae.s3;grind
 ·simp
def pR(s:bp)(b':z1'):Bool:=(lD s b').2&&decide (yw (dt s) (lD s b').1=0)
abbrev wu:aL:=⟨.az wk fP,dk,λx=>∃ s,wo x.1 s/\oc s x.2,λx=>pR (od x.1) x.2⟩
theorem aqh(x):A.le (V6 I3.sh I7.sh x) (wu.sh x):=A.bu λh=>by
 obtain⟨o,b'⟩:=x;obtain⟨s,⟨ao,ae⟩,an⟩:=h;change o=_ at ao;subst ao;unfold V6;simp only[aL.sh,A.dF,A.jd];rw[A.bo (by exact⟨s,⟨rfl,ae⟩,an⟩),A.bo (by exact λ_=>⟨dt s,rfl,Z5 ae,Nat.le_trans (Z6 ae an) (by omega)⟩)];show A.pure ((lD s b').2&&decide ((if (lD s b').2=true then yw (dt s) (lD s b').1 else 0)=0))=A.pure (pR s b');unfold pR;grind
def Bq(s:bp)(first:z1')(p:Nat):Bool:=!(first.contains (p:Int)||decide (sZ (mC s (first.length:Int)) (np s (p:Int))=0))
def kj(s:bp)(e:Int):Nat->z1'->List (z1')
 | 0,first=>[first]
 | n+1,first=>((List.range s.2.2.1.length).flatMap λp=>if Bq s first p=true then kj s e n (first++[(p:Int)]) else [])++(if e=0 then [] else kj s e n (first++[-1]))
abbrev Z7:Type:=Nat×(List (z1')->Prop)×List (z1')×Bool
abbrev PZ:Type:=Option dy×z1'×Int×Nat×Z7×Unit
abbrev Z8:Type:=Bool×Z7×Unit
structure P0(f:Nat)(x:PZ)(s:bp)(n:Nat)(a b:List (z1')):Prop where
 ayw:wo x.1 s
 len:x.2.1.length+n=s.2.2.2.1.length
 cj:n<f
 ayx:x.2.2.2.2.1.1=x.2.2.2.1
 bz:x.2.2.2.2.1.2.2.2=false
 seq:x.2.2.2.2.1.2.1=λT=>T=a++kj s x.2.2.1 n x.2.1++b
 pos:x.2.2.2.2.1.2.2.1=a
def aqi(x:PZ)(y:Z8):Prop:=y.2.1.1=x.2.2.2.1/\y.2.1.2.1=x.2.2.2.2.1.2.1/\(y.1=true->y.2.1.2.2.2=false/\y.2.1.2.2.1=x.2.2.2.2.1.2.2.1++kj (od x.1) x.2.2.1 ((od x.1).2.2.2.1.length - x.2.1.length) x.2.1)/\(y.1=false->y.2.1.2.2.2=true)
def rI(f:Nat)(x:PZ):A Z8:=⟨∃ s n a b,P0 f x s n a b,aqi x⟩
def l7(s:bp)(e:Int)(n:Nat)(first:z1')(k:Nat):List (z1'):=(List.range k).flatMap λp=>if Bq s first p=true then kj s e n (first++[(p:Int)]) else []
theorem I8(s:bp)(e:Int)(n:Nat)(first:z1')(k:Nat):l7 s e n first (k+1)=l7 s e n first k++(if Bq s first k=true then kj s e n (first++[(k:Int)]) else []):=by
 unfold l7;rw[List.range_succ,List.flatMap_append];simp
theorem aqj(s:bp)(e:Int)(n:Nat)(first:z1'){k m:Nat}(h:k<=m):∃ t,l7 s e n first m=l7 s e n first k++t:=by
 induction m with
 | zero=>simp_all
 | succ m aJ=>
  by_cases al:k=m+1
  ·simp_all
  ·obtain⟨t,aH⟩:=aJ (by omega);rw[I8,aH,List.append_assoc];simp
theorem aqk{f:Nat}{s:bp}(ae:h2 s){first:z1'}{e:Int}{l:Nat}{L:List (z1')->Prop}{n:Nat}(hlen:first.length+n=s.2.2.2.1.length)(ao:n<f+1){a b:List (z1')}(iM:L=λT=>T=a++kj s e n first++b) :
  A.cw (N' we.sh (rI f) oU.sh (some (dt s),first,e,l,(l,L,a,false),())) λy=>y.2.1.1=l/\y.2.1.2.1=L/\(y.1=true->y.2.1.2.2.2=false/\y.2.1.2.2.1=a++kj s e n first)/\(y.1=false->y.2.1.2.2.2=true):=by
 have fY:(dt s).1=s:=rfl;have Bm:=ae.s3;have aql:=ae.EN;unfold N';simp only[Option.isSome_some,Option.getD_some,A.br,bV,fY];cases n with
 | zero=>
  have ar:decide ((first.length:Int)=(s.2.2.2.1.length:Int))=true:=by grind
  have aB:∃ T,L (a++first::T):=⟨b,by rw[iM];show _=_;simp[kj]⟩
  simp only[ar,if_true,true_and,and_self];rw[A.bo aB,A.f'];refine⟨⟨true,trivial⟩,λy _=>A.ea.2 ?_⟩;refine⟨rfl,rfl,λh=>?_,λh=>?_⟩
  ·change y=true at h;subst h;exact⟨rfl,rfl⟩
  grind
 | succ n=>
  have ar:decide ((first.length:Int)=(s.2.2.2.1.length:Int))=false:=by grind
  simp only[ar,Bool.false_eq_true,if_false,A.f'];obtain⟨z,bk⟩:∃ z,kj s e (n+1) first=l7 s e n first s.2.2.1.length++z:=⟨_,rfl⟩
  refine A.aoY s.2.2.1.length (λk q=>q=(some (dt s),first,e,l,(first.length:Int),s.2.2.1,(s.2.2.1.length:Int),(k:Int),(l,L,a++l7 s e n first k,false),())) ?_ ?_ ?_
  ·show _=_;simp[l7]
  ·rintro k al q rfl;have l4:=bC (n:=(k:Int)+1) (by omega) (by omega);have fW:first.length<2 ^ 63:=by omega
   have s4:first.length<s.2.2.2.1.length:=by omega
   have I4:=PI s4;have Bn:List.getD s.2.2.2.1 first.length ([],(0,0),0,0,0)=mC s (first.length:Int):=rfl
   have PJ:s.2.2.1[k]=np s (k:Int):=by simp[np,List.getD_eq_getElem?_getD,al]
   have n2:we.pre (mC s (first.length:Int),np s (k:Int)):=ae.fU.2.2.2.2.2.2 _ I4;have aqm:(first.length<2 ^ 63)=True:=by grind
   simp only[cT al,if_true,cG al,df al,A.br,aL.sh,A.n7,A.gL,aqm,fY,Int.toNat_natCast,cG s4,Bn,PJ,and_true,true_and,and_self,imp_self,implies_true];have aqn:((mC s (first.length:Int)).1.length<2 ^ 63)=True:=by grind
   have aqo:List.getD s.2.2.1 k (0,0,0,0,[])=np s (k:Int):=rfl;have eP:first.contains (k:Int)=false->(!first.contains (k:Int))=true:=λh=>by grind
   have iN:((0:Int)<=0/\0<=(first.length:Int)/\(first.length:Int)<=(first.length:Int))=True:=by simp
   have kP:List.take first.length first=first:=List.take_length
   have lP:(0<Add.add 0 1/\bM (Add.add first.length (Add.add 0 1))):=⟨by decide,by show bM (first.length+1);unfold bM;omega⟩
   have ik:(first.contains (k:Int)||decide (sZ (mC s (first.length:Int)) (np s (k:Int))=0))=!Bq s first k:=by unfold Bq;simp
   have jO:first.contains (k:Int)=first.contains (k:Int):=rfl
   simp only[Option.isSome_some,Option.getD_some,fY,cG s4,Bn,aqo,aqn,and_true,true_and,and_self,imp_self,implies_true,A.br,A.bo eP,ik,iN,kP];rw[A.bo (by omega)];obtain⟨t,aH⟩:=aqj s e n first (show k+1<=s.2.2.1.length by omega)
   cases aw:Bq s first k with
   | false=>
    simp only[Bool.not_false,if_true,A.aF,A.bX,A.ea,ch,l4];show _=_;rw[I8,aw];simp
   | true=>
    rw[I8,aw,if_pos rfl]at aH;simp only[Bool.not_true,Bool.false_eq_true,if_false,A.f'];have Er:P0 f (some (dt s),first++[(k:Int)],e,l,(l,L,a++l7 s e n first k,false),()) s n (a++l7 s e n first k) (t++z++b):=by
     refine⟨⟨rfl,ae⟩,by grind,by omega,rfl,rfl,?_,rfl⟩;grind
    refine⟨⟨s,n,_,_,Er⟩,λy aS=>?_⟩;obtain⟨Ks,⟨Z9,Z_,P1,ys⟩,aqp⟩:=y;obtain⟨ds,dI,nP,uB⟩:=aS;change Z9=l at ds;change Z_=L at dI;subst ds;subst dI;cases Ks with
    | false=>
     have a1:ys=true:=uB rfl;subst a1;simp only[Bool.not_false,if_true,A.aF,A.ea,A.pz];simp
    | true=>
     obtain⟨bK,dp⟩:=nP rfl;change ys=false at bK;change P1=(a++l7 s e n first k)++kj s e (s.2.2.2.1.length - (first++[(k:Int)]).length) (first++[(k:Int)]) at dp;have vi:s.2.2.2.1.length - (first++[(k:Int)]).length=n:=by grind
     rw[vi]at dp;subst bK;subst dp;simp only[Bool.not_true,Bool.false_eq_true,if_false,A.aF,A.ea,A.bX,ch,l4];show _=_;rw[I8,aw,if_pos rfl];simp
  ·rintro q rfl;have kP:List.take first.length first=first:=List.take_length
   have iN:((0:Int)<=0/\0<=(first.length:Int)/\(first.length:Int)=(first.length:Int)/\(first.length:Int)<=(first.length:Int))=True:=by simp
   have lP:(0<Add.add 0 1/\bM (Add.add first.length (Add.add 0 1))):=⟨by decide,by show bM (first.length+1);unfold bM;omega⟩
   simp only[Int.lt_irrefl,decide_false,Bool.false_eq_true,if_false,A.aF,A.ea,A.bX,iN,kP,Int.toNat_natCast,and_true];by_cases he:e=0
   ·have zj:kj s e (n+1) first=l7 s e n first s.2.2.1.length:=by
     show l7 s e n first s.2.2.1.length++(if e=0 then [] else kj s e n (first++[-1]))=_
     grind
    simp only[he,decide_true,Bool.not_true,Bool.false_eq_true,if_false,false_imp_iff,A.br,Bool.true_or,A.ea,Bool.true_eq_false,and_self,implies_true];grind
   ·have zj:kj s e (n+1) first=l7 s e n first s.2.2.1.length++kj s e n (first++[-1]):=by
     show l7 s e n first s.2.2.1.length++(if e=0 then [] else kj s e n (first++[-1]))=_
     grind
    simp only[he,decide_false,Bool.not_false,if_true,true_imp_iff,A.br,Bool.false_or,and_self,implies_true];rw[A.bo (by simp),A.bo (by omega)];have Er:P0 f (some (dt s),first++[-1],e,l,(l,L,a++l7 s e n first s.2.2.1.length,false),()) s n (a++l7 s e n first s.2.2.1.length) b:=by
     refine⟨⟨rfl,ae⟩,by grind,by omega,rfl,rfl,?_,rfl⟩;grind
    rw[A.f'];refine⟨⟨s,n,_,_,Er⟩,λy aS=>A.ea.2 ?_⟩;obtain⟨Ks,⟨Z9,Z_,P1,ys⟩,aqp⟩:=y;obtain⟨ds,dI,nP,uB⟩:=aS;refine⟨ds,dI,λh=>?_,uB⟩;obtain⟨bK,dp⟩:=nP h;change P1=(a++l7 s e n first s.2.2.1.length)++kj s e (s.2.2.2.1.length - (first++[(-1:Int)]).length) (first++[-1]) at dp;grind
theorem aqq(f:Nat)(x):A.le (N' we.sh (rI f) oU.sh x) (rI (f+1) x):=λh=>by
 obtain⟨o,first,e,l,⟨dJ,L,p,st⟩,u⟩:=x;obtain⟨s,n,a,b,an⟩:=h;obtain⟨⟨ao,ae⟩,E,U,ah,a1,bK,dp⟩:=an;change o=_ at ao;change dJ=l at ah;change st=false at a1;change p=a at dp;change L=_ at bK;change first.length+n=_ at E
 change _ at bK;subst ao;subst ah;subst a1;subst dp;have vi:(od (some (dt s))).2.2.2.1.length - first.length=n:=by show s.2.2.2.1.length - first.length=n;omega
 refine A.cw.mono (aqk ae E U bK) λy aS=>⟨aS.1,aS.2.1,λh=>?_,aS.2.2.2⟩
 obtain⟨aO,aR⟩:=aS.2.2.1 h;refine⟨aO,?_⟩;rw[aR];show _=p++kj (od (some (dt s))) e ((od (some (dt s))).2.2.2.1.length - first.length) first
 rw[vi];rfl
theorem aqr(x):¬(rI 0 x).ck:=λ⟨s,n,a,b,h⟩=>by have:=h.cj;omega
def lE(e:Int)(s:bp):List (z1'):=kj s e s.2.2.2.1.length []
def yx(o:Option dy):Prop:=∃ s,wo o s
def I9(o:Option dy):List (z1'):=lE 1 (od o)
def P2(o:Option dy):List (z1'):=lE 0 (od o)
theorem aqs(s:bp)(ae:h2 s)(l:Nat):A.cw (HO (rI 10) (some (dt s),l,(l,(λT=>T=lE 1 s),[],false),())) λy=>y.1.1=l/\y.1.2.1=(λT=>T=lE 1 s)/\(y.1.2.2.2=false->y.1.2.2.1=lE 1 s):=by
 unfold HO;rw[A.f'];have Bm:=ae.s3;refine⟨⟨s,s.2.2.2.1.length,[],[],⟨rfl,ae⟩,by simp,by omega,rfl,rfl,by show (λT=>T=lE 1 s)=_;simp[lE],rfl⟩,λy aS=>A.ea.2 ?_⟩;obtain⟨ds,dI,nP,uB⟩:=aS;refine⟨ds,dI,λh=>?_⟩;cases E:y.1 with
 | false=>grind
 | true=>
  obtain⟨_,ah⟩:=nP E;show y.2.1.2.2.1=_;rw[ah];rfl
theorem aqt(s:bp)(ae:h2 s)(l:Nat):A.cw (HP (rI 10) (some (dt s),l,(l,(λT=>T=lE 0 s),[],false),())) λy=>y.1.1=l/\y.1.2.1=(λT=>T=lE 0 s)/\(y.1.2.2.2=false->y.1.2.2.1=lE 0 s):=by
 unfold HP;rw[A.f'];have Bm:=ae.s3;refine⟨⟨s,s.2.2.2.1.length,[],[],⟨rfl,ae⟩,by simp,by omega,rfl,rfl,by show (λT=>T=lE 0 s)=_;simp[lE],rfl⟩,λy aS=>A.ea.2 ?_⟩;obtain⟨ds,dI,nP,uB⟩:=aS;refine⟨ds,dI,λh=>?_⟩;cases E:y.1 with
 | false=>grind
 | true=>
  obtain⟨_,ah⟩:=nP E;show y.2.1.2.2.1=_;rw[ah];rfl
theorem P3{D ak:Type}{body:D->ak->A (dj×D)}(g:D->ak->D)(I:D->Prop):∀ (l:List ak) (s:D),I s->(∀ x∈l,∀ s,I s->body s x=A.pure (dj.normal,g s x)/\I (g s x))->jN body l s=A.pure (dj.normal,l.foldl g s)
 | [],s,_,_=>rfl
 | x::l,s,eB,h=>by
  obtain⟨E,U⟩:=h x (by simp) s eB;unfold jN;rw[E,A.aF];exact P3 g I l (g s x) U λy aS=>h y (List.mem_cons_of_mem _ aS)
theorem P4{s:bp}{e:Int}:∀ {n:Nat} {first y:z1'},y∈kj s e n first->y.length=first.length+n/\∀ p∈y,p∈first\/p=-1\/(0<=p/\p<(s.2.2.1.length:Int))
 | 0,first,y,h=>by
  simp only[kj,List.mem_singleton]at h;grind
 | n+1,first,y,h=>by
  simp only[kj,List.mem_append,List.mem_flatMap,List.mem_range]at h;rcases h with⟨p,an,h⟩ | h
  ·split at h
   ·obtain⟨E,U⟩:=P4 h;grind
   grind
  ·split at h
   ·cases h
   ·obtain⟨E,U⟩:=P4 h;grind
theorem P5{s:bp}{e:Int}{y:z1'}(h:y∈lE e s):y.length=s.2.2.2.1.length/\oc s y:=by
 obtain⟨E,U⟩:=P4 h;have E:y.length=s.2.2.2.1.length:=by grind
 refine⟨E,by omega,λp an=>?_⟩;grind
theorem aqu(s:bp):oc s (List.replicate s.2.2.2.1.length (-1)):=⟨by simp,λp an=>by grind⟩
def s6(s:bp)(b y:z1'):z1':=if (decide (rG s y > rG s b)&&pR s y)=true then y else b
def EV(s:bp):z1':=(lE 1 s).foldl (s6 s) (List.replicate s.2.2.2.1.length (-1))
theorem Z'{s:bp}:∀ (l:List (z1')) (b:z1'),(∀ y∈l,y.length=s.2.2.2.1.length/\oc s y)->(b.length=s.2.2.2.1.length/\oc s b)->((l.foldl (s6 s) b).length=s.2.2.2.1.length/\oc s (l.foldl (s6 s) b))
 | [],b,_,W=>W
 | y::l,b,aj,W=>by
  rw[List.foldl_cons];refine Z' l _ (λz bk=>aj z (List.mem_cons_of_mem _ bk)) ?_;unfold s6;grind
theorem aqv(s:bp):(EV s).length=s.2.2.2.1.length/\oc s (EV s):=Z' _ _ (λ_ h=>P5 h) ⟨by simp,aqu s⟩
abbrev P6:aL:=⟨wk,fP,λo=>∃ s,wo o s,λo=>EV (od o)⟩
theorem aqw(s:bp)(ae:h2 s):N7 IN.sh wu.sh s5.sh yx I9 (some (dt s))=A.pure (EV s):=by
 unfold N7;have Bm:=ae.s3;have fY:(dt s).1=s:=rfl;have gJ:yx (some (dt s)):=⟨s,rfl,ae⟩
 have P7:I9 (some (dt s))=lE 1 s:=rfl;simp only[Option.isSome_some,Option.getD_some,A.br,bV,fY,aL.sh,A.dF,P7];rw[A.bo (by grind),A.bo gJ];simp only[Int.toNat_natCast];rw[P3 (λ(b:Option dy×z1'×Unit) (y:z1')=>(some (dt s),s6 s b.2.1 y,())) (λb=>b.1=some (dt s)/\b.2.1.length=s.2.2.2.1.length) (lE 1 s) (some (dt s),List.replicate s.2.2.2.1.length (-1),()) ⟨rfl,by simp⟩ ?_]
 ·have ao:∀ (l:List (z1')) (b:z1'),l.foldl (λ(b:Option dy×z1'×Unit) (y:z1')=>(some (dt s),s6 s b.2.1 y,())) (some (dt s),b,())=(some (dt s),l.foldl (s6 s) b,()):=by
   intro l;induction l with
   | nil=>simp
   | cons y l aJ=>grind
  rw[ao,A.aF];rfl
 ·intro y aS b W;obtain⟨dL,eA,aqx⟩:=b;obtain⟨mm,qX⟩:=W;change dL=_ at mm;change eA.length=_ at qX;subst mm;obtain⟨xG,sn⟩:=P5 aS;have jJ:s5.pre (some (dt s),y):=⟨s,⟨rfl,ae⟩,by grind⟩
  have p7:s5.pre (some (dt s),eA):=⟨s,⟨rfl,ae⟩,by grind⟩
  have mh:wu.pre (some (dt s),y):=⟨s,⟨rfl,ae⟩,sn⟩
  have ax:s5.g (some (dt s),y)=rG s y:=rfl;have aM:s5.g (some (dt s),eA)=rG s eA:=rfl;have cD:wu.g (some (dt s),y)=pR s y:=rfl;refine⟨?_,rfl,?_⟩
  ·simp only[A.n7,A.gL,A.bo jJ,A.bo p7,ax,aM,cD,mh,and_true,true_and,and_self,imp_self,implies_true,A.br,s6];have ds:∀ c:Prop,(c->c/\(∃ nq,wo (some (dt s)) nq/\oc nq y)):=λc h=>⟨h,mh⟩
   rw[A.bo (ds _)];have ax:od (some (dt s))=s:=rfl;simp only[ax];cases hc:(decide (rG s y > rG s eA)&&pR s y)<;>simp
  ·show (s6 s eA y).length=_;unfold s6;grind
theorem aqy(x):A.le (N7 IN.sh wu.sh s5.sh yx I9 x) (P6.sh x):=A.bu λh=>by
 obtain⟨s,ao,ae⟩:=h;subst ao;exact aqw s ae
theorem I_{s:bp}{cb:Bool}(h:k6 s cb=0):yq s cb=(some (dt s),0):=by simp[yq,h]
theorem I'{s:bp}{cb:Bool}(h:k6 s cb≠0):yq s cb=(none,k6 s cb):=by simp[yq,h]
def wv(s:bp)(cb:Bool):Int×Int:=if k6 s cb≠0 then (0,k6 s cb) else (rG s (EV s),0)
abbrev P8:aL:=⟨.az k5 dk,.az bx bx,λx=>e8 x.1,λx=>wv x.1 x.2⟩
theorem aqz(x):A.le (V4 Bk.sh P6.sh s5.sh x) (P8.sh x):=A.bu λh=>by
 unfold V4;show _=A.pure (wv x.1 x.2);unfold wv;simp only[aL.sh,A.dF];rw[A.bo (by exact h)];by_cases al:k6 x.1 x.2=0
 ·have ae:=Bj h (Bi al).1;simp only[I_ al,al,ne_eq,not_true,decide_false,Bool.false_eq_true,if_false];rw[A.bo (by exact⟨x.1,rfl,ae⟩),A.bo (by exact⟨x.1,⟨rfl,ae⟩,Nat.le_of_eq (aqv x.1).1⟩)];rfl
 ·simp[I' al,al]
abbrev yy:aL:=⟨k5,.az bx bx,e8,λs=>wv s true⟩
theorem aqA(x):A.le (VX P8.sh x) (yy.sh x):=A.bu λh=>by
 unfold VX;simp only[aL.sh,A.dF];simp_all
def Br(s:bp)(n:Int)(y:z1'):Int:=if (!(lD s y).2||!EU (dt s) (lD s y).1)=true then n else if (decide (n=-1)||decide (yw (dt s) (lD s y).1<n))=true then yw (dt s) (lD s y).1 else n
def Ja(s:bp):Int:=(lE 0 s).foldl (Br s) (-1)
def uF(s:bp):Int×Int:=if k6 s true≠0 then (0,k6 s true) else if Ja s=-1 then (0,3) else (Ja s,0)
abbrev uG:aL:=⟨k5,.az bx bx,e8,uF⟩
theorem aqB(x):A.le (VY Bk.sh yx P2 I3.sh PW.sh I7.sh x) (uG.sh x):=A.bu λh=>by
 unfold VY;show _=A.pure (uF x);unfold uF;simp only[aL.sh,A.dF];rw[A.bo (by exact h)];by_cases al:k6 x true=0
 ·have ae:=Bj h (Bi al).1;have gJ:yx (some (dt x)):=⟨x,rfl,ae⟩
  have P7:P2 (some (dt x))=lE 0 x:=rfl;simp only[I_ al,al,ne_eq,not_true,decide_false,Bool.false_eq_true,if_false,P7];rw[A.bo gJ];rw[P3 (λ(b:Option dy×Int×Unit) (y:z1')=>(some (dt x),Br x b.2.1 y,())) (λb=>b.1=some (dt x)) (lE 0 x) (some (dt x),-1,()) rfl ?_]
  ·have ao:∀ (l:List (z1')) (b:Int),l.foldl (λ(b:Option dy×Int×Unit) (y:z1')=>(some (dt x),Br x b.2.1 y,())) (some (dt x),b,())=(some (dt x),l.foldl (Br x) b,()):=by
    intro l;induction l with
    | nil=>simp
    | cons y l aJ=>grind
   rw[ao,A.aF];show (if decide (Ja x=-1)=true then A.pure ((0:Int),(3:Int)) else A.pure (Ja x,0))=_;grind
  ·intro y aS b W;obtain⟨dL,eA,aqx⟩:=b;change dL=_ at W;subst W;obtain⟨xG,sn⟩:=P5 aS;refine⟨?_,rfl⟩;have z1:=Z6 ae sn;have jJ:∃ nq,wo (some (dt x)) nq/\oc nq y:=⟨x,⟨rfl,ae⟩,sn⟩
   have fm:(dt x).1.2.1.length<2 ^ 63:=h.2.1;have p7:∃ t,some (dt x)=some t/\t.1.2.1.length<2 ^ 63/\(lD x y).1.length<2 ^ 63:=⟨_,rfl,fm,by omega⟩
   have mh:∃ t,some (dt x)=some t/\t.2.1.length<=200/\(lD x y).1.length<=1000:=⟨_,rfl,Z5 ae,by omega⟩
   have ax:od (some (dt x))=x:=rfl;have aM:Option.getD (some (dt x)) yr=dt x:=rfl;simp only[A.jd,A.dF,ax,aM];rw[A.bo jJ];simp only[p7,implies_true,A.br];rw[A.bo (by exact mh)];show _=A.pure (dj.normal,some (dt x),Br x eA y,());unfold Br;cases E:(lD x y).2
   ·simp
   ·cases U:EU (dt x) (lD x y).1
    ·simp
    ·simp only[Bool.not_true,Bool.not_false,if_true,Bool.or_self,Bool.false_eq_true,if_false];cases ah:(decide (eA=-1)||decide (yw (dt x) (lD x y).1<eA))<;>simp
 ·simp[I' al,al]
def nr(s:bp)(w p:Int):z1':=(List.replicate s.2.2.2.1.length (-1)).set w.toNat p
def aaa(s:bp)(w:Int):z1':=((List.range s.2.2.1.length).filter λ(p:Nat)=>pR s (nr s w (p:Int))).map λ(p:Nat)=>(p:Int)
def uH(s:bp)(w:Int):z1'×Int:=if k6 s (yo s w)≠0 then ([],k6 s (yo s w)) else (aaa s w,0)
abbrev Jb:aL:=⟨.az k5 bx,.az fP bx,λx=>e8 x.1,λx=>uH x.1 x.2⟩
theorem aab{ak β:Type}{p:ak->Bool}{g:ak->β}:∀ (l:List ak) (b:List β),l.foldl (λb x=>if p x=true then b++[g x] else b) b=b++(l.filter p).map g
 | [],b=>by simp
 | x::l,b=>by
  simp only[List.foldl_cons,List.filter_cons];rw[aab l];grind
theorem aqC{s:bp}{w:Int}{p:Nat}(an:p<s.2.2.1.length):oc s (nr s w (p:Int)):=by
 refine⟨by simp[nr],λq bt=>?_⟩;unfold nr at bt;grind
theorem aqD(x):A.le (VZ Bk.sh PD.sh wc wu.sh x) (Jb.sh x):=A.bu λh=>by
 obtain⟨s,w⟩:=x;change e8 s at h;unfold VZ;show _=A.pure (uH s w);unfold uH;simp only[aL.sh,A.n7,A.gL];rw[A.bo (by exact h),A.bo (by exact h)];by_cases al:k6 s (yo s w)=0
 ·have ae:=Bj h (Bi al).1;have hw:=apz.1 (Bi al).2.1;have Bm:=ae.s3;have aql:=ae.EN;simp only[I_ al,al,ne_eq,not_true,decide_false,Bool.false_eq_true,if_false];unfold wc;simp only[A.dF,bV];rw[A.bo (by grind)];simp only[Int.toNat_natCast];rw[A.fC (List.range s.2.2.1.length) (λi (b:z1'×z1')=>(w,some (dt s),(s.2.2.1.length:Int),(i:Int),b.1,b.2,())) (λ(p:Nat) b=>.next (if pR s (nr s w (p:Int))=true then b.1++[(p:Int)] else b.1,nr s w (p:Int))) (λb=>.next (b.1,())) (λi b=>b.1.length<=i/\∀ p,b.2.set w.toNat p=nr s w p) ([],List.replicate s.2.2.2.1.length (-1)) ?_ ?_ ?_ ?_]
  ·rw[dP];have ao:∀ (l:List Nat) (b:z1'×z1'),(l.foldl (λb (p:Nat)=>(if pR s (nr s w (p:Int))=true then b.1++[(p:Int)] else b.1,nr s w (p:Int))) b).1=l.foldl (λb (p:Nat)=>if pR s (nr s w (p:Int))=true then b++[(p:Int)] else b) b.1:=by
    intro l;induction l with
    | nil=>simp
    | cons p l aJ=>grind
   rw[ao,aab,A.aF,A.bX];rfl
  ·rfl
  ·exact⟨Nat.le_refl _,λp=>rfl⟩
  ·intro i G b W;have G:i<s.2.2.1.length:=by grind
   have ki:=bC (n:=(i:Int)+1) (by omega) (by omega);obtain⟨dL,eA⟩:=b;obtain⟨mm,qX⟩:=W;change dL.length<=i at mm;change ∀ p,eA.set w.toNat p=nr s w p at qX;have lP:bM (dL.length+(0+1)):=by unfold bM;omega
   have hlen:eA.length=s.2.2.2.1.length:=by
    have:=congrArg List.length (qX 0);simpa [nr]using this
   have xM:0<=w/\w<(eA.length:Int):=by omega
   rw[List.getElem_range];refine⟨?_,λbd cR=>?_⟩
   ·simp only[cT G,if_true,xM,and_self,A.br,A.dF,qX];rw[A.bo (by exact⟨s,⟨rfl,ae⟩,aqC G⟩)];have ax:od (some (dt s))=s:=rfl;simp only[ax,ch,gW,A.bo lP];cases pR s (nr s w (i:Int))<;>simp[V.hn,ki]
   ·cases cR;refine⟨?_,λp=>?_⟩
    ·grind
    ·show (nr s w (i:Int)).set w.toNat p=nr s w p;unfold nr;simp
  simp
 ·simp[I' al,al]
def yz(s:bp)(b':z1'):Int×Int:=if k6 s (wh s b')≠0 then (0,k6 s (wh s b')) else if (!pR s b')=true then (0,3) else (rG s b',0)
abbrev yA:aL:=⟨.az k5 fP,.az bx bx,λx=>e8 x.1/\x.2.length<2 ^ 63,λx=>yz x.1 x.2⟩
theorem aqE{s:bp}{b':z1'}(h:wh s b'=true):b'.length=s.2.2.2.1.length/\oc s b':=by
 unfold wh at h;simp only[Bool.and_eq_true,List.all_eq_true,List.mem_range,decide_eq_true_eq]at h;obtain⟨E,U⟩:=h;refine⟨by omega,by omega,λp an=>?_⟩;obtain⟨i,G,rfl⟩:=List.mem_iff_getElem.1 an;have:=E i G;have jw:b'.getD i 0=b'[i]:=by grind
 unfold wg at this;simp only[jw,Bool.or_eq_true,decide_eq_true_eq,Bool.and_eq_true,apA]at this;omega
theorem aqF(x):A.le (V3 Bk.sh wu.sh IS.sh s5.sh x) (yA.sh x):=A.bu λh=>by
 obtain⟨s,b'⟩:=x;obtain⟨aD,aj⟩:=h;unfold V3;show _=A.pure (yz s b');unfold yz;simp only[aL.sh,A.n7,A.gL];have an:IS.pre (s,b'):=⟨aD,aj⟩
 rw[A.bo (by exact an),A.bo (by exact aD)];by_cases al:k6 s (wh s b')=0
 ·have ae:=Bj aD (Bi al).1;obtain⟨aqG,xI⟩:=aqE (Bi al).2.1;simp only[I_ al,al,ne_eq,not_true,decide_false,Bool.false_eq_true,if_false,A.dF];rw[A.bo (by exact⟨s,⟨rfl,ae⟩,xI⟩)];have ax:od (some (dt s))=s:=rfl;simp only[ax];cases ao:pR s b' with
  | false=>simp
  | true=>
   simp only[Bool.not_true,Bool.false_eq_true,if_false];rw[A.bo (by exact⟨s,⟨rfl,ae⟩,Nat.le_of_eq aqG⟩)]
 ·simp[I' al,al]
def yB(s:bp):Prop:=Py s.1/\s.2.1.length<=2000000/\s.2.2.1.length<=2000000/\s.2.2.2.1.length<=2000000/\s.2.2.2.2.1.length<=2000000/\(∀ p∈s.2.2.1,p.2.2.2.2.length<=2000000)/\∀ x∈s.2.2.2.1,x.1.length<=2000000
theorem aqH{s:bp}(ae:h2 s):yB s:=by
 have aoL:=Ba ae.qy.2;refine⟨⟨by omega,by omega,by omega,λm hm=>?_⟩,by have:=ae.wj;omega,by have:=ae.EN;omega,by have:=ae.s3;omega,by have:=ae.IV;omega,λp an=>by have:=(I0 ae an).2.1;omega,λx ag=>?_⟩
 ·have kR:=(A' ae.qy.2).2.2.1 m hm;simp only[pN,Bool.and_eq_true,Bool.not_eq_true',decide_eq_false_iff_not,List.all_eq_true]at kR;refine⟨by omega,λs' r4=>?_⟩;have:=kR.2 s' r4;simp only[pM,Bool.and_eq_true,decide_eq_true_eq]at this;omega
 ·have:=ae.IU x ag;simp only[n',bZ,Bool.and_eq_true,decide_eq_true_eq]at this;omega
abbrev Jc:aL:=⟨k5,k5,yB,λs=>s⟩
theorem aqI(x):A.le (VW vI.sh x) (Jc.sh x):=A.bu λh=>by
 obtain⟨E,U,ah,a1,bK,dp,fF⟩:=h;unfold VW;simp only[aL.sh,A.dF];have e1:bM (0+x.2.1.length):=by unfold bM;omega
 have oo:bM (0+x.2.2.1.length):=by unfold bM;omega
 have yC:bM (0+x.2.2.2.1.length):=by unfold bM;omega
 have P9:bM (0+x.2.2.2.2.1.length):=by unfold bM;omega
 rw[A.bo (by exact E)];simp only[gW,A.bo e1,A.bo oo,A.bo yC,A.bo P9,List.nil_append];rw[A.dB x.2.2.1 (λi (_:Unit)=>((i:Int),x,0,0,x.1.1,x.1.2.1,x.1.2.2.1,x.1.2.2.2,x.2.2.2.2.2,x.2.1,x.2.2.1,x.2.2.2.1,x.2.2.2.2.1,())) (λp b=>.next b) (λ_=>.next (x,0,0,x.1.1,x.1.2.1,x.1.2.2.1,x.1.2.2.2,x.2.2.2.2.2,x.2.1,x.2.2.1,x.2.2.2.1,x.2.2.2.2.1,())) () ?_ ?_ ?_]
 ·rw[dP,A.aF,A.bX];rw[A.dB x.2.2.2.1 (λi (_:Unit)=>((i:Int),x,0,0,x.1.1,x.1.2.1,x.1.2.2.1,x.1.2.2.2,x.2.2.2.2.2,x.2.1,x.2.2.1,x.2.2.2.1,x.2.2.2.2.1,())) (λp b=>.next b) (λ_=>.next (0,0,x.1.1,x.1.2.1,x.1.2.2.1,x.1.2.2.2,x.2.2.2.2.2,x.2.1,x.2.2.1,x.2.2.2.1,x.2.2.2.2.1,())) () ?_ ?_ ?_]
  ·rw[dP,A.aF,A.bX]<;>rfl
  ·rfl
  ·intro i G b;have ki:=bC (n:=(i:Int)+1) (by omega) (by omega);have hc:=fF _ (List.getElem_mem G);have ku:bM (0+x.2.2.2.1[i].1.length):=by unfold bM;omega
   have mQ:x.2.2.2.1.set i (x.2.2.2.1[i].1,x.2.2.2.1[i].2)=x.2.2.2.1:=List.set_getElem_self G;simp_all
  simp
 ·rfl
 ·intro i G b;have ki:=bC (n:=(i:Int)+1) (by omega) (by omega);have hc:=dp _ (List.getElem_mem G);have ku:bM (0+x.2.2.1[i].2.2.2.2.length):=by unfold bM;omega
  have mQ:x.2.2.1.set i (x.2.2.1[i].1,x.2.2.1[i].2.1,x.2.2.1[i].2.2.1,x.2.2.1[i].2.2.2.1,x.2.2.1[i].2.2.2.2)=x.2.2.1:=List.set_getElem_self G;simp_all
 simp
def aac(s:bp):Int:=(s.2.2.1.map λp=>(p.2.2.2.2.length:Int)).foldl (·+·) 0
def rJ(s:bp):Bool:=
 if (k1 s.1||decide ((s.2.1.length:Int) > 40)||decide ((s.2.2.1.length:Int) > 40)||decide ((s.2.2.2.1.length:Int) > 40)||decide ((s.2.2.2.2.1.length:Int) > 40))=true then true
 else if (s.2.2.1.any λp=>decide ((p.2.2.2.2.length:Int) > 40))=true then true
 else if (s.2.2.2.1.any λx=>decide ((x.1.length:Int) > 40))=true then true
 else if hz s≠0 then false
 else decide ((s.2.2.2.1.length:Int) > 3)||decide ((s.2.2.1.length:Int) > 4)||decide ((s.2.2.2.2.1.length:Int) > 3)||decide (aac s > 4)
abbrev Jd:aL:=⟨k5,dk,e8,rJ⟩
theorem aqJ(x):A.le (Zf mB.sh vV.sh x) (Jd.sh x):=A.bu λh=>by
 change e8 x at h;unfold Zf;show _=A.pure (rJ x);unfold rJ;simp only[aL.sh,A.dF,bV];rw[A.bo (by exact h.1)];obtain⟨g1,ee,g3,g4,g5,g6,g7⟩:=id h;by_cases E:(k1 x.1||decide ((x.2.1.length:Int) > 40)||decide ((x.2.2.1.length:Int) > 40)||decide ((x.2.2.2.1.length:Int) > 40)||decide ((x.2.2.2.2.1.length:Int) > 40))=true
 ·grind
 ·rw[if_neg E,if_neg E];simp only[Bool.or_eq_true,decide_eq_true_eq,not_or]at E;rw[A.dB x.2.2.1 (λi (_:Unit)=>((i:Int),x,())) (λp u=>if decide ((p.2.2.2.2.length:Int) > 40)=true then .done (.done true) else .next u) (λ_=>.next (x,())) () ?_ ?_ ?_]
  ·rw[sB (p:=λp:c1=>decide ((p.2.2.2.2.length:Int) > 40))];by_cases U:(x.2.2.1.any λp=>decide ((p.2.2.2.2.length:Int) > 40))=true
   ·simp only[U,if_true,A.aF,A.pz]
   ·simp only[U,Bool.false_eq_true,if_false,A.aF,A.bX];rw[A.dB x.2.2.2.1 (λi (_:Unit)=>((i:Int),x,())) (λp u=>if decide ((p.1.length:Int) > 40)=true then .done (.done true) else .next u) (λ_=>.next (x,())) () ?_ ?_ ?_]
    ·rw[sB (p:=λp:dm=>decide ((p.1.length:Int) > 40))];by_cases ah:(x.2.2.2.1.any λx=>decide ((x.1.length:Int) > 40))=true
     ·simp only[ah,if_true,A.aF,A.pz]
     ·simp only[ah,Bool.false_eq_true,if_false,A.aF,A.bX];rw[A.bo (by exact h)];by_cases he:hz x=0
      ·simp only[he,ne_eq,not_true,decide_false,Bool.false_eq_true,if_false];have W:∀ p∈x.2.2.1,p.2.2.2.2.length<=40:=λp an=>by
        grind
       rw[A.fC x.2.2.1 (λi (n:Int)=>(n,(i:Int),x,())) (λp n=>.next (n+(p.2.2.2.2.length:Int))) (λn=>.next (n,x,())) (λi n=>0<=n/\n<=40*i) 0 ?_ ?_ ?_ ?_]
       ·rw[dP,A.aF,A.bX];unfold aac;rw[List.foldl_map]
       ·rfl
       ·simp
       ·intro i G n aw;have ki:=bC (n:=(i:Int)+1) (by omega) (by omega);have ayy:=W _ (List.getElem_mem G);have Bf:=bC (n:=n+(x.2.2.1[i].2.2.2.2.length:Int)) (by omega) (by omega);refine⟨?_,λbd cR=>?_⟩
        ·simp only[cT G,if_true,cG G,A.br,df G,ch,ki,Bf];rfl
        grind
       simp
      grind
    ·rfl
    ·intro i G u;have ki:=bC (n:=(i:Int)+1) (by omega) (by omega);simp only[cT G,if_true,cG G,A.br,df G,A.aF,ch,ki];exact nc (mk:=λ_:Unit=>((i:Int)+1,x,()))
    simp
  ·rfl
  ·intro i G u;have ki:=bC (n:=(i:Int)+1) (by omega) (by omega);simp only[cT G,if_true,cG G,A.br,df G,A.aF,ch,ki];exact nc (mk:=λ_:Unit=>((i:Int)+1,x,()))
  simp
def Bs:bp:=(IG,[1,0,0,0],[(1,60,0,0,[0]),(1,60,7,0,[]),(2,65,0,1,[0]),(2,60,0,0,[0,1])],[([1],(55,65),7,3,500),([1,2],(60,60),0,5,400),([2],(60,70),9,8,700),([2],(65,65),0,5,300)],[(4,2,1),(6,3,1)],2)
abbrev Je:aL:=⟨.cV,k5,λ_=>True,λ_=>Bs⟩
theorem aqK(x):A.le (Zg Pz.sh x) (Je.sh x):=A.bu λ_=>by
 unfold Zg;simp only[aL.sh,A.dF,A.br];rfl
theorem aqL:e8 Bs:=by
 refine⟨ao5,by decide,by decide,by decide,by decide,?_,?_⟩
 ·intro p an;simp only[Bs,List.mem_cons,List.not_mem_nil,or_false]at an;grind
 ·intro x ag;simp only[Bs,List.mem_cons,List.not_mem_nil,or_false]at ag;grind
end Go.Fer
namespace Go.Fer.H
open A (V)
def aad(Av:aZ->A Int)(Of:List a_->A (List a_×Bool))(aqM:List (List a_)->A (List a_))(aqN:List (z1')×Unit->A (z1'×Unit))(Oh:z1'×Unit->A (z1'×Unit))(aqO:z1'×Unit->A ((Nat×Nat)×z1'×Unit))(Jf:z4'->A (z4'))(x:aZ×List a_×z1'):A (aZ×Int):=
 letI a:=x.1.2.2.2;A.bind (Av x.1) λy=>if decide (y≠0)=true then A.pure (([],[],[],[],0,0,0,0,0,0,0),y) else A.bind (Av (x.1.1,x.2.1,x.2.2,a)) λy=>if decide (y≠0)=true then A.pure (([],[],[],[],0,0,0,0,0,0,0),y) else A.bind (aqM [x.1.2.1,x.2.1]) λy=>A.bind (Of y) λy=>if (!y.2)=true then A.pure (([],[],[],[],0,0,0,0,0,0,0),91) else A.bind (aqN ([x.1.2.2.1,x.2.2],())) λb3=>A.bind (Oh (b3.1,())) λdC=>A.bind (aqO (dC.1,())) λgD=>if (decide (Int.ofNat (List.length y.1) > 12)||decide (Int.ofNat (gD.1.2-gD.1.1) > 12))=true then A.pure (([],[],[],[],0,0,0,0,0,0,0),90) else A.ab (Jf x.1.1).ck (A.ab (Jf a.1).ck (A.pure ((A.val (Jf x.1.1) [],y.1,List.drop gD.1.1 (List.take gD.1.2 gD.2.1),A.val (Jf a.1) [],a.2),0)))
def aae(aqP:Int×Unit->A (List a_×Unit))(x:List (List a_)):A (List a_):=
 A.bind (A.loop (λ(D:List (List a_)×Int×List (List a_)×Int×Int×Unit)=>letI d:=D.2.2;letI b:=d.2.2.1;letI a:=IntKind.wrap .i64 (Add.add D.2.1 (Int.ofNat (List.length (List.getD d.1 (Int.toNat b) []))));if decide (b<d.2.1)=true then A.bind (A.ab (0<=b/\b<Int.ofNat (List.length d.1)) (if decide (a<0)=true then A.ab False (A.ab False (A.pure (V.next (D.1,a,d.1,d.2.1,b,())))) else A.pure (V.next (D.1,a,d.1,d.2.1,b,())))) (V.bz (λ(D:List (List a_)×Int×List (List a_)×Int×Int×Unit)=>A.pure (V.next (D.1,D.2.1,D.2.2.1,D.2.2.2.1,IntKind.wrap .i64 (Add.add D.2.2.2.2.1 1),())))) else A.bind (A.pure (V.next (D.1,D.2.1,()))) λr=>A.pure (V.done r)) (x,0,x,Int.ofNat (List.length x),0,())) (V.bz (λ(D:List (List a_)×Int×Unit)=>A.bind (aqP (D.2.1,())) λy=>A.bind (A.loop (λ(D:List (List a_)×Int×Int×List a_×Unit)=>letI e:=D.2.2;letI c:=List.getD D.1 (Int.toNat e.1) [];if decide (e.1<D.2.1)=true then A.ab (0<=e.1/\e.1<Int.ofNat (List.length D.1)) (A.ab (bM (Add.add (List.length e.2.1) (List.length c))) (A.pure (V.next (D.1,D.2.1,IntKind.wrap .i64 (Add.add e.1 1),e.2.1++c,())))) else A.bind (A.pure (V.next (e.2.1,()))) λr=>A.pure (V.done r)) (D.1,Int.ofNat (List.length D.1),0,y.1,())) (V.bz (λ(D:List a_×Unit)=>A.pure D.1))))
def aaf(aqQ:Int×Unit->A (z1'×Unit))(x:List (z1')×Unit):A (z1'×Unit):=
 A.bind (A.loop (λ(D:List (z1')×Int×List (z1')×Int×Int×Unit)=>letI d:=D.2.2;letI b:=d.2.2.1;letI a:=IntKind.wrap .i64 (Add.add D.2.1 (Int.ofNat (List.length (List.getD d.1 (Int.toNat b) []))));if decide (b<d.2.1)=true then A.bind (A.ab (0<=b/\b<Int.ofNat (List.length d.1)) (if decide (a<0)=true then A.ab False (A.ab False (A.pure (V.next (D.1,a,d.1,d.2.1,b,())))) else A.pure (V.next (D.1,a,d.1,d.2.1,b,())))) (V.bz (λ(D:List (z1')×Int×List (z1')×Int×Int×Unit)=>A.pure (V.next (D.1,D.2.1,D.2.2.1,D.2.2.2.1,IntKind.wrap .i64 (Add.add D.2.2.2.2.1 1),())))) else A.bind (A.pure (V.next (D.1,D.2.1,()))) λr=>A.pure (V.done r)) (x.1,0,x.1,Int.ofNat (List.length x.1),0,())) (V.bz (λ(D:List (z1')×Int×Unit)=>A.bind (aqQ (D.2.1,())) λy=>A.bind (A.loop (λ(D:List (z1')×Int×Int×z1'×Unit)=>letI e:=D.2.2;letI c:=List.getD D.1 (Int.toNat e.1) [];if decide (e.1<D.2.1)=true then A.ab (0<=e.1/\e.1<Int.ofNat (List.length D.1)) (A.ab (bM (Add.add (List.length e.2.1) (List.length c))) (A.pure (V.next (D.1,D.2.1,IntKind.wrap .i64 (Add.add e.1 1),e.2.1++c,())))) else A.bind (A.pure (V.next (e.2.1,()))) λr=>A.pure (V.done r)) (D.1,Int.ofNat (List.length D.1),0,y.1,())) (V.bz (λ(D:z1'×Unit)=>A.pure (D.1,())))))
def aqR(x:z1'×Unit):A ((Nat×Nat)×z1'×Unit):=
 if decide (Int.ofNat (List.length x.1)<2)=true then A.pure ((0,List.length x.1),x.1,()) else A.bind (A.loop (λ(D:Int×z1'×Unit)=>letI l:=D.1;letI j:=D.2.1;letI g:=IntKind.wrap .i64 (l-1);letI b:=Int.ofNat (List.length j);if decide (l<b)=true then A.bind (A.ab (0<=l/\l<b) (A.ab (0<=g/\g<b) (if decide (List.getD j (Int.toNat l) 0=List.getD j (Int.toNat g) 0)=true then A.ab (0<=l/\l<=b/\b<=b) (A.bind (A.loop (λ(D:Int×(Nat×Nat)×Int×z1'×Unit)=>letI k:=D.2.1;letI e:=D.2.2;letI i:=IntKind.wrap .i64 (e.1-1);letI h:=List.getD e.2.1 (Add.add k.1 (Int.toNat e.1)) 0;letI d:=Int.ofNat (k.2-k.1);if decide (e.1<d)=true then A.bind (A.ab (0<=e.1/\e.1<d) (A.ab (0<=i/\i<d) (if decide (h≠List.getD e.2.1 (Add.add k.1 (Int.toNat i)) 0)=true then A.ab (0<=e.1/\e.1<d) (A.ab (0<=D.1/\D.1<Int.ofNat (List.length e.2.1)) (A.pure (V.next (IntKind.wrap .i64 (Add.add D.1 1),k,e.1,List.set e.2.1 (Int.toNat D.1) h,())))) else A.pure (V.next (D.1,k,e.1,e.2.1,()))))) (V.bz (λ(D:Int×(Nat×Nat)×Int×z1'×Unit)=>A.pure (V.next (D.1,D.2.1,IntKind.wrap .i64 (Add.add D.2.2.1 1),D.2.2.2.1,())))) else A.bind (A.pure (V.next (D.1,e.2.1,()))) λr=>A.pure (V.done r)) (l,(Int.toNat l,Int.toNat b),1,j,())) (V.bz (λ(D:Int×z1'×Unit)=>letI f:=Int.toNat D.1;letI c:=Int.ofNat (List.length D.2.1);letI a:=List.take f D.2.1++List.replicate (Int.toNat c-f) 0++List.drop (Add.add f (List.length (List.replicate (Int.toNat c-f) (0:Int)))) D.2.1;A.ab (0<=D.1/\D.1<=c/\c<=c) (A.ab True (A.ab ((0:Int)<=0/\0<=D.1/\D.1<=Int.ofNat (List.length a)) (A.bind (A.bind (A.bind (A.pure ((Int.toNat 0,f),a,())) (λr=>A.pure (V.done r))) (λr=>A.pure (V.done r))) (λr=>A.pure (V.done r)))))))) else A.pure (V.next (l,j,()))))) (V.bz (λ(D:Int×z1'×Unit)=>A.pure (V.next (IntKind.wrap .i64 (Add.add D.1 1),D.2.1,())))) else A.bind (A.pure (V.next (j,()))) λr=>A.pure (V.done r)) (1,x.1,())) (V.bz (λ(D:z1'×Unit)=>A.pure ((0,List.length D.1),D.1,())))
def Jg(x:Int×Unit):A (z1'×Unit):=A.dR (0<=x.1/\x.1<60000) ([],())
def Jh(x:Int×Unit):A (List a_×Unit):=A.dR (0<=x.1/\x.1<60000) ([],())
section
variable {ak gx:Type}
def Ji(g:Int×Unit->A (List ak×Unit))(x:List (List ak))(k:List ak->A gx):A gx:=
 A.bind (A.loop (λ(D:List (List ak)×Int×List (List ak)×Int×Int×Unit)=>if decide (D.2.2.2.2.1<D.2.2.2.1)=true then A.bind (A.ab (0<=D.2.2.2.2.1/\
 D.2.2.2.2.1<Int.ofNat (List.length D.2.2.1)) (if decide (IntKind.wrap .i64 (Add.add D.2.1 (Int.ofNat (List.length (List.getD D.2.2.1 (Int.toNat D.2.2.2.2.1) [])))) <
 0)=true then A.ab False (A.ab False (A.pure (V.next (D.1,IntKind.wrap .i64 (Add.add D.2.1 (Int.ofNat (List.length (List.getD D.2.2.1 (Int.toNat D.2.2.2.2.1)
 [])))),D.2.2.1,D.2.2.2.1,D.2.2.2.2.1,())))) else A.pure (V.next (D.1,IntKind.wrap .i64 (Add.add D.2.1 (Int.ofNat (List.length (List.getD D.2.2.1 (Int.toNat
 D.2.2.2.2.1) [])))),D.2.2.1,D.2.2.2.1,D.2.2.2.2.1,())))) (V.bz λ(D:List (List ak)×Int×List (List ak)×Int×Int×Unit)=>A.pure (V.next (D.1,D.2.1,D.2.2.1,D.2.2.2.1,IntKind.wrap .i64 (Add.add D.2.2.2.2.1 1),()))) else A.bind (A.pure (V.next (D.1,D.2.1,()))) λr=>A.pure (V.done r)) (x,0,x,Int.ofNat
 (List.length x),0,())) (V.bz λ(D:List (List ak)×Int×Unit)=>A.bind (g (D.2.1,())) λy=>A.bind (A.loop (λ(D:List (List ak)×Int×Int×List ak×
 Unit)=>if decide (D.2.2.1<D.2.1)=true then A.ab (0<=D.2.2.1/\D.2.2.1<Int.ofNat (List.length D.1)) (A.ab (bM (Add.add (List.length D.2.2.2.1) (List.length
 (List.getD D.1 (Int.toNat D.2.2.1) [])))) (A.pure (V.next (D.1,D.2.1,IntKind.wrap .i64 (Add.add D.2.2.1 1),D.2.2.2.1++List.getD D.1 (Int.toNat D.2.2.1) [],())))) else A.bind (A.pure (V.next (D.2.2.2.1,()))) λr=>A.pure (V.done r)) (D.1,Int.ofNat (List.length D.1),0,y.1,())) (V.bz λ(D:List ak×Unit)
 =>k D.1))
theorem aag:∀ (l:List (List ak)) (b:List ak),l.foldl (λb x=>b++x) b=b++l.flatten
 | [],b=>by simp
 | x::l,b=>by simp[aag l]
theorem aah(g:Int×Unit->A (List ak×Unit))(aB:∀ n,0<=n->n<60000->g (n,())=A.pure ([],()))(x:List (List ak))(k:List ak->A gx)(E:x.length<=2)(U:∀ l∈x,l.length<=40):Ji g x k=k x.flatten:=by
 unfold Ji;rw[A.fC x (λi (n:Int)=>(x,n,x,(x.length:Int),(i:Int),())) (λl n=>.next (n+(l.length:Int))) (λn=>.next (x,n,())) (λi n=>0<=n/\n<=40*(i:Int)) 0 ?_ ?_ ?_ ?_]
 ·rw[dP,A.aF,A.bX];have aD:∀ (l:List (List ak)) (n:Int),0<=n->(∀ y∈l,y.length<=40)->0<=l.foldl (λn y=>n+(y.length:Int)) n/\l.foldl (λn y=>n+(y.length:Int)) n<=n+40*(l.length:Int):=by
   intro l;induction l with
   | nil=>simp
   | cons y l aJ=>
    grind
  obtain⟨dL,eA⟩:=aD x 0 (Int.le_refl _) U;rw[aB _ dL (by omega),A.aF];rw[A.fC x (λi (b:List ak)=>(x,(x.length:Int),(i:Int),b,())) (λl b=>.next (b++l)) (λb=>.next (b,())) (λi b=>b.length<=40*i) [] ?_ ?_ ?_ ?_]
  ·rw[dP,A.aF,A.bX,aag];rfl
  ·rfl
  ·simp
  ·intro i G b W;have hw:=bC (n:=(i:Int)+1) (by omega) (by omega);have aj:=U _ (List.getElem_mem G);refine⟨?_,λbd cR=>?_⟩
   ·simp only[bV,cT G,if_true,df G,cG G,A.br,ch,hw];rw[A.bo (e7 (by grind))];rfl
   grind
  simp
 ·rfl
 ·omega
 ·intro i G n aw;have hw:=bC (n:=(i:Int)+1) (by omega) (by omega);have aj:=U _ (List.getElem_mem G);have gU:=bC (n:=n+(x[i].length:Int)) (by omega) (by omega);have ar:decide (n+(x[i].length:Int)<0)=false:=by grind
  refine⟨?_,λbd cR=>?_⟩
  ·simp only[bV,cT G,if_true,df G,cG G,A.br,ch,hw,gU,ar,Bool.false_eq_true,if_false,A.aF,A.bX];rfl
  grind
 simp
end
abbrev Jj:aL:=⟨.slice (.slice hp),.slice hp,λx=>x.length<=2/\∀ l∈x,l.length<=40,λx=>x.flatten⟩
theorem aqS(x):A.le (aae Jh x) (Jj.sh x):=A.bu λh=>
 (show aae Jh x=Ji Jh x A.pure from rfl).trans (aah _ (λn a b=>A.bR ⟨a,b⟩ _) x _ h.1 h.2)
def Jk(x:List (z1')×Unit):A (z1'×Unit):=A.dR (x.1.length<=2/\∀ l∈x.1,l.length<=40) (x.1.flatten,())
theorem aqT(x):A.le (aaf Jg x) (Jk x):=A.bu λh=>
 (show aaf Jg x=Ji Jg x.1 (λl=>A.pure (l,())) from rfl).trans (aah _ (λn a b=>A.bR ⟨a,b⟩ _) x.1 _ h.1 h.2)
def og(l:z1')(j:Nat):Bool:=decide (j=0)||decide (l.getD j 0≠l.getD (j - 1) 0)
def fw(l:z1')(p:Nat):z1':=((List.range p).filter (og l)).map λj=>l.getD j 0
theorem P_(l:z1')(p:Nat):fw l (p+1)=fw l p++if og l p=true then [l.getD p 0] else []:=by
 unfold fw;rw[List.range_succ,List.filter_append,List.map_append];grind
theorem aqU(l:z1')(p:Nat):(fw l p).length<=p:=by
 unfold fw;grind
def EW{R:Type}:Int×(Nat×Nat)×Int×z1'×Unit->A (V (Int×(Nat×Nat)×Int×z1'×Unit) (V (Int×z1'×Unit) R)):=
 (λ(D:Int×(Nat×Nat)×Int×z1'×Unit)=>if decide (D.2.2.1<Int.ofNat (D.2.1.2 - D.2.1.1))=true then A.bind (A.ab (0<=D.2.2.1/\D.2.2.1<Int.ofNat
 (D.2.1.2 - D.2.1.1)) (A.ab (0<=IntKind.wrap .i64 (D.2.2.1 - 1)/\IntKind.wrap .i64 (D.2.2.1 - 1)<Int.ofNat (D.2.1.2 - D.2.1.1)) (if decide (List.getD D.2.2.2.1
 (Add.add D.2.1.1 (Int.toNat D.2.2.1)) 0≠List.getD D.2.2.2.1 (Add.add D.2.1.1 (Int.toNat (IntKind.wrap .i64 (D.2.2.1 - 1)))) 0)=true then A.ab (0<=D.2.2.1/\D.2.2.1
 < Int.ofNat (D.2.1.2 - D.2.1.1)) (A.ab (0<=D.1/\D.1<Int.ofNat (List.length D.2.2.2.1)) (A.pure (V.next (IntKind.wrap .i64 (Add.add D.1 1),D.2.1,D.2.2.1,List.set D.2.2.2.1 (Int.toNat D.1) (List.getD D.2.2.2.1 (Add.add D.2.1.1 (Int.toNat D.2.2.1)) 0),())))) else A.pure (V.next (D.1,D.2.1,D.2.2.1,D.2.2.2.1,())))))
 (V.bz λ(D:Int×(Nat×Nat)×Int×z1'×Unit)=>A.pure (V.next (D.1,D.2.1,IntKind.wrap .i64 (Add.add D.2.2.1 1),D.2.2.2.1,()))) else A.bind
 (A.pure (V.next (D.1,D.2.2.2.1,()))) λr=>A.pure (V.done r))
def wx:Int×z1'×Unit->A (V (Int×z1'×Unit) (V (z1'×Unit) ((Nat×Nat)×z1'×Unit))):=
 (λ(D:Int×z1'×Unit)=>if decide (D.1<Int.ofNat (List.length D.2.1))=true then A.bind (A.ab (0<=D.1/\D.1<Int.ofNat (List.length D.2.1)) (A.ab (0<=
 IntKind.wrap .i64 (D.1 - 1)/\IntKind.wrap .i64 (D.1 - 1)<Int.ofNat (List.length D.2.1)) (if decide (List.getD D.2.1 (Int.toNat D.1) 0=List.getD D.2.1 (Int.toNat
 (IntKind.wrap .i64 (D.1 - 1))) 0)=true then A.ab (0<=D.1/\D.1<=Int.ofNat (List.length D.2.1)/\Int.ofNat (List.length D.2.1)<=Int.ofNat (List.length D.2.1))
 (A.bind (A.loop EW (D.1,(Int.toNat D.1,Int.toNat (Int.ofNat (List.length D.2.1))),1,D.2.1,())) (V.bz λ(D:Int×z1'×Unit)=>A.ab (0<=D.1/\D.1<=
 Int.ofNat (List.length D.2.1)/\Int.ofNat (List.length D.2.1)<=Int.ofNat (List.length D.2.1)) (A.ab True (A.ab ((0:Int)<=0/\0<=D.1/\D.1<=Int.ofNat (List.length
 (List.take (Int.toNat D.1) D.2.1++List.replicate (Int.toNat (Int.ofNat (List.length D.2.1)) - Int.toNat D.1) 0++List.drop (Add.add (Int.toNat D.1) (List.length
 (List.replicate (Int.toNat (Int.ofNat (List.length D.2.1)) - Int.toNat D.1) (0:Int)))) D.2.1))) (A.bind (A.bind (A.bind (A.pure ((Int.toNat 0,Int.toNat D.1),List.take
 (Int.toNat D.1) D.2.1++List.replicate (Int.toNat (Int.ofNat (List.length D.2.1)) - Int.toNat D.1) 0++List.drop (Add.add (Int.toNat D.1) (List.length (List.replicate
 (Int.toNat (Int.ofNat (List.length D.2.1)) - Int.toNat D.1) (0:Int)))) D.2.1,())) λr=>A.pure (V.done r)) λr=>A.pure (V.done r)) λr=>A.pure (V.done
 r)))))) else A.pure (V.next (D.1,D.2.1,()))))) (V.bz λ(D:Int×z1'×Unit)=>A.pure (V.next (IntKind.wrap .i64 (Add.add D.1 1),D.2.1,()))) else
 A.bind (A.pure (V.next (D.2.1,()))) λr=>A.pure (V.done r))
structure yD(l:z1')(p:Nat)(m:z1'):Prop where
 len:m.length=l.length
 Cn:m.take (fw l p).length=fw l p
 lt:(fw l p).length<p
 cm:∀ j,p<=j+1->m.getD j 0=l.getD j 0
theorem aqV{ak:Type}{l:List ak}{i j:Nat}{v d:ak}(h:i<l.length):(l.set i v).getD j d=if j=i then v else l.getD j d:=by
 grind
theorem yD.step{l m:z1'}{p:Nat}(h:yD l p m)(an:p<l.length):yD l (p+1) (if og l p=true then m.set (fw l p).length (l.getD p 0) else m):=by
 have E:=h.lt;have U:=h.len;have hc:=P_ l p;by_cases al:og l p=true
 ·rw[if_pos al]at hc ⊢;refine⟨by grind,?_,?_,λj aE=>?_⟩
  ·rw[hc,List.length_append,List.length_singleton];have aH:=h.Cn;generalize fw l p=c at aH E;apply List.ext_getElem?;intro j;rw[List.getElem?_take,List.getElem?_append,List.getElem?_set];grind
  ·grind
  ·rw[aqV (by omega),if_neg (by omega)];exact h.cm j (by omega)
 ·rw[if_neg al,List.append_nil]at hc;rw[if_neg al];refine⟨U,by rw[hc];exact h.Cn,by grind,λj aE=>h.cm j (by omega)⟩
theorem aqW{R:Type}{l m:z1'}{k p:Nat}(aj:l.length<60000)(al:k<p)(mV:0<k)(h:yD l p m)(an:p<l.length) :
  EW (R:=R) (((fw l p).length:Nat),(k,l.length),((p - k:Nat):Int),m,())=A.pure (.next (((fw l (p+1)).length:Nat),(k,l.length),((p+1 - k:Nat):Int),(if og l p=true then m.set (fw l p).length (l.getD p 0) else m),())):=by
 have E:=h.lt;have U:=h.len;have hc:=P_ l p;have cn:=bC (n:=((p - k:Nat):Int) - 1) (by omega) (by omega);have c_:IntKind.wrap .i64 (((p - k:Nat):Int)+1)=((p+1 - k:Nat):Int):=(bC (by omega) (by omega)).trans (by omega);have eY:=bC (n:=(((fw l p).length:Nat):Int)+1) (by omega) (by omega);have d1:decide (((p - k:Nat):Int)<((l.length - k:Nat):Int))=true:=by grind
 have b_:(0:Int)<=((p - k:Nat):Int)/\((p - k:Nat):Int)<((l.length - k:Nat):Int):=by omega
 have cy:(0:Int)<=((p - k:Nat):Int) - 1/\((p - k:Nat):Int) - 1<((l.length - k:Nat):Int):=by omega
 have eg:(0:Int)<=(((fw l p).length:Nat):Int)/\(((fw l p).length:Nat):Int)<(m.length:Int):=by omega
 have ax:k+(((p - k:Nat):Int)).toNat=p:=by omega
 have aM:k+(((p - k:Nat):Int) - 1).toNat=p - 1:=by omega
 have g1:=h.cm p (by omega);have ee:=h.cm (p - 1) (by omega);have zp:og l p=decide (l.getD p 0≠l.getD (p - 1) 0):=by
  unfold og;grind
 unfold EW;simp only[bV,d1,if_true,cn,b_,cy,and_self,A.br,ch,gW,ax,aM,g1,ee,<-zp];by_cases Jl:og l p=true
 ·rw[if_pos Jl]at hc;simp only[Jl,if_true,eg,and_self,A.br,A.aF,A.bX,c_,eY,Int.toNat_natCast,decide_true];rw[hc];simp
 ·rw[if_neg Jl,List.append_nil]at hc;simp only[Jl,if_false,A.aF,A.bX,c_,Bool.false_eq_true,decide_true,if_true];rw[hc]
theorem aqX{R:Type}{l:z1'}{k:Nat}(aj:l.length<60000)(mV:0<k):∀ (n p:Nat) (m:z1'),l.length - p=n->p<=l.length->k<p->yD l p m->
  ∃ dz,yD l l.length dz/\A.loop (EW (R:=R)) (((fw l p).length:Nat),(k,l.length),((p - k:Nat):Int),m,())=A.pure (.next (((fw l l.length).length:Nat),dz,())):=by
 intro n;induction n with
 | zero=>
  intro p m aw an al h;have:p=l.length:=by omega
  subst this;refine⟨m,h,A.rS ?_⟩;unfold EW;simp
 | succ n aJ=>
  intro p m aw an al h;have an:p<l.length:=by omega
  obtain⟨dz,E,U⟩:=aJ (p+1) _ (by omega) an (by omega) (h.step an);exact⟨dz,E,(A.yX (aqW aj al mV h an)).trans U⟩
def wy(l:z1'):(Nat×Nat)×z1'×Unit:=((0,(fw l l.length).length),fw l l.length++List.replicate (l.length - (fw l l.length).length) 0,())
theorem aqY{l:z1'}(aj:l.length<60000):∀ (n p:Nat),l.length - p=n->p<=l.length->0<p->fw l p=l.take p->
  A.bind (A.loop wx ((p:Int),l,())) (V.bz λ(D:z1'×Unit)=>A.pure ((0,List.length D.1),D.1,()))=A.pure (wy l):=by
 intro n;induction n with
 | zero=>
  intro p aw an aX hc;have:p=l.length:=by omega
  subst this;rw[List.take_length]at hc;have W:wx ((l.length:Int),l,())=A.pure (.done (.next (l,()))):=by
   unfold wx;simp
  rw[A.rS W,A.aF,A.bX];unfold wy;simp_all
 | succ n aJ=>
  intro p aw an aX hc;have an:p<l.length:=by omega
  have cn:=bC (n:=(p:Int) - 1) (by omega) (by omega);have c_:=bC (n:=(p:Int)+1) (by omega) (by omega);have cy:(0:Int)<=(p:Int) - 1/\(p:Int) - 1<(l.length:Int):=by omega
  have ax:((p:Int) - 1).toNat=p - 1:=by omega
  have zp:og l p=decide (l.getD p 0≠l.getD (p - 1) 0):=by
   unfold og;rw[show decide (p=0)=false by grind,Bool.false_or]
  have pa:=P_ l p;have ZK:(l.take p).length=p:=by grind
  by_cases al:og l p=true
  ·have eP:¬l.getD p 0=l.getD (p - 1) 0:=by grind
   have W:wx ((p:Int),l,())=A.pure (.next (((p+1:Nat):Int),l,())):=by
    unfold wx;simp_all
   rw[A.yX W];refine aJ (p+1) (by omega) an (by omega) ?_;simp_all
  ·have heq:l.getD p 0=l.getD (p - 1) 0:=by grind
   rw[if_neg al,List.append_nil]at pa;have eB:yD l (p+1) l:=⟨rfl,by grind,by grind,λ_ _=>rfl⟩
   obtain⟨dz,E,U⟩:=aqX (R:=V (Int×z1'×Unit) (V (Int×z1'×Unit) (V (z1'×Unit) ((Nat×Nat)×z1'×Unit)))) aj aX (l.length - (p+1)) (p+1) l rfl an (by omega) eB;rw[show (fw l (p+1)).length=p by grind,show p+1 - p=1 from by omega]at U;have lN:=aqU l l.length;have anr:=E.len;have kP:=E.Cn;have eg:(0:Int)<=((fw l l.length).length:Int)/\((fw l l.length).length:Int)<=(dz.length:Int):=by omega
   have jk:List.take (fw l l.length).length dz++List.replicate (dz.length - (fw l l.length).length) 0++List.drop ((fw l l.length).length+(List.replicate (dz.length - (fw l l.length).length) (0:Int)).length) dz=fw l l.length++List.replicate (l.length - (fw l l.length).length) 0:=by
    simp_all
   have W:wx ((p:Int),l,())=A.pure (.done (.done (wy l))):=by
    unfold wx;simp only[bV,cT an,if_true,cG an,A.br,cn,cy,and_self,ax,Int.toNat_natCast,heq,decide_true];rw[A.bo (by omega)];erw [U];simp only[A.aF,A.bX,bV,Int.toNat_natCast,gW,jk,A.br];rw[A.bo ⟨eg.1,eg.2,Int.le_refl _⟩,A.bo ⟨Int.le_refl _,eg.1,by grind⟩];simp only[A.aF,A.pz,jk];rfl
   rw[A.rS W,A.aF,A.pz]
def Jm(x:z1'×Unit):A ((Nat×Nat)×z1'×Unit):=A.dR (x.1.length<60000) (wy x.1)
theorem aqZ(x):A.le (aqR x) (Jm x):=A.bu λh=>by
 obtain⟨l,u⟩:=x;change l.length<60000 at h;show (if decide (Int.ofNat l.length<2)=true then A.pure ((0,l.length),l,()) else A.bind (A.loop wx (1,l,())) (V.bz λ(D:z1'×Unit)=>A.pure ((0,List.length D.1),D.1,())))=A.pure (wy l);have nO:∀ l:z1',l.length<2->fw l l.length=l:=λl aj=>by
  match l,aj with
  | [],_=>rfl
  | [a],_=>rfl
 by_cases U:l.length<2
 ·have ar:decide (Int.ofNat l.length<2)=true:=by grind
  rw[if_pos ar];unfold wy;simp_all
 ·have ar:¬decide (Int.ofNat l.length<2)=true:=by grind
  rw[if_neg ar];refine aqY h (l.length - 1) 1 rfl (by omega) (by omega) ?_;match l,U with
  | a::l,_=>rfl
  | [],U=>grind
end Go.Fer.H
