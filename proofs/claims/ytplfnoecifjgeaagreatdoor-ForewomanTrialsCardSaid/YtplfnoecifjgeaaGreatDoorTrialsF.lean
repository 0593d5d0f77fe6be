/- Part 6 of the proof of Trials: shallow programs of Go functions, and what they compute. No condition. -/
import Derived.Test.YtplfnoecifjgeaaGreatDoorTrialsE
noncomputable section
set_option linter.unusedVariables false
set_option linter.unusedSimpArgs false
namespace Go.Fer
open M (aa)
abbrev aL:Type:=List UInt8
abbrev aX:Type:=br×H.aQ
abbrev vN:Type:=z2'×List (List (Int×z1'×Int×Int))×Int×Int×z2'×z1'×List db×List dr×List Du×Unit
abbrev AK:Type:=Int×Bool×Option Nat
abbrev kM(l:List (aL×AK))(a:aL)(b:AK):List (aL×AK):=ls (k:=.str) (v:=.st (.aw (.int .i64) (.aw .bool .dT))) l a b
def XN(OG:H.aQ->M Int)(OH:br->M Int)(x:aX):M Int:=
 M.bind (OH x.1) λy=>M.bind (b1 (!(decide (y≠0))) (OG x.2) 0) λbL=>if (decide (y≠0)||decide (bL≠0))=true then M.pure 120 else M.pure 0
def XO(amX:aX->M Int)(amY:aX×Unit->M (aX×Unit))(amZ:Unit->M (List (aL×Int×Bool×Option Nat)))(am0:List (aL×Int×Bool×Option Nat)×aL×aX×Unit->M (aL×aX×Unit))(x:aX×List aL):M (List aL×aX×Int):=
 letI d:=Int.ofNat (List.length x.2);M.bind (amX x.1) λy=>if decide (y≠0)=true then M.pure ([],((([],[],0,[]),[],[],[],[],0),[],[],[],[],0,0,0,0,0,0,0),y) else if decide (d > 40)=true then M.pure ([],((([],[],0,[]),[],[],[],[],0),[],[],[],[],0,0,0,0,0,0,0),2) else M.bind (amY (x.1,())) λy=>M.bind (amZ ()) λbL=>M.bind (M.loop (λ(A:List (aL×Int×Bool×Option Nat)×List aL×Int×Int×List aL×Int×Int×Int×Int×Int×Int×Int×Int×Int×aX×Unit)=>letI b:=A.2.2.2;letI a:=b.2.2.2.2;letI c:=a.2.2.2.2;if decide (b.1<A.2.2.1)=true then M.ae (0<=b.1/\b.1<Int.ofNat (List.length A.2.1)) (M.bind (am0 (A.1,List.getD A.2.1 (Int.toNat b.1) [],c.2.2.2.1,())) (λy=>M.ae (bT (Add.add (List.length b.2.1) (Add.add 0 1))) (M.pure (aa.next (A.1,A.2.1,A.2.2.1,IntKind.wrap .i64 (Add.add b.1 1),b.2.1++[y.1],b.2.2.1,b.2.2.2.1,a.1,a.2.1,a.2.2.1,a.2.2.2.1,c.1,c.2.1,c.2.2.1,y.2.1,()))))) else M.bind (M.pure (aa.next (b.2.1,b.2.2.1,b.2.2.2.1,a.1,a.2.1,a.2.2.1,a.2.2.2.1,c.1,c.2.1,c.2.2.1,c.2.2.2.1,()))) λr=>M.pure (aa.done r)) (bL,x.2,d,0,[],0,0,0,0,0,0,0,0,0,y.1,())) (aa.bm (λ(A:List aL×Int×Int×Int×Int×Int×Int×Int×Int×Int×aX×Unit)=>M.ae True (M.pure (A.1,A.2.2.2.2.2.2.2.2.2.2.1,0))))
def XP(Dw:br->M Int)(Ac:H.aQ->M Int)(x:aX):M Int:=
 M.bind (Dw x.1) λy=>M.bind (b1 (!(decide (y≠0))) (Ac x.2) 0) λbL=>if (decide (y≠0)||decide (bL≠0))=true then M.pure 120 else M.pure 0
def XQ(OI:H.aQ×z7'×z1'->M (H.aQ×Int))(XR:br->M br)(x:aX×Unit):M (aX×Unit):=
 M.bind (OI (x.1.2,[],[])) λy=>M.ae (XR x.1.1).bY (M.pure ((M.val (XR x.1.1) (([],[],0,[]),[],[],[],[],0),y.1),()))
def am1(x:Unit):M (List (aL×Int×Bool×Option Nat)):=
 M.pure (kM (kM (kM (kM (kM (kM (kM (kM (kM (kM (kM (kM (kM (kM (kM (kM (kM (kM (kM (kM [] [108,101,110,100] (5,false,some 119)) [98,97,99,107] (4,false,some 120)) [118,111,105,100] (1,false,some 121)) [108,97,115,116,115] (1,false,some 122)) [102,101,101] (1,false,some 123)) [111,119,101,115] (1,false,some 124)) [104,101,108,100] (1,false,some 125)) [119,104,101,114,101] (2,false,some 126)) [109,105,115,115,105,110,103] (1,false,some 127)) [116,114,105,97,108] (4,false,some 128)) [102,105,116,115] (3,false,some 129)) [115,116,111,99,107] (2,false,some 130)) [99,111,109,101,115] (3,false,some 131)) [112,105,101,99,101] (4,true,some 132)) [119,105,115,104] (5,true,some 133)) [100,114,111,112] (1,false,some 134)) [99,97,110] (1,false,some 135)) [116,97,107,101,115] (0,true,some 136)) [109,111,115,116] (0,false,some 137)) [101,120,116,114,97] (0,false,some 138))
def XS(am2:aL×aL->M (List aL))(am3:aL->M (Int×Bool))(am4:Nat->z1'×aX×Unit->M (aL×aX×Unit))(x:List (aL×Int×Bool×Option Nat)×aL×aX×Unit):M (aL×aX×Unit):=
 M.bind (am2 (x.2.1,[32])) λy=>letI b:=Int.ofNat (List.length y);letI f:=IntKind.wrap .i64 (b-1);letI d:=List.drop (Int.toNat 1) (List.take (Int.toNat b) y);letI a:=Option.map (λx=>x.2) (List.find? (λp=>decide (List.getD y (Int.toNat 0) []=p.1)) x.1);letI c:=Option.getD a (0,false,none);M.ae ((0:Int)<=0/\0<b) (if (!(Option.isSome a)||decide (f<c.1)||decide (f > c.1)&&!c.2.1)=true then M.pure ([63],x.2.2.1,()) else M.bind (M.ae ((0:Int)<=1/\1<=b/\b<=b) (M.loop (λ(A:List aL×Int×Int×(Int×Bool×Option Nat)×z1'×aX×Unit)=>letI e:=A.2.2;if decide (e.1<A.2.1)=true then M.ae (0<=e.1/\e.1<Int.ofNat (List.length A.1)) (M.bind (am3 (List.getD A.1 (Int.toNat e.1) [])) (λy=>if (!y.2)=true then M.bind (M.bind (M.pure ([63],e.2.2.2.1,())) (λr=>M.pure (aa.done r))) λr=>M.pure (aa.done r) else M.ae (bT (Add.add (List.length e.2.2.1) (Add.add 0 1))) (M.pure (aa.next (A.1,A.2.1,IntKind.wrap .i64 (Add.add e.1 1),e.2.1,e.2.2.1++[y.1],e.2.2.2.1,()))))) else M.bind (M.pure (aa.next (e.2.1,e.2.2.1,e.2.2.2.1,()))) λr=>M.pure (aa.done r)) (d,Int.ofNat (List.length d),0,c,[],x.2.2.1,()))) (aa.bm (λ(A:(Int×Bool×Option Nat)×z1'×aX×Unit)=>M.bind (M.ae (∃ (k:Nat),List.Mem k [119,120,121,122,123,124,125,126,127,128,129,130,131,132,133,134,135,136,137,138]/\A.1.2.2=some k) (am4 (Option.getD A.1.2.2 0) (A.2.1,A.2.2.1,()))) λy=>M.pure (y.1,y.2.1,()))))
def XT(D4:z7'×z1'×aX×Unit->M (aL×aX×Unit))(x:z1'×aX×Unit):M (aL×aX×Unit):=
 letI a:=Int.ofNat (List.length x.1);M.ae ((0:Int)<=0/\0<a) (M.ae ((0:Int)<=1/\1<a) (M.ae ((0:Int)<=2/\2<a) (M.ae ((0:Int)<=3/\3<a) (M.ae ((0:Int)<=4/\4<a) (M.bind (D4 ([(List.getD x.1 (Int.toNat 0) 0,List.getD x.1 (Int.toNat 1) 0,List.getD x.1 (Int.toNat 2) 0,1,List.getD x.1 (Int.toNat 3) 0,List.getD x.1 (Int.toNat 4) 0)],[],x.2.1,())) (λy=>M.pure (y.1,y.2.1,())))))))
def XU(OI:H.aQ×z7'×z1'->M (H.aQ×Int))(x:z7'×z1'×aX×Unit):M (aL×aX×Unit):=
 M.ae True (M.bind (OI (x.2.2.1.2,x.1,x.2.1)) (λy=>if decide (y.2≠0)=true then M.pure ([110,111],x.2.2.1,()) else M.ae True (M.pure ([111,107],(x.2.2.1.1,y.1),()))))
def XV(D4:z7'×z1'×aX×Unit->M (aL×aX×Unit))(x:z1'×aX×Unit):M (aL×aX×Unit):=
 letI a:=Int.ofNat (List.length x.1);M.ae ((0:Int)<=0/\0<a) (M.ae ((0:Int)<=1/\1<a) (M.ae ((0:Int)<=2/\2<a) (M.ae ((0:Int)<=3/\3<a) (M.bind (D4 ([(List.getD x.1 (Int.toNat 0) 0,List.getD x.1 (Int.toNat 1) 0,List.getD x.1 (Int.toNat 2) 0,2,List.getD x.1 (Int.toNat 3) 0,0)],[],x.2.1,())) (λy=>M.pure (y.1,y.2.1,()))))))
def XW(D4:z7'×z1'×aX×Unit->M (aL×aX×Unit))(x:z1'×aX×Unit):M (aL×aX×Unit):=
 M.bind (D4 ([],x.1,x.2.1,())) λy=>M.pure (y.1,y.2.1,())
def XX(OJ:H.aQ×Int->M ((Int×Int)×Int))(rj:(Int×Int)×Int->M aL)(x:z1'×aX×Unit):M (aL×aX×Unit):=
 letI a:=(x.2.1.2,List.getD x.1 (Int.toNat 0) 0);M.ae True (M.ae ((0:Int)<=0/\0<Int.ofNat (List.length x.1)) (M.ae (OJ a).bY (M.ae (rj (M.val (OJ a) ((0,0),0))).bY (M.pure (M.val (rj (M.val (OJ a) ((0,0),0))) [],x.2.1,())))))
def XY(nP:Int×z1'->M aL)(x:(Int×Int)×Int):M aL:=
 M.bind (nP (x.2,[x.1.1,x.1.2])) λy=>M.pure y
def XZ(AL:z1'->M aL)(x:Int×z1'):M aL:=
 if decide (x.1=0)=true then M.bind (AL x.2) λy=>M.pure y else if decide (x.1=3)=true then M.pure [110,111,110,101] else M.pure [110,111]
def X0(am5:Int->M aL)(am6:List aL×aL->M aL)(x:z1'):M aL:=
 letI b:=Int.ofNat (List.length x);if decide (b=0)=true then M.pure [110,111,110,101] else M.bind (M.loop (λ(A:z1'×Int×Int×List aL×Unit)=>letI a:=A.2.2;if decide (a.1<A.2.1)=true then M.ae (0<=a.1/\a.1<Int.ofNat (List.length A.1)) (M.bind (am5 (List.getD A.1 (Int.toNat a.1) 0)) (λy=>M.ae (bT (Add.add (List.length a.2.1) (Add.add 0 1))) (M.pure (aa.next (A.1,A.2.1,IntKind.wrap .i64 (Add.add a.1 1),a.2.1++[y],()))))) else M.bind (M.pure (aa.next (a.2.1,()))) λr=>M.pure (aa.done r)) (x,b,0,[],())) (aa.bm (λ(A:List aL×Unit)=>M.bind (am6 (A.1,[32])) λy=>M.pure y))
def X1(OK:H.aQ×Int->M ((Int×Int)×Int))(rj:(Int×Int)×Int->M aL)(x:z1'×aX×Unit):M (aL×aX×Unit):=
 letI a:=(x.2.1.2,List.getD x.1 (Int.toNat 0) 0);M.ae True (M.ae ((0:Int)<=0/\0<Int.ofNat (List.length x.1)) (M.ae (OK a).bY (M.ae (rj (M.val (OK a) ((0,0),0))).bY (M.pure (M.val (rj (M.val (OK a) ((0,0),0))) [],x.2.1,())))))
def X2(OL:H.aQ×Int->M ((Int×Int)×Int))(rj:(Int×Int)×Int->M aL)(x:z1'×aX×Unit):M (aL×aX×Unit):=
 letI a:=(x.2.1.2,List.getD x.1 (Int.toNat 0) 0);M.ae True (M.ae ((0:Int)<=0/\0<Int.ofNat (List.length x.1)) (M.ae (OL a).bY (M.ae (rj (M.val (OL a) ((0,0),0))).bY (M.pure (M.val (rj (M.val (OL a) ((0,0),0))) [],x.2.1,())))))
def X3(OM:H.aQ×Int->M ((Int×Int)×Int))(rj:(Int×Int)×Int->M aL)(x:z1'×aX×Unit):M (aL×aX×Unit):=
 letI a:=(x.2.1.2,List.getD x.1 (Int.toNat 0) 0);M.ae True (M.ae ((0:Int)<=0/\0<Int.ofNat (List.length x.1)) (M.ae (OM a).bY (M.ae (rj (M.val (OM a) ((0,0),0))).bY (M.pure (M.val (rj (M.val (OM a) ((0,0),0))) [],x.2.1,())))))
def X4(oE:H.aQ×Int×Int->M (z1'×Int))(nP:Int×z1'->M aL)(AL:z1'->M aL)(x:z1'×aX×Unit):M (aL×aX×Unit):=
 letI b:=Int.ofNat (List.length x.1);letI a:=(x.2.1.2,List.getD x.1 (Int.toNat 0) 0,List.getD x.1 (Int.toNat 1) 0);M.ae True (M.ae ((0:Int)<=0/\0<b) (M.ae ((0:Int)<=1/\1<b) (M.ae (oE a).bY (M.ae ((!(decide ((M.val (oE a) ([],0)).2≠0)))=true->((!(decide ((M.val (oE a) ([],0)).2≠0)))=true/\True)/\((0:Int)<=0/\0<Int.ofNat (List.length (M.val (oE a) ([],0)).1))/\True) (if (decide ((M.val (oE a) ([],0)).2≠0)||decide (List.getD (M.val (oE a) ([],0)).1 (Int.toNat 0) (0:Int)>=0))=true then M.bind (nP ((M.val (oE a) ([],0)).2,(M.val (oE a) ([],0)).1)) λy=>M.pure (y,x.2.1,()) else if decide (Int.ofNat (List.length (M.val (oE a) ([],0)).1)=1)=true then M.pure ([115,104,111,112],x.2.1,()) else M.ae ((0:Int)<=1/\1<=Int.ofNat (List.length (M.val (oE a) ([],0)).1)/\Int.ofNat (List.length (M.val (oE a) ([],0)).1)<=Int.ofNat (List.length (M.val (oE a) ([],0)).1)) (M.bind (AL (List.drop (Int.toNat 1) (List.take (Int.toNat (Int.ofNat (List.length (M.val (oE a) ([],0)).1))) (M.val (oE a) ([],0)).1))) (λy=>M.ae (bT (Add.add (Add.add (Add.add (Add.add (Add.add (Add.add 0 1) 1) 1) 1) 1) (List.length y))) (M.pure ([115,104,111,112,32]++y,x.2.1,())))))))))
def X5(D5:H.aQ×Int->M (z1'×z1'×Int))(nP:Int×z1'->M aL)(AL:z1'->M aL)(x:z1'×aX×Unit):M (aL×aX×Unit):=
 letI a:=(x.2.1.2,List.getD x.1 (Int.toNat 0) 0);M.ae True (M.ae ((0:Int)<=0/\0<Int.ofNat (List.length x.1)) (M.ae (D5 a).bY (if decide ((M.val (D5 a) ([],[],0)).2.2≠0)=true then M.bind (nP ((M.val (D5 a) ([],[],0)).2.2,[])) λy=>M.pure (y,x.2.1,()) else M.bind (AL (M.val (D5 a) ([],[],0)).1) λy=>M.ae (bT (Add.add (List.length y) (Add.add (Add.add (Add.add 0 1) 1) 1))) (M.bind (AL (M.val (D5 a) ([],[],0)).2.1) (λbL=>M.ae (bT (Add.add (List.length (y++[32,47,32])) (List.length bL))) (M.pure (y++[32,47,32]++bL,x.2.1,())))))))
def X6(Hb:a7×Int->M ((Int×Int)×Int))(uk:br×Unit->M (vN))(Ds:z2'×List (List (Int×z1'×Int×Int))×Int×z2'->M Int)(x:z1'×aX×Unit):M (aL×aX×Unit):=
 letI c:=List.getD x.1 (Int.toNat 0) 0;letI b:=Int.ofNat (List.length x.1);M.ae True (M.bind (uk (x.2.1.1,())) (λy=>letI d:=y.2.2.2.2;letI a:=(y.1,y.2.1,y.2.2.1,d.1++[(c,List.getD x.1 (Int.toNat 1) 0,List.getD x.1 (Int.toNat 2) 0,List.getD x.1 (Int.toNat 3) 0)]);M.ae True (M.ae ((0:Int)<=0/\0<b) (M.ae ((0:Int)<=1/\1<b) (M.ae ((0:Int)<=2/\2<b) (M.ae ((0:Int)<=3/\3<b) (M.ae (bT (Add.add (List.length d.1) (Add.add 0 1))) (M.ae True (M.ae True (M.bind (Ds a) (λbL=>if decide (bL≠0)=true then M.pure ([110,111],x.2.1,()) else M.ae True (M.ae ((0:Int)<=0/\0<b) (M.ae (Hb (a,c)).bY (if decide ((M.val (Hb (a,c)) ((0,0),0)).2≠0)=true then M.pure ([108,105,97,114],x.2.1,()) else M.ae True (M.pure ([111,107],((a,d.2.1,d.2.2.1,d.2.2.2.1,d.2.2.2.2.1,y.2.2.2.1),x.2.1.2),()))))))))))))))))
def X7(vu:a7×Int×Int×Int->M (Int×Int))(nP:Int×z1'->M aL)(x:z1'×aX×Unit):M (aL×aX×Unit):=
 letI b:=Int.ofNat (List.length x.1);letI a:=(x.2.1.1.1,List.getD x.1 (Int.toNat 0) 0,List.getD x.1 (Int.toNat 1) 0,List.getD x.1 (Int.toNat 2) 0);M.ae True (M.ae ((0:Int)<=0/\0<b) (M.ae ((0:Int)<=1/\1<b) (M.ae ((0:Int)<=2/\2<b) (M.ae (vu a).bY (if decide ((M.val (vu a) (0,0)).2≠0)=true then M.bind (nP ((M.val (vu a) (0,0)).2,[])) λy=>M.pure (y,x.2.1,()) else M.ae (0<=(M.val (vu a) (0,0)).1/\(M.val (vu a) (0,0)).1<Int.ofNat 4) (M.pure (List.getD [[],[115,117,114,101,108,121],[110,101,118,101,114],[112,101,114,104,97,112,115]] (Int.toNat (M.val (vu a) (0,0)).1) [],x.2.1,())))))))
def X8(uk:br×Unit->M (vN))(x6:br×aX×Unit->M (aL×aX×Unit))(x:z1'×aX×Unit):M (aL×aX×Unit):=
 letI c:=Int.ofNat (List.length x.1);letI a:=List.getD x.1 (Int.toNat 0) 0;M.ae True (M.bind (uk (x.2.1.1,())) (λy=>letI d:=y.2.2.2.2.2;letI b:=Int.ofNat (List.length d.1);M.ae ((0:Int)<=0/\0<c) (if decide (a>=b)=true then M.pure ([110,111],x.2.1,()) else M.ae ((0:Int)<=0/\0<c) (M.ae (0<=a/\a<b) (M.ae ((0:Int)<=1/\1<c) (M.ae (0<=a/\a<b) (M.bind (x6 (((y.1,y.2.1,y.2.2.1,y.2.2.2.2.1),List.set d.1 (Int.toNat a) (IntKind.wrap .i64 (Add.add (List.getD d.1 (Int.toNat a) 0) (List.getD x.1 (Int.toNat 1) 0))),d.2.1,d.2.2.1,d.2.2.2.1,y.2.2.2.1),x.2.1,())) (λy=>M.pure (y.1,y.2.1,())))))))))
def X9(Dw:br->M Int)(x:br×aX×Unit):M (aL×aX×Unit):=
 M.bind (Dw x.1) λy=>if decide (y≠0)=true then M.pure ([110,111],x.2.1,()) else M.ae True (M.pure ([111,107],(x.1,x.2.1.2),()))
def X_(uk:br×Unit->M (vN))(x6:br×aX×Unit->M (aL×aX×Unit))(x:z1'×aX×Unit):M (aL×aX×Unit):=
 letI a:=Int.ofNat (List.length x.1);M.ae True (M.bind (uk (x.2.1.1,())) (λy=>letI b:=y.2.2.2.2.2;M.ae ((0:Int)<=0/\0<a) (M.ae ((0:Int)<=1/\1<a) (M.ae ((0:Int)<=2/\2<a) (M.ae (bT (Add.add (List.length b.2.2.2.1) (Add.add 0 1))) (M.bind (x6 (((y.1,y.2.1,y.2.2.1,y.2.2.2.2.1),b.1,b.2.1,b.2.2.1,b.2.2.2.1++[(List.getD x.1 (Int.toNat 0) 0,List.getD x.1 (Int.toNat 1) 0,List.getD x.1 (Int.toNat 2) 0)],y.2.2.2.1),x.2.1,())) (λy=>M.pure (y.1,y.2.1,()))))))))
def X'(uk:br×Unit->M (vN))(x6:br×aX×Unit->M (aL×aX×Unit))(x:z1'×aX×Unit):M (aL×aX×Unit):=
 letI a:=Int.ofNat (List.length x.1);M.ae True (M.bind (uk (x.2.1.1,())) (λy=>letI b:=y.2.2.2.2.2;M.ae ((0:Int)<=0/\0<a) (M.ae ((0:Int)<=1/\1<a) (M.ae ((0:Int)<=2/\2<a) (M.ae ((0:Int)<=3/\3<a) (M.ae ((0:Int)<=4/\4<=a/\a<=a) (M.ae (bT (Add.add (List.length b.2.1) (Add.add 0 1))) (M.bind (x6 (((y.1,y.2.1,y.2.2.1,y.2.2.2.2.1),b.1,b.2.1++[(List.getD x.1 (Int.toNat 0) 0,List.getD x.1 (Int.toNat 1) 0,List.getD x.1 (Int.toNat 2) 0,List.getD x.1 (Int.toNat 3) 0,List.drop (Int.toNat 4) (List.take (Int.toNat a) x.1))],b.2.2.1,b.2.2.2.1,y.2.2.2.1),x.2.1,())) (λy=>M.pure (y.1,y.2.1,()))))))))))
def Ya(uk:br×Unit->M (vN))(x6:br×aX×Unit->M (aL×aX×Unit))(x:z1'×aX×Unit):M (aL×aX×Unit):=
 letI a:=Int.ofNat (List.length x.1);M.ae True (M.bind (uk (x.2.1.1,())) (λy=>letI b:=y.2.2.2.2.2;M.ae ((0:Int)<=0/\0<a) (M.ae ((0:Int)<=1/\1<a) (M.ae ((0:Int)<=2/\2<a) (M.ae ((0:Int)<=3/\3<a) (M.ae ((0:Int)<=4/\4<a) (M.ae ((0:Int)<=5/\5<=a/\a<=a) (M.ae (bT (Add.add (List.length b.2.2.1) (Add.add 0 1))) (M.bind (x6 (((y.1,y.2.1,y.2.2.1,y.2.2.2.2.1),b.1,b.2.1,b.2.2.1++[(List.drop (Int.toNat 5) (List.take (Int.toNat a) x.1),(List.getD x.1 (Int.toNat 0) 0,List.getD x.1 (Int.toNat 1) 0),List.getD x.1 (Int.toNat 2) 0,List.getD x.1 (Int.toNat 3) 0,List.getD x.1 (Int.toNat 4) 0)],b.2.2.2.1,y.2.2.2.1),x.2.1,())) (λy=>M.pure (y.1,y.2.1,())))))))))))
def Yb(Yc:List dr->M (List dr))(am7:Int×Int×List dr×Unit->M ((Nat×Nat)×List dr×Unit))(x:z1'×aX×Unit):M (aL×aX×Unit):=
 letI c:=x.2.1.1.2.2;letI b:=List.getD x.1 (Int.toNat 0) 0;letI a:=(0:Int)<=0/\0<Int.ofNat (List.length x.1);M.ae a (M.ae True (if decide (b>=Int.ofNat (List.length c.2.1))=true then M.pure ([110,111],x.2.1,()) else M.ae True (M.ae (Yc c.2.1).bY (M.ae a (M.ae a (M.bind (am7 (b,IntKind.wrap .i64 (Add.add b 1),M.val (Yc c.2.1) [],())) (λy=>M.ae True (M.pure ([111,107],((x.2.1.1.1,x.2.1.1.2.1,c.1,List.drop y.1.1 (List.take y.1.2 y.2.1),c.2.2),x.2.1.2),())))))))))
def Yd(ON:br×Int->M (z1'×Int))(nP:Int×z1'->M aL)(x:z1'×aX×Unit):M (aL×aX×Unit):=
 letI a:=(x.2.1.1,List.getD x.1 (Int.toNat 0) 0);M.ae True (M.ae ((0:Int)<=0/\0<Int.ofNat (List.length x.1)) (M.ae (ON a).bY (M.bind (nP ((M.val (ON a) ([],0)).2,(M.val (ON a) ([],0)).1)) (λy=>M.pure (y,x.2.1,())))))
def Ye(am8:br×z1'->M (Int×Int))(am9:z1'×Unit->M (z1'×Unit))(nP:Int×z1'->M aL)(x:z1'×aX×Unit):M (aL×aX×Unit):=
 M.bind (am9 (x.1,())) λy=>M.bind (M.loop (λ(A:Int×Int×z1'×aX×Unit)=>letI b:=A.2;letI a:=0<=b.1/\b.1<Int.ofNat (List.length b.2.1);if decide (b.1<A.1)=true then M.ae a (M.ae a (M.pure (aa.next (A.1,IntKind.wrap .i64 (Add.add b.1 1),List.set b.2.1 (Int.toNat b.1) (IntKind.wrap .i64 (List.getD b.2.1 (Int.toNat b.1) 0-1)),b.2.2.1,())))) else M.bind (M.pure (aa.next (b.2.1,b.2.2.1,()))) λr=>M.pure (aa.done r)) (Int.ofNat (List.length y.1),0,y.1,x.2.1,())) (aa.bm (λ(A:z1'×aX×Unit)=>M.ae True (M.bind (am8 (A.2.1.1,A.1)) (λy=>M.bind (nP (y.2,[y.1])) λy=>M.pure (y,A.2.1,())))))
def Yf(am_:br->M (Int×Int))(nP:Int×z1'->M aL)(x:z1'×aX×Unit):M (aL×aX×Unit):=
 M.ae True (M.bind (am_ x.2.1.1) (λy=>M.bind (nP (y.2,[y.1])) λy=>M.pure (y,x.2.1,())))
def Yg(am':br->M (Int×Int))(nP:Int×z1'->M aL)(x:z1'×aX×Unit):M (aL×aX×Unit):=
 M.ae True (M.bind (am' x.2.1.1) (λy=>M.bind (nP (y.2,[y.1])) λy=>M.pure (y,x.2.1,())))
def Yh(ana:H.aQ×H.aQ->M Bool)(anb:a7×a7->M Bool)(vO:z1'×z1'->M Bool)(x:aX×aX):M Bool:=
 letI l:=x.2.1.2.2;letI k:=x.1.1.2.2;M.bind (ana (x.1.2,x.2.2)) λy=>M.bind (b1 (!(!y)) (anb (x.1.1.1,x.2.1.1)) false) λbL=>M.bind (b1 (!(!y||!bL)) (vO (x.1.1.2.1,x.2.1.2.1)) false) λdq=>if (!y||!bL||!dq||decide (Int.ofNat (List.length k.1)≠Int.ofNat (List.length l.1))||decide (Int.ofNat (List.length k.2.1)≠Int.ofNat (List.length l.2.1))||decide (Int.ofNat (List.length k.2.2.1)≠Int.ofNat (List.length l.2.2.1))||decide (k.2.2.2≠l.2.2.2))=true then M.pure false else M.bind (M.loop (λ(A:Int×br×br×Unit)=>letI m:=A.2.2.1;letI j:=A.1<Int.ofNat (List.length A.2.1.2.2.1);letI e:=List.getD A.2.1.2.2.1 (Int.toNat A.1) (0,0,0,0,[]);letI d:=List.getD m.2.2.1 (Int.toNat A.1) (0,0,0,0,[]);letI a:=decide (e.1≠d.1)||decide (e.2.1≠d.2.1)||decide (e.2.2.1≠d.2.2.1)||decide (e.2.2.2.1≠d.2.2.2.1);if decide j=true then M.ae (0<=A.1/\j) (M.ae (0<=A.1/\A.1<Int.ofNat (List.length m.2.2.1)) (M.bind (b1 (!a) (vO (e.2.2.2.2,d.2.2.2.2)) false) (λy=>if (a||!y)=true then M.bind (M.bind (M.pure false) (λr=>M.pure (aa.done r))) λr=>M.pure (aa.done r) else M.pure (aa.next (IntKind.wrap .i64 (Add.add A.1 1),A.2.1,m,()))))) else M.bind (M.pure (aa.next (A.2.1,m,()))) λr=>M.pure (aa.done r)) (0,x.1.1,x.2.1,())) (aa.bm (λ(A:br×br×Unit)=>M.bind (M.loop (λ(A:Int×br×br×Unit)=>letI n:=A.2.2.1;letI i:=A.1<Int.ofNat (List.length A.2.1.2.2.2.1);letI c:=List.getD A.2.1.2.2.2.1 (Int.toNat A.1) ([],(0,0),0,0,0);letI b:=List.getD n.2.2.2.1 (Int.toNat A.1) ([],(0,0),0,0,0);if decide i=true then M.ae (0<=A.1/\i) (M.ae (0<=A.1/\A.1<Int.ofNat (List.length n.2.2.2.1)) (M.bind (vO (c.1,b.1)) (λy=>if (!y||!(decide (c.2.1.1=b.2.1.1)&&decide (c.2.1.2=b.2.1.2))||decide (c.2.2.1≠b.2.2.1)||decide (c.2.2.2.1≠b.2.2.2.1)||decide (c.2.2.2.2≠b.2.2.2.2))=true then M.bind (M.bind (M.pure false) (λr=>M.pure (aa.done r))) λr=>M.pure (aa.done r) else M.pure (aa.next (IntKind.wrap .i64 (Add.add A.1 1),A.2.1,n,()))))) else M.bind (M.pure (aa.next (A.2.1,n,()))) λr=>M.pure (aa.done r)) (0,A.1,A.2.1,())) (aa.bm (λ(A:br×br×Unit)=>M.bind (M.loop (λ(A:Int×br×br×Unit)=>letI h:=A.1<Int.ofNat (List.length A.2.1.2.2.2.2.1);letI g:=List.getD A.2.1.2.2.2.2.1 (Int.toNat A.1) (0,0,0);letI f:=List.getD A.2.2.1.2.2.2.2.1 (Int.toNat A.1) (0,0,0);if decide h=true then M.ae (0<=A.1/\h) (M.ae (0<=A.1/\A.1<Int.ofNat (List.length A.2.2.1.2.2.2.2.1)) (if (!(decide (g.1=f.1)&&(decide (g.2.1=f.2.1)&&decide (g.2.2=f.2.2))))=true then M.bind (M.bind (M.pure false) (λr=>M.pure (aa.done r))) λr=>M.pure (aa.done r) else M.pure (aa.next (IntKind.wrap .i64 (Add.add A.1 1),A.2.1,A.2.2.1,())))) else M.bind (M.pure (aa.next ())) λr=>M.pure (aa.done r)) (0,A.1,A.2.1,())) (aa.bm (λ(A:Unit)=>M.pure true))))))
def Yi(vO:z1'×z1'->M Bool)(x:H.aQ×H.aQ):M Bool:=
 letI e:=x.2.2.2.2.2.2;letI d:=x.1.2.2.2.2.2;letI c:=decide (Int.ofNat (List.length x.1.1)≠Int.ofNat (List.length x.2.1))||decide (Int.ofNat (List.length x.1.2.1)≠Int.ofNat (List.length x.2.2.1));M.bind (b1 (!c) (vO (x.1.2.2.1,x.2.2.2.1)) false) λy=>if (c||!y||decide (Int.ofNat (List.length x.1.2.2.2.1)≠Int.ofNat (List.length x.2.2.2.2.1))||!(decide (x.1.2.2.2.2.1=x.2.2.2.2.2.1)&&(decide (d.1=e.1)&&(decide (d.2.1=e.2.1)&&(decide (d.2.2.1=e.2.2.1)&&(decide (d.2.2.2.1=e.2.2.2.1)&&(decide (d.2.2.2.2.1=e.2.2.2.2.1)&&decide (d.2.2.2.2.2=e.2.2.2.2.2))))))))=true then M.pure false else M.bind (M.loop (λ(A:Int×H.aQ×H.aQ×Unit)=>letI m:=A.2.2.1;letI l:=A.1<Int.ofNat (List.length A.2.1.1);letI j:=List.getD A.2.1.1 (Int.toNat A.1) (0,0);letI h:=List.getD m.1 (Int.toNat A.1) (0,0);if decide l=true then M.ae (0<=A.1/\l) (M.ae (0<=A.1/\A.1<Int.ofNat (List.length m.1)) (if (!(decide (j.1=h.1)&&decide (j.2=h.2)))=true then M.bind (M.bind (M.pure false) (λr=>M.pure (aa.done r))) λr=>M.pure (aa.done r) else M.pure (aa.next (IntKind.wrap .i64 (Add.add A.1 1),A.2.1,m,())))) else M.bind (M.pure (aa.next (A.2.1,m,()))) λr=>M.pure (aa.done r)) (0,x.1,x.2,())) (aa.bm (λ(A:H.aQ×H.aQ×Unit)=>M.bind (M.loop (λ(A:Int×H.aQ×H.aQ×Unit)=>letI n:=A.2.2.1;letI k:=A.1<Int.ofNat (List.length A.2.1.2.1);letI b:=List.getD A.2.1.2.1 (Int.toNat A.1) (0,0,0,0,0,0);letI a:=List.getD n.2.1 (Int.toNat A.1) (0,0,0,0,0,0);if decide k=true then M.ae (0<=A.1/\k) (M.ae (0<=A.1/\A.1<Int.ofNat (List.length n.2.1)) (if (!(decide (b.1=a.1)&&(decide (b.2.1=a.2.1)&&(decide (b.2.2.1=a.2.2.1)&&(decide (b.2.2.2.1=a.2.2.2.1)&&(decide (b.2.2.2.2.1=a.2.2.2.2.1)&&decide (b.2.2.2.2.2=a.2.2.2.2.2)))))))=true then M.bind (M.bind (M.pure false) (λr=>M.pure (aa.done r))) λr=>M.pure (aa.done r) else M.pure (aa.next (IntKind.wrap .i64 (Add.add A.1 1),A.2.1,n,())))) else M.bind (M.pure (aa.next (A.2.1,n,()))) λr=>M.pure (aa.done r)) (0,A.1,A.2.1,())) (aa.bm (λ(A:H.aQ×H.aQ×Unit)=>M.bind (M.loop (λ(A:Int×H.aQ×H.aQ×Unit)=>letI i:=A.1<Int.ofNat (List.length A.2.1.2.2.2.1);letI g:=List.getD A.2.1.2.2.2.1 (Int.toNat A.1) (0,0);letI f:=List.getD A.2.2.1.2.2.2.1 (Int.toNat A.1) (0,0);if decide i=true then M.ae (0<=A.1/\i) (M.ae (0<=A.1/\A.1<Int.ofNat (List.length A.2.2.1.2.2.2.1)) (if (!(decide (g.1=f.1)&&decide (g.2=f.2)))=true then M.bind (M.bind (M.pure false) (λr=>M.pure (aa.done r))) λr=>M.pure (aa.done r) else M.pure (aa.next (IntKind.wrap .i64 (Add.add A.1 1),A.2.1,A.2.2.1,())))) else M.bind (M.pure (aa.next ())) λr=>M.pure (aa.done r)) (0,A.1,A.2.1,())) (aa.bm (λ(A:Unit)=>M.pure true))))))
def Yj(x:z1'×z1'):M Bool:=
 if decide (Int.ofNat (List.length x.1)≠Int.ofNat (List.length x.2))=true then M.pure false else M.bind (M.loop (λ(A:z1'×z1'×Int×Unit)=>letI a:=A.2.2.1;letI b:=a<Int.ofNat (List.length A.1);if decide b=true then M.ae (0<=a/\b) (M.ae (0<=a/\a<Int.ofNat (List.length A.2.1)) (if decide (List.getD A.1 (Int.toNat a) 0≠List.getD A.2.1 (Int.toNat a) 0)=true then M.bind (M.bind (M.pure false) (λr=>M.pure (aa.done r))) λr=>M.pure (aa.done r) else M.pure (aa.next (A.1,A.2.1,IntKind.wrap .i64 (Add.add a 1),())))) else M.bind (M.pure (aa.next ())) λr=>M.pure (aa.done r)) (x.1,x.2,0,())) (aa.bm (λ(A:Unit)=>M.pure true))
def Yk(vO:z1'×z1'->M Bool)(x:a7×a7):M Bool:=
 if (decide (Int.ofNat (List.length x.1.1)≠Int.ofNat (List.length x.2.1))||decide (Int.ofNat (List.length x.1.2.1)≠Int.ofNat (List.length x.2.2.1))||decide (x.1.2.2.1≠x.2.2.2.1)||decide (Int.ofNat (List.length x.1.2.2.2)≠Int.ofNat (List.length x.2.2.2.2)))=true then M.pure false else M.bind (M.loop (λ(A:Int×a7×a7×Unit)=>letI y:=A.2.2.1;letI t:=A.1<Int.ofNat (List.length A.2.1.1);letI j:=List.getD A.2.1.1 (Int.toNat A.1) (0,0,0,0);letI i:=List.getD y.1 (Int.toNat A.1) (0,0,0,0);if decide t=true then M.ae (0<=A.1/\t) (M.ae (0<=A.1/\A.1<Int.ofNat (List.length y.1)) (if (!(decide (j.1=i.1)&&(decide (j.2.1=i.2.1)&&(decide (j.2.2.1=i.2.2.1)&&decide (j.2.2.2=i.2.2.2)))))=true then M.bind (M.bind (M.pure false) (λr=>M.pure (aa.done r))) λr=>M.pure (aa.done r) else M.pure (aa.next (IntKind.wrap .i64 (Add.add A.1 1),A.2.1,y,())))) else M.bind (M.pure (aa.next (A.2.1,y,()))) λr=>M.pure (aa.done r)) (0,x.1,x.2,())) (aa.bm (λ(A:a7×a7×Unit)=>M.bind (M.loop (λ(A:Int×a7×a7×Unit)=>letI z:=A.2.2.1;letI q:=A.1<Int.ofNat (List.length A.2.1.2.2.2);letI h:=List.getD A.2.1.2.2.2 (Int.toNat A.1) (0,0,0,0);letI f:=List.getD z.2.2.2 (Int.toNat A.1) (0,0,0,0);if decide q=true then M.ae (0<=A.1/\q) (M.ae (0<=A.1/\A.1<Int.ofNat (List.length z.2.2.2)) (if (!(decide (h.1=f.1)&&(decide (h.2.1=f.2.1)&&(decide (h.2.2.1=f.2.2.1)&&decide (h.2.2.2=f.2.2.2)))))=true then M.bind (M.bind (M.pure false) (λr=>M.pure (aa.done r))) λr=>M.pure (aa.done r) else M.pure (aa.next (IntKind.wrap .i64 (Add.add A.1 1),A.2.1,z,())))) else M.bind (M.pure (aa.next (A.2.1,z,()))) λr=>M.pure (aa.done r)) (0,A.1,A.2.1,())) (aa.bm (λ(A:a7×a7×Unit)=>M.bind (M.loop (λ(A:Int×a7×a7×Unit)=>letI s:=A.1<Int.ofNat (List.length A.2.1.2.1);letI p:=Int.toNat A.1;letI v:=List.getD A.2.1.2.1 p [];letI u:=List.getD A.2.2.1.2.1 p [];if decide s=true then M.bind (M.ae (0<=A.1/\s) (M.ae (0<=A.1/\A.1<Int.ofNat (List.length A.2.2.1.2.1)) (if decide (Int.ofNat (List.length v)≠Int.ofNat (List.length u))=true then M.bind (M.bind (M.bind (M.pure false) (λr=>M.pure (aa.done r))) (λr=>M.pure (aa.done r))) λr=>M.pure (aa.done r) else M.loop (λ(A:Int×List (Int×z1'×Int×Int)×List (Int×z1'×Int×Int)×Int×a7×a7×Unit)=>letI n:=A.2.2.2;letI l:=0<=n.1/\n.1<Int.ofNat (List.length A.2.2.1);letI k:=n.1<Int.ofNat (List.length A.2.1);letI w:=0<=n.1/\k;letI d:=List.getD A.2.1 (Int.toNat n.1) (0,[],0,0);letI c:=List.getD A.2.2.1 (Int.toNat n.1) (0,[],0,0);letI b:=decide (d.1≠c.1);letI g:=(!b)=true;letI o:=g->g/\True/\True;letI a:=b||!(decide (d.2.2.1=c.2.2.1)&&decide (d.2.2.2=c.2.2.2));letI e:=(!a)=true;letI m:=e->e/\True/\True;if decide k=true then M.ae w (M.ae l (M.ae (g->(g/\g)/\w/\True) (M.ae o (M.ae o (M.ae (g->(g/\g)/\l/\True) (M.ae o (M.ae o (M.ae (g->(g/\g)/\True/\True) (M.ae (True/\(b=false->g)) (M.ae (e->(e/\e)/\w/\True) (M.ae m (M.ae m (M.ae (e->(e/\e)/\l/\True) (M.ae m (M.ae m (M.ae (e->(e/\e/\True)/\(vO (d.2.1,c.2.1)).bY/\True) (M.ae m (M.ae (True/\(a=false->e)) (if (a||!(M.val (vO (d.2.1,c.2.1)) false))=true then M.bind (M.bind (M.bind (M.bind (M.pure false) (λr=>M.pure (aa.done r))) (λr=>M.pure (aa.done r))) (λr=>M.pure (aa.done r))) λr=>M.pure (aa.done r) else M.pure (aa.next (A.1,A.2.1,A.2.2.1,IntKind.wrap .i64 (Add.add n.1 1),n.2.1,n.2.2.1,()))))))))))))))))))))) else M.bind (M.pure (aa.next (A.1,n.2.1,n.2.2.1,()))) λr=>M.pure (aa.done r)) (A.1,v,u,0,A.2.1,A.2.2.1,())))) (aa.bm (λ(A:Int×a7×a7×Unit)=>M.pure (aa.next (IntKind.wrap .i64 (Add.add A.1 1),A.2.1,A.2.2.1,())))) else M.bind (M.pure (aa.next ())) λr=>M.pure (aa.done r)) (0,A.1,A.2.1,())) (aa.bm (λ(A:Unit)=>M.pure true))))))
def Yl(anc:aX×List aL->M Bool)(OO:aX->M Int)(x:aX×List aL×Int):M Bool:=
 M.bind (anc (x.1,x.2.1)) λy=>M.bind (b1 (!y) (OO x.1) 0) λbL=>M.pure (!y&&decide (bL=0)&&decide (Int.ofNat (List.length x.2.1)<=x.2.2))
def Ym(OO:aX->M Int)(ane:br->M Bool)(anf:H.aQ->M Bool)(ang:aL->M (aL×z1'×Bool))(x:aX×List aL):M Bool:=
 M.bind (ane x.1.1) λy=>M.bind (b1 (!y) (anf x.1.2) false) λbL=>if (y||bL||decide (Int.ofNat (List.length x.2) > 60))=true then M.pure true else M.bind (M.loop (λ(A:List aL×Int×Int×Int×Int×Int×aX×Unit)=>letI h:=A.2.2.2;letI b:=h.2.2;letI e:=b.1<Int.ofNat (List.length b.2.1.1.2.2.1);if decide e=true then M.ae (0<=b.1/\e) (M.pure (aa.next (A.1,A.2.1,A.2.2.1,h.1,IntKind.wrap .i64 (Add.add h.2.1 (Int.ofNat (List.length (List.getD b.2.1.1.2.2.1 (Int.toNat b.1) (0,0,0,0,[])).2.2.2.2))),IntKind.wrap .i64 (Add.add b.1 1),b.2.1,()))) else M.bind (M.pure (aa.next (A.1,A.2.1,A.2.2.1,h.1,h.2.1,b.2.1,()))) λr=>M.pure (aa.done r)) (x.2,Int.ofNat (List.length x.1.1.2.2.2.1),Int.ofNat (List.length x.1.1.2.2.1),Int.ofNat (List.length x.1.1.2.2.2.2.1),0,0,x.1,())) (aa.bm (λ(A:List aL×Int×Int×Int×Int×aX×Unit)=>M.bind (M.loop (λ(A:List aL×Int×Int×Int×Int×Int×aX×Unit)=>letI j:=A.2.1;letI d:=A.2.2;letI a:=d.2.2;letI i:=a.2.1;letI g:=a.2.2.1;letI f:=List.getD A.1 (Int.toNat i) [];letI c:=i<Int.ofNat (List.length A.1);if decide c=true then M.bind (M.ae (0<=i/\c) (if decide (Int.ofNat (List.length f) > 80)=true then M.bind (M.bind (M.bind (M.pure true) (λr=>M.pure (aa.done r))) (λr=>M.pure (aa.done r))) λr=>M.pure (aa.done r) else M.ae (0<=i/\c) (M.bind (ang f) (λy=>if (!y.2.2)=true then M.pure (aa.next (A.1,j,d.1,d.2.1,a.1,i,g,())) else if decide (y.1=[119,105,115,104])=true then M.pure (aa.next (A.1,IntKind.wrap .i64 (Add.add j 1),d.1,d.2.1,a.1,i,g,())) else if decide (y.1=[112,105,101,99,101])=true then M.pure (aa.next (A.1,j,IntKind.wrap .i64 (Add.add d.1 1),d.2.1,IntKind.wrap .i64 (Add.add a.1 (IntKind.wrap .i64 (Int.ofNat (List.length y.2.1)-4))),i,g,())) else if decide (y.1=[99,111,109,101,115])=true then M.pure (aa.next (A.1,j,d.1,IntKind.wrap .i64 (Add.add d.2.1 1),a.1,i,g,())) else M.pure (aa.next (A.1,j,d.1,d.2.1,a.1,i,g,())))))) (aa.bm (λ(A:List aL×Int×Int×Int×Int×Int×aX×Unit)=>letI k:=A.2.2.2;M.pure (aa.next (A.1,A.2.1,A.2.2.1,k.1,k.2.1,IntKind.wrap .i64 (Add.add k.2.2.1 1),k.2.2.2.1,())))) else M.bind (M.pure (aa.next (j,d.1,d.2.1,a.1,g,()))) λr=>M.pure (aa.done r)) (A.1,A.2.1,A.2.2.1,A.2.2.2.1,A.2.2.2.2.1,0,A.2.2.2.2.2.1,())) (aa.bm (λ(A:Int×Int×Int×Int×aX×Unit)=>M.bind (OO A.2.2.2.2.1) λy=>M.pure (decide (y=0)&&(decide (A.1 > 3)||decide (A.2.1 > 4)||decide (A.2.2.1 > 3)||decide (A.2.2.2.1 > 4)))))))
def Yn(anh:aL->M (List aL))(ani:aL->M Int)(anj:Unit->M (List aL×z1'×z1'))(x:aL):M (aL×z1'×Bool):=
 M.bind (anh x) λy=>M.bind (M.loop (λ(A:List aL×Int×z1'×Unit)=>letI j:=A.2.1<Int.ofNat (List.length A.1);if decide j=true then M.ae (0<=A.2.1/\j) (M.bind (ani (List.getD A.1 (Int.toNat A.2.1) [])) (λy=>if decide (y<0)=true then M.bind (M.bind (M.pure ([],[],false)) (λr=>M.pure (aa.done r))) λr=>M.pure (aa.done r) else M.ae (bT (Add.add (List.length A.2.2.1) (Add.add 0 1))) (M.pure (aa.next (A.1,IntKind.wrap .i64 (Add.add A.2.1 1),A.2.2.1++[y],()))))) else M.bind (M.pure (aa.next (A.1,A.2.2.1,()))) λr=>M.pure (aa.done r)) (y,1,[],())) (aa.bm (λ(A:List aL×z1'×Unit)=>M.bind (anj ()) λy=>M.bind (M.loop (λ(A:List aL×List aL×z1'×z1'×Int×z1'×Unit)=>letI l:=List.getD A.1 (Int.toNat 0) [];letI h:=(0:Int)<=0/\0<Int.ofNat (List.length A.1);letI c:=A.2.2.2;letI m:=c.2.1;letI k:=Int.ofNat (List.length c.2.2.1);letI i:=m<Int.ofNat (List.length A.2.1);letI g:=Int.toNat m;letI f:=(0<=m/\m<Int.ofNat (List.length c.1))/\True;letI d:=decide (List.getD c.1 g (0:Int)<0);letI a:=decide (k>=List.getD A.2.2.1 g 0);letI e:=a=true;letI b:=(a&&!d)=true;letI n:=b->b/\True/\True;if decide i=true then M.ae (0<=m/\i) (M.ae h (if decide (List.getD A.2.1 g []=l)=true then M.ae h (M.ae (0<=m/\m<Int.ofNat (List.length A.2.2.1)) (M.ae (e->(e/\e)/\f) (M.ae (e->e/\True/\True) (M.ae (e->(e/\True)/\True/\True) (M.ae (e->True/\True/\e) (M.ae n (M.ae (b->(b/\b)/\f) (M.ae n (M.ae (b->(b/\b)/\True/\True) (M.ae (e->(e/\(d=false->b))/\True/\True) (M.ae (True/\(e->e)) (M.bind (M.bind (M.pure (l,c.2.2.1,a&&(d||decide (k<=List.getD c.1 g 0)))) (λr=>M.pure (aa.done r))) (λr=>M.pure (aa.done r)))))))))))))) else M.pure (aa.next (A.1,A.2.1,A.2.2.1,c.1,IntKind.wrap .i64 (Add.add m 1),c.2.2.1,())))) else M.bind (M.pure (aa.next ())) λr=>M.pure (aa.done r)) (A.1,y.1,y.2.1,y.2.2,0,A.2.1,())) (aa.bm (λ(A:Unit)=>M.pure ([],[],false)))))
def Yo(x:aL):M (List aL):=
 M.bind (M.loop (λ(A:aL×Int×List aL×Unit)=>letI g:=A.2.1;letI f:=A.2.2.1;letI e:=Int.ofNat (List.length A.1);letI c:=Int.ofNat (List.length f);letI b:=IntKind.wrap .i64 (Add.add g 1);letI d:=List.drop (Int.toNat g) (List.take (Int.toNat b) A.1);letI a:=IntKind.wrap .i64 (c-1);letI h:=List.getD f (Int.toNat a) [];if decide (g<e)=true then M.bind (M.ae (0<=g/\g<e) (if decide (Int.ofNat (List.getD A.1 (Int.toNat g) 0).1.1.1=32)=true then M.ae (bT (Add.add (List.length f) (Add.add 0 1))) (M.pure (aa.next (A.1,g,f++[[]],()))) else M.ae (0<=a/\a<c) (M.ae (0<=g/\g<=b/\b<=e) (M.ae (bT (Add.add (List.length h) (List.length d))) (M.ae (0<=a/\a<c) (M.pure (aa.next (A.1,g,List.set f (Int.toNat a) (h++d),())))))))) (aa.bm (λ(A:aL×Int×List aL×Unit)=>M.pure (aa.next (A.1,IntKind.wrap .i64 (Add.add A.2.1 1),A.2.2.1,())))) else M.bind (M.pure (aa.next (f,()))) λr=>M.pure (aa.done r)) (x,0,[[]],())) (aa.bm (λ(A:List aL×Unit)=>M.pure A.1))
def Yp(x:aL):M Int:=
 letI b:=Int.ofNat (List.length x);letI g:=decide (b > 1);letI d:=decide (b=0)||decide (b > 6);M.ae ((!d&&g)=true->((!d&&g)=true/\True)/\((0:Int)<=0/\0<b)/\True) (if (d||g&&decide (Int.ofNat (List.getD x (Int.toNat 0) 0).1.1.1=48))=true then M.pure (-1) else M.bind (M.loop (λ(A:aL×Int×Int×Unit)=>letI h:=A.2.2.1;letI c:=h<Int.ofNat (List.length A.1);letI f:=0<=h/\c;letI a:=Int.ofNat (List.getD A.1 (Int.toNat h) 0).1.1.1;letI e:=(!(decide (a<48)))=true;if decide c=true then M.ae f (M.ae (e->(e/\e)/\f/\True) (if (decide (a<48)||decide (a > 57))=true then M.bind (M.bind (M.pure (-1)) (λr=>M.pure (aa.done r))) λr=>M.pure (aa.done r) else M.ae f (M.pure (aa.next (A.1,IntKind.wrap .i64 (Add.add (IntKind.wrap .i64 (10*A.2.1)) (IntKind.wrap .i64 (IntKind.wrap .u8 (a-48)))),IntKind.wrap .i64 (Add.add h 1),()))))) else M.bind (M.pure (aa.next (A.2.1,()))) λr=>M.pure (aa.done r)) (x,0,0,())) (aa.bm (λ(A:Int×Unit)=>M.pure A.1)))
def ank(x:Unit):M (List aL×z1'×z1'):=
 M.pure ([[108,101,110,100],[98,97,99,107],[118,111,105,100],[108,97,115,116,115],[102,101,101],[111,119,101,115],[104,101,108,100],[119,104,101,114,101],[109,105,115,115,105,110,103],[116,114,105,97,108],[102,105,116,115],[115,116,111,99,107],[99,111,109,101,115],[112,105,101,99,101],[119,105,115,104],[100,114,111,112],[99,97,110],[116,97,107,101,115],[109,111,115,116],[101,120,116,114,97]],[5,4,1,1,1,1,1,2,1,4,3,2,3,4,5,1,1,0,0,0],[5,4,1,1,1,1,1,2,1,4,3,2,3,-1,-1,1,1,-1,0,0])
def Yq(D6:aX×List aL->M (List aL×aX×Int))(anl:List aL×List aL->M Bool)(anm:Unit->M aX)(x:Unit):M Bool:=
 M.bind (anm ()) λy=>M.bind (D6 (y,[[108,101,110,100,32,49,32,48,32,49,48,48,32,51,32,55],[98,97,99,107,32,50,32,48,32,49,55,49,32,51],[102,101,101,32,49],[119,104,101,114,101,32,51,32,49,55,49],[116,114,105,97,108,32,49,32,48,32,48,32,48],[115,116,111,99,107,32,48,32,49],[101,120,116,114,97],[100,114,111,112,32,51],[101,120,116,114,97]])) λy=>M.bind (b1 (decide (y.2.2=0)) (anl (y.1,[[111,107],[111,107],[51,48,48,32,51,48,48],[115,104,111,112],[108,105,97,114],[111,107],[49],[111,107],[48]])) false) λbL=>M.pure (decide (y.2.2=0)&&bL&&decide (Int.ofNat (List.length y.2.1.2.2.1)=2)&&decide (Int.ofNat (List.length y.2.1.1.2.2.2.1)=3))
def Yr(x:List aL×List aL):M Bool:=
 if decide (Int.ofNat (List.length x.1)≠Int.ofNat (List.length x.2))=true then M.pure false else M.bind (M.loop (λ(A:List aL×List aL×Int×Unit)=>letI a:=A.2.2.1;letI b:=a<Int.ofNat (List.length A.1);if decide b=true then M.ae (0<=a/\b) (M.ae (0<=a/\a<Int.ofNat (List.length A.2.1)) (if decide (List.getD A.1 (Int.toNat a) []≠List.getD A.2.1 (Int.toNat a) [])=true then M.bind (M.bind (M.pure false) (λr=>M.pure (aa.done r))) λr=>M.pure (aa.done r) else M.pure (aa.next (A.1,A.2.1,IntKind.wrap .i64 (Add.add a 1),())))) else M.bind (M.pure (aa.next ())) λr=>M.pure (aa.done r)) (x.1,x.2,0,())) (aa.bm (λ(A:Unit)=>M.pure true))
def Ys(x:Int):M aL:=
 if decide (x<0)=true then M.pure [115,104,111,112] else M.ae ((10:Int)≠0) (M.bind (M.loop (λ(A:Int×aL×Unit)=>letI a:=IntKind.wrap .i64 (Int.tdiv A.1 10);if decide (A.1>=10)=true then M.ae ((10:Int)≠0) (M.ae ((10:Int)≠0) (M.ae (bT (Add.add (Add.add 0 1) (List.length A.2.1))) (M.pure (aa.next (a,[UInt8.ofNat (Int.toNat (IntKind.wrap .u8 (IntKind.wrap .i64 (Add.add 48 (Int.tmod a 10)))))]++A.2.1,()))))) else M.bind (M.pure (aa.next (A.2.1,()))) λr=>M.pure (aa.done r)) (x,[UInt8.ofNat (Int.toNat (IntKind.wrap .u8 (IntKind.wrap .i64 (Add.add 48 (Int.tmod x 10)))))],())) (aa.bm (λ(A:aL×Unit)=>M.pure A.1)))
def OP(OQ:z2'×List (List (Int×z1'×Int×Int))×Int×z2'->M Int)(D6:aX×List aL->M (List aL×aX×Int))(ano:aX×aX->M Bool)(anp:aX×List aL×Int->M Bool)(HQ:Unit->M Bool)(Yt:aL×z1'->M aL)(x:aX×List aL×Int×Int×Int×Int):M Bool:=
 letI k:=x.2.1;letI h:=Int.ofNat (List.length k);letI g:=x.2.2.1;letI d:=x.2.2.2;letI o:=d.1;letI l:=d.2.2;letI i:=d.2.1;letI Yu:aL:=M.val (Yt ([116,114,105,97,108],[g,o,i,l])) [];letI qj:List aL×aX×Int:=M.val (D6 (x.1,[]++k++[Yu])) ([],((([],[],0,[]),[],[],[],[],0),[],[],[],[],0,0,0,0,0,0,0),0);letI n:=i > (if o > g then o else g);M.bind (anp (x.1,k,39)) λy=>M.bind (b1 (!(!y)) (OQ x.1.1.1) 0) λbL=>if (!y||decide (bL≠0)||decide (g<0)||decide (o<0)||decide (i<0)||decide (l<0)||decide ((if l > (if n then i else if o > g then o else g) then l else if n then i else if o > g then o else g) > 999))=true then M.bind (HQ ()) λy=>M.pure y else M.bind (D6 (x.1,k)) λy=>letI e:=Int.ofNat (List.length y.2.1.1.1.2.2.2);letI m:=Int.toNat e;letI c:=decide (y.2.2≠0)||decide ((qj).2.2≠0)||decide (Int.ofNat (List.length (qj).1)≠IntKind.wrap .i64 (Add.add h 1));letI a:=decide (Int.ofNat (List.length (qj).2.1.1.1.2.2.2)=IntKind.wrap .i64 (Add.add e 1));letI j:=a=true;letI f:=j->j/\True/\True;letI b:=a&&(decide ((List.getD (qj).2.1.1.1.2.2.2 m (0,0,0,0)).1=g)&&(decide ((List.getD (qj).2.1.1.1.2.2.2 m (0,0,0,0)).2.1=o)&&(decide ((List.getD (qj).2.1.1.1.2.2.2 m (0,0,0,0)).2.2.1=i)&&decide ((List.getD (qj).2.1.1.1.2.2.2 m (0,0,0,0)).2.2.2=l))));M.ae (bT (Add.add 0 (List.length k))) (M.ae (Yt ([116,114,105,97,108],[g,o,i,l])).bY (M.ae (bT (Add.add (List.length ([]++k)) (Add.add 0 1))) (M.ae (D6 (x.1,[]++k++[Yu])).bY (M.bind (b1 (!c) (OQ y.2.1.1.1) 0) (λdq=>letI p:=c||decide (dq≠0);M.bind (b1 (!p) (OQ (qj).2.1.1.1) 0) λgn=>if (p||decide (gn≠0))=true then M.pure false else M.ae (0<=h/\h<Int.ofNat (List.length (qj).1)) (if decide (List.getD (qj).1 (Int.toNat h) []≠[111,107])=true then M.bind (ano (y.2.1,(qj).2.1)) λy=>M.bind (b1 y (HQ ()) false) λk7=>M.pure (y&&k7) else M.ae f (M.ae f (M.ae f (M.ae f (M.ae f (M.ae f (M.ae f (M.ae (j->(j/\j)/\(0<=e/\e<Int.ofNat (List.length (qj).2.1.1.1.2.2.2))/\True) (M.ae f (M.ae (j->(j/\j)/\True/\True) (M.ae (True/\(j->j)) (M.ae (b=true->True/\(HQ ()).bY/\True) (M.ae (True/\(b=true->b=true)) (M.pure (b&&M.val (HQ ()) false))))))))))))))))))))
def Yv(anq:Int->M aL)(x:aL×z1'):M aL:=
 M.bind (M.loop (λ(A:aL×z1'×Int×Unit)=>letI b:=A.2.2.1;letI a:=b<Int.ofNat (List.length A.2.1);if decide a=true then M.ae (0<=b/\a) (M.bind (anq (List.getD A.2.1 (Int.toNat b) 0)) (λy=>M.ae (bT (Add.add (Add.add 0 1) (List.length y))) (M.ae (bT (Add.add (List.length A.1) (Add.add (List.length y) 1))) (M.pure (aa.next (A.1++([32]++y),A.2.1,IntKind.wrap .i64 (Add.add b 1),())))))) else M.bind (M.pure (aa.next (A.1,()))) λr=>M.pure (aa.done r)) (x.1,x.2,0,())) (aa.bm (λ(A:aL×Unit)=>M.pure A.1))
def HR{gb:Type}(c0:z2'->M (z2'))(c1:List (List (Int×z1'×Int×Int))->M (List (List (Int×z1'×Int×Int))))(c2:z2'->M (z2'))(c3:List (Int×z1'×Int×Int)×Unit->M (List (Int×z1'×Int×Int)×Unit))(c4:z1'->M (z1'))(c5:List db->M (List db))(lu:List dr->M (List dr))(n6:z3'->M (z3'))(x:br)(fin:br->M gb):M gb:=
 M.ae True (M.ae (c0 x.1.1).bY (M.ae True (M.ae (c1 x.1.2.1).bY (M.ae True (M.ae (c2 x.1.2.2.2).bY (M.ae True (M.ae True (M.ae True (M.bind (M.ae True (M.loop (λ(A:Int×Int×Int×z1'×List db×List dr×z3'×Int×Int×Int×z2'×List (List (Int×z1'×Int×Int))×z2'×Unit)=>letI g1:=A.2;letI s:=g1.2.2.2;letI h:=Int.toNat g1.1;letI f:=s.2.2.2;letI v:=f.2.2.2.2;if decide (g1.1<A.1)=true then M.bind (M.ae True (M.ae (0<=g1.1/\g1.1<Int.ofNat (List.length v.1)) (M.ae True (M.ae (h=h) (M.bind (c3 (List.getD v.1 h [],())) (λy=>M.ae True (M.ae (h=h) (M.ae True (M.ae (h=h) (M.loop (λ(A:Nat×Int×Int×Int×Int×Int×z1'×List db×List dr×z3'×Int×Int×Int×z2'×(List (List (Int×z1'×Int×Int))×Nat)×z2'×List (Int×z1'×Int×Int)×Unit)=>letI g:=A.2.2.2.2;letI z:=g.2.2.2;letI a:=z.2.2.2;letI k:=a.2.2.2.2;letI u:=0<=g.1/\g.1<Int.ofNat (List.length k.2.2.1);letI e:=List.getD k.2.2.1 (Int.toNat g.1) (0,[],0,0);if decide (g.1<A.2.2.2.1)=true then M.ae True (M.ae (A.1=k.1.2) (M.ae True (M.ae (A.1=k.1.2) (M.ae u (M.ae (c4 e.2.1).bY (M.ae u (M.pure (aa.next (A.1,A.2.1,A.2.2.1,A.2.2.2.1,IntKind.wrap .i64 (Add.add g.1 1),g.2.1,g.2.2.1,z.1,z.2.1,z.2.2.1,a.1,a.2.1,a.2.2.1,a.2.2.2.1,k.1,k.2.1,List.set k.2.2.1 (Int.toNat g.1) (e.1,M.val (c4 e.2.1) [],e.2.2),()))))))))) else M.bind (M.pure (aa.next (A.2.1,A.2.2.1,g.2.1,g.2.2.1,z.1,z.2.1,z.2.2.1,a.1,a.2.1,a.2.2.1,a.2.2.2.1,k.1,k.2.1,k.2.2.1,()))) λr=>M.pure (aa.done r)) (h,A.1,g1.1,Int.ofNat (List.length y.1),0,g1.2.1,g1.2.2.1,s.1,s.2.1,s.2.2.1,f.1,f.2.1,f.2.2.1,f.2.2.2.1,(v.1,h),v.2.1,y.1,()))))))))))) (aa.bm (λ(A:Int×Int×Int×z1'×List db×List dr×z3'×Int×Int×Int×z2'×(List (List (Int×z1'×Int×Int))×Nat)×z2'×List (Int×z1'×Int×Int)×Unit)=>letI dt:=A.2.2.2.2;letI j:=dt.2.2.2;letI c1:=j.2.2.2.2;M.pure (aa.next (A.1,IntKind.wrap .i64 (Add.add A.2.1 1),A.2.2.1,A.2.2.2.1,dt.1,dt.2.1,dt.2.2.1,j.1,j.2.1,j.2.2.1,j.2.2.2.1,List.set c1.1.1 c1.1.2 c1.2.2.1,c1.2.1,())))) else M.bind (M.pure (aa.next (g1.2.1,g1.2.2.1,s.1,s.2.1,s.2.2.1,f.1,f.2.1,f.2.2.1,f.2.2.2.1,v.1,v.2.1,()))) λr=>M.pure (aa.done r)) (Int.ofNat (List.length (M.val (c1 x.1.2.1) [])),0,x.1.2.2.1,x.2.1,x.2.2.1,x.2.2.2.1,x.2.2.2.2.1,x.2.2.2.2.2,0,0,M.val (c0 x.1.1) [],M.val (c1 x.1.2.1) [],M.val (c2 x.1.2.2.2) [],()))) (aa.bm (λ(A:Int×z1'×List db×List dr×z3'×Int×Int×Int×z2'×List (List (Int×z1'×Int×Int))×z2'×Unit)=>letI d1:=A.2.2;letI n:=d1.2.2;M.ae (c4 A.2.1).bY (M.ae (c5 d1.1).bY (M.ae (lu d1.2.1).bY (M.ae (n6 n.1).bY (M.bind (M.loop (λ(A:Int×Int×Int×Int×Int×Int×z2'×List (List (Int×z1'×Int×Int))×z2'×z1'×List db×List dr×z3'×Unit)=>letI e1:=A.2;letI t:=e1.2.2.2;letI d:=t.2.2.2;letI w:=d.2.2.2;letI o:=0<=e1.1/\e1.1<Int.ofNat (List.length w.1);letI b:=List.getD w.1 (Int.toNat e1.1) (0,0,0,0,[]);if decide (e1.1<A.1)=true then M.ae o (M.ae (c4 b.2.2.2.2).bY (M.ae o (M.pure (aa.next (A.1,IntKind.wrap .i64 (Add.add e1.1 1),e1.2.1,e1.2.2.1,t.1,t.2.1,t.2.2.1,d.1,d.2.1,d.2.2.1,List.set w.1 (Int.toNat e1.1) (b.1,b.2.1,b.2.2.1,b.2.2.2.1,M.val (c4 b.2.2.2.2) []),w.2.1,w.2.2.1,()))))) else M.bind (M.pure (aa.next (e1.2.1,e1.2.2.1,t.1,t.2.1,t.2.2.1,d.1,d.2.1,d.2.2.1,w.1,w.2.1,w.2.2.1,()))) λr=>M.pure (aa.done r)) (Int.ofNat (List.length (M.val (c5 d1.1) [])),0,A.1,n.2.1,n.2.2.1,n.2.2.2.1,n.2.2.2.2.1,n.2.2.2.2.2.1,n.2.2.2.2.2.2.1,M.val (c4 A.2.1) [],M.val (c5 d1.1) [],M.val (lu d1.2.1) [],M.val (n6 n.1) [],())) (aa.bm (λ(A:Int×Int×Int×Int×z2'×List (List (Int×z1'×Int×Int))×z2'×z1'×List db×List dr×z3'×Unit)=>letI h1:=A.2.2.2;letI m:=h1.2.2.2;M.bind (M.loop (λ(A:Int×Int×Int×Int×Int×Int×z2'×List (List (Int×z1'×Int×Int))×z2'×z1'×List db×List dr×z3'×Unit)=>letI f1:=A.2;letI l:=f1.2.2.2;letI c:=l.2.2.2.2;letI bV:=c.2.2.2;letI p:=0<=f1.1/\f1.1<Int.ofNat (List.length bV.1);letI i:=List.getD bV.1 (Int.toNat f1.1) ([],(0,0),0,0,0);if decide (f1.1<A.1)=true then M.ae p (M.ae (c4 i.1).bY (M.ae p (M.pure (aa.next (A.1,IntKind.wrap .i64 (Add.add f1.1 1),f1.2.1,f1.2.2.1,l.1,l.2.1,l.2.2.1,l.2.2.2.1,c.1,c.2.1,c.2.2.1,List.set bV.1 (Int.toNat f1.1) (M.val (c4 i.1) [],i.2),bV.2.1,()))))) else M.bind (M.pure (aa.next (f1.2.1,f1.2.2.1,l.1,l.2.1,l.2.2.1,l.2.2.2.1,c.1,c.2.1,c.2.2.1,bV.1,bV.2.1,()))) λr=>M.pure (aa.done r)) (Int.ofNat (List.length m.2.2.2.1),0,A.1,A.2.1,A.2.2.1,h1.1,h1.2.1,h1.2.2.1,m.1,m.2.1,m.2.2.1,m.2.2.2.1,m.2.2.2.2.1,())) (aa.bm (λ(A:Int×Int×Int×Int×z2'×List (List (Int×z1'×Int×Int))×z2'×z1'×List db×List dr×z3'×Unit)=>letI q:=A.2.2.2.2.2;fin ((A.2.2.2.2.1,q.1,A.1,q.2.1),q.2.2.1,q.2.2.2.1,q.2.2.2.2.1,q.2.2.2.2.2.1,A.2.1))))))))))))))))))))
def iC(s:br):vN:=(s.1.1,s.1.2.1,s.1.2.2.1,s.2.2.2.2.2,s.1.2.2.2,s.2.1,s.2.2.1,s.2.2.2.1,s.2.2.2.2.1,())
def anr(c0:z2'->M (z2'))(c1:List (List (Int×z1'×Int×Int))->M (List (List (Int×z1'×Int×Int))))(c2:z2'->M (z2'))(c3:List (Int×z1'×Int×Int)×Unit->M (List (Int×z1'×Int×Int)×Unit))(c4:z1'->M (z1'))(c5:List db->M (List db))(lu:List dr->M (List dr))(n6:z3'->M (z3'))(x:br):M br:=HR c0 c1 c2 c3 c4 c5 lu n6 x M.pure
def ant(c0:z2'->M (z2'))(c1:List (List (Int×z1'×Int×Int))->M (List (List (Int×z1'×Int×Int))))(c2:z2'->M (z2'))(c3:List (Int×z1'×Int×Int)×Unit->M (List (Int×z1'×Int×Int)×Unit))(c4:z1'->M (z1'))(c5:List db->M (List db))(lu:List dr->M (List dr))(n6:z3'->M (z3'))(x:br×Unit):M vN:=HR c0 c1 c2 c3 c4 c5 lu n6 x.1 λs=>M.pure (iC s)
def Yw(OH:br->M Int)(anu:z2'×List (List (Int×z1'×Int×Int))×Int×z2'->M Bool)(x:br):M Bool:=
 M.bind (anu x.1) λy=>if (y||decide (Int.ofNat (List.length x.2.1) > 40)||decide (Int.ofNat (List.length x.2.2.1) > 40)||decide (Int.ofNat (List.length x.2.2.2.1) > 40)||decide (Int.ofNat (List.length x.2.2.2.2.1) > 40))=true then M.pure true else M.bind (M.loop (λ(A:Int×br×Unit)=>letI c:=A.1<Int.ofNat (List.length A.2.1.2.2.1);if decide c=true then M.ae (0<=A.1/\c) (if decide (Int.ofNat (List.length (List.getD A.2.1.2.2.1 (Int.toNat A.1) (0,0,0,0,[])).2.2.2.2) > 40)=true then M.bind (M.bind (M.pure true) (λr=>M.pure (aa.done r))) λr=>M.pure (aa.done r) else M.pure (aa.next (IntKind.wrap .i64 (Add.add A.1 1),A.2.1,()))) else M.bind (M.pure (aa.next (A.2.1,()))) λr=>M.pure (aa.done r)) (0,x,())) (aa.bm (λ(A:(a7×z1'×List db×List dr×z3'×Int)×Unit)=>M.bind (M.loop (λ(A:Int×(a7×z1'×List (Int×Int×Int×Int×z1')×List dr×z3'×Int)×Unit)=>letI b:=A.1<Int.ofNat (List.length A.2.1.2.2.2.1);if decide b=true then M.ae (0<=A.1/\b) (if decide (Int.ofNat (List.length (List.getD A.2.1.2.2.2.1 (Int.toNat A.1) ([],(0,0),0,0,0)).1) > 40)=true then M.bind (M.bind (M.pure true) (λr=>M.pure (aa.done r))) λr=>M.pure (aa.done r) else M.pure (aa.next (IntKind.wrap .i64 (Add.add A.1 1),A.2.1,()))) else M.bind (M.pure (aa.next (A.2.1,()))) λr=>M.pure (aa.done r)) (0,A.1,())) (aa.bm (λ(A:(a7×z1'×List db×List (z1'×(Int×Int)×Int×Int×Int)×z3'×Int)×Unit)=>M.bind (OH A.1) λy=>if decide (y≠0)=true then M.pure false else M.bind (M.loop (λ(A:Int×Int×(a7×z1'×List db×List dr×z3'×Int)×Unit)=>letI d:=A.2.2.1;letI a:=A.2.1<Int.ofNat (List.length d.2.2.1);if decide a=true then M.ae (0<=A.2.1/\a) (M.pure (aa.next (IntKind.wrap .i64 (Add.add A.1 (Int.ofNat (List.length (List.getD d.2.2.1 (Int.toNat A.2.1) (0,0,0,0,[])).2.2.2.2))),IntKind.wrap .i64 (Add.add A.2.1 1),d,()))) else M.bind (M.pure (aa.next (A.1,d,()))) λr=>M.pure (aa.done r)) (0,0,A.1,())) (aa.bm (λ(A:Int×(a7×z1'×List db×List (z1'×(Int×Int)×Int×Int×Int)×z3'×Int)×Unit)=>M.pure (decide (Int.ofNat (List.length A.2.1.2.2.2.1) > 3)||decide (Int.ofNat (List.length A.2.1.2.2.1) > 4)||decide (Int.ofNat (List.length A.2.1.2.2.2.2.1) > 3)||decide (A.1 > 4))))))))
def Yx(anv:Unit->M a7)(x:Unit):M (br):=
 M.bind (anv ()) λy=>M.pure (y,[1,0,0,0],[(1,60,0,0,[0]),(1,60,7,0,[]),(2,65,0,1,[0]),(2,60,0,0,[0,1])],[([1],(55,65),7,3,500),([1,2],(60,60),0,5,400),([2],(60,70),9,8,700),([2],(65,65),0,5,300)],[(4,2,1),(6,3,1)],2)
abbrev tI:af:=.int .i64
abbrev cN:af:=.bool
abbrev fm:af:=.slice tI
abbrev mi:af:=.st (.aw tI tI)
abbrev ks:af:=.st (.aw tI (.aw tI mi))
abbrev tSlot:af:=.st (.aw tI (.aw fm mi))
abbrev kN:af:=.st (.slice tSlot)
abbrev jK:af:=.st (.aw tI (.aw tI (.aw tI tI)))
abbrev iV:af:=.st (.aw (.slice ks) (.aw (.slice kN) (.aw tI (.slice jK))))
attribute [simp] qc UT vr M.c_ M.ES M.QO M.fY M.fi M.mf M.iR M.j6 M.bK M.pb b2 hX MV aa.gT
abbrev bX:aJ:=⟨.aw tI (.aw tI tI),cN,λ_=>True,λx=>decide (x.2.1<=x.1)&&decide (x.1<=x.2.2)⟩
theorem anw(x):M.le (ai2 x) (bX.sh x):=M.bg λ_=>rfl
abbrev mj:aJ:=⟨.aw fm tI,cN,λx=>x.1.length<2 ^ 63,λx=>x.1.contains x.2⟩
theorem anx(l:z1')(n:Int):(l.any λy=>y == n)=l.contains n:=by grind
theorem anz(l:z1')(n:Int)(h:l.length<2 ^ 63):M1 (l,n)=M.pure (l.contains n):=by
 unfold M1;rw[M.dh l (λi (_:Unit)=>(l,n,(i:Int),())) (λy b=>if (y == n)=true then .done (.done true) else .next b) (λ_=>.next ()) () ?_ ?_ ?_]
 ·rw[qd,anx];cases l.contains n<;>simp
 ·rfl
 ·intro i E b;have hw:=bn (n:=(i:Int)+1) (by omega) (by omega);simp[E,hw];grind
 simp
theorem anA(x):M.le (M1 x) (mj.sh x):=M.bg λh=>anz x.1 x.2 h
abbrev HS:Type:=Int×Int×Int×Int
abbrev vP:Type:=Int×z1'×Int×Int
abbrev mn:Type:=Int×Int×Int×Int
def fG(w:a7):Prop:=w.1.length<2 ^ 63/\w.2.1.length<2 ^ 63/\w.2.2.2.length<2 ^ 63/\∀ m∈w.2.1,m.length<2 ^ 63/\∀ s∈m,s.2.1.length<2 ^ 63
def fH(w:a7)(n:Int):Bool:=decide (0<=n)&&decide (n<(w.1.length:Int))
def nQ(w:a7)(n:Int):Bool:=decide (0<=n)&&decide (n<(w.2.1.length:Int))
def jl(w:a7)(m:Int):List vP:=w.2.1.getD m.toNat []
def ig(w:a7)(m k:Int):Bool:=nQ w m&&(decide (0<=k)&&decide (k<((jl w m).length:Int)))
theorem rk{w:a7}{n:Int}:fH w n=true<->0<=n/\n<(w.1.length:Int):=by simp[fH]
theorem HT{w:a7}{n:Int}:nQ w n=true<->0<=n/\n<(w.2.1.length:Int):=by simp[nQ]
theorem AM{w:a7}{m k:Int}:ig w m k=true<->(0<=m/\m<(w.2.1.length:Int))/\0<=k/\k<((jl w m).length:Int):=by simp[ig,nQ]
theorem HU{w:a7}(hw:fG w)(m:Int):(jl w m).length<2 ^ 63:=by
 unfold jl;rw[List.getD_eq_getElem?_getD];cases h:w.2.1[m.toNat]? with
 | none=>simp
 | some x=>exact (hw.2.2.2 x (List.mem_of_getElem? h)).1
theorem rl(n m:Int):decide (n<=m - 1)=decide (n<m):=by
 grind
abbrev pv:aJ:=⟨.aw iV tI,cN,λx=>fG x.1,λx=>fH x.1 x.2⟩
theorem Yy(w:a7)(n:Int)(h:fG w):M2 bX.sh (w,n)=M.pure (fH w n):=by
 unfold M2;have ai:=h.1;have hw:=bn (n:=(w.1.length:Int) - 1) (by omega) (by omega);simp[aJ.sh,bX,hw,fH,rl]
theorem anB(x):M.le (M2 bX.sh x) (pv.sh x):=M.bg λh=>Yy x.1 x.2 h
abbrev AN:aJ:=⟨.aw iV tI,cN,λx=>fG x.1,λx=>nQ x.1 x.2⟩
theorem anC(w:a7)(n:Int)(h:fG w):M7 bX.sh (w,n)=M.pure (nQ w n):=by
 unfold M7;have ai:=h.2.1;have hw:=bn (n:=(w.2.1.length:Int) - 1) (by omega) (by omega);simp[aJ.sh,bX,hw,nQ,rl]
theorem anD(x):M.le (M7 bX.sh x) (AN.sh x):=M.bg λh=>anC x.1 x.2 h
abbrev rm:aJ:=⟨.aw iV (.aw tI tI),cN,λx=>fG x.1,λx=>ig x.1 x.2.1 x.2.2⟩
theorem Yz(w:a7)(m k:Int)(h:fG w):G' bX.sh AN.sh (w,m,k)=M.pure (ig w m k):=by
 unfold G';have ai:=HU h m;have hw:=bn (n:=((jl w m).length:Int) - 1) (by omega) (by omega);unfold jl at hw;simp only[aJ.sh,bX,AN,M.c_,M.iR,bG,hw,rl,M.bk h];rw[M.bk,M.bk (by simp)]
 ·simp only[ig,jl];simp
 ·intro an;exact⟨⟨an,an⟩,HT.1 an,trivial⟩
theorem anE(x):M.le (G' bX.sh AN.sh x) (rm.sh x):=M.bg λh=>Yz x.1 x.2.1 x.2.2 h
def vQ(s:Int×Int):Bool:=(decide (0<=s.1)&&decide (s.1<=s.2))&&decide (s.2<=999)
abbrev oF:aJ:=⟨mi,cN,λ_=>True,vQ⟩
theorem YA(s:Int×Int):Na bX.sh s=M.pure (vQ s):=by
 unfold Na;simp[aJ.sh,bX,vQ]
theorem anF(x):M.le (Na bX.sh x) (oF.sh x):=M.bg λ_=>YA x
def rh(l:z1'):Bool:=(List.range (l.length - 1)).all λi=>decide (l.getD i 0<l.getD (i+1) 0)
abbrev um:aJ:=⟨fm,cN,λx=>x.length<2 ^ 63,rh⟩
theorem YB(l:z1')(h:l.length<2 ^ 63):M6 l=M.pure (rh l):=by
 unfold M6;rw[M.dh (List.range (l.length - 1)) (λi (_:Unit)=>(l,((i+1:Nat):Int),())) (λi b=>if (decide (l.getD i 0<l.getD (i+1) 0))=true then .next b else .done (.done false)) (λ_=>.next ()) () ?_ ?_ ?_]
 ·rw[G6];unfold rh;cases (List.range (l.length - 1)).all λi=>decide (l.getD i 0<l.getD (i+1) 0)<;>simp
 ·simp
 ·intro i E b;have dp:i+1<l.length:=by grind
  have hw:=bn (n:=(i:Int)+1+1) (by omega) (by omega);have gl:=bn (n:=(i:Int)+1 - 1) (by omega) (by omega);have e1:((i:Int)+1).toNat=i+1:=by omega
  have e2:((i:Int)+1 - 1).toNat=i:=by omega
  have bR:(0:Int)<=(i:Int)+1/\(i:Int)+1<(l.length:Int):=by omega
  have cp:(0:Int)<=(i:Int)+1 - 1/\(i:Int)+1 - 1<(l.length:Int):=by omega
  simp only[bG,Int.natCast_add,Int.cast_ofNat_Int,hw,gl,bR,cp,M.bk,e1,e2,b2,List.getElem_range,decide_eq_true_eq,if_true,M.aE,decide_true,and_self,Int.natCast_one];generalize l.getD i 0=aI;generalize l.getD (i+1) 0=B;by_cases hc:aI<B
  ·simp[hc,Int.not_le.2 hc]
  ·simp[hc,Int.not_lt.1 hc]
 ·intro b;have:¬(((List.range (l.length - 1)).length:Int)+1<(l.length:Int)):=by grind
  simp[this];omega
theorem anG(x):M.le (M6 x) (um.sh x):=M.bg λh=>YB x h
def qk(n:Int):Bool:=decide (0<=n)&&decide (n<=9)
def pw(s:vP):Bool:=s.2.1.all qk&&(qk s.1&&decide ((s.2.1.length:Int)<=4)&&rh s.2.1&&vQ s.2.2)
def rn(s:HS):Bool:=qk s.1&&qk s.2.1&&vQ s.2.2
def sI(w:a7)(t:mn):Bool:=fH w t.1&&ig w t.2.1 t.2.2.1&&(decide (0<=t.2.2.2)&&decide (t.2.2.2<=1))
def ql(m:List vP):Bool:=!decide ((m.length:Int) > 4)&&m.all pw
def vR(w:a7):Bool:=!(decide ((w.1.length:Int) > 10)||decide ((w.2.1.length:Int) > 6)||!(decide (0<=w.2.2.1)&&decide (w.2.2.1<=99))||decide ((w.2.2.2.length:Int) > 30))
def kO(w:a7):Bool:=vR w&&w.1.all rn&&w.2.1.all ql&&w.2.2.2.all (sI w)
abbrev sJ:aJ:=⟨tSlot,cN,λx=>x.2.1.length<2 ^ 63,pw⟩
theorem anH(s:vP)(h:s.2.1.length<2 ^ 63):Nb um.sh bX.sh oF.sh s=M.pure (pw s):=by
 unfold Nb;rw[M.dh s.2.1 (λi (_:Unit)=>((i:Int),s,())) (λn b=>if qk n=true then .next b else .done (.done false)) (λ_=>.next (s,())) () ?_ ?_ ?_]
 ·rw[G6];unfold pw;cases s.2.1.all qk with
  | false=>simp
  | true=>
   simp only[aJ.sh,bX,um,oF,M.bk h,qk,if_true,M.aE,M.bK,M.c_,M.iR,M.be,bG,h,implies_true,Bool.true_and];simp
 ·rfl
 ·intro i E b;have hw:=bn (n:=(i:Int)+1) (by omega) (by omega);simp[aJ.sh,bX,E,hw,qk];grind
 simp
theorem anI(x):M.le (Nb um.sh bX.sh oF.sh x) (sJ.sh x):=M.bg λh=>anH x h
abbrev sK:aJ:=⟨iV,cN,fG,kO⟩
theorem anJ(w:a7)(h:fG w):M8 pv.sh rm.sh bX.sh oF.sh sJ.sh w=M.pure (kO w):=by
 have hs:=h;obtain⟨h1,h2,h3,aR⟩:=h;unfold M8;simp only[aJ.sh,bX,M.iR,M.c_,implies_true,M.be,bG,qc];split
 ·rename_i hc;have:vR w=false:=by unfold vR;grind
  simp[kO,this]
 ·rename_i hc;have cA:vR w=true:=by unfold vR;grind
  have axZ:w.2.1.length<=6:=by grind
  rw[M.dh w.1 (λi (_:Unit)=>((i:Int),w,())) (λn b=>if (!qk n.1||!qk n.2.1||!vQ n.2.2)=true then .done (.done false) else .next b) (λ_=>.next (w,())) () ?_ ?_ ?_]
  ·rw[j7 (q:=rn) _ _ (λt=>by simp only[rn,Bool.not_and])];cases h8:w.1.all rn with
   | false=>simp[kO,h8]
   | true=>
    simp only[M.aE,if_true,M.bK];rw[M.dh w.2.1 (λi (_:Unit)=>((i:Int),w,())) (λm b=>if ql m=true then .next b else .done (.done false)) (λ_=>.next (w,())) () ?_ ?_ ?_]
    ·rw[G6];cases aN:w.2.1.all ql with
     | false=>simp[kO,aN]
     | true=>
      simp only[M.aE,if_true,M.bK];rw[M.dh w.2.2.2 (λi (_:Unit)=>((i:Int),w,())) (λt b=>if (!fH w t.1||!ig w t.2.1 t.2.2.1||!(decide (0<=t.2.2.2)&&decide (t.2.2.2<=1)))=true then .done (.done false) else .next b) (λ_=>.next ()) () ?_ ?_ ?_]
      ·rw[j7 (q:=sI w) _ _ (λt=>by simp only[sI,Bool.not_and])];cases jb:w.2.2.2.all (sI w)<;>simp[kO,h8,aN,jb,cA]
      ·rfl
      ·intro i E b;have hw:=bn (n:=(i:Int)+1) (by omega) (by omega);simp only[bG,cC E,if_true,cV E,ct E,M.be,aJ.sh,pv,rm,M.c_,M.iR,hs,implies_true,qc,M.aE,b2,hw];exact lJ (mk:=λ_:Unit=>((i:Int)+1,w,()))
      simp
    ·rfl
    ·intro i E b;have hw:=bn (n:=(i:Int)+1) (by omega) (by omega);obtain⟨j5,o8⟩:=aR w.2.1[i] (List.getElem_mem E);simp only[bG,Int.ofNat_lt,E,decide_true,if_true,cV E,Int.natCast_nonneg,and_self,M.be];by_cases hlen:(w.2.1[i].length:Int) > 4
     ·simp[hlen,ql]
     ·simp only[hlen,decide_false,Bool.false_eq_true,if_false];rw[M.dh w.2.1[i] (λk (_:Unit)=>((i:Int),(k:Int),w,())) (λs b=>if (!pw s)=true then .done (.done (.done (.done false))) else .next b) (λ_=>.next ((i:Int),w,())) () ?_ ?_ ?_]
      ·rw[j7 (q:=pw) _ _ (λ_=>rfl)];cases hD:w.2.1[i].all pw<;>simp[ql,hD,hlen,hw]
      ·rfl
      ·intro k ao b;have mm:=bn (n:=(k:Int)+1) (by omega) (by omega);have AO:=o8 w.2.1[i][k] (List.getElem_mem ao);simp only[bG,cC ao,cC E,if_true,cV E,cV ao,ct E,ct ao,M.be,sJ,M.c_,AO,M.bk AO,M.aE,b2,mm];exact lJ (mk:=λ_:Unit=>((i:Int),(k:Int)+1,w,()))
      simp_all
    simp
  ·rfl
  ·intro i E b;have hw:=bn (n:=(i:Int)+1) (by omega) (by omega);simp only[bG,cC E,if_true,cV E,ct E,M.be,aJ.sh,oF,M.c_,M.iR,implies_true,qc,M.aE,b2,hw,Bool.not_not];exact lJ (mk:=λ_:Unit=>((i:Int)+1,w,()))
  simp
theorem anK(x):M.le (M8 pv.sh rm.sh bX.sh oF.sh sJ.sh x) (sK.sh x):=M.bg λh=>anJ x h
abbrev qm:mn:=(0,0,0,0)
def mV(a b:mn):Bool:=decide (a.1=b.1)&&decide (a.2.1=b.2.1)&&decide (a.2.2.1=b.2.2.1)&&decide (a.2.2.2≠b.2.2.2)
def nM(l:List mn):Bool:=(List.range l.length).all λi=>(List.range i).all λk=>!mV (l.getD k qm) (l.getD i qm)
def cu(w:a7):Int:=if kO w=true then (if nM w.2.2.2=true then 0 else 71) else 70
theorem YC{a b:Nat}(h:a<b):((0:Int)<=(a:Int)/\(a:Int)<(b:Int))=True:=ct h
abbrev gY:aJ:=⟨iV,tI,fG,cu⟩
theorem anL(w:a7)(h:fG w):M3 sK.sh w=M.pure (cu w):=by
 have hs:=h;obtain⟨h1,h2,h3,aR⟩:=h;unfold M3;simp only[aJ.sh,sK,M.c_,M.bk hs];unfold cu;cases hw:kO w with
 | false=>simp
 | true=>
  simp only[Bool.not_true,Bool.false_eq_true,if_false,if_true];rw[M.dh (List.range w.2.2.2.length) (λi (_:Unit)=>((i:Int),w,())) (λi b=>if (List.range i).any (λk=>mV (w.2.2.2.getD k qm) (w.2.2.2.getD i qm))=true then .done (.done (71:Int)) else .next b) (λ_=>.next ()) () ?_ ?_ ?_]
  ·rw[j7 (q:=λi=>(List.range i).all λk=>!mV (w.2.2.2.getD k qm) (w.2.2.2.getD i qm)) _ _ (λi=>UU (λk=>by simp) _)];have e:((List.range w.2.2.2.length).all λi=>(List.range i).all λk=>!mV (w.2.2.2.getD k qm) (w.2.2.2.getD i qm))=nM w.2.2.2:=rfl;rw[e];cases nM w.2.2.2<;>simp
  ·rfl
  ·intro i E b;have E:i<w.2.2.2.length:=by grind
   have gB:=bn (n:=(i:Int)+1) (by omega) (by omega);simp only[bG,cC E,if_true,List.getElem_range];rw[M.dh (List.range i) (λk (_:Unit)=>((i:Int),(k:Int),w,())) (λk b=>if mV (w.2.2.2.getD k qm) (w.2.2.2.getD i qm)=true then .done (.done (.done (.done (71:Int)))) else .next b) (λ_=>.next ((i:Int),w,())) () ?_ ?_ ?_]
   ·rw[qd];cases (List.range i).any (λk=>mV (w.2.2.2.getD k qm) (w.2.2.2.getD i qm))<;>simp[gB]
   ·rfl
   ·intro k ao b;have ao:k<i:=by grind
    have ub:k<w.2.2.2.length:=by omega
    have mm:=bn (n:=(k:Int)+1) (by omega) (by omega);simp only[cC ao,if_true,List.getElem_range,YC ub,YC E,M.be,Int.toNat_natCast,M.aE,b2,mm];exact lJ (mk:=λ_:Unit=>((i:Int),(k:Int)+1,w,()))
   simp
  simp
theorem anM(x):M.le (M3 sK.sh x) (gY.sh x):=M.bg λh=>anL x h
def dR(w:a7)(i:Int):HS:=w.1.getD i.toNat (0,0,0,0)
def uo(w:a7)(m k:Int):vP:=(jl w m).getD k.toNat (0,[],0,0)
theorem anN{w:a7}{i:Int}(h:fH w i=true):dR w i∈w.1:=by
 rw[rk]at h;exact xL h.1 h.2
theorem OR{w:a7}{m k:Int}(h:ig w m k=true):jl w m∈w.2.1:=by
 rw[AM]at h;exact xL h.1.1 h.1.2
theorem YD{w:a7}{m k:Int}(h:ig w m k=true):uo w m k∈jl w m:=by
 rw[AM]at h;exact xL h.2.1 h.2.2
theorem AP{w:a7}(h:kO w=true):vR w=true/\(∀ s∈w.1,rn s=true)/\(∀ m∈w.2.1,ql m=true)/\∀ t∈w.2.2.2,sI w t=true:=by
 simp only[kO,Bool.and_eq_true,List.all_eq_true]at h;grind
theorem x7{w:a7}(h:kO w=true):w.1.length<=10/\w.2.1.length<=6/\(0<=w.2.2.1/\w.2.2.1<=99)/\w.2.2.2.length<=30:=by
 have:=(AP h).1;simp[vR]at this;omega
theorem anO{w:a7}(h:kO w=true){m k:Int}(an:ig w m k=true):(jl w m).length<=4:=by
 have:=(AP h).2.2.1 _ (OR an);simp[ql]at this;omega
theorem anP{w:a7}(h:kO w=true){m k:Int}(an:ig w m k=true):pw (uo w m k)=true:=by
 have:=(AP h).2.2.1 _ (OR an);simp only[ql,Bool.and_eq_true,List.all_eq_true]at this;exact this.2 _ (YD an)
theorem anQ{s:vP}(h:pw s=true):0<=s.2.2.1/\s.2.2.1<=s.2.2.2/\s.2.2.2<=999:=by
 simp only[pw,vQ,Bool.and_eq_true,decide_eq_true_eq]at h;omega
theorem OS{w:a7}(h:kO w=true){i:Int}(E:fH w i=true):0<=(dR w i).2.2.1/\(dR w i).2.2.1<=(dR w i).2.2.2/\(dR w i).2.2.2<=999:=by
 have:=(AP h).2.1 _ (anN E);simp only[rn,vQ,Bool.and_eq_true,decide_eq_true_eq]at this;omega
theorem YE{w:a7}(h:kO w=true){t:mn}(aG:t∈w.2.2.2):fH w t.1=true/\ig w t.2.1 t.2.2.1=true:=by
 have:=(AP h).2.2.2 _ aG;simp only[sI,Bool.and_eq_true]at this;grind
def uq(w:a7)(i n m k:Int):Bool:=
 decide ((dR w i).1=(uo w m k).1)&&(uo w m k).2.1.contains (dR w i).2.1&&(decide ((uo w m k).2.2.1<=n)&&decide (n<=(uo w m k).2.2.2+w.2.2.1))
def lQ(w:a7):Prop:=fG w/\kO w=true
abbrev fcFitsAt:aJ:=⟨.aw iV (.aw tI (.aw tI (.aw tI tI))),cN,λx=>lQ x.1/\fH x.1 x.2.1=true/\ig x.1 x.2.2.2.1 x.2.2.2.2=true,λx=>uq x.1 x.2.1 x.2.2.1 x.2.2.2.1 x.2.2.2.2⟩
theorem YF(w:a7)(i n m k:Int)(hw:lQ w)(E:fH w i=true)(an:ig w m k=true):M5 mj.sh bX.sh (w,i,n,m,k)=M.pure (uq w i n m k):=by
 unfold M5;have bR:=rk.1 E;have cp:=AM.1 an;have hsl:=anQ (anP hw.2 an);have RB:=(x7 hw.2).2.2.1;have AO:(uo w m k).2.1.length<2 ^ 63:=(hw.1.2.2.2 _ (OR an)).2 _ (YD an);have gB:=bn (n:=(uo w m k).2.2.2+w.2.2.1) (by omega) (by omega);unfold uq;simp only[uo,jl,dR]at *
 simp only[aJ.sh,mj,bX,M.iR,M.c_,bG,bR,cp,and_self,M.be,implies_true,b2,gB,vr,M.bk (λ_=>AO),AO];rfl
theorem anR(x):M.le (M5 mj.sh bX.sh x) (fcFitsAt.sh x):=M.bg λh=>YF x.1 x.2.1 x.2.2.1 x.2.2.2.1 x.2.2.2.2 h.1 h.2.1 h.2.2
def qn(w:a7)(i n:Int)(t:mn):Bool:=!(decide (t.1=i)&&!decide (uq w i n t.2.1 t.2.2.1=decide (t.2.2.2=1)))
def vS(w:a7)(i n:Int):Bool:=w.2.2.2.all (qn w i n)&&(decide ((dR w i).2.2.1<=n)&&decide (n<=(dR w i).2.2.2))
abbrev D7:aJ:=⟨.aw iV (.aw tI tI),cN,λx=>lQ x.1/\fH x.1 x.2.1=true,λx=>vS x.1 x.2.1 x.2.2⟩
theorem anS(w:a7)(i n:Int)(hw:lQ w)(E:fH w i=true):M4 fcFitsAt.sh bX.sh (w,i,n)=M.pure (vS w i n):=by
 unfold M4;have bR:=rk.1 E;have ai:=(x7 hw.2).2.2.2;rw[M.dh w.2.2.2 (λj (_:Unit)=>(i,n,(j:Int),w,())) (λt b=>if (decide (t.1=i)&&!decide (uq w i n t.2.1 t.2.2.1=decide (t.2.2.2=1)))=true then .done (.done false) else .next b) (λ_=>.next (i,n,w,())) () ?_ ?_ ?_]
 ·rw[j7 (q:=qn w i n) _ _ (λt=>by simp only[qn,Bool.not_not])];unfold vS;cases w.2.2.2.all (qn w i n) with
  | false=>simp
  | true=>simp only[if_true,M.aE,M.bK,aJ.sh,bX,M.mf,M.fY,bG,bR,and_self,M.be,Bool.true_and,dR];rfl
 ·rfl
 ·intro j aC b;have gB:=bn (n:=(j:Int)+1) (by omega) (by omega);have aG:=YE hw.2 (List.getElem_mem aC);have hp:decide (w.2.2.2[j].1=i)=true->(lQ w/\fH w i=true/\ig w w.2.2.2[j].2.1 w.2.2.2[j].2.2.1=true):=λ_=>⟨hw,E,aG.2⟩
  simp only[bG,cC aC,if_true,cV aC,ct aC,M.be,aJ.sh,fcFitsAt,M.mf,M.fY,M.aE,b2,gB,and_true,true_and,and_self,implies_true,imp_self];rw[M.bk (λh=>⟨h,hp h⟩)];exact lJ (mk:=λ_:Unit=>(i,n,(j:Int)+1,w,()))
 simp
theorem anT(x):M.le (M4 fcFitsAt.sh bX.sh x) (D7.sh x):=M.bg λh=>anS x.1 x.2.1 x.2.2 h.1 h.2
def fI(w:a7)(i:Int):z1':=(dJ (dR w i).2.2.1 (dR w i).2.2.2).filter (vS w i)
theorem YG{w:a7}{i:Int}(hw:lQ w)(E:fH w i=true):(fI w i).length<=1000:=by
 have:=OS hw.2 E;have h2:=List.length_filter_le (vS w i) (dJ (dR w i).2.2.1 (dR w i).2.2.2);rw[sk]at h2;unfold fI;omega
abbrev D8:aJ:=⟨.aw iV tI,fm,λx=>lQ x.1/\fH x.1 x.2=true,λx=>fI x.1 x.2⟩
theorem anU(w:a7)(i:Int)(hw:lQ w)(E:fH w i=true):M' D7.sh (w,i)=M.pure (fI w i):=by
 unfold M';have bR:=rk.1 E;have ai:=OS hw.2 E;simp only[bG,bR,and_self,M.be];rw[M.fZ (dJ (dR w i).2.2.1 (dR w i).2.2.2) (λk (l:z1')=>(i,(dR w i).2.2.1+(k:Int),w,l,())) (λn l=>.next (if vS w i n=true then l++[n] else l)) (λl=>.next (l,())) (λk l=>l.length<=k) [] ?_ ?_ ?_ ?_]
 ·rw[dP,MW];simp only[M.aE,M.bK,List.nil_append];rfl
 ·simp[dR]
 ·simp
 ·intro k ao l OT;have ub:k<1000:=by rw[sk]at ao;omega
  have pT:(dR w i).2.2.1+(k:Int)<=(dR w i).2.2.2:=by rw[sk]at ao;omega
  have gB:=bn (n:=(dR w i).2.2.1+(k:Int)+1) (by omega) (by omega);have x8:=bn (n:=(dR w i).2.2.1+((k:Int)+1)) (by omega) (by omega);refine⟨?_,λaZ ab=>?_⟩
  ·have aA:List.getD w.1 i.toNat (0,0,0,0)=dR w i:=rfl;have kC:bT (l.length+(0+1)):=by unfold bT;omega
   have e1:(((k+1:Nat):Int))=(k:Int)+1:=by omega
   simp only[bR,and_self,M.be,aA,pT,decide_true,if_true,aJ.sh,D7,M.c_,hw,E,z1,b2,hX,MV,M.bk kC];cases vS w i ((dR w i).2.2.1+(k:Int))<;>simp[x8,Int.add_assoc]
  grind
 ·intro l OT;have aA:List.getD w.1 i.toNat (0,0,0,0)=dR w i:=rfl;have:¬(dR w i).2.2.1+((dJ (dR w i).2.2.1 (dR w i).2.2.2).length:Int)<=(dR w i).2.2.2:=by rw[sk];omega
  simp only[bR,and_self,M.be,aA,this,decide_false,Bool.false_eq_true,if_false,M.aE]
theorem anV(x):M.le (M' D7.sh x) (D8.sh x):=M.bg λh=>anU x.1 x.2 h.1 h.2
theorem YH{w:a7}{i:Nat}(h:i<w.1.length):fH w (i:Int)=true:=by rw[rk];omega
def sL(w:a7):Bool:=(List.range w.1.length).all λi=>!decide (((fI w (i:Int)).length:Int)=0)
def cW(w:a7)(bO:Bool):Int:=if cu w≠0 then cu w else if bO=false then 1 else if sL w=true then 0 else 3
theorem HV{w:a7}(h:cu w=0):kO w=true:=by
 unfold cu at h;grind
abbrev HW:aJ:=⟨.aw iV cN,tI,λx=>fG x.1,λx=>cW x.1 x.2⟩
theorem anW(w:a7)(bO:Bool)(h:fG w):M_ gY.sh D8.sh (w,bO)=M.pure (cW w bO):=by
 unfold M_ cW;simp only[aJ.sh,gY,M.c_,M.bk h];by_cases hc:cu w=0
 ·have hw:lQ w:=⟨h,HV hc⟩
  have YI:=x7 hw.2;simp only[hc,ne_eq,not_true,decide_false,Bool.false_eq_true,if_false];cases bO with
  | false=>simp
  | true=>
   simp only[Bool.not_true,Bool.false_eq_true,if_false,Bool.true_eq_false];rw[M.dh (List.range w.1.length) (λi (_:Unit)=>((i:Int),w,())) (λi b=>if decide (((fI w (i:Int)).length:Int)=0)=true then .done (.done (3:Int)) else .next b) (λ_=>.next ()) () ?_ ?_ ?_]
   ·rw[j7 (q:=λ(i:Nat)=>!decide (((fI w (i:Int)).length:Int)=0)) _ _ (λi=>by simp)];have e:((List.range w.1.length).all λ(i:Nat)=>!decide (((fI w (i:Int)).length:Int)=0))=sL w:=rfl;rw[e];cases sL w<;>simp
   ·rfl
   ·intro i E b;have E:i<w.1.length:=by grind
    have gB:=bn (n:=(i:Int)+1) (by omega) (by omega);simp only[bG,cC E,if_true,List.getElem_range,D8,hw,YH E,and_self,M.c_,M.be,M.aE,b2,gB];exact lJ (mk:=λ_:Unit=>((i:Int)+1,w,()))
   simp
 grind
theorem anX(x):M.le (M_ gY.sh D8.sh x) (HW.sh x):=M.bg λh=>anW x.1 x.2 h
abbrev sM:aJ:=⟨iV,tI,fG,λw=>cW w true⟩
theorem anY(x):M.le (U5 HW.sh x) (sM.sh x):=M.bg λh=>by
 unfold U5;simp only[aJ.sh,HW,M.c_,M.bk (show fG x from h),sM]
theorem AQ{w:a7}{bO:Bool}(h:cW w bO=0):cu w=0/\bO=true/\sL w=true:=by
 unfold cW at h;grind
theorem YJ{w:a7}{bO:Bool}(hs:fG w)(h:cW w bO=0):lQ w:=⟨hs,HV (AQ h).1⟩
theorem anZ{w:a7}(h:sL w=true){i:Int}(E:fH w i=true):0<(fI w i).length:=by
 rw[rk]at E;have:=List.all_eq_true.1 h i.toNat (by grind);grind
def sN(w:a7)(i:Int):(Int×Int)×Int:=if cW w (fH w i)≠0 then ((0,0),cW w (fH w i)) else (((fI w i).getD 0 0,(fI w i).getD ((fI w i).length - 1) 0),0)
abbrev x9:aJ:=⟨.aw iV tI,.aw mi tI,λx=>fG x.1,λx=>sN x.1 x.2⟩
def HX(some many:Int):Int:=if some=many then 1 else if some=0 then 2 else 3
abbrev HY:aJ:=⟨.aw tI tI,tI,λ_=>True,λx=>HX x.1 x.2⟩
theorem YK{aj:Type}{p:aj->Bool}:∀ (l:List aj) (n:Int),l.foldl (λn x=>if p x=true then n+1 else n) n=n+(l.countP p:Int)
 | [],n=>by simp
 | x::l,n=>by
  simp only[List.foldl_cons,List.countP_cons];rw[YK l];grind
def ur(w:a7)(i m k:Int):Int:=HX ((fI w i).countP λn=>uq w i n m k:Int) ((fI w i).length:Int)
def qo(w:a7)(i m k:Int):Int×Int:=if cW w (fH w i&&ig w m k)≠0 then (0,cW w (fH w i&&ig w m k)) else (ur w i m k,0)
abbrev AR:aJ:=⟨.aw iV (.aw tI (.aw tI tI)),.aw tI tI,λx=>fG x.1,λx=>qo x.1 x.2.1 x.2.2.1 x.2.2.2⟩
section
variable {aj:Type}
def xS(d:aj)(x:List aj×(aj->M Bool)):M Int:=
 M.bind (M.loop (λ(A:List aj×(aj->M Bool)×Int×Int×Unit)=>if decide (A.2.2.2.1<A.2.2.1)=true then M.ae (0<=A.2.2.2.1/\
 A.2.2.2.1<Int.ofNat (List.length A.1)) (M.bind (A.2.1 (List.getD A.1 (Int.toNat A.2.2.2.1) d)) λy=>if y=true then M.bind (M.bind (M.pure
 A.2.2.2.1) λr=>M.pure (aa.done r)) λr=>M.pure (aa.done r) else M.pure (aa.next (A.1,A.2.1,A.2.2.1,IntKind.wrap .i64 (Add.add
 A.2.2.2.1 1),()))) else M.bind (M.pure (aa.next ())) λr=>M.pure (aa.done r)) (x.1,x.2,Int.ofNat (List.length x.1),0,())) (aa.bm λ(A
 : Unit)=>M.pure (-1))
def DH(c:List aj×(aj->M Bool)->M Int)(x:List aj×(aj->M Bool)):M Bool:=M.bind (c x) λy=>M.pure (decide (y>=0))
def YL(c:List aj×(aj->M Bool)->M Bool)(c1:aj×Option (aj->M Bool)->M Bool)(x:List aj×(aj->M Bool)):M Bool:=
 M.bind (c (x.1,λhg=>c1 (hg,some x.2))) λy=>M.pure !y
def YM(x:aj×Option (aj->M Bool)):M Bool:=M.bind (Option.getD x.2 (λx=>{ bY:=False,bC:=λx=>False }) x.1) λy=>M.pure !y
def hA(p:aj->Bool):List aj->Int->Int
 | [],_=>-1
 | x::l,i=>if p x=true then i else hA p l (i+1)
theorem Ae(p:aj->Bool):∀ (l:List aj) (i:Int),0<=i->(decide (hA p l i>=0))=l.any p
 | [],i,_=>by rfl
 | x::l,i,h=>by
  simp only[hA,List.any_cons];by_cases hx:p x=true
  ·grind
  ·have:=Ae p l (i+1) (by omega);grind
theorem Af(p:aj->Bool):∀ (l:List aj) (i:Int),eE (λx (i:Int)=>if p x=true then (.done (.done i):aa Int (aa Unit Int)) else .next (i+1)) (λ_=>.next ()) l i=if l.any p=true then .done (hA p l i) else .next ()
 | [],i=>by rfl
 | x::l,i=>by
  simp only[eE,List.any_cons,hA];by_cases hx:p x=true
  ·grind
  ·have:=Af p l (i+1);grind
theorem DI{p:aj->Bool}:∀ (l:List aj) (i:Int),¬l.any p=true->hA p l i=-1
 | [],_,_=>rfl
 | x::l,i,az=>by
  simp only[List.any_cons,Bool.or_eq_true,not_or]at az;simp only[hA,az.1,Bool.false_eq_true,if_false];exact DI l _ az.2
theorem NU(d:aj)(l:List aj)(f:aj->M Bool)(h:l.length<2 ^ 63)(ar:∀ y∈l,∃ b,f y=M.pure b):xS d (l,f)=M.pure (hA (λy=>(f y).val false) l 0):=by
 unfold xS;rw[M.fZ l (λi (b:Int)=>(l,f,(l.length:Int),b,())) (λy (i:Int)=>if (f y).val false=true then (.done (.done i):aa Int (aa Unit Int)) else .next (i+1)) (λ_=>.next ()) (λi b=>b=(i:Int)) 0 ?_ ?_ ?_ ?_]
 ·rw[Af (λy=>(f y).val false)];by_cases aV:(l.any λy=>(f y).val false)=true
  ·simp[aV]
  ·have:hA (λy=>(f y).val false) l 0=-1:=by
    have:∀ (l:List aj) (i:Int),¬(l.any λy=>(f y).val false)=true->hA (λy=>(f y).val false) l i=-1:=by
     intro l;induction l with
     | nil=>intro i _;rfl
     | cons x l aH=>
      intro i az;simp only[List.any_cons,Bool.or_eq_true,not_or]at az;simp only[hA,az.1,Bool.false_eq_true,if_false];grind
    grind
   simp[aV,this]
 ·rfl
 ·rfl
 ·intro i E b ab;subst ab;have hw:=bn (n:=(i:Int)+1) (by omega) (by omega);refine⟨?_,λaZ cS=>?_⟩
  ·obtain⟨b,ab⟩:=ar _ (List.getElem_mem E);simp only[bG,cC E,if_true,cV E,ct E,M.be,ab,M.fi,M.aE,b2,hw];split<;>rfl
  grind
 simp
end
abbrev kK(e:af):aJ:=⟨.aw (.slice e) (.fn e .bool),tI,λx=>x.1.length<2 ^ 63/\∀ y∈x.1,∃ b,x.2 y=M.pure b,λx=>hA (λy=>(x.2 y).val false) x.1 0⟩
theorem su(e:af)(x):M.le (xS e.cO x) ((kK e).sh x):=M.bg λh=>NU e.cO x.1 x.2 h.1 h.2
abbrev iS(e:af):aJ:=⟨.aw (.slice e) (.fn e .bool),cN,λx=>x.1.length<2 ^ 63/\∀ y∈x.1,∃ b,x.2 y=M.pure b,λx=>x.1.any λy=>(x.2 y).val false⟩
theorem sv(e:af)(x):M.le (DH (kK e).sh x) ((iS e).sh x):=M.bg λh=>by
 unfold DH;simp only[aJ.sh,kK,M.c_];rw[M.bk (by exact h)];exact congrArg M.pure (Ae (λy=>(x.2 y).val false) x.1 0 (by omega))
abbrev vT(e:af):aJ:=⟨.aw e (.bq (.fn e .bool)),cN,λx=>∃ f,x.2=some f/\∃ b,f x.1=M.pure b,λx=>!((x.2.getD λ_=>M.fail) x.1).val false⟩
theorem D9(e:af)(x):M.le (YM x) ((vT e).sh x):=M.bg λh=>by
 obtain⟨y,o⟩:=x;obtain⟨f,ar,b,ab⟩:=h;change o=some f at ar;subst ar;change f y=M.pure b at ab;unfold YM;simp_all
abbrev fcAllF(e:af):aJ:=⟨.aw (.slice e) (.fn e .bool),cN,λx=>x.1.length<2 ^ 63/\∀ y∈x.1,∃ b,x.2 y=M.pure b,λx=>x.1.all λy=>(x.2 y).val false⟩
theorem D_(e:af)(x):M.le (YL (iS e).sh (vT e).sh x) ((fcAllF e).sh x):=M.bg λh=>by
 obtain⟨l,f⟩:=x;obtain⟨h1,h2⟩:=h;unfold YL;have hc:∀ y∈l,(vT e).sh (y,some f)=M.pure (!(f y).val false):=λy aM=>by
  obtain⟨b,ab⟩:=h2 y aM;exact M.bE ⟨f,rfl,b,ab⟩ _
 simp only[aJ.sh,iS,M.c_];rw[M.bk ⟨h1,λy aM=>⟨_,hc y aM⟩⟩];refine congrArg M.pure ?_;rw[List.not_any_eq_all_not];simp
end Go.Fer
namespace Go.Fer
open M (aa)
theorem HZ{aj:Type}{p q:aj->Bool}:∀ {l:List aj},(∀ x∈l,p x=q x)->l.all p=l.all q
 | [],_=>rfl
 | x::l,h=>by
  grind
theorem an0(x):M.le (ajl x) (bX.sh x):=M.bg λ_=>rfl
theorem an1(x):M.le (ajm bX.sh x) (oF.sh x):=M.bg λ_=>YA x
abbrev x_:aJ:=⟨tI,cN,λ_=>True,qk⟩
theorem an2(x):M.le (Va bX.sh x) (x_.sh x):=M.bg λ_=>by
 unfold Va;simp only[aJ.sh,bX,M.c_,M.be,x_,qk]
theorem an3(x):M.le (aji bX.sh x) (pv.sh x):=M.bg λh=>Yy x.1 x.2 h
theorem an4(x):M.le (U_ bX.sh x) (rm.sh x):=M.bg λh=>by
 obtain⟨w,m,k⟩:=x;change fG w at h;have:=Yz w m k h;unfold G' at this;unfold U_;simp only[aJ.sh,AN,M.c_,M.bk h,bX,M.be,bG]at this ⊢;have ai:=h.2.1;have hw:=bn (n:=(w.2.1.length:Int) - 1) (by omega) (by omega);simp only[hw,rl];exact this
theorem an5(x):M.le (ajk x) (um.sh x):=M.bg λh=>YB x h
theorem an6(l:z1')(n:Int)(h:l.length<2 ^ 63):Nc (l,n)=M.pure (hA (λy=>decide (n=y)) l 0):=by
 unfold Nc;rw[M.fZ l (λi (b:Int)=>(l,n,(l.length:Int),b,())) (λy (i:Int)=>if decide (n=y)=true then (.done (.done i):aa Int (aa Unit Int)) else .next (i+1)) (λ_=>.next ()) (λi b=>b=(i:Int)) 0 ?_ ?_ ?_ ?_]
 ·rw[Af (λy=>decide (n=y))];by_cases aV:(l.any λy=>decide (n=y))=true
  ·simp_all
  ·rw[if_neg aV,DI l 0 aV];simp
 ·rfl
 ·rfl
 ·intro i E b ab;subst ab;have hw:=bn (n:=(i:Int)+1) (by omega) (by omega);refine⟨?_,λaZ cS=>?_⟩
  ·simp only[bG,cC E,if_true,cV E,ct E,M.be,M.aE,b2,hw];split<;>rfl
  grind
 simp
abbrev H0:aJ:=⟨.aw fm tI,tI,λx=>x.1.length<2 ^ 63,λx=>hA (λy=>decide (x.2=y)) x.1 0⟩
theorem an7(x):M.le (Nc x) (H0.sh x):=M.bg λh=>an6 x.1 x.2 h
theorem an8(x):M.le (U7 H0.sh x) (mj.sh x):=M.bg λh=>by
 unfold U7;simp only[aJ.sh,H0,M.c_];rw[M.bk (by exact h),Ae _ _ _ (by omega)];grind
theorem an9(x):M.le (U' x_.sh oF.sh x) ((⟨ks,cN,λ_=>True,rn⟩:aJ).sh x):=M.bg λ_=>by
 unfold U';simp only[aJ.sh,x_,oF,M.c_,M.iR,M.be,implies_true,vr,rn]
abbrev H2:aJ:=⟨ks,cN,λ_=>True,rn⟩
theorem an_(x):M.le (Vb um.sh (fcAllF tI).sh x_.sh oF.sh x) (sJ.sh x):=M.bg λh=>by
 unfold Vb;simp only[aJ.sh,um,oF,fcAllF,x_,M.c_,M.iR,M.be,implies_true,M.fY];rw[M.bk (by exact λ_=>⟨h,λy _=>⟨_,M.bE trivial _⟩⟩),M.bk (by omega)];simp only[vr,bG];refine congrArg M.pure ?_;show _=pw x;unfold pw;grind
abbrev AS:aJ:=⟨.aw kN (.bq (.fn tSlot .bool)),cN,λx=>∃ f,x.2=some f/\x.1.length<2 ^ 63/\∀ y∈x.1,∃ b,f y=M.pure b,λx=>decide ((x.1.length:Int)<=4)&&x.1.all λy=>((x.2.getD λ_=>M.fail) y).val false⟩
theorem an'(x):M.le (Vc (fcAllF tSlot).sh x) (AS.sh x):=M.bg λh=>by
 obtain⟨m,o⟩:=x;obtain⟨f,ar,h1,h2⟩:=h;change o=some f at ar;subst ar;unfold Vc;simp only[aJ.sh,fcAllF,M.c_,M.iR,Option.getD_some];simp_all
abbrev AT:aJ:=⟨.aw jK (.bq iV),cN,λx=>∃ w,x.2=some w/\fG w,λx=>sI (x.2.getD ([],[],0,[])) x.1⟩
theorem aoa(x):M.le (Vd pv.sh rm.sh bX.sh x) (AT.sh x):=M.bg λh=>by
 obtain⟨t,o⟩:=x;obtain⟨w,ar,h1⟩:=h;change o=some w at ar;subst ar;unfold Vd;simp only[aJ.sh,pv,rm,bX,M.c_,M.iR,Option.getD_some,M.bk h1,h1,implies_true,M.be,vr,AT,sI]
theorem aob(x):M.le (U9 bX.sh (fcAllF ks).sh (fcAllF kN).sh (fcAllF jK).sh AS.sh AT.sh H2.sh sJ.sh x) (sK.sh x):=M.bg λh=>by
 have h0:fG x:=h;obtain⟨h1,h2,h3,aR⟩:=(h:fG x)
 unfold U9;have d1:∀ s,H2.sh s=M.pure (rn s):=λ_=>rfl;have d2:∀ m∈x.2.1,AS.sh (m,some sJ.sh)=M.pure (ql m):=λm an=>by
  refine (M.bE ⟨_,rfl,(aR m an).1,λy aM=>⟨_,M.bE ((aR m an).2 y aM) _⟩⟩ _).trans (congrArg M.pure ?_);simp only[AS,Option.getD_some,ql,aJ.sh,M.fY];grind
 have d3:∀ t,AT.sh (t,some x)=M.pure (sI x t):=λt=>M.bE ⟨_,rfl,h0⟩ _;have bV:(x.1.all λy=>(H2.sh y).val false)=x.1.all rn:=HZ λs _=>M.fY;have a2:(x.2.1.all λy=>(AS.sh (y,some sJ.sh)).val false)=x.2.1.all ql:=HZ λm an=>(congrArg (λz:M Bool=>z.val false) (d2 m an)).trans M.fi;have a3:(x.2.2.2.all λy=>(AT.sh (y,some x)).val false)=x.2.2.2.all (sI x):=HZ λt _=>M.fY;have e1:∀ y,(fcAllF ks).sh y=M.dv ((fcAllF ks).pre y) ((fcAllF ks).g y):=λ_=>rfl;have e2:∀ y,(fcAllF kN).sh y=M.dv ((fcAllF kN).pre y) ((fcAllF kN).g y):=λ_=>rfl;have e3:∀ y,(fcAllF jK).sh y=M.dv ((fcAllF jK).pre y) ((fcAllF jK).g y):=λ_=>rfl;have e4:∀ y,bX.sh y=M.pure (bX.g y):=λ_=>rfl;simp only[e1,e2,e3,e4,M.c_,M.iR,M.j6,M.aE];rw[M.bk (by grind),M.bk (by grind),M.bk (by exact λ_=>⟨h3,λy _=>⟨_,d3 y⟩⟩)];simp only[vr,bG];refine congrArg M.pure ?_;show _=kO x;rw[bV,a2,a3];unfold kO vR;grind
def oG(m:z5')(k:Int×Int×Int):Option Int:=Option.map (λx=>x.2) (List.find? (λp=>decide (k.1=p.1.1)&&(decide (k.2.1=p.1.2.1)&&decide (k.2.2=p.1.2.2))) m)
def uu(m:z4')(k:Int):Option Int:=Option.map (λx=>x.2) (List.find? (λp=>decide (k=p.1)) m)
theorem H3{a b:Int×Int×Int}:(decide (a.1=b.1)&&(decide (a.2.1=b.2.1)&&decide (a.2.2=b.2.2)))=decide (a=b):=by
 grind
theorem aoc(k):oG [] k=none:=rfl
theorem YN(k:Int×Int×Int)(v:Int)(k':Int×Int×Int):∀ m,oG (vt m k v) k'=if k'=k then some v else oG m k'
 | []=>by
  show oG [(k,v)] k'=_;by_cases h:k'=k<;>simp[oG,H3,h]
 | p::m=>by
  have aH:=YN k v k' m;show oG (if (decide (k.1=p.1.1)&&(decide (k.2.1=p.1.2.1)&&decide (k.2.2=p.1.2.2)))=true then (p.1,v)::m else p::vt m k v) k'=_;rw[H3];by_cases h:k=p.1
  ·subst h;by_cases c6:k'=p.1<;>simp[oG,H3,c6]
  ·simp only[h,decide_false,Bool.false_eq_true,if_false];simp only[oG,H3,List.find?_cons]at aH ⊢;grind
theorem YO(k v k':Int):∀ m,uu (eQ m k v) k'=if k'=k then some v else uu m k'
 | []=>by
  show uu [(k,v)] k'=_;by_cases h:k'=k<;>simp[uu,h]
 | p::m=>by
  have aH:=YO k v k' m;show uu (if decide (k=p.1)=true then (p.1,v)::m else p::eQ m k v) k'=_;by_cases h:k=p.1
  ·subst h;by_cases c6:k'=p.1<;>simp[uu,c6]
  ·simp only[h,decide_false,Bool.false_eq_true,if_false];simp only[uu,List.find?_cons]at aH ⊢;grind
def px(t:mn):Int×Int×Int:=(t.1,t.2.1,t.2.2.1)
theorem H4{a b:mn}:mV a b=true<->px a=px b/\a.2.2.2≠b.2.2.2:=by
 simp only[mV,Bool.and_eq_true,decide_eq_true_eq,px,Prod.mk.injEq];omega
theorem YP(l:List mn):nM l=true<->l.Pairwise λa b=>mV a b=false:=by
 unfold nM;rw[List.pairwise_iff_getElem];simp only[List.all_eq_true,List.mem_range,Bool.not_eq_true'];grind
def H5(m:z5')(pre:List mn):Prop:=∀ k v,oG m k=some v<->(∃ t∈pre,px t=k/\t.2.2.2=v)
def D'(m:z5')(t:mn):Bool:=Option.isSome (oG m (px t))&&decide (Option.getD (oG m (px t)) 0≠t.2.2.2)
theorem YQ{m pre}(h:H5 m pre)(hp:pre.Pairwise λa b=>mV a b=false)(t:mn):D' m t=true<->∃ a∈pre,mV a t=true:=by
 unfold D';cases ai:oG m (px t) with
 | none=>
  simp only[Option.isSome_none,Bool.false_and,Bool.false_eq_true,false_iff];rintro⟨a,aV,hc⟩;have:=(h (px t) a.2.2.2).2 ⟨a,aV,(H4.1 hc).1,rfl⟩;grind
 | some v=>
  simp only[Option.isSome_some,Bool.true_and,Option.getD_some,decide_eq_true_eq];obtain⟨b,ab,ao,hv⟩:=(h _ _).1 ai;constructor
  ·intro ea;exact⟨b,ab,H4.2 ⟨ao,by omega⟩⟩
  ·rintro⟨a,aV,hc⟩ rfl;obtain⟨c1,c2⟩:=H4.1 hc;have:=(h (px t) a.2.2.2).2 ⟨a,aV,c1,rfl⟩;grind
theorem aod{m pre}(h:H5 m pre){t:mn}(ab:∀ a∈pre,mV a t=false):H5 (vt m (px t) t.2.2.2) (pre++[t]):=by
 intro k v;rw[YN];by_cases ao:k=px t
 ·rw[if_pos ao];constructor
  ·grind
  ·rintro⟨a,aV,h1,h2⟩;rcases List.mem_append.1 aV with aV | aV
   ·have hc:=ab a aV;have:¬mV a t=true:=by grind
    rw[H4]at this;grind
   grind
 ·rw[if_neg ao,h];grind
theorem YR:∀ (b5:List mn) (m) (pre:List mn),H5 m pre->(pre.Pairwise λa b=>mV a b=false)->
  eE (λt m=>if D' m t=true then (.done (.done 71):aa _ (aa Unit Int)) else .next (vt m (px t) t.2.2.2)) (λ_=>.next ()) b5 m=if nM (pre++b5)=true then .next () else .done 71
 | [],m,pre,h,hp=>by
  have:=(YP pre).2 hp;simp[eE,this]
 | t::b5,m,pre,h,hp=>by
  simp only[eE];by_cases ab:D' m t=true
  ·simp only[ab,if_true];obtain⟨a,aV,hc⟩:=(YQ h hp t).1 ab;have:¬nM (pre++t::b5)=true:=by
    rw[YP,List.pairwise_append];grind
   grind
  ·have az:∀ a∈pre,mV a t=false:=λa aV=>by
    have:=λhc=>ab ((YQ h hp t).2 ⟨a,aV,hc⟩);grind
   simp only[ab,Bool.false_eq_true,if_false];have BO:(pre++[t]).Pairwise λa b=>mV a b=false:=by
    grind
   have:=YR b5 _ (pre++[t]) (aod h az) BO;grind
theorem aoe(w:a7)(h:fG w):Nd sK.sh w=M.pure (cu w):=by
 have hs:=h;obtain⟨h1,h2,h3,aR⟩:=h;unfold Nd;simp only[aJ.sh,sK,M.c_,M.bk hs];unfold cu;cases hw:kO w with
 | false=>simp
 | true=>
  simp only[Bool.not_true,Bool.false_eq_true,if_false,if_true];rw[M.dh w.2.2.2 (λi (m:z5')=>(w.2.2.2,(w.2.2.2.length:Int),(i:Int),m,())) (λt m=>if D' m t=true then (.done (.done 71):aa _ (aa Unit Int)) else .next (vt m (px t) t.2.2.2)) (λ_=>.next ()) [] ?_ ?_ ?_]
  ·rw[YR w.2.2.2 [] [] (λk v=>by simp[aoc]) (by simp)];simp only[List.nil_append];by_cases aG:nM w.2.2.2=true<;>simp[aG]
  ·rfl
  ·intro i E m;have gB:=bn (n:=(i:Int)+1) (by omega) (by omega);simp only[bG,cC E,if_true,cV E,ct E,M.be,M.aE,b2,gB];exact UW (mk:=λm=>(w.2.2.2,(w.2.2.2.length:Int),(i:Int)+1,m,()))
  simp
theorem aof(x):M.le (Nd sK.sh x) (gY.sh x):=M.bg λh=>aoe x h
theorem aog(w:a7)(i n m k:Int)(hw:lQ w)(E:fH w i=true)(an:ig w m k=true):Vf bX.sh mj.sh (w,i,n,m,k)=M.pure (uq w i n m k):=YF w i n m k hw E an
theorem aoh(x):M.le (Vf bX.sh mj.sh x) (fcFitsAt.sh x):=M.bg λh=>aog x.1 x.2.1 x.2.2.1 x.2.2.2.1 x.2.2.2.2 h.1 h.2.1 h.2.2
abbrev x':aJ:=⟨.aw jK (.aw (.bq tI) (.aw (.bq iV) (.bq tI))),cN,λx=>∃ i w n,x.2=(some i,some w,some n)/\lQ w/\fH w i=true/\ig w x.1.2.1 x.1.2.2.1=true,λx=>qn (x.2.2.1.getD ([],[],0,[])) (x.2.1.getD 0) (x.2.2.2.getD 0) x.1⟩
theorem aoi(x):M.le (Ve fcFitsAt.sh x) (x'.sh x):=M.bg λh=>by
 obtain⟨t,o⟩:=x;obtain⟨i,w,n,ar,hw,E,an⟩:=h;change o=_ at ar;subst ar;unfold Ve;simp only[aJ.sh,M.mf,M.fY,Option.getD_some,and_true,true_and,and_self,imp_self,M.be,ne_eq];by_cases aG:t.1=i
 ·have hp:lQ w/\fH w i=true/\ig w t.2.1 t.2.2.1=true:=⟨hw,E,an⟩
  simp[qn,aG,hp,M.bk hp]
 ·simp[qn,aG]
def py(w:a7):List (z1'):=(List.range w.1.length).map λ(i:Nat)=>fI w (i:Int)
def hB(w:a7)(bO:Bool):Option qe×Int:=if cW w bO≠0 then (none,cW w bO) else (some (w,py w),0)
abbrev AU:aJ:=⟨.aw iV cN,.aw (.bq (.st (.aw iV (.slice fm)))) tI,λx=>fG x.1,λx=>hB x.1 x.2⟩
theorem aoj{w:a7}{i:Int}:fI w i=(dJ (dR w i).2.2.1 (dR w i).2.2.2).filter λn=>w.2.2.2.all (qn w i n):=by
 unfold fI;refine List.filter_congr λn az=>?_;rw[sn]at az;simp[vS,az]
theorem YS{w:a7}:∀ (l:List Nat) (acc:List (z1')),eE (λ(i:Nat) (acc:List (z1'))=>if decide (((fI w (i:Int)).length:Int)=0)=true then (.done (.done (none,(3:Int))):aa _ (aa (List HS×List (List vP)×Int×List mn×List (z1')×Unit) (Option qe×Int))) else .next (acc++[fI w (i:Int)])) (λacc=>.next (w.1,w.2.1,w.2.2.1,w.2.2.2,acc,())) l acc
  =if (l.all λ(i:Nat)=>!decide (((fI w (i:Int)).length:Int)=0))=true then .next (w.1,w.2.1,w.2.2.1,w.2.2.2,acc++l.map (λ(i:Nat)=>fI w (i:Int)),()) else .done (none,3)
 | [],acc=>by simp[eE]
 | i::l,acc=>by
  simp only[eE,List.all_cons,List.map_cons];by_cases h:((fI w (i:Int)).length:Int)=0
  ·simp[h]
  ·simp only[h,decide_false,Bool.false_eq_true,if_false,Bool.not_false,Bool.true_and];rw[YS l];simp
theorem aok(w:a7)(bO:Bool)(h:fG w):Ni gY.sh (fcAllF jK).sh x'.sh (w,bO)=M.pure (hB w bO):=by
 unfold Ni hB cW;simp only[aJ.sh,M.c_,M.bk h];by_cases hc:cu w=0
 ·have hw:lQ w:=⟨h,HV hc⟩
  have YI:=x7 hw.2;simp only[hc,ne_eq,not_true,decide_false,Bool.false_eq_true,if_false];cases bO with
  | false=>simp
  | true=>
   simp only[Bool.not_true,Bool.false_eq_true,if_false,Bool.true_eq_false];rw[M.fZ (List.range w.1.length) (λi (acc:List (z1'))=>(w.1,(w.1.length:Int),(i:Int),w,w.1,w.2.1,w.2.2.1,w.2.2.2,acc,())) (λ(i:Nat) (acc:List (z1'))=>if decide (((fI w (i:Int)).length:Int)=0)=true then (.done (.done (none,(3:Int))):aa _ (aa (List HS×List (List vP)×Int×List mn×List (z1')×Unit) (Option qe×Int))) else .next (acc++[fI w (i:Int)])) (λacc=>.next (w.1,w.2.1,w.2.2.1,w.2.2.2,acc,())) (λi acc=>acc.length<=i) [] ?_ ?_ ?_ ?_]
   ·rw[YS];have e:((List.range w.1.length).all λ(i:Nat)=>!decide (((fI w (i:Int)).length:Int)=0))=sL w:=rfl;rw[e];by_cases aG:sL w=true<;>simp[aG,py]
   ·rfl
   ·simp
   ·intro i E acc OU;have E:i<w.1.length:=by grind
    have nL:=YH E;have ai:=OS hw.2 nL;have gB:=bn (n:=(i:Int)+1) (by omega) (by omega);have aA:w.1[i]=dR w (i:Int):=by simp[dR,List.getD_eq_getElem?_getD,E]
    refine⟨?_,λaZ ab=>?_⟩
    ·simp only[bG,cC E,if_true,cV E,ct E,M.be,aA,List.getElem_range];rw[M.fZ (dJ (dR w (i:Int)).2.2.1 (dR w (i:Int)).2.2.2) (λk (l:z1')=>(w.1,(w.1.length:Int),(i:Int),w,(i:Int),dR w (i:Int),l,(dR w (i:Int)).2.2.1+(k:Int),w.1,w.2.1,w.2.2.1,w.2.2.2,acc,())) (λn l=>.next (if w.2.2.2.all (qn w (i:Int) n)=true then l++[n] else l)) (λl=>.next (w.1,(w.1.length:Int),(i:Int),w,l,w.1,w.2.1,w.2.2.1,w.2.2.2,acc,())) (λk l=>l.length<=k) [] ?_ ?_ ?_ ?_]
     ·rw[dP,MW];simp only[M.aE,M.bK,List.nil_append];rw[<-aoj];by_cases bb:((fI w (i:Int)).length:Int)=0
      ·simp[bb]
      ·have kC:bT (acc.length+(0+1)):=by unfold bT;omega
       simp_all
     ·simp
     ·simp
     ·intro k ao l OT;have ub:k<1000:=by rw[sk]at ao;omega
      have pT:(dR w (i:Int)).2.2.1+(k:Int)<=(dR w (i:Int)).2.2.2:=by rw[sk]at ao;omega
      have x8:=bn (n:=(dR w (i:Int)).2.2.1+((k:Int)+1)) (by omega) (by omega);have kC:bT (l.length+(0+1)):=by unfold bT;omega
      refine⟨?_,λaZ ab=>?_⟩
      ·have lv:∀ t∈w.2.2.2,x'.sh (t,some (i:Int),some w,some ((dR w (i:Int)).2.2.1+(k:Int)))=M.pure (qn w (i:Int) ((dR w (i:Int)).2.2.1+(k:Int)) t):=λt aG=>M.bE ⟨_,_,_,rfl,hw,nL,(YE hw.2 aG).2⟩ _;simp only[pT,decide_true,if_true,z1];rw[M.bk (by exact⟨h.2.2.1,λt aG=>⟨_,lv t aG⟩⟩)];have e:(w.2.2.2.all λy=>(M.dv (x'.pre (y,some (i:Int),some w,some ((dR w (i:Int)).2.2.1+(k:Int)))) (x'.g (y,some (i:Int),some w,some ((dR w (i:Int)).2.2.1+(k:Int))))).val false)=w.2.2.2.all (qn w (i:Int) ((dR w (i:Int)).2.2.1+(k:Int))):=HZ λt aG=>M.fY;rw[e];by_cases ab:w.2.2.2.all (qn w (i:Int) ((dR w (i:Int)).2.2.1+(k:Int)))=true
       ·simp only[ab,if_true,b2,hX,M.bk kC,M.aE,M.bK,x8,aa.gT,Int.natCast_add,Int.natCast_one,Int.add_assoc]
       ·simp only[ab,Bool.false_eq_true,if_false,b2,hX,M.aE,M.bK,x8,aa.gT,Int.natCast_add,Int.natCast_one,Int.add_assoc]
      grind
     ·intro l OT;have:¬(dR w (i:Int)).2.2.1+((dJ (dR w (i:Int)).2.2.1 (dR w (i:Int)).2.2.2).length:Int)<=(dR w (i:Int)).2.2.2:=by rw[sk];omega
      simp only[this,decide_false,Bool.false_eq_true,if_false,M.aE]
    grind
   simp
 grind
theorem aol(x):M.le (Ni gY.sh (fcAllF jK).sh x'.sh x) (AU.sh x):=M.bg λh=>aok x.1 x.2 h
theorem aom(x):M.le (Vg x) (HY.sh x):=M.bg λ_=>by
 unfold Vg;simp only[HX,decide_eq_true_eq];grind
theorem YT(w:a7):(py w).length=w.1.length:=by simp[py]
theorem OV{w:a7}{i:Int}(h:fH w i=true):List.getD (py w) i.toNat []=fI w i:=by
 rw[rk]at h;have:i.toNat<w.1.length:=by omega
 have e:((i.toNat:Nat):Int)=i:=by omega
 simp[py,List.getD_eq_getElem?_getD,this,e]
abbrev aon:af:=.bq (.st (.aw iV (.slice fm)))
def aoo(o:Option qe)(w:a7):Prop:=o=some (w,py w)/\lQ w
abbrev H6:aJ:=⟨.aw aon (.aw tI (.aw tI tI)),tI,λx=>∃ w,aoo x.1 w/\fH w x.2.1=true/\ig w x.2.2.1 x.2.2.2=true,λx=>ur ((x.1.getD (([],[],0,[]),[])).1) x.2.1 x.2.2.1 x.2.2.2⟩
theorem aop(w:a7)(i m k:Int)(hw:lQ w)(E:fH w i=true)(an:ig w m k=true):Nj fcFitsAt.sh HY.sh (some (w,py w),i,m,k)=M.pure (ur w i m k):=by
 unfold Nj;have kC:=YG hw E;have bR:0<=i/\i<((py w).length:Int):=by rw[YT];exact rk.1 E
 simp only[Option.isSome_some,Option.getD_some,M.be,bG,OV E,M.bk bR];rw[M.fZ (fI w i) (λj (n:Int)=>(some (w,py w),i,m,k,n,fI w i,((fI w i).length:Int),(j:Int),())) (λx n=>.next (if uq w i x m k=true then n+1 else n)) (λn=>.next (some (w,py w),i,n,())) (λj n=>0<=n/\n<=(j:Int)) 0 ?_ ?_ ?_ ?_]
 ·rw[dP,YK];simp only[M.aE,M.bK,Option.isSome_some,Option.getD_some,M.be,M.bk bR,OV E,aJ.sh,M.c_,Int.zero_add];rfl
 ·rfl
 ·simp
 ·intro j aC n az;have aoq:=bn (n:=(j:Int)+1) (by omega) (by omega);have AV:=bn (n:=n+1) (by omega) (by omega);have hp:lQ w/\fH w i=true/\ig w m k=true:=⟨hw,E,an⟩
  refine⟨?_,λaZ ab=>?_⟩
  ·simp only[cC aC,if_true,cV aC,ct aC,M.be,Option.isSome_some,Option.getD_some,aJ.sh,M.c_,M.bk hp,b2,AV];cases uq w i (fI w i)[j] m k<;>simp[aoq]
  grind
 simp
theorem aor(x):M.le (Nj fcFitsAt.sh HY.sh x) (H6.sh x):=M.bg λh=>by
 obtain⟨o,i,m,k⟩:=x;obtain⟨w,⟨ar,hw⟩,E,an⟩:=h;change o=_ at ar;subst ar;exact aop w i m k hw E an
theorem YU{w:a7}{bO:Bool}(h:cW w bO=0):hB w bO=(some (w,py w),0):=by simp[hB,h]
theorem YV{w:a7}{bO:Bool}(h:cW w bO≠0):hB w bO=(none,cW w bO):=by simp[hB,h]
theorem aos(w:a7)(i:Int)(h:fG w):Nf AU.sh pv.sh (w,i)=M.pure (sN w i):=by
 unfold Nf sN;simp only[aJ.sh,M.mf,M.fY,h,M.be];by_cases ao:cW w (fH w i)=0
 ·have hw:=YJ h ao;have E:=(AQ ao).2.1;have hp:=anZ (AQ ao).2.2 E;have kC:=YG hw E;have gB:=bn (n:=((fI w i).length:Int) - 1) (by omega) (by omega);have e1:(((fI w i).length:Int) - 1).toNat=(fI w i).length - 1:=by omega
  have sg:0<=i/\i<((py w).length:Int):=by rw[YT];exact rk.1 E
  have bR:(0:Int)<=0/\(0:Int)<((fI w i).length:Int):=by omega
  have cp:(0:Int)<=((fI w i).length:Int) - 1/\((fI w i).length:Int) - 1<((fI w i).length:Int):=by omega
  simp only[YU ao,ao,ne_eq,not_true,decide_false,Bool.false_eq_true,if_false,Option.isSome_some,Option.getD_some,M.be,bG,OV E,M.bk sg,gB,e1,M.bk cp];simp_all
 ·simp[YV ao,ao]
theorem aot(x):M.le (Nf AU.sh pv.sh x) (x9.sh x):=M.bg λh=>aos x.1 x.2 h
theorem aou(w:a7)(i m k:Int)(h:fG w):Ng AU.sh pv.sh rm.sh H6.sh (w,i,m,k)=M.pure (qo w i m k):=by
 unfold Ng qo;simp only[aJ.sh,M.mf,M.fY,h,M.be,and_true,and_self,imp_self,true_and];by_cases ao:cW w (fH w i&&ig w m k)=0
 ·have hw:=YJ h ao;have E:=(AQ ao).2.1;simp only[Bool.and_eq_true]at E;simp only[YU ao,ao,ne_eq,not_true,decide_false,Bool.false_eq_true,if_false,M.c_];rw[M.bk (by exact⟨w,⟨rfl,hw⟩,E.1,E.2⟩)];rfl
 ·simp[YV ao,ao]
theorem aov(x):M.le (Ng AU.sh pv.sh rm.sh H6.sh x) (AR.sh x):=M.bg λh=>aou x.1 x.2.1 x.2.2.1 x.2.2.2 h
theorem OW{n:Int}(h1:0<=n)(h2:n<18446744073709551616):IntKind.u64.wrap n=n:=by
 show (if (false&&decide (n % 2 ^ 64>=(2 ^ (64 - 1):Int)))=true then n % 2 ^ 64 - 2 ^ 64 else n % 2 ^ 64)=n;grind
theorem OX:∀ (n:Nat) (l:z1'),l.Nodup->(∀ x∈l,0<=x/\x<(n:Int))->l.length<=n
 | 0,l,_,h=>by
  cases l with
  | nil=>simp
  | cons x l=>have:=h x (by simp);omega
 | n+1,l,az,h=>by
  have h2:=OX n (l.erase (n:Int)) (az.erase _) λx hx=>by
   grind
  grind
def aow(l:z1'):Prop:=∀ x∈l,0<=x/\x<16
def YW(l:z1'):Prop:=l.Nodup/\aow l
theorem YW.len{l:z1'}(h:YW l):l.length<=16:=OX 16 l h.1 h.2
theorem M.aox{A aF:Type}{body:A->M (aa A aF)}{p:aF->Prop}{s0:A}(n:Nat)(I:Nat->A->Prop)(h0:I 0 s0)
  (hs:∀ i,i<n->∀ s,I i s->M.b_ (body s) λst=>match st with | .next s'=>I (i+1) s' | .done r=>p r)
  (ar:∀ s,I n s->M.b_ (body s) λst=>match st with | .next _=>False | .done r=>p r):M.b_ (M.loop body s0) p:=by
 have key:∀ k i s,n - i=k->i<=n->I i s->M.b_ (M.loop body s) p:=by
  intro k;induction k with
  | zero=>
   intro i s ao E h;have:i=n:=by omega
   subst this;rw[M.Br,M.fJ];refine (ar s h).mono λy aM=>?_;cases y with
   | next s'=>grind
   | done r=>exact M.dF.2 aM
  | succ k aH=>
   intro i s ao E h;rw[M.Br,M.fJ];refine (hs i (by omega) s h).mono λy aM=>?_;cases y with
   | next s'=>grind
   | done r=>exact M.dF.2 aM
 grind
def OY(x:Int×Int):Int:=IntKind.wrap .u64
 (Add.add (IntKind.wrap .u64 (Add.add (IntKind.wrap .u64 (iZ .u64 x.1 32*iZ .u64 x.2 32)) (iZ .u64 (IntKind.wrap .u64 (Add.add (IntKind.wrap
 .u64 (iZ .u64 x.1 32*lr .u64 x.2 4294967295)) (iZ .u64 (IntKind.wrap .u64 (lr .u64 x.1 4294967295*lr .u64 x.2 4294967295)) 32))) 32)))
 (iZ .u64 (IntKind.wrap .u64 (Add.add (lr .u64 (IntKind.wrap .u64 (Add.add (IntKind.wrap .u64 (iZ .u64 x.1 32*lr .u64 x.2 4294967295)) (iZ
 .u64 (IntKind.wrap .u64 (lr .u64 x.1 4294967295*lr .u64 x.2 4294967295)) 32))) 4294967295) (IntKind.wrap .u64 (lr .u64 x.1 4294967295*iZ
 .u64 x.2 32)))) 32))
def H7:Nat->Bool
 | 0=>true
 | n+1=>decide (OY (1,(n:Int))=0)&&H7 n
theorem YX:∀ (N n:Nat),H7 N=true->n<N->OY (1,(n:Int))=0
 | 0,n,_,h=>by omega
 | N+1,n,hc,h=>by
  simp only[H7,Bool.and_eq_true,decide_eq_true_eq]at hc;by_cases e:n=N
  ·grind
  ·exact YX N n hc.2 (by omega)
def OZ(work:z1')(s:Int):z1':=((List.range work.length).filter λj=>decide (work.getD j 0=s)).map λ(j:Nat)=>(j:Int)
theorem aoy{aj β aF:Type}{f:aj->β->aa β aF}{fin:β->aF}(I:Nat->β->Prop)(Q:aF->Prop)(l:List aj)(b:β)(h0:I 0 b)
  (hs:∀ i (h:i<l.length) b,I i b->match f l[i] b with | .next aZ=>I (i+1) aZ | .done r=>Q r) (ar:∀ b,I l.length b->Q (fin b)):Q (eE f fin l b):=by
 have key:∀ (k:Nat) (r:List aj) (b:β),k<=l.length->r=l.drop k->I k b->Q (eE f fin r b):=by
  intro k r;induction r generalizing k with
  | nil=>
   intro b ao G d_;have:k=l.length:=by have:=congrArg List.length G;grind
   subst this;exact ar b d_
  | cons x r aH=>
   intro b ao G d_;have b4:k<l.length:=by
    grind
   rw[List.drop_eq_getElem_cons b4]at G;injection G with hx G
   have h1:=hs k b4 b d_;rw[<-hx]at h1;simp only[eE];grind
 grind
def cy(m:z4')(k:Int):Int:=(uu m k).getD 0
theorem aoz(m:z4')(k:Int):Option.getD (Option.map (λx=>x.2) (List.find? (λp=>decide (k=p.1)) m)) 0=cy m k:=rfl
theorem AW(k v k':Int)(m:z4'):cy (eQ m k v) k'=if k'=k then v else cy m k':=by
 unfold cy;rw[YO];grind
def rp(n:Nat)(m:z4'):Nat:=(List.range n).countP λ(s:Nat)=>decide (cy m (s:Int)=0)
theorem YY{p q:Nat->Bool}{s:Nat}(h:∀ x,x≠s->p x=q x)(hp:p s=true)(bf:q s=false):∀ (l:List Nat),l.Nodup->s∈l->l.countP p=l.countP q+1
 | [],_,hs=>by cases hs
 | x::l,az,hs=>by
  rw[List.nodup_cons]at az;rw[List.countP_cons,List.countP_cons];by_cases e:x=s
  ·subst e;have:l.countP p=l.countP q:=List.countP_congr λy aM=>by
    grind
   grind
  ·have:=YY h hp bf l az.2 (by grind);grind
theorem YZ{n:Nat}{m:z4'}{s v:Int}(h0:0<=s)(az:s<(n:Int))(an:cy m s=0)(hv:v≠0):rp n m=rp n (eQ m s v)+1:=by
 unfold rp;refine YY (s:=s.toNat) (λx hx=>?_) ?_ ?_ _ List.nodup_range (by grind)
 ·rw[AW,if_neg (by omega)]
 ·grind
 ·rw[AW,if_pos (by omega)];grind
theorem Y0{n:Nat}{a b:z4'}(h:∀ k,0<=cy a k/\cy a k<=cy b k):rp n b<=rp n a:=by
 unfold rp;refine List.countP_mono_left λx _ hx=>?_;grind
abbrev kP:=z1'×z4'
def aa.uv{β aF je:Type}(g:aF->je):aa β aF->aa β je
 | .next b=>.next b
 | .done r=>.done (g r)
def ya{aj β aF:Type}(f:aj->β->aa β aF):List aj->β->aa β aF
 | [],b=>.next b
 | x::l,b=>match f x b with
  | .next aZ=>ya f l aZ
  | .done r=>.done r
def aa.fin{β aF:Type}(n:β->aF):aa β aF->aF
 | .next b=>n b
 | .done r=>r
theorem O0{aj β aF:Type}{f:aj->β->aa β aF}{n:β->aF}:∀ (l:List aj) (b:β),eE f n l b=aa.fin n (ya f l b)
 | [],b=>rfl
 | x::l,b=>by
  simp only[eE,ya];cases f x b with
  | next aZ=>exact O0 l aZ
  | done r=>rfl
theorem Y1{aj β aF je:Type}{f:aj->β->aa β aF}{g:aF->je}:∀ (l:List aj) (b:β),ya (λx b=>aa.uv g (f x b)) l b=aa.uv g (ya f l b)
 | [],b=>rfl
 | x::l,b=>by
  simp only[ya];cases f x b with
  | next aZ=>exact Y1 l aZ
  | done r=>rfl
def aoA(w:a7):Prop:=w.1.length<=2000000/\w.2.1.length<=2000000/\w.2.2.2.length<=2000000/\∀ m∈w.2.1,m.length<=2000000/\∀ s∈m,s.2.1.length<=2000000
def yb(m:List (Int×z1'×Int×Int)):Bool:=decide ((m.length:Int) > 20)||m.any λs=>decide ((s.2.1.length:Int) > 20)
def lP(w:a7):Bool:=
 if (decide ((w.1.length:Int) > 40)||decide ((w.2.1.length:Int) > 40)||decide ((w.2.2.2.length:Int) > 60))=true then true
 else if w.2.1.any yb=true then true
 else if cu w≠0 then false
 else if (w.1.any λs=>decide (IntKind.i64.wrap (s.2.2.2 - s.2.2.1)>=50))=true then true
 else decide ((w.1.length:Int) > 6)||decide ((w.2.1.length:Int) > 4)||decide ((w.2.2.2.length:Int) > 10)
abbrev vM:aJ:=⟨iV,cN,fG,lP⟩
theorem aoB(w:a7)(h:fG w):Nl gY.sh w=M.pure (lP w):=by
 unfold Nl lP;simp only[bG];by_cases h1:(decide ((w.1.length:Int) > 40)||decide ((w.2.1.length:Int) > 40)||decide ((w.2.2.2.length:Int) > 60))=true
 ·grind
 ·rw[if_neg h1,if_neg h1];have ai:=h;obtain⟨c7,q2,q3,rq⟩:=h;rw[M.dh w.2.1 (λi (_:Unit)=>((i:Int),w,())) (λm u=>if yb m=true then .done (.done true) else .next u) (λ_=>.next (w,())) () ?_ ?_ ?_]
  ·rw[qd];by_cases h2:w.2.1.any yb=true
   ·simp only[h2,if_true,M.aE,M.pb]
   ·simp only[h2,Bool.false_eq_true,if_false,M.aE,M.bK,aJ.sh,M.c_,M.bk ai];by_cases h3:cu w=0
    ·simp only[h3,ne_eq,not_true,decide_false,Bool.false_eq_true,if_false];rw[M.dh w.1 (λi (_:Unit)=>((i:Int),w,())) (λs u=>if decide (IntKind.i64.wrap (s.2.2.2 - s.2.2.1)>=50)=true then .done (.done true) else .next u) (λ_=>.next (w,())) () ?_ ?_ ?_]
     ·rw[qd];by_cases aR:(w.1.any λs=>decide (IntKind.i64.wrap (s.2.2.2 - s.2.2.1)>=50))=true
      ·simp_all
      ·simp only[aR,Bool.false_eq_true,if_false,M.aE,M.bK]
     ·rfl
     ·intro i E u;have lf:=bn (n:=(i:Int)+1) (by omega) (by omega);simp only[bG,cC E,if_true,ct E,M.be,cV E,M.aE,b2,lf];exact lJ (mk:=λ_:Unit=>((i:Int)+1,w,()))
     simp
    grind
  ·rfl
  ·intro i E u;have lf:=bn (n:=(i:Int)+1) (by omega) (by omega);have an:=rq _ (List.getElem_mem E);simp only[bG,cC E,if_true,ct E,M.be,cV E,M.aE];by_cases bw:decide ((w.2.1[i].length:Int) > 20)=true
   ·have ar:yb w.2.1[i]=true:=by unfold yb;grind
    simp_all
   ·have ar:yb w.2.1[i]=w.2.1[i].any λs=>decide ((s.2.1.length:Int) > 20):=by unfold yb;grind
    rw[if_neg bw];rw[M.dh w.2.1[i] (λk (_:Unit)=>((i:Int),(k:Int),w,())) (λs u=>if decide ((s.2.1.length:Int) > 20)=true then .done (.done (.done (.done true))) else .next u) (λ_=>.next ((i:Int),w,())) () ?_ ?_ ?_]
    ·rw[qd,ar];by_cases cZ:(w.2.1[i].any λs=>decide ((s.2.1.length:Int) > 20))=true
     ·simp_all
     ·simp only[cZ,Bool.false_eq_true,if_false,M.aE,M.bK,b2,lf];rfl
    ·rfl
    ·intro k ao u;have mm:=bn (n:=(k:Int)+1) (by omega) (by omega);simp only[ct E,M.be,cV E,cC ao,if_true,ct ao,cV ao,M.aE,b2,mm];exact lJ (mk:=λ_:Unit=>((i:Int),(k:Int)+1,w,()))
    simp_all
  simp
theorem aoC(x):M.le (Nl gY.sh x) (vM.sh x):=M.bg λh=>aoB x h
def H8:a7:=([(1,2,300,310),(1,3,305,305),(2,1,50,60),(1,2,320,330)],[[(1,[2,3],300,306),(2,[1],40,58)],[(1,[2],310,326)]],5,[(0,1,0,0)])
abbrev O1:aJ:=⟨.cz,iV,λ_=>True,λ_=>H8⟩
theorem aoD(x):M.le (ajq x) (O1.sh x):=M.bg λ_=>rfl
theorem aoE:fG H8:=by
 refine⟨by decide,by decide,by decide,?_⟩;intro m an;simp only[H8,List.mem_cons,List.not_mem_nil,or_false]at an;grind
abbrev mW:af:=.st (.aw tI (.aw tI (.aw tI (.aw tI fm))))
abbrev tWi:af:=.st (.aw fm (.aw mi (.aw tI (.aw tI tI))))
abbrev pz:af:=.st (.aw tI (.aw tI tI))
abbrev lR:af:=.st (.aw iV (.aw fm (.aw (.slice mW) (.aw (.slice tWi) (.aw (.slice pz) tI)))))
def fb(s:br):Prop:=fG s.1/\s.2.1.length<2 ^ 63/\s.2.2.1.length<2 ^ 63/\s.2.2.2.1.length<2 ^ 63/\s.2.2.2.2.1.length<2 ^ 63/\(∀ p∈s.2.2.1,p.2.2.2.2.length<2 ^ 63)/\∀ x∈s.2.2.2.1,x.1.length<2 ^ 63
def bM(n lo E:Int):Bool:=decide (lo<=n)&&decide (n<=E)
def jL(n:Int):Bool:=bM n 0 99
def jM(p:Int->Bool)(l:z1'):Bool:=(List.range l.length).all λi=>p (l.getD i 0)&&!(decide (0<i)&&decide (l.getD i 0<=l.getD (i - 1) 0))
def Ea(w:a7)(m:Int)(n:Int):Bool:=decide (0<=n)&&decide (n<((jl w m).length:Int))
def pA(w:a7)(p:db):Bool:=jL p.1&&jL p.2.1&&jL p.2.2.1&&nQ w p.2.2.2.1&&jM (Ea w p.2.2.2.1) p.2.2.2.2
def oH(x:dr):Bool:=bM (x.1.length:Int) 1 8&&jM jL x.1&&jL x.2.1.1&&jL x.2.1.2&&decide (x.2.1.1<=x.2.1.2)&&jL x.2.2.1&&jL x.2.2.2.1&&bM x.2.2.2.2 0 100000
def oI(w:a7)(d:Du):Bool:=jL d.1&&fH w d.2.1&&bM d.2.2 1 10
def mX(s:br):Bool:=decide ((s.2.1.length:Int)=(s.1.1.length:Int))&&(s.2.1.all λn=>bM n 0 10)&&decide ((s.2.2.1.length:Int)<=8)&&s.2.2.1.all (pA s.1)&&decide ((s.2.2.2.1.length:Int)<=6)&&s.2.2.2.1.all oH&&decide ((s.2.2.2.2.1.length:Int)<=8)&&s.2.2.2.2.1.all (oI s.1)&&jL s.2.2.2.2.2
def iW(s:br):Int:=if cu s.1≠0 then cu s.1 else if mX s=true then 0 else 80
theorem aoF(x):M.le (ajM x) (bX.sh x):=M.bg λ_=>rfl
theorem aoG(x):M.le (ajG x) (bX.sh x):=M.bg λ_=>rfl
abbrev fcHund:aJ:=⟨tI,cN,λ_=>True,jL⟩
theorem aoH(x):M.le (Vz bX.sh x) (fcHund.sh x):=M.bg λ_=>by
 unfold Vz;simp[aJ.sh,bX,jL,bM]
theorem aoI(x):M.le (VD bX.sh x) (fcHund.sh x):=M.bg λ_=>by
 unfold VD;simp[aJ.sh,bX,jL,bM]
abbrev fcRising:aJ:=⟨.aw fm (.fn tI .bool),cN,λx=>x.1.length<2 ^ 63/\∀ y∈x.1,∃ b,x.2 y=M.pure b,λx=>jM (λy=>(x.2 y).val false) x.1⟩
theorem aoJ(x):M.le (VA x) (fcRising.sh x):=M.bg λh=>by
 obtain⟨l,f⟩:=x;obtain⟨h1,h2⟩:=h;change l.length<2 ^ 63 at h1;change ∀ y∈l,∃ b,f y=M.pure b at h2;unfold VA;rw[M.dh (List.range l.length) (λi (_:Unit)=>(l,f,l,(l.length:Int),(i:Int),())) (λi b=>if (!((f (l.getD i 0)).val false&&!(decide (0<i)&&decide (l.getD i 0<=l.getD (i - 1) 0))))=true then .done (.done false) else .next b) (λ_=>.next ()) () ?_ ?_ ?_]
 ·rw[j7 (q:=λi=>(f (l.getD i 0)).val false&&!(decide (0<i)&&decide (l.getD i 0<=l.getD (i - 1) 0))) _ _ (λ_=>rfl)];show _=M.pure (jM (λy=>(f y).val false) l);unfold jM;cases (List.range l.length).all λi=>(f (l.getD i 0)).val false&&!(decide (0<i)&&decide (l.getD i 0<=l.getD (i - 1) 0))<;>simp
 ·rfl
 ·intro i E b;have E:i<l.length:=by grind
  have hw:=bn (n:=(i:Int)+1) (by omega) (by omega);have gl:=bn (n:=(i:Int) - 1) (by omega) (by omega);have e2:((i:Int) - 1).toNat=i - 1:=by omega
  obtain⟨c,hc⟩:=h2 _ (List.getElem_mem E);have iD:l.getD i 0=l[i]:=by grind
  have ep:(decide ((i:Int) > 0))=decide (0<i):=by simp
  simp only[bG,cC E,if_true,List.getElem_range,cV E,ct E,M.be,iD,hc,M.fi,M.aE,b2,hw,gl,e2,ep];rw[M.bk (by grind)];cases c<;>cases (decide (0<i)&&decide (l[i]<=l.getD (i - 1) 0))<;>rfl
 simp
abbrev H9:aJ:=⟨.aw fm tI,cN,λx=>x.1.length<2 ^ 63,λx=>jM (λn=>bM n 0 x.2) x.1⟩
theorem aoK(x):M.le (VG x) (H9.sh x):=M.bg λh=>by
 obtain⟨l,m⟩:=x;change l.length<2 ^ 63 at h;unfold VG;rw[M.dh (List.range l.length) (λi (_:Unit)=>(l,m,(i:Int),())) (λi b=>if (!(bM (l.getD i 0) 0 m&&!(decide (0<i)&&decide (l.getD i 0<=l.getD (i - 1) 0))))=true then .done (.done false) else .next b) (λ_=>.next ()) () ?_ ?_ ?_]
 ·rw[j7 (q:=λi=>bM (l.getD i 0) 0 m&&!(decide (0<i)&&decide (l.getD i 0<=l.getD (i - 1) 0))) _ _ (λ_=>rfl)];show _=M.pure (jM (λn=>bM n 0 m) l);unfold jM;cases (List.range l.length).all λi=>bM (l.getD i 0) 0 m&&!(decide (0<i)&&decide (l.getD i 0<=l.getD (i - 1) 0))<;>simp
 ·rfl
 ·intro i E b;have E:i<l.length:=by grind
  have hw:=bn (n:=(i:Int)+1) (by omega) (by omega);have gl:=bn (n:=(i:Int) - 1) (by omega) (by omega);have e2:((i:Int) - 1).toNat=i - 1:=by omega
  have iD:l.getD i 0=l[i]:=by grind
  have ep:(decide ((i:Int) > 0))=decide (0<i):=by simp
  simp only[bG,cC E,if_true,List.getElem_range,cV E,ct E,M.be,iD,M.aE,b2,hw,gl,e2,ep];have sg:0<i->(0:Int)<=(i:Int) - 1/\(i:Int) - 1<(l.length:Int):=by omega
  generalize l.getD (i - 1) 0=B;generalize l[i]=aI;by_cases h8:aI<0<;>by_cases tz:aI > m<;>by_cases h0:0<i<;>by_cases aN:aI<=B<;>simp_all[bM,aa.gT,M.bk]<;>(grind)<;>(grind)
 simp
theorem O2{p q:Int->Bool}{l:z1'}(h:∀ y∈l,p y=q y):jM p l=jM q l:=by
 unfold jM;grind
theorem aoL(n:Int)(k:Nat):bM n 0 ((k:Int) - 1)=(decide (0<=n)&&decide (n<(k:Int))):=by
 unfold bM;grind
theorem aoM(a b:Int):decide (a > b)=!decide (a<=b):=by grind
abbrev Eb:aJ:=⟨.aw tI (.aw (.bq iV) (.bq mW)),cN,λx=>∃ w p,x.2=(some w,some p)/\fG w/\nQ w p.2.2.2.1=true,λx=>Ea (x.2.1.getD ([],[],0,[])) (x.2.2.getD (0,0,0,0,[])).2.2.2.1 x.1⟩
theorem aoN(x):M.le (VB bX.sh x) (Eb.sh x):=M.bg λh=>by
 obtain⟨n,o⟩:=x;obtain⟨w,p,ar,hw,an⟩:=h;change o=_ at ar;subst ar;unfold VB;have r:=HT.1 an;have ai:=HU hw p.2.2.2.1;have gB:=bn (n:=((jl w p.2.2.2.1).length:Int) - 1) (by omega) (by omega);unfold jl at gB;simp only[aJ.sh,bX,Option.getD_some,bG,r,and_self,M.be,gB,M.c_,rl];rfl
abbrev Ec:aJ:=⟨.aw mW (.bq iV),cN,λx=>x.1.2.2.2.2.length<2 ^ 63/\∃ w,x.2=some w/\fG w,λx=>!pA (x.2.getD ([],[],0,[])) x.1⟩
theorem aoO(x):M.le (Vy bX.sh fcHund.sh fcRising.sh Eb.sh x) (Ec.sh x):=M.bg λh=>by
 obtain⟨p,o⟩:=x;obtain⟨hp,w,ar,hw⟩:=h;change o=_ at ar;change p.2.2.2.2.length<2 ^ 63 at hp;subst ar;unfold Vy;have ai:=hw.2.1;have gB:=bn (n:=((w.2.1.length:Int)) - 1) (by omega) (by omega);have e1:(decide (0<=p.2.2.2.1)&&decide (p.2.2.2.1<(w.2.1.length:Int)))=nQ w p.2.2.2.1:=rfl;simp only[aJ.sh,bX,Option.getD_some,bG,M.be,gB,M.c_,M.iR,rl,implies_true,qc,e1];have key:nQ w p.2.2.2.1=true->(jM (λy=>(M.dv (Eb.pre (y,some w,some p)) (Eb.g (y,some w,some p))).val false) p.2.2.2.2)=jM (Ea w p.2.2.2.1) p.2.2.2.2:=λan=>O2 λy aM=>M.fY;rw[M.bk]
 ·show M.pure _=M.pure _;congr 1;show _=!pA w p;unfold pA;simp
 ·intro cA;have an:nQ w p.2.2.2.1=true:=by
   grind
  exact⟨hp,λy aM=>⟨_,M.bE ⟨w,p,rfl,hw,an⟩ _⟩⟩
abbrev Ed:aJ:=⟨tWi,cN,λx=>x.1.length<2 ^ 63,λx=>!oH x⟩
theorem aoP(x):M.le (VC bX.sh fcHund.sh fcRising.sh fcHund.sh x) (Ed.sh x):=M.bg λh=>by
 unfold VC;have key:(jM (λy=>(M.dv (fcHund.pre y) (fcHund.g y)).val false) x.1)=jM jL x.1:=O2 λy aM=>M.fY;simp only[aJ.sh,bX,bG,M.be,M.c_,M.iR,implies_true,qc];rw[M.bk]
 ·show M.pure _=M.pure (!oH x);congr 1;unfold oH;rw[key];have e:decide (x.2.1.1 > x.2.1.2)=!decide (x.2.1.1<=x.2.1.2):=by grind
  rw[e];show _=!(bM (x.1.length:Int) 1 8&&_&&_&&_&&_&&_&&_&&_);unfold bM;simp
 ·exact λ_=>⟨h,λy aM=>⟨_,M.bE trivial _⟩⟩
abbrev Ee:aJ:=⟨.aw pz (.bq iV),cN,λx=>∃ w,x.2=some w/\fG w,λx=>!oI (x.2.getD ([],[],0,[])) x.1⟩
theorem aoQ(x):M.le (VE bX.sh fcHund.sh x) (Ee.sh x):=M.bg λh=>by
 obtain⟨d,o⟩:=x;obtain⟨w,ar,hw⟩:=h;change o=_ at ar;subst ar;unfold VE;have ai:=hw.1;have gB:=bn (n:=((w.1.length:Int)) - 1) (by omega) (by omega);simp only[aJ.sh,bX,Option.getD_some,bG,M.be,gB,M.c_,M.iR,rl,implies_true,qc];show M.pure _=M.pure (!oI w d);congr 1;unfold oI fH bM;simp
abbrev Ef:aJ:=⟨tI,cN,λ_=>True,λn=>!bM n 0 10⟩
theorem aoR(x):M.le (VF bX.sh x) (Ef.sh x):=M.bg λ_=>by
 unfold VF;simp[aJ.sh,bX,bM]
theorem H_{aj:Type}{p q:aj->Bool}{l:List aj}(h:∀ x∈l,p x=!q x):l.any p=!l.all q:=by
 grind
abbrev O3:aJ:=⟨lR,cN,fb,mX⟩
theorem aoS(x):M.le (Vr fcHund.sh (iS tI).sh (iS mW).sh (iS tWi).sh (iS pz).sh Ec.sh Ee.sh Ed.sh Ef.sh x) (O3.sh x):=M.bg λh=>by
 obtain⟨h1,h2,h3,aR,bw,cZ,fN⟩:=h;unfold Vr;simp only[aJ.sh,bG,M.be,M.c_,M.iR,implies_true];have aO:(x.2.1.any λy=>(M.dv (Ef.pre y) (Ef.g y)).val false)=!x.2.1.all λn=>bM n 0 10:=H_ λy _=>M.fY;have aP:(x.2.2.1.any λy=>(M.dv (Ec.pre (y,some x.1)) (Ec.g (y,some x.1))).val false)=!x.2.2.1.all (pA x.1):=H_ λy _=>M.fY;have bA:(x.2.2.2.1.any λy=>(M.dv (Ed.pre y) (Ed.g y)).val false)=!x.2.2.2.1.all oH:=H_ λy _=>M.fY;have gi:(x.2.2.2.2.1.any λy=>(M.dv (Ee.pre (y,some x.1)) (Ee.g (y,some x.1))).val false)=!x.2.2.2.2.1.all (oI x.1):=H_ λy _=>M.fY;rw[M.bk,M.bk,M.bk,M.bk]
 ·show M.pure _=M.pure (mX x);congr 1;unfold mX;grind
 ·exact λ_=>⟨bw,λy aM=>⟨_,M.bE ⟨_,rfl,h1⟩ _⟩⟩
 ·exact λ_=>⟨aR,λy aM=>⟨_,M.bE (fN y aM) _⟩⟩
 ·exact λ_=>⟨h3,λy aM=>⟨_,M.bE ⟨cZ y aM,_,rfl,h1⟩ _⟩⟩
 ·exact λ_=>⟨h2,λy aM=>⟨_,M.bE trivial _⟩⟩
abbrev pB:aJ:=⟨lR,tI,fb,iW⟩
theorem aoT(x):M.le (Vk gY.sh O3.sh x) (pB.sh x):=M.bg λh=>by
 unfold Vk;simp only[aJ.sh,M.c_,M.bk h.1];show _=M.pure (iW x);unfold iW;by_cases hc:cu x.1=0
 ·simp only[hc,ne_eq,not_true,decide_false,Bool.false_eq_true,if_false,M.bk h];grind
 grind
abbrev Ia:aJ:=⟨.aw lR mW,cN,λx=>fb x.1/\x.2.2.2.2.2.length<2 ^ 63,λx=>pA x.1.1 x.2⟩
theorem aoU(x):M.le (Vs bX.sh H9.sh x) (Ia.sh x):=M.bg λh=>by
 obtain⟨s,p⟩:=x;obtain⟨hs,hp⟩:=h;change fb s at hs;change p.2.2.2.2.length<2 ^ 63 at hp;unfold Vs;have ai:=hs.1.2.1;have fV:=HU hs.1 p.2.2.2.1;have gB:=bn (n:=((s.1.2.1.length:Int)) - 1) (by omega) (by omega);have x8:=bn (n:=((jl s.1 p.2.2.2.1).length:Int) - 1) (by omega) (by omega);unfold jl at x8;have e1:(decide (0<=p.2.2.2.1)&&decide (p.2.2.2.1<(s.1.2.1.length:Int)))=nQ s.1 p.2.2.2.1:=rfl;simp only[aJ.sh,bX,bG,M.be,gB,x8,M.c_,M.iR,rl,implies_true,qc,e1,M.mf,M.fY];show _=M.pure (pA s.1 p);unfold pA;have er:jM (λn=>bM n 0 (((List.getD s.1.2.1 (Int.toNat p.2.2.2.1) []).length:Int) - 1)) p.2.2.2.2=jM (Ea s.1 p.2.2.2.1) p.2.2.2.2:=O2 λy _=>aoL y _;rw[er];cases an:nQ s.1 p.2.2.2.1
 ·simp
 ·have r:=HT.1 an;rw[M.bk r,M.bk (by exact hp)];unfold jL bM;grind
abbrev Ib:aJ:=⟨tWi,cN,λx=>x.1.length<2 ^ 63,oH⟩
theorem aoV(x):M.le (Vt bX.sh H9.sh x) (Ib.sh x):=M.bg λh=>by
 unfold Vt;simp only[aJ.sh,bX,bG,M.be,M.c_,M.iR,implies_true];rw[M.bk (by omega)];show M.pure _=M.pure (oH x);congr 1;unfold oH;have er:jM (λn=>bM n 0 99) x.1=jM jL x.1:=rfl;rw[er];unfold jL bM;grind
theorem aoW(x):M.le (Vl gY.sh bX.sh Ia.sh Ib.sh x) (pB.sh x):=M.bg λh=>by
 have hs:=h;obtain⟨h1,h2,h3,aR,bw,cZ,fN⟩:=h;unfold Vl;simp only[aJ.sh,M.c_,M.bk h1];show _=M.pure (iW x);unfold iW;by_cases hc:cu x.1=0
 ·simp only[hc,ne_eq,not_true,decide_false,Bool.false_eq_true,if_false,bX,M.iR,M.c_,implies_true,M.be,bG,qc,decide_not];have e:(!decide ((x.2.1.length:Int)=(x.1.1.length:Int))||decide ((x.2.2.1.length:Int) > 8)||decide ((x.2.2.2.1.length:Int) > 6)||decide ((x.2.2.2.2.1.length:Int) > 8)||!(decide (0<=x.2.2.2.2.2)&&decide (x.2.2.2.2.2<=99)))=!(decide ((x.2.1.length:Int)=(x.1.1.length:Int))&&decide ((x.2.2.1.length:Int)<=8)&&decide ((x.2.2.2.1.length:Int)<=6)&&decide ((x.2.2.2.2.1.length:Int)<=8)&&jL x.2.2.2.2.2):=by
   simp only[aoM,jL,bM,Bool.not_and]
  rw[e];by_cases cA:(decide ((x.2.1.length:Int)=(x.1.1.length:Int))&&decide ((x.2.2.1.length:Int)<=8)&&decide ((x.2.2.2.1.length:Int)<=6)&&decide ((x.2.2.2.2.1.length:Int)<=8)&&jL x.2.2.2.2.2)=true
  ·rw[if_neg (by grind)]
   ·rw[M.dh x.2.1 (λi (_:Unit)=>((i:Int),x,())) (λn b=>if (!bM n 0 10)=true then .done (.done (80:Int)) else .next b) (λ_=>.next (x,())) () ?_ ?_ ?_]
    ·rw[j7 (q:=λn=>bM n 0 10) _ _ (λ_=>rfl)];cases h8:x.2.1.all λn=>bM n 0 10 with
     | false=>simp[mX,h8]
     | true=>
      simp only[M.aE,if_true,M.bK];rw[M.dh x.2.2.1 (λi (_:Unit)=>((i:Int),x,())) (λp b=>if (!pA x.1 p)=true then .done (.done (80:Int)) else .next b) (λ_=>.next (x,())) () ?_ ?_ ?_]
      ·rw[j7 (q:=pA x.1) _ _ (λ_=>rfl)];cases aN:x.2.2.1.all (pA x.1) with
       | false=>simp[mX,aN]
       | true=>
        simp only[M.aE,if_true,M.bK];rw[M.dh x.2.2.2.1 (λi (_:Unit)=>((i:Int),x,())) (λp b=>if (!oH p)=true then .done (.done (80:Int)) else .next b) (λ_=>.next (x,())) () ?_ ?_ ?_]
        ·rw[j7 (q:=oH) _ _ (λ_=>rfl)];cases jb:x.2.2.2.1.all oH with
         | false=>simp[mX,jb]
         | true=>
          simp only[M.aE,if_true,M.bK];rw[M.dh x.2.2.2.2.1 (λi (_:Unit)=>((i:Int),x,())) (λp b=>if (!oI x.1 p)=true then .done (.done (80:Int)) else .next b) (λ_=>.next ()) () ?_ ?_ ?_]
          ·rw[j7 (q:=oI x.1) _ _ (λ_=>rfl)];simp only[Bool.and_eq_true]at cA;cases hD:x.2.2.2.2.1.all (oI x.1)<;>simp[mX,h8,aN,jb,hD,cA]
          ·rfl
          ·intro i E b;have hw:=bn (n:=(i:Int)+1) (by omega) (by omega);have ai:=h1.1;have gB:=bn (n:=((x.1.1.length:Int)) - 1) (by omega) (by omega);simp only[bG,cC E,if_true,cV E,ct E,M.be,M.aE,b2,hw,gB,qc,rl];have e:(!(decide (0<=(x.2.2.2.2.1[i]).1)&&decide ((x.2.2.2.2.1[i]).1<=99))||!(decide (0<=(x.2.2.2.2.1[i]).2.1)&&decide ((x.2.2.2.2.1[i]).2.1<(x.1.1.length:Int)))||!(decide (1<=(x.2.2.2.2.1[i]).2.2)&&decide ((x.2.2.2.2.1[i]).2.2<=10)))=!oI x.1 x.2.2.2.2.1[i]:=by
            unfold oI jL fH bM;simp
           rw[e];exact lJ (mk:=λ_:Unit=>((i:Int)+1,x,()))
          simp
        ·rfl
        ·intro i E b;have hw:=bn (n:=(i:Int)+1) (by omega) (by omega);simp only[bG,cC E,if_true,cV E,ct E,M.be,M.aE,b2,hw,M.bk (show Ib.pre x.2.2.2.1[i] from fN _ (List.getElem_mem E))];exact lJ (mk:=λ_:Unit=>((i:Int)+1,x,()))
        simp
      ·rfl
      ·intro i E b;have hw:=bn (n:=(i:Int)+1) (by omega) (by omega);simp only[bG,cC E,if_true,cV E,ct E,M.be,M.aE,b2,hw,M.mf,M.fY,M.bk (show Ia.pre (x,x.2.2.1[i]) from⟨hs,cZ _ (List.getElem_mem E)⟩)];exact lJ (mk:=λ_:Unit=>((i:Int)+1,x,()))
      simp
    ·rfl
    ·intro i E b;have hw:=bn (n:=(i:Int)+1) (by omega) (by omega);simp only[bG,cC E,if_true,cV E,ct E,M.be,M.aE,b2,hw];exact lJ (mk:=λ_:Unit=>((i:Int)+1,x,()))
    simp
  ·rw[if_pos (by grind)]
   ·have:mX x=false:=by
     unfold mX;grind
    grind
 grind
theorem aoX:H7 201=true:=by decide +kernel
abbrev sO:aJ:=⟨.aw (.int .u64) (.int .u64),.aw (.int .u64) (.int .u64),λx=>x.1=1/\0<=x.2/\x.2<=200,λx=>(0,x.2)⟩
theorem aoY(x):M.le (U8 x) (sO.sh x):=M.bg λh=>by
 obtain⟨a,b⟩:=x;obtain⟨h1,h2,h3⟩:=h;change a=1 at h1;change 0<=b at h2;change b<=200 at h3;subst h1;have h0:=YX 201 b.toNat aoX (by omega);rw[Int.toNat_of_nonneg h2]at h0;have hw:=OW (n:=1*b) (by omega) (by omega);have aoZ:((0:Int)<=32)=True:=by simp
 unfold U8;simp only[aoZ,M.be];show M.pure (OY (1,b),IntKind.wrap .u64 (1*b))=_;grind
theorem ao0(ao1)(x):M.le (U6 ao1 sO.sh x) (sO.sh x):=M.bg λh=>by
 unfold U6;simp only[aJ.sh,M.c_];simp_all
section
variable {aj β:Type}
theorem ao2(a d:aj)(m J:Nat)(h1:1<=m)(h2:m<J) :
  List.take m (List.replicate m a++List.replicate (J - m) d)++List.take (J - m) (List.take m (List.replicate m a++List.replicate (J - m) d))++
   List.drop (m+(List.take (J - m) (List.take m (List.replicate m a++List.replicate (J - m) d))).length) (List.replicate m a++List.replicate (J - m) d)
  =List.replicate (m+min (J - m) m) a++List.replicate (J - (m+min (J - m) m)) d:=by
 have e1:List.take m (List.replicate m a++List.replicate (J - m) d)=List.replicate m a:=by
  simp
 rw[e1,List.take_replicate,List.replicate_append_replicate,List.length_replicate,List.drop_append,List.length_replicate];have e2:List.drop (m+min (J - m) m) (List.replicate m a)=[]:=by simp
 grind
def Y2(d:aj)(fin:List aj->M β)(xO:Int×Int->M (Int×Int))(x:List aj)(n:Int):M β:=
 M.bind (if decide (n<0)=true then M.ae False (M.ae False (M.pure (aa.next (x,n,())))) else M.pure (aa.next (x,n,())))
 (aa.bm λ(A:List aj×Int×Unit)=>M.bind (xO (IntKind.wrap .u64 (Int.ofNat (List.length A.1)),IntKind.wrap .u64 A.2.1)) λy
 =>M.bind (if (decide (y.1 > 0)||decide (y.2 > 9223372036854775807))=true then M.ae False (M.ae False (M.pure (aa.next (A.1,y.2,())))) else
 M.pure (aa.next (A.1,y.2,()))) (aa.bm λ(A:List aj×Int×Unit)=>M.ae (0<=IntKind.wrap .i64 A.2.1/\IntKind.wrap .i64 A.2.1=
 IntKind.wrap .i64 A.2.1/\bT (Int.toNat (IntKind.wrap .i64 A.2.1))) (M.ae True (M.bind (M.loop (λ(A:Int×List aj×Unit)=>if decide (A.1
 < Int.ofNat (List.length A.2.1))=true then M.ae (0<=A.1/\A.1<=Int.ofNat (List.length A.2.1)/\Int.ofNat (List.length A.2.1)<=Int.ofNat
 (List.length A.2.1)) (M.ae ((0:Int)<=0/\0<=A.1/\A.1<=Int.ofNat (List.length A.2.1)) (M.ae True (M.pure (aa.next (IntKind.wrap .i64
 (Add.add A.1 (Int.ofNat (if Int.toNat (Int.ofNat (List.length A.2.1)) - Int.toNat A.1<=List.length (List.take (Int.toNat A.1) A.2.1) then Int.toNat
 (Int.ofNat (List.length A.2.1)) - Int.toNat A.1 else List.length (List.take (Int.toNat A.1) A.2.1)))),List.take (Int.toNat A.1) A.2.1++List.take
 (Int.toNat (Int.ofNat (List.length A.2.1)) - Int.toNat A.1) (List.take (Int.toNat A.1) A.2.1)++List.drop (Add.add (Int.toNat A.1) (List.length
 (List.take (Int.toNat (Int.ofNat (List.length A.2.1)) - Int.toNat A.1) (List.take (Int.toNat A.1) A.2.1)))) A.2.1,()))))) else M.bind (M.pure
 (aa.next (A.2.1,()))) λr=>M.pure (aa.done r)) (Int.ofNat (if List.length (List.replicate (Int.toNat (IntKind.wrap .i64 A.2.1)) d) - 0<=
 List.length A.1 then List.length (List.replicate (Int.toNat (IntKind.wrap .i64 A.2.1)) d) - 0 else List.length A.1),[]++List.take (List.length
 (List.replicate (Int.toNat (IntKind.wrap .i64 A.2.1)) d) - 0) A.1++List.drop (Add.add 0 (List.length (List.take (List.length (List.replicate
 (Int.toNat (IntKind.wrap .i64 A.2.1)) d) - 0) A.1))) (List.replicate (Int.toNat (IntKind.wrap .i64 A.2.1)) d),())) (aa.bm λ(A:List aj×
 Unit)=>fin A.1)))))
theorem O4(d a:aj)(LR:List aj->β)(n:Int)(h2:0<=n)(h3:n<=200):M.b_ (Y2 d (λl=>M.pure (LR l)) sO.sh [a] n) λy=>y=LR (List.replicate n.toNat a):=by
 obtain⟨J,rfl⟩:=Int.eq_ofNat_of_zero_le h2;have Ic:decide ((J:Int)<0)=false:=by simp
 have lB:IntKind.u64.wrap (Int.ofNat ([a]:List aj).length)=1:=OW (by simp) (by simp);have ao3:=OW (n:=(J:Int)) (by omega) (by omega);have lf:=bn (n:=(J:Int)) (by omega) (by omega);have hp:sO.pre (1,(J:Int)):=⟨rfl,h2,h3⟩
 have ao4:decide ((J:Int) > 9223372036854775807)=false:=by grind
 have kC:bT J:=by unfold bT;omega
 have G:0<=(J:Int)/\True/\bT (Int.toNat (J:Int)):=⟨h2,trivial,by grind⟩
 unfold Y2;simp only[Ic,Bool.false_eq_true,if_false,M.aE,M.bK,lB,ao3,aJ.sh,M.c_];rw[M.bk (by grind)];simp only[gt_iff_lt,Int.lt_irrefl,decide_false,Bool.false_or,Bool.false_eq_true,if_false,M.aE,M.bK,lf];have ao5:decide ((9223372036854775807:Int)<(J:Int))=false:=ao4;simp only[ao5,Bool.false_eq_true,if_false,M.aE,M.bK,lf];rw[M.bk G];simp only[M.be,M.fJ,Int.toNat_natCast,List.length_replicate,Nat.sub_zero,List.nil_append,List.length_singleton,bG,hX,Nat.zero_add];refine M.Bs (λs=>∃ m:Nat,(1<=m\/J=0)/\m<=J/\s=((m:Int),List.replicate m a++List.replicate (J - m) d,())) (λs=>J - s.1.toNat) ?_ _ ?_
 ·rintro s ⟨m,an,ax0,rfl⟩;have hlen:(List.replicate m a++List.replicate (J - m) d).length=J:=by grind
  simp only[hlen];by_cases b4:m<J
  ·have gx:0<=(m:Int)/\(m:Int)<=(J:Int)/\(J:Int)<=(J:Int):=by omega
   have cr:(0:Int)<=0/\0<=(m:Int)/\(m:Int)<=(J:Int):=by omega
   have j5:1<=m:=by omega
   have Y3:(List.take m (List.replicate m a++List.replicate (J - m) d)).length=m:=by simp
   simp only[cC b4,if_true,M.bk gx,M.bk cr,M.be,Int.toNat_natCast,Y3,b2];rw[M.dF,ao2 a d m J j5 b4];have ao6:(if J - m<=m then J - m else m)=min (J - m) m:=by rfl
   rw[ao6];have gl:=bn (n:=(m:Int)+((min (J - m) m:Nat):Int)) (by omega) (by omega);refine⟨⟨m+min (J - m) m,.inl (by omega),by omega,?_⟩,?_⟩
   ·rw[gl];simp
   ·simp only[gl];omega
  ·have:m=J:=by omega
   subst this;simp only[Int.lt_irrefl,decide_false,Bool.false_eq_true,if_false,M.aE,M.dF,M.bK,Nat.sub_self,List.replicate_zero,List.append_nil]
 ·by_cases ax1:J=0
  ·grind
  ·refine⟨1,.inl (Nat.le_refl _),by omega,?_⟩;grind
end
abbrev Ie:aJ:=⟨.aw fm tI,fm,λx=>x.1=[-1]/\0<=x.2/\x.2<=200,λx=>List.replicate x.2.toNat (-1)⟩
theorem ao7(x):M.le (ajy sO.sh x) (Ie.sh x):=M.sj λh=>by
 obtain⟨l,n⟩:=x;obtain⟨h1,h2,h3⟩:=h;change l=[-1]at h1;subst h1;exact O4 (0:Int) (-1) (λl=>l) n h2 h3
def vU(x:z1'×Int×Unit):M (z1'×Unit):=M.dv (x.1=[-1]/\0<=x.2.1/\x.2.1<=200) (List.replicate x.2.1.toNat (-1),())
theorem Y4(x):M.le (ajO sO.sh x) (vU x):=M.sj λh=>by
 obtain⟨l,n,u⟩:=x;obtain⟨h1,h2,h3⟩:=h;change l=[-1]at h1;subst h1;exact O4 (0:Int) (-1) (λl=>(l,())) n h2 h3
abbrev If:af:=.st (.aw tI tI)
abbrev Ig:aJ:=⟨.aw (.slice If) tI,.slice If,λx=>x.1.length=1/\0<=x.2/\x.2<=200,λx=>List.replicate x.2.toNat (x.1.getD 0 (0,0))⟩
theorem ao8(x):M.le (ajL sO.sh x) (Ig.sh x):=M.sj λh=>by
 obtain⟨l,n⟩:=x;obtain⟨h1,h2,h3⟩:=h;change l.length=1 at h1;obtain⟨a,rfl⟩:=List.length_eq_one_iff.1 h1;exact O4 ((0,0):Int×Int) a (λl=>l) n h2 h3
end Go.Fer
namespace Go.Fer
open M (aa)
def yc(s:br)(n:Int):Bool:=decide (0<=n)&&decide (n<(s.2.2.2.1.length:Int))
def yd(s:br)(n:Int):Bool:=decide (0<=n)&&decide (n<(s.2.2.1.length:Int))
theorem ao9{s:br}{n:Int}:yc s n=true<->0<=n/\n<(s.2.2.2.1.length:Int):=by simp[yc]
theorem ao_{s:br}{n:Int}:yd s n=true<->0<=n/\n<(s.2.2.1.length:Int):=by simp[yd]
abbrev O5:aJ:=⟨.aw lR tI,cN,λx=>fb x.1,λx=>yc x.1 x.2⟩
abbrev O6:aJ:=⟨.aw lR tI,cN,λx=>fb x.1,λx=>yd x.1 x.2⟩
theorem ao'(x):M.le (Vp bX.sh x) (O5.sh x):=M.bg λh=>by
 have ai:=h.2.2.2.1;have hw:=bn (n:=(x.1.2.2.2.1.length:Int) - 1) (by omega) (by omega);unfold Vp;simp[aJ.sh,bX,hw,yc,rl]
theorem apa(x):M.le (Vu bX.sh x) (O6.sh x):=M.bg λh=>by
 have ai:=h.2.2.1;have hw:=bn (n:=(x.1.2.2.1.length:Int) - 1) (by omega) (by omega);unfold Vu;simp[aJ.sh,bX,hw,yd,rl]
def sP(x:dr)(p:db):Int:=if (!x.1.contains p.1||!bM p.2.1 x.2.1.1 x.2.1.2)=true then 0 else if p.2.2.1=x.2.2.1 then 1 else if p.2.2.1=0 then 2 else 0
abbrev vV:aJ:=⟨.aw tWi mW,tI,λx=>x.1.1.length<2 ^ 63,λx=>sP x.1 x.2⟩
theorem apb(x):M.le (Vv bX.sh mj.sh x) (vV.sh x):=M.bg λh=>by
 unfold Vv;simp only[aJ.sh,bX,mj,M.c_,M.iR,implies_true,M.be,qc];rw[M.bk (by exact h)];show _=M.pure (sP x.1 x.2);unfold sP bM;grind
def vW(s:br)(l:z1')(i:Nat):Bool:=decide (l.getD i 0=-1)||(yd s (l.getD i 0)&&!(l.take i).contains (l.getD i 0))
def vY(s:br)(l:z1'):Bool:=((List.range l.length).all (vW s l))&&decide ((l.length:Int)=(s.2.2.2.1.length:Int))
abbrev Ih:aJ:=⟨.aw lR fm,cN,λx=>fb x.1/\x.2.length<2 ^ 63,λx=>vY x.1 x.2⟩
theorem apc(x):M.le (Vw O6.sh mj.sh x) (Ih.sh x):=M.bg λh=>by
 obtain⟨s,l⟩:=x;obtain⟨hs,ai⟩:=h;change fb s at hs;change l.length<2 ^ 63 at ai;unfold Vw;rw[M.dh (List.range l.length) (λi (_:Unit)=>(l,l,(l.length:Int),(i:Int),s,())) (λi b=>if (!vW s l i)=true then .done (.done false) else .next b) (λ_=>.next (l,s,())) () ?_ ?_ ?_]
 ·rw[j7 (q:=vW s l) _ _ (λ_=>rfl)];show _=M.pure (vY s l);unfold vY;cases (List.range l.length).all (vW s l)<;>simp
 ·simp
 ·intro i E b;have E:i<l.length:=by grind
  have hw:=bn (n:=(i:Int)+1) (by omega) (by omega);obtain⟨aI,iD⟩:∃ aI,l.getD i 0=aI:=⟨_,rfl⟩
  have cq:vW s l i=(decide (aI=-1)||(yd s aI&&!(l.take i).contains aI)):=by unfold vW;rw[iD]
  simp only[bG,cC E,if_true,List.getElem_range,ct E,M.be,aJ.sh,M.c_,M.iR,Int.toNat_natCast,iD];rw[M.bk (by grind),M.bk,M.bk]
  ·simp only[M.aE,b2,hw,vW,iD];by_cases h1:aI=-1
   ·simp_all
   ·cases h2:yd s aI<;>cases h3:(l.take i).contains aI<;>simp[h1,h2,h3,aa.gT]
  ·intro _;show (l.take i).length<2 ^ 63;rw[List.length_take];omega
  ·intro cA;exact⟨⟨cA,trivial,cA⟩,⟨by omega,by omega,by omega⟩,trivial⟩
 simp
def kQ(s:br)(bO:Bool):Int:=if iW s≠0 then iW s else if bO=false then 1 else cW s.1 true
theorem Y5{s:br}(h:iW s=0):cu s.1=0/\mX s=true:=by
 unfold iW at h;grind
theorem AX{s:br}{bO:Bool}(h:kQ s bO=0):iW s=0/\bO=true/\cW s.1 true=0/\sL s.1=true:=by
 unfold kQ at h;by_cases he:iW s=0
 ·rw[if_neg (by omega)]at h;cases bO with
  | false=>grind
  | true=>
   simp only[Bool.true_eq_false,if_false]at h;exact⟨he,rfl,h,(AQ h).2.2⟩
 omega
structure lS(s:br):Prop where
 gv:fb s
 sF:lQ s.1
 Eg:s.2.1.length=s.1.1.length
 qp:∀ n∈s.2.1,0<=n/\n<=10
 Ii:s.2.2.1.length<=8
 apd:∀ p∈s.2.2.1,pA s.1 p=true
 uw:s.2.2.2.1.length<=6
 Y6:∀ x∈s.2.2.2.1,oH x=true
 O7:s.2.2.2.2.1.length<=8
 Y7:∀ d∈s.2.2.2.2.1,oI s.1 d=true
 ape:0<=s.2.2.2.2.2/\s.2.2.2.2.2<=99
theorem AY{s:br}(hs:fb s)(h:iW s=0):lS s:=by
 obtain⟨h1,h2⟩:=Y5 h;simp only[mX,Bool.and_eq_true,decide_eq_true_eq,List.all_eq_true,bM,jL]at h2;obtain⟨⟨⟨⟨⟨⟨⟨⟨aO,aP⟩,bA⟩,gi⟩,oY⟩,xo⟩,GP⟩,C9⟩,Mi⟩:=h2;exact⟨hs,⟨hs.1,HV h1⟩,by omega,aP,by omega,gi,by omega,xo,by omega,C9,Mi⟩
theorem lS.Y8{s:br}(h:lS s):s.1.1.length<=10:=(x7 h.sF.2).1
def Ij(w:a7)(t:z5')(q:Int×Int×Int):z5':=if ur w q.1 q.2.1 q.2.2=1 then vt t q (IntKind.i64.wrap ((oG t q).getD 0+1)) else t
def Y9(w:a7)(i m:Nat)(t:z5'):z5':=(List.range (jl w (m:Int)).length).foldl (λt (k:Nat)=>Ij w t ((i:Int),(m:Int),(k:Int))) t
def Y_(w:a7)(i:Nat)(t:z5'):z5':=(List.range w.2.1.length).foldl (λt m=>Y9 w i m t) t
def ux(w:a7)(n:Nat):z5':=(List.range n).foldl (λt i=>Y_ w i t) []
def lg(p:Int×Int)(n:Int):z4':=List.replicate n.toNat p
def Eh(l:z1'):z4':=(List.range l.length).flatMap λ(i:Nat)=>lg ((i:Int),0) (l.getD i 0)
def Y'(l:List Du):z4':=l.flatMap λd=>lg (d.2.1,d.1) d.2.2
def O8(s:br):z4':=Eh s.2.1++Y' s.2.2.2.2.1
def cX(s:br):Sto:=(s,O8 s,ux s.1 s.2.1.length)
def ye(s:br)(bO:Bool):Option Sto×Int:=if kQ s bO≠0 then (none,kQ s bO) else (some (cX s),0)
theorem O9{aj β:Type}(f:aj->List β):∀ (l:List aj) (b:List β),l.foldl (λb x=>b++f x) b=b++l.flatMap f
 | [],b=>by simp
 | x::l,b=>by rw[List.foldl_cons,O9 f l,List.flatMap_cons,List.append_assoc]
abbrev apf:af:=.st (.aw tI (.aw tI tI))
abbrev vZ:af:=.bq (.st (.aw lR (.aw (.slice If) (.map apf tI))))
abbrev AZ:aJ:=⟨.aw lR cN,.aw vZ tI,λx=>fb x.1,λx=>ye x.1 x.2⟩
theorem apg(s:br)(bO:Bool)(hs:fb s):Nq pB.sh x9.sh AR.sh Ig.sh (s,bO)=M.pure (ye s bO):=by
 unfold Nq ye kQ;simp only[aJ.sh,M.c_,M.bk hs];by_cases he:iW s=0
 ·have hv:=AY hs he;simp only[he,ne_eq,not_true,decide_false,Bool.false_eq_true,if_false];cases bO with
  | false=>simp
  | true=>
   simp only[Bool.not_true,Bool.false_eq_true,if_false,Bool.true_eq_false];refine Eq.trans (congrArg (λm=>M.bind m _) (show _=(if cW s.1 true≠0 then M.pure (aa.done ((none:Option Sto),cW s.1 true)) else M.pure (aa.next (s,([]:z5'),s.1.1,s.1.2.1,s.1.2.2.1,s.1.2.2.2,s.2.1,s.2.2.1,s.2.2.2.1,s.2.2.2.2.1,s.2.2.2.2.2,()))) from ?_)) ?_
   ·by_cases bb:s.2.1.length=0
    ·have aG:cW s.1 true=0:=by
      unfold cW;have h0:s.1.1.length=0:=by rw[<-hv.Eg];exact bb
      have:sL s.1=true:=by unfold sL;grind
      simp[(Y5 he).1,this]
     grind
    ·have h1:decide (Int.ofNat (List.length s.2.1) > 0)=true:=by grind
     have h2:fH s.1 0=true:=by rw[rk];have:=hv.Eg;omega
     rw[if_pos h1,M.bk hs.1];unfold sN;rw[h2];by_cases ao:cW s.1 true=0
     ·simp[ao]
     ·simp[ao]
   by_cases yN:cW s.1 true=0
   ·simp only[yN,ne_eq,not_true,if_false,M.aE,M.bK];have ax2:=hv.Y8;have hsl:=hv.Eg;have aph:s.1.2.1.length<=6:=(x7 hv.sF.2).2.1;rw[M.dh (List.range s.2.1.length) (λi t=>((s.2.1.length:Int),(i:Int),s,t,s.1.1,s.1.2.1,s.1.2.2.1,s.1.2.2.2,s.2.1,s.2.2.1,s.2.2.2.1,s.2.2.2.2.1,s.2.2.2.2.2,())) (λi t=>.next (Y_ s.1 i t)) (λt=>.next (s,t,s.1.1,s.1.2.1,s.1.2.2.1,s.1.2.2.2,s.2.1,s.2.2.1,s.2.2.2.1,s.2.2.2.2.1,s.2.2.2.2.2,())) [] ?_ ?_ ?_]
    ·rw[dP];simp only[M.aE,M.bK];rw[M.fZ (List.range s.2.1.length) (λi acc=>(s.2.1,(s.2.1.length:Int),(i:Int),s,ux s.1 s.2.1.length,s.1.1,s.1.2.1,s.1.2.2.1,s.1.2.2.2,s.2.1,s.2.2.1,s.2.2.2.1,s.2.2.2.2.1,s.2.2.2.2.2,acc,())) (λi acc=>.next (acc++lg ((i:Int),0) (s.2.1.getD i 0))) (λacc=>.next (s,ux s.1 s.2.1.length,s.1.1,s.1.2.1,s.1.2.2.1,s.1.2.2.2,s.2.1,s.2.2.1,s.2.2.2.1,s.2.2.2.2.1,s.2.2.2.2.2,acc,())) (λi acc=>acc.length<=10*i) [] ?_ ?_ ?_ ?_]
     ·rw[dP,O9];simp only[M.aE,M.bK,List.nil_append];have fX:(Eh s.2.1).length<=100:=by
       have:∀ (l:List Nat),(∀ i∈l,i<s.2.1.length)->(l.flatMap λ(i:Nat)=>lg ((i:Int),0) (s.2.1.getD i 0)).length<=10*l.length:=by
        intro l;induction l with
        | nil=>simp
        | cons i l aH=>
         intro ai;have h1:=aH λj aC=>ai j (by grind);have h2:=ai i (by simp);have h3:=hv.qp _ (List.getElem_mem h2);have iD:s.2.1.getD i 0=s.2.1[i]:=by grind
         rw[List.flatMap_cons,List.length_append,List.length_cons,iD];simp only[lg,List.length_replicate];simp only[lg]at h1;omega
       have:=this (List.range s.2.1.length) (λi E=>by grind);rw[List.length_range]at this;unfold Eh;omega
      rw[M.fZ s.2.2.2.2.1 (λi acc=>(s.2.2.2.2.1,(s.2.2.2.2.1.length:Int),(i:Int),ux s.1 s.2.1.length,s.1.1,s.1.2.1,s.1.2.2.1,s.1.2.2.2,s.2.1,s.2.2.1,s.2.2.2.1,s.2.2.2.2.1,s.2.2.2.2.2,acc,())) (λd acc=>.next (acc++lg (d.2.1,d.1) d.2.2)) (λacc=>.next (ux s.1 s.2.1.length,s.1.1,s.1.2.1,s.1.2.2.1,s.1.2.2.2,s.2.1,s.2.2.1,s.2.2.2.1,s.2.2.2.2.1,s.2.2.2.2.2,acc,())) (λi acc=>acc.length<=100+10*i) (Eh s.2.1) ?_ ?_ ?_ ?_]
      ·rw[dP,O9,M.aE,M.bK];rfl
      ·rfl
      ·omega
      ·intro i E acc OU;have ax3:=hv.O7;have gB:=bn (n:=(i:Int)+1) (by omega) (by omega);have au:=hv.Y7 _ (List.getElem_mem E);have CO:1<=s.2.2.2.2.1[i].2.2/\s.2.2.2.2.1[i].2.2<=10:=by
        simp only[oI,bM,Bool.and_eq_true,decide_eq_true_eq]at au;omega
       have hlen:(lg (s.2.2.2.2.1[i].2.1,s.2.2.2.2.1[i].1) s.2.2.2.2.1[i].2.2).length<=10:=by simp only[lg,List.length_replicate];omega
       have kC:bT (acc.length+(lg (s.2.2.2.2.1[i].2.1,s.2.2.2.2.1[i].1) s.2.2.2.2.1[i].2.2).length):=by unfold bT;omega
       refine⟨?_,λaZ ab=>?_⟩
       ·simp only[bG,cC E,if_true,cV E,ct E,M.be,M.mf,M.fY,b2,hX,gB];rw[M.bk (by grind),M.bk (by exact kC)];rfl
       grind
      simp
     ·rfl
     ·simp
     ·intro i E acc OU;have E:i<s.2.1.length:=by grind
      have gB:=bn (n:=(i:Int)+1) (by omega) (by omega);have iD:s.2.1.getD i 0=s.2.1[i]:=by grind
      have CO:=hv.qp _ (List.getElem_mem E);have hlen:(lg ((i:Int),0) s.2.1[i]).length<=10:=by simp only[lg,List.length_replicate];omega
      have kC:bT (acc.length+(lg ((i:Int),0) s.2.1[i]).length):=by unfold bT;omega
      refine⟨?_,λaZ ab=>?_⟩
      ·simp only[bG,cC E,if_true,cV E,ct E,M.be,M.mf,M.fY,b2,hX,gB,List.getElem_range,iD];rw[M.bk (by grind),M.bk (by exact kC)];rfl
      grind
     simp
    ·simp
    ·intro i E t;have E:i<s.2.1.length:=by grind
     have gB:=bn (n:=(i:Int)+1) (by omega) (by omega);simp only[bG,cC E,if_true,List.getElem_range];rw[M.dh (List.range s.1.2.1.length) (λm t=>((i:Int),(s.2.1.length:Int),(i:Int),s.1.2.1,(s.1.2.1.length:Int),(m:Int),s,t,s.1.1,s.1.2.1,s.1.2.2.1,s.1.2.2.2,s.2.1,s.2.2.1,s.2.2.2.1,s.2.2.2.2.1,s.2.2.2.2.2,())) (λm t=>.next (Y9 s.1 i m t)) (λt=>.next ((s.2.1.length:Int),(i:Int),s,t,s.1.1,s.1.2.1,s.1.2.2.1,s.1.2.2.2,s.2.1,s.2.2.1,s.2.2.2.1,s.2.2.2.2.1,s.2.2.2.2.2,())) t ?_ ?_ ?_]
     ·rw[dP];simp only[M.aE,M.bK,b2,gB];rfl
     ·rfl
     ·intro m an t;have an:m<s.1.2.1.length:=by grind
      have Ik:=bn (n:=(m:Int)+1) (by omega) (by omega);have api:s.1.2.1[m]=jl s.1 (m:Int):=by simp[jl,List.getD_eq_getElem?_getD,an]
      simp only[bG,cC an,if_true,List.getElem_range,ct an,M.be,cV an,api];have AO:=HU hs.1 (m:Int);rw[M.dh (List.range (jl s.1 (m:Int)).length) (λk t=>((i:Int),(m:Int),(s.2.1.length:Int),(i:Int),s.1.2.1,(s.1.2.1.length:Int),(m:Int),((jl s.1 (m:Int)).length:Int),(k:Int),s,t,s.1.1,s.1.2.1,s.1.2.2.1,s.1.2.2.2,s.2.1,s.2.2.1,s.2.2.2.1,s.2.2.2.2.1,s.2.2.2.2.2,())) (λk t=>.next (Ij s.1 t ((i:Int),(m:Int),(k:Int)))) (λt=>.next ((i:Int),(s.2.1.length:Int),(i:Int),s.1.2.1,(s.1.2.1.length:Int),(m:Int),s,t,s.1.1,s.1.2.1,s.1.2.2.1,s.1.2.2.2,s.2.1,s.2.2.1,s.2.2.2.1,s.2.2.2.2.1,s.2.2.2.2.2,())) t ?_ ?_ ?_]
      ·rw[dP];simp only[M.aE,M.bK,b2,Ik];rfl
      ·rfl
      ·intro k ao t;have ao:k<(jl s.1 (m:Int)).length:=by grind
       have mm:=bn (n:=(k:Int)+1) (by omega) (by omega);have nL:fH s.1 (i:Int)=true:=by rw[rk];omega
       have apj:ig s.1 (m:Int) (k:Int)=true:=by rw[AM];omega
       have ar:qo s.1 (i:Int) (m:Int) (k:Int)=(ur s.1 (i:Int) (m:Int) (k:Int),0):=by simp[qo,nL,apj,yN]
       simp only[cC ao,if_true,List.getElem_range];simp only[ar,M.bk hs.1,decide_eq_true_eq];by_cases h1:ur s.1 (i:Int) (m:Int) (k:Int)=1
       ·simp only[h1,if_true,and_self,M.be,M.aE,M.bK,b2,mm,aa.gT,Ij];rfl
       ·simp only[h1,if_false,M.aE,M.bK,b2,mm,aa.gT,Ij];rfl
      simp
     simp
    simp
   ·simp[yN]
 grind
theorem apk(x):M.le (Nq pB.sh x9.sh AR.sh Ig.sh x) (AZ.sh x):=M.bg λh=>apg x.1 x.2 h
theorem apl{p:Int->Bool}{l:z1'}(h:jM p l=true):∀ x∈l,p x=true:=by
 intro x hx;obtain⟨i,E,rfl⟩:=List.mem_iff_getElem.1 hx;unfold jM at h;simp_all
theorem apm{p:Int->Bool}{l:z1'}(h:jM p l=true):l.Pairwise (·<·):=by
 unfold jM at h;rw[List.all_eq_true]at h;have step:∀ i,i+1<l.length->l.getD i 0<l.getD (i+1) 0:=λi E=>by
  grind
 have key:∀ j i,i<j->j<l.length->l.getD i 0<l.getD j 0:=by
  intro j;induction j with
  | zero=>omega
  | succ j aH=>
   grind
 rw[List.pairwise_iff_getElem];grind
theorem O_{s:br}(hv:lS s){p:db}(hp:p∈s.2.2.1):nQ s.1 p.2.2.2.1=true/\p.2.2.2.2.length<=4/\∀ k∈p.2.2.2.2,ig s.1 p.2.2.2.1 k=true:=by
 have h:=hv.apd p hp;simp only[pA,Bool.and_eq_true]at h;obtain⟨⟨_,an⟩,G⟩:=h;have fo:∀ k∈p.2.2.2.2,ig s.1 p.2.2.2.1 k=true:=λk ao=>by
  have:=apl G k ao;rw[AM];simp only[Ea,Bool.and_eq_true,decide_eq_true_eq]at this;exact⟨HT.1 an,this⟩
 refine⟨an,?_,fo⟩;have apn:=apm G;have tu:p.2.2.2.2.Nodup:=apn.imp λh e=>by omega
 cases ab:p.2.2.2.2 with
 | nil=>simp
 | cons k l=>
  rw[<-ab];have aR:=anO hv.sF.2 (fo k (by grind));have:=OX (jl s.1 p.2.2.2.1).length p.2.2.2.2 tu λk ao=>by
   have:=AM.1 (fo k ao);omega
  omega
abbrev rr:Type:=Int×Int×Int
abbrev apo:dr:=([],(0,0),0,0,0)
abbrev apq:db:=(0,0,0,0,[])
abbrev yf:Sto:=((([],[],0,[]),[],[],[],[],0),[],[])
def mo(s:br)(i:Int):dr:=s.2.2.2.1.getD i.toNat apo
def mY(s:br)(i:Int):db:=s.2.2.1.getD i.toNat apq
def v7(s:br)(x:dr)(p:db):Option Int:=if sP x p=0 then none else if (if sP x p=2 then x.2.2.2.1 - s.2.2.2.2.2 else x.2.2.2.1)<0 then none else some (if sP x p=2 then x.2.2.2.1 - s.2.2.2.2.2 else x.2.2.2.1)
def oJ(s:br)(cb:z1')(i:Nat):Option (List rr):=if cb.getD i 0<0 then some [] else (v7 s (mo s (i:Int)) (mY s (cb.getD i 0))).map λd=>(mY s (cb.getD i 0)).2.2.2.2.map λk=>((mY s (cb.getD i 0)).2.2.2.1,k,d)
def lh(s:br)(cb:z1'):List rr×Bool:=if ((List.range cb.length).all λi=>(oJ s cb i).isSome)=true then ((List.range cb.length).flatMap λi=>(oJ s cb i).getD [],true) else ([],false)
def nR(s:br)(cb:z1'):Prop:=cb.length<=s.2.2.2.1.length/\∀ p∈cb,p<(s.2.2.1.length:Int)
def nS(o:Option Sto):br:=(o.getD yf).1
def v8(o:Option Sto)(s:br):Prop:=o=some (cX s)/\lS s
theorem O'{s:br}{i:Nat}(h:i<s.2.2.2.1.length):mo s (i:Int)∈s.2.2.2.1:=by
 simp[mo,List.getD_eq_getElem?_getD,h]
theorem Za{s:br}{i:Int}(h0:0<=i)(h:i<(s.2.2.1.length:Int)):mY s i∈s.2.2.1:=xL h0 h
theorem Zb{s:br}(hv:lS s){x:dr}(hx:x∈s.2.2.2.1):(0<=x.2.2.2.1/\x.2.2.2.1<=99)/\(0<=x.2.2.2.2/\x.2.2.2.2<=100000):=by
 have:=hv.Y6 x hx;simp only[oH,jL,bM,Bool.and_eq_true,decide_eq_true_eq]at this;omega
theorem Zc{s:br}(hv:lS s){cb:z1'}(hp:nR s cb){i:Nat}(E:i<cb.length){l:List rr}(h:oJ s cb i=some l):l.length<=4:=by
 unfold oJ at h;split at h
 ·grind
 ·rename_i Ic;rw[Option.map_eq_some_iff]at h;obtain⟨d,_,rfl⟩:=h;rw[List.length_map];have an:cb.getD i 0∈cb:=by grind
  exact (O_ hv (Za (by omega) (hp.2 _ an))).2.1
def A0{aj β aF:Type}(f:aj->Option (List β))(r:aF)(x:aj)(b:List β):aa (List β) aF:=if (f x).isSome=true then .next (b++(f x).getD []) else .done r
theorem Ei{aj β aF:Type}{f:aj->Option (List β)}{r:aF}{x:aj}{b y:List β}(h:f x=some y):A0 f r x b=.next (b++y):=by simp[A0,h]
theorem Il{aj β aF:Type}{f:aj->Option (List β)}{r:aF}{x:aj}{b:List β}(h:f x=none):A0 f r x b=.done r:=by simp[A0,h]
theorem Zd{aj β aF:Type}{f:aj->Option (List β)}{r:aF}{fin:List β->aF}:∀ (l:List aj) (b:List β),eE (A0 f r) fin l b=if (l.all λx=>(f x).isSome)=true then fin (b++l.flatMap λx=>(f x).getD []) else r
 | [],b=>by simp[eE]
 | x::l,b=>by
  simp only[eE];cases h:f x with
  | none=>simp[Il h,h]
  | some y=>
   have:=Zd (f:=f) (r:=r) (fin:=fin) l (b++y);simp only[Ei h,List.all_cons,h,Option.isSome_some,Bool.true_and,List.flatMap_cons,Option.getD_some];grind
abbrev Im:af:=.st (.aw tI (.aw tI tI))
abbrev Ip:aJ:=⟨.aw vZ fm,.aw (.slice Im) cN,λx=>∃ s,v8 x.1 s/\nR s x.2,λx=>lh (nS x.1) x.2⟩
theorem apr(s:br)(hv:lS s)(cb:z1')(hp:nR s cb):Nr vV.sh (some (cX s),cb)=M.pure (lh s cb):=by
 unfold Nr;have A1:=hv.uw;have ax4:=hp.1;simp only[Option.isSome_some,Option.getD_some,M.be];rw[M.fZ (List.range cb.length) (λi acc=>(some (cX s),cb,(cb.length:Int),(i:Int),acc,())) (A0 (oJ s cb) (.done ([],false))) (λacc=>.next (acc,())) (λi acc=>acc.length<=4*i) [] ?_ ?_ ?_ ?_]
 ·rw[Zd];unfold lh;by_cases h:((List.range cb.length).all λi=>(oJ s cb i).isSome)=true
  ·simp[h]
  ·simp[h]
 ·rfl
 ·simp
 ·intro i E acc OU;have E:i<cb.length:=by grind
  have sQ:i<s.2.2.2.1.length:=by omega
  have gB:=bn (n:=(i:Int)+1) (by omega) (by omega);have Iq:=O' sQ;rw[List.getElem_range];obtain⟨aI,aps⟩:∃ aI,cb.getD i 0=aI:=⟨_,rfl⟩
  have apt:aI∈cb:=by grind
  refine⟨?_,λaZ ab=>?_⟩
  ·simp only[bG,cC E,if_true,Int.toNat_natCast,aps,ct E,M.be,Option.isSome_some,Option.getD_some];by_cases Ic:aI<0
   ·have mE:oJ s cb i=some []:=by unfold oJ;grind
    rw[Ei mE];simp_all
   ·have h8:aI<(s.2.2.1.length:Int):=hp.2 aI apt;have apu:=Za (s:=s) (by omega) h8;have gx:0<=aI/\aI<(s.2.2.1.length:Int):=⟨by omega,h8⟩
    have fX:(cX s).1=s:=rfl;have A2:List.getD s.2.2.2.1 i ([],(0,0),0,0,0)=mo s (i:Int):=rfl;have Pa:List.getD s.2.2.1 aI.toNat (0,0,0,0,[])=mY s aI:=rfl;simp only[Ic,decide_false,Bool.false_eq_true,if_false,fX,ct sQ,M.bk gx,M.be,aJ.sh,M.c_,A2,Pa];have mE:oJ s cb i=(v7 s (mo s (i:Int)) (mY s aI)).map λd=>(mY s aI).2.2.2.2.map λk=>((mY s aI).2.2.2.1,k,d):=by unfold oJ;grind
    rw[M.bk (show vV.pre (mo s (i:Int),mY s aI) from hv.gv.2.2.2.2.2.2 _ Iq)];obtain⟨ax5,_⟩:=Zb hv Iq;have lC:=hv.ape;obtain⟨aph,iq,CF⟩:=O_ hv apu;have apv:=bn (n:=(mo s (i:Int)).2.2.2.1 - s.2.2.2.2.2) (by omega) (by omega);generalize mo s (i:Int)=x at *
    generalize mY s aI=p at *
    by_cases h0:sP x p=0
    ·have au:v7 s x p=none:=by unfold v7;grind
     rw[au]at mE;rw[Il mE];simp only[h0,decide_true,if_true,M.aE,M.pb,aa.gT]
    ·by_cases h2:sP x p=2;all_goals simp only[h0,h2,decide_true,decide_false,Bool.false_eq_true,if_false,if_true,M.aE,M.bK,apv,Int.reduceEq]
     ·have au:v7 s x p=(if x.2.2.2.1 - s.2.2.2.2.2<0 then none else some (x.2.2.2.1 - s.2.2.2.2.2)):=by unfold v7;grind
      generalize x.2.2.2.1 - s.2.2.2.2.2=d at *
      by_cases qZ:d<0
      ·rw[if_pos qZ]at au;rw[au]at mE;rw[Il mE];simp_all
      ·rw[if_neg qZ]at au;rw[au]at mE;rw[Ei mE];simp only[qZ,decide_false,Bool.false_eq_true,if_false];rw[M.fZ p.2.2.2.2 (λk acc=>(some (cX s),d,cb,(cb.length:Int),(i:Int),p.2.2.2.2,(p.2.2.2.2.length:Int),(k:Int),acc,p,())) (λk acc=>.next (acc++[(p.2.2.2.1,k,d)])) (λacc=>.next (some (cX s),cb,(cb.length:Int),(i:Int),acc,())) (λk yg=>yg.length<=4*i+k) acc ?_ ?_ ?_ ?_]
       ·rw[dP,xK];simp_all
       ·rfl
       ·omega
       ·intro k ao yg apw;have mm:=bn (n:=(k:Int)+1) (by omega) (by omega);have kC:bT (yg.length+(0+1)):=by unfold bT;omega
        refine⟨?_,λaZ ab=>?_⟩
        ·simp_all
        grind
       simp
     ·have au:v7 s x p=(if x.2.2.2.1<0 then none else some x.2.2.2.1):=by unfold v7;grind
      generalize x.2.2.2.1=d at *
      by_cases qZ:d<0
      ·omega
      ·rw[if_neg qZ]at au;rw[au]at mE;rw[Ei mE];simp only[qZ,decide_false,Bool.false_eq_true,if_false];rw[M.fZ p.2.2.2.2 (λk acc=>(some (cX s),d,cb,(cb.length:Int),(i:Int),p.2.2.2.2,(p.2.2.2.2.length:Int),(k:Int),acc,p,())) (λk acc=>.next (acc++[(p.2.2.2.1,k,d)])) (λacc=>.next (some (cX s),cb,(cb.length:Int),(i:Int),acc,())) (λk yg=>yg.length<=4*i+k) acc ?_ ?_ ?_ ?_]
       ·rw[dP,xK];simp_all
       ·rfl
       ·omega
       ·intro k ao yg apw;have mm:=bn (n:=(k:Int)+1) (by omega) (by omega);have kC:bT (yg.length+(0+1)):=by unfold bT;omega
        refine⟨?_,λaZ ab=>?_⟩
        ·simp_all
        grind
       simp
  ·cases mE:oJ s cb i with
   | none=>rw[Il mE]at ab;cases ab
   | some y=>
    rw[Ei mE]at ab;cases ab;have:=Zc hv hp E mE;grind
 simp
theorem apx(x):M.le (Nr vV.sh x) (Ip.sh x):=M.bg λh=>by
 obtain⟨o,cb⟩:=x;obtain⟨s,⟨ar,hv⟩,hp⟩:=h;change o=_ at ar;subst ar;exact apr s hv cb hp
def rs(s:br)(cb:z1'):Int:=((List.range cb.length).map λ(i:Nat)=>if cb.getD i 0=-1 then 0 else (mo s (i:Int)).2.2.2.2).foldl (·+·) 0
abbrev sR:aJ:=⟨.aw vZ fm,tI,λx=>∃ s,v8 x.1 s/\x.2.length<=s.2.2.2.1.length,λx=>rs (nS x.1) x.2⟩
theorem apy(s:br)(hv:lS s)(cb:z1')(hp:cb.length<=s.2.2.2.1.length):Nx (some (cX s),cb)=M.pure (rs s cb):=by
 unfold Nx;have A1:=hv.uw;rw[M.fZ (List.range cb.length) (λi (n:Int)=>(some (cX s),n,cb,(cb.length:Int),(i:Int),())) (λ(i:Nat) n=>.next (n+if cb.getD i 0=-1 then 0 else (mo s (i:Int)).2.2.2.2)) (λn=>.next (n,())) (λi n=>0<=n/\n<=100000*i) 0 ?_ ?_ ?_ ?_]
 ·rw[dP];unfold rs;rw[List.foldl_map,M.aE,M.bK]
 ·rfl
 ·simp
 ·intro i E n az;have E:i<cb.length:=by grind
  have sQ:i<s.2.2.2.1.length:=by omega
  have gB:=bn (n:=(i:Int)+1) (by omega) (by omega);obtain⟨_,og⟩:=Zb hv (O' sQ);have A2:List.getD s.2.2.2.1 i ([],(0,0),0,0,0)=mo s (i:Int):=rfl;have AV:=bn (n:=n+(mo s (i:Int)).2.2.2.2) (by omega) (by omega);have fX:(cX s).1=s:=rfl;rw[List.getElem_range];refine⟨?_,λaZ ab=>?_⟩
  ·simp only[bG,cC E,if_true,Int.toNat_natCast,ct E,ct sQ,M.be,Option.isSome_some,Option.getD_some,b2,fX,A2];by_cases h1:cb.getD i 0=-1
   ·simp only[h1,ne_eq,not_true,decide_false,Bool.false_eq_true,if_false,if_true,M.aE,M.bK,gB,Int.add_zero,aa.gT];rfl
   ·simp only[h1,ne_eq,not_false_iff,decide_true,if_false,if_true,ct sQ,M.be,M.aE,M.bK,gB,AV,aa.gT];rfl
  grind
 simp
theorem apz(x):M.le (Nx x) (sR.sh x):=M.bg λh=>by
 obtain⟨o,cb⟩:=x;obtain⟨s,⟨ar,hv⟩,hp⟩:=h;change o=_ at ar;subst ar;exact apy s hv cb hp
theorem Ej{l:z1'}{j i:Nat}{s:Int}(aC:j<l.length):(l.set j s).getD i 0=if i=j then s else l.getD i 0:=by
 grind
abbrev Ze(fit:List (z1'))(j:Int):z1':=fit.getD j.toNat []
def apA(qp work:z1')(s:Int):Prop:=qp.getD s.toNat 0<=((OZ work s).length:Int)
def apB(fit:List (z1'))(qp work:z1')(C:Int->Prop):Prop:=∀ j,C j->∀ s∈Ze fit j,apA qp work s/\∀ h∈OZ work s,C h
def apC(n:Nat)(qp work:z1'):Prop:=∀ s,0<=s->s<(n:Int)->((OZ work s).length:Int)<=qp.getD s.toNat 0
structure ax6(n:Nat)(fit:List (z1'))(qp:z1')(k:Nat)(work:z1'):Prop where
 len:work.length=fit.length
 val:apC n qp work
 mem:∀ i:Nat,i<fit.length->work.getD i 0=-1\/work.getD i 0∈Ze fit (i:Int)
 b5:∀ i:Nat,k<=i->i<fit.length->work.getD i 0=-1
 Pb:∃ C,apB fit qp work C/\(∀ c,C c->0<=c/\c<(k:Int))/\∀ i:Nat,i<k->work.getD i 0=-1->C (i:Int)
theorem apD{J i:Nat}(h:i<J):(List.replicate J (-1:Int)).getD i 0=-1:=by
 grind
theorem Zf(a b:Int):(if a=b then 1 else 0)=(if b=a then 1 else (0:Nat)):=by
 grind
def gC(g:z1')(j:Int):Nat:=g.countP λx=>decide (x=j)
theorem Pc:∀ {g:z1'} {i:Nat} {x:Int} (j:Int),i<g.length->gC (g.set i x) j+(if g.getD i 0=j then 1 else 0)=gC g j+(if x=j then 1 else 0)
 | [],i,x,j,h=>by grind
 | y::g,0,x,j,h=>by
  unfold gC;grind
 | y::g,i+1,x,j,h=>by
  have:=Pc (g:=g) (i:=i) (x:=x) j (by grind);unfold gC at *
  grind
theorem apE{g:z1'}{i:Nat}{j:Int}(E:i<g.length)(h:g.getD i 0=j):0<gC g j:=by
 unfold gC;grind
def nT(gd:Nat->Int->Bool)(rec:Int->kP->Bool×kP)(own:Int)(i:Nat)(st:kP):aa kP (Bool×kP):=
 if (decide (cy st.2 (i:Int) > 0)||!gd i own)=true then .next st
 else if decide (st.1.getD i 0=-1)=true then .done (true,(st.1.set i own,eQ st.2 (i:Int) (cy st.2 (i:Int)+1)))
 else if (rec (st.1.getD i 0) (st.1,eQ st.2 (i:Int) (cy st.2 (i:Int)+1))).1=true then .done (true,((rec (st.1.getD i 0) (st.1,eQ st.2 (i:Int) (cy st.2 (i:Int)+1))).2.1.set i own,(rec (st.1.getD i 0) (st.1,eQ st.2 (i:Int) (cy st.2 (i:Int)+1))).2.2))
 else .next (rec (st.1.getD i 0) (st.1,eQ st.2 (i:Int) (cy st.2 (i:Int)+1))).2
def jN(gd:Nat->Int->Bool)(m:Nat):Nat->Int->kP->Bool×kP
 | 0=>λ_ st=>(false,st)
 | f+1=>λown st=>eE (nT gd (jN gd m f) own) (λst=>(false,st)) (List.range m) st
def Pd(m J:Nat)(g:z1'):Prop:=∀ i,i<m->g.getD i 0=-1\/(0<=g.getD i 0/\g.getD i 0<(J:Int))
structure yh(m J f:Nat)(st:kP):Prop where
 len:st.1.length=m
 lT:Pd m J st.1
 seen:∀ k,0<=cy st.2 k/\cy st.2 k<=1
 b3:rp m st.2<f
structure Pe(m J:Nat)(st r:kP):Prop where
 len:r.1.length=m
 lT:Pd m J r.1
 seen:∀ k,cy st.2 k<=cy r.2 k/\cy r.2 k<=1
def Zg(gd:Nat->Int->Bool)(m:Nat)(g:z1')(C:Int->Prop):Prop:=∀ j,C j->∀ i,i<m->gd i j=true->g.getD i 0≠-1/\C (g.getD i 0)
def Zh(gd:Nat->Int->Bool)(m:Nat)(g:z1')(s s':z4'):Prop:=∀ i,i<m->cy s (i:Int)=0->1<=cy s' (i:Int)->g.getD i 0≠-1/\∀ k,k<m->gd k (g.getD i 0)=true->1<=cy s' (k:Int)
structure Pf(gd:Nat->Int->Bool)(m:Nat)(own:Int)(st:kP)(r:Bool×kP):Prop where
 no:r.1=false->r.2.1=st.1/\(∀ i,i<m->gd i own=true->1<=cy r.2.2 (i:Int))/\Zh gd m st.1 st.2 r.2.2
 Zi:r.1=true->(∀ i,i<m->r.2.1.getD i 0=st.1.getD i 0\/(cy st.2 (i:Int)=0/\gd i (r.2.1.getD i 0)=true))/\∀ j,j≠-1->gC r.2.1 j=gC st.1 j+(if j=own then 1 else 0)
 cl:∀ C,Zg gd m st.1 C->(C own->r.1=false)/\(r.1=true->∀ i,i<m->r.2.1.getD i 0≠st.1.getD i 0->∀ c,C c->gd i c=false)
def Zj(gd:Nat->Int->Bool)(m J f:Nat)(rec:Int->kP->Bool×kP):Prop:=∀ own st,0<=own->own<(J:Int)->yh m J f st->Pe m J st (rec own st).2/\Pf gd m own st (rec own st)
theorem apF{gd:Nat->Int->Bool}{m J f:Nat}{rec:Int->kP->Bool×kP}(DW:Zj gd m J f rec){own:Int}(Zk:0<=own)(Zl:own<(J:Int)){st:kP}(h0:yh m J (f+1) st) :
  Pe m J st (eE (nT gd rec own) (λst=>(false,st)) (List.range m) st).2/\Pf gd m own st (eE (nT gd rec own) (λst=>(false,st)) (List.range m) st):=by
 refine aoy (λk b=>b.1=st.1/\(∀ q,cy st.2 q<=cy b.2 q/\cy b.2 q<=1)/\(∀ i,i<k->i<m->gd i own=true->1<=cy b.2 (i:Int))/\Zh gd m st.1 st.2 b.2)
  (λr:Bool×kP=>Pe m J st r.2/\Pf gd m own st r) (List.range m) st ⟨rfl,λq=>⟨Int.le_refl _,(h0.seen q).2⟩,λi E=>by omega,λi _ h1 h2=>by omega⟩ (λi E b ab=>?_) λb ab=>?_
 ·obtain⟨hw,mT,Ir,kY⟩:=ab;have E:i<m:=by grind
  rw[List.getElem_range];have vc:∀ q,0<=cy b.2 q:=λq=>Int.le_trans (h0.seen q).1 (mT q).1;unfold nT;by_cases hc:(decide (cy b.2 (i:Int) > 0)||!gd i own)=true
  ·grind
  ·rw[if_neg hc];simp only[Bool.or_eq_true,not_or,decide_eq_true_eq,Bool.not_eq_true',Bool.not_eq_false]at hc;obtain⟨bb,aA⟩:=hc;have bb:cy b.2 (i:Int)=0:=by grind
   have Ku:cy st.2 (i:Int)=0:=by have:=(mT i).1;have:=(h0.seen i).1;omega
   have pV:i<st.1.length:=by rw[h0.len];exact E
   have j5:∀ q,cy b.2 q<=cy (eQ b.2 (i:Int) (cy b.2 (i:Int)+1)) q/\cy (eQ b.2 (i:Int) (cy b.2 (i:Int)+1)) q<=1:=λq=>by
    have:=mT q;rw[AW];omega
   have ax7:cy (eQ b.2 (i:Int) (cy b.2 (i:Int)+1)) (i:Int)=1:=by rw[AW,if_pos rfl,bb];rfl
   by_cases ar:st.1.getD i 0=-1
   ·rw[hw,if_pos (by grind)];refine⟨⟨by show (st.1.set i own).length=m;rw[List.length_set];exact h0.len,λk ao=>?_,λq=>⟨Int.le_trans (mT q).1 (j5 q).1,(j5 q).2⟩⟩,λh=>(by cases h),λ_=>⟨λk ao=>?_,λj aC=>?_⟩,λC jb=>⟨λPg=>?_,λ_ k ao ea c hc=>?_⟩⟩
    ·show (st.1.set i own).getD k 0=-1\/(0<=(st.1.set i own).getD k 0/\(st.1.set i own).getD k 0<(J:Int))
     rw[Ej pV];split
     ·omega
     ·exact h0.lT k ao
    ·grind
    ·have:=Pc (x:=own) j pV;grind
    ·exact absurd ar (jb own Pg i E aA).1
    ·change (st.1.set i own).getD k 0≠_ at ea;rw[Ej pV]at ea;split at ea
     ·rename_i e;subst e;cases Ph:gd k c with
      | false=>rfl
      | true=>exact absurd ar (jb c hc k E Ph).1
     omega
   ·rw[hw,if_neg (by grind)];have iz:=(h0.lT i E).resolve_left ar;have v_:yh m J f (st.1,eQ b.2 (i:Int) (cy b.2 (i:Int)+1)):=by
     refine⟨h0.len,h0.lT,λq=>⟨Int.le_trans (vc q) (j5 q).1,(j5 q).2⟩,?_⟩;have h1:=YZ (n:=m) (m:=b.2) (s:=(i:Int)) (v:=cy b.2 (i:Int)+1) (by omega) (by omega) bb (by omega);have h2:=Y0 (n:=m) (a:=st.2) (b:=b.2) λk=>⟨(h0.seen k).1,(mT k).1⟩
     have h3:=h0.b3;grind
    obtain⟨hp,G⟩:=DW (st.1.getD i 0) _ iz.1 iz.2 v_;revert hp G;generalize rec (st.1.getD i 0) (st.1,eQ b.2 (i:Int) (cy b.2 (i:Int)+1))=r;intro hp G;have xt:∀ q,cy (eQ b.2 (i:Int) (cy b.2 (i:Int)+1)) q<=cy r.2.2 q:=λq=>(hp.seen q).1;by_cases bw:r.1=true
    ·rw[if_pos bw];obtain⟨kE,A3⟩:=G.Zi bw;have tB:i<r.2.1.length:=by rw[hp.len];exact E
     have B8:r.2.1.getD i 0=st.1.getD i 0:=by
      grind
     refine⟨⟨by show (r.2.1.set i own).length=m;rw[List.length_set];exact hp.len,λk ao=>?_,λq=>⟨Int.le_trans (mT q).1 (Int.le_trans (j5 q).1 (xt q)),(hp.seen q).2⟩⟩,λh=>(by cases h),λ_=>⟨λk ao=>?_,λj aC=>?_⟩,λC jb=>⟨λPg=>?_,λ_ k ao ea c hc=>?_⟩⟩
     ·show (r.2.1.set i own).getD k 0=-1\/(0<=(r.2.1.set i own).getD k 0/\(r.2.1.set i own).getD k 0<(J:Int))
      rw[Ej tB];split
      ·omega
      ·exact hp.lT k ao
     ·show (r.2.1.set i own).getD k 0=_\/(_/\gd k ((r.2.1.set i own).getD k 0)=true)
      rw[Ej tB];split
      ·grind
      ·rcases kE k ao with e | ⟨e1,e2⟩
       ·grind
       ·right;refine⟨?_,e2⟩;have a:=(j5 (k:Int)).1;have d:=mT (k:Int);have c:=(h0.seen (k:Int)).1;grind
     ·have a:=Pc (x:=own) j tB;have d:=A3 j aC;change gC r.2.1 j=gC st.1 j+_ at d;rw[B8]at a;show gC (r.2.1.set i own) j=_;rw[Zf j own];rw[Zf j (st.1.getD i 0)]at d;omega
     ·have:=(G.cl C jb).1 (jb own Pg i E aA).2;grind
     ·change (r.2.1.set i own).getD k 0≠_ at ea;rw[Ej tB]at ea;split at ea
      ·rename_i e;subst e;cases Ph:gd k c with
       | false=>rfl
       | true=>
        have:=(G.cl C jb).1 (jb c hc k E Ph).2;grind
      ·exact (G.cl C jb).2 bw k ao ea c hc
    ·rw[if_neg bw];have Cy:r.1=false:=by grind
     obtain⟨CA,ax8,apG⟩:=G.no Cy;refine⟨CA,λq=>⟨Int.le_trans (mT q).1 (Int.le_trans (j5 q).1 (xt q)),(hp.seen q).2⟩,λk ao Pj Gm=>?_,λk Pj e0 e1=>?_⟩
     ·grind
     ·by_cases e:k=i
      ·grind
      ·by_cases e2:1<=cy b.2 (k:Int)
       ·obtain⟨a,c⟩:=kY k Pj e0 e2;grind
       ·refine apG k Pj ?_ e1;show cy (eQ b.2 (i:Int) (cy b.2 (i:Int)+1)) (k:Int)=0;rw[AW,if_neg (by omega)];grind
 ·obtain⟨hw,mT,Ir,kY⟩:=ab;rw[List.length_range]at Ir;refine⟨⟨by rw[hw];exact h0.len,by rw[hw];exact h0.lT,mT⟩,λ_=>⟨hw,λi E aA=>Ir i E E aA,kY⟩,λh=>(by cases h),λC jb=>⟨λ_=>rfl,λh=>(by cases h)⟩⟩
theorem Pk{gd:Nat->Int->Bool}{m J:Nat}:∀ f,Zj gd m J f (jN gd m f)
 | 0=>λown st _ _ h=>absurd h.b3 (by omega)
 | f+1=>λown st h0 h1 h=>apF (Pk f) h0 h1 h
def yi(gd:Nat->Int->Bool)(m F:Nat)(st:z1'×Int)(j:Nat):z1'×Int:=((jN gd m F (j:Int) (st.1,[])).2.1,if (jN gd m F (j:Int) (st.1,[])).1=true then st.2 else st.2+1)
def Pl(gd:Nat->Int->Bool)(m J F:Nat):z1'×Int:=(List.range J).foldl (yi gd m F) (List.replicate m (-1),0)
structure Ek(gd:Nat->Int->Bool)(m J k:Nat)(st:z1'×Int):Prop where
 len:st.1.length=m
 lT:∀ i,i<m->st.1.getD i 0=-1\/(0<=st.1.getD i 0/\st.1.getD i 0<(k:Int)/\gd i (st.1.getD i 0)=true)
 one:∀ j,0<=j->gC st.1 j<=1
 num:st.2=(((List.range k).countP λ(j:Nat)=>decide (gC st.1 (j:Int)=0):Nat):Int)
 Pb:∃ C,Zg gd m st.1 C/\(∀ c,C c->0<=c/\c<(k:Int))/\∀ j:Nat,j<k->gC st.1 (j:Int)=0->C (j:Int)
theorem Zm{gd:Nat->Int->Bool}{m J F k:Nat}(bd:m<F)(ao:k<J){st:z1'×Int}(h:Ek gd m J k st):Ek gd m J (k+1) (yi gd m F st k):=by
 obtain⟨g,n⟩:=st;have hu:rp m []<=m:=by
  unfold rp;exact Nat.le_trans List.countP_le_length (by simp)
 have v_:yh m J F (g,[]):=⟨h.len,λi E=>by have:=h.lT i E;grind,λq=>⟨Int.le_refl _,by show (0:Int)<=1;decide⟩,by grind⟩
 obtain⟨hp,G⟩:=Pk F (k:Int) (g,[]) (by omega) (by omega) v_;unfold yi;revert hp G;generalize jN gd m F (k:Int) (g,[])=r;intro hp G;have mF:gC g (k:Int)=0:=by
  unfold gC;rw[List.countP_eq_zero];intro x hx;obtain⟨i,E,rfl⟩:=List.mem_iff_getElem.1 hx;have:=h.lT i (by rw[<-h.len];exact E);grind
 obtain⟨C,jb,ax9,ax_⟩:=h.Pb;by_cases ab:r.1=true
 ·obtain⟨kE,A3⟩:=G.Zi ab;have ax':=(G.cl C jb).2 ab;refine⟨hp.len,λi E=>?_,λj aC=>?_,?_,C,λc tL i E El=>?_,λc tL=>?_,λj aC hu=>?_⟩
  ·show r.2.1.getD i 0=-1\/_;rcases kE i E with e | ⟨e1,e2⟩
   ·rw[e];rcases h.lT i E with a | a
    ·exact .inl a
    ·exact .inr ⟨a.1,by have:=a.2.1;show g.getD i 0<_;change g.getD i 0<_ at this;omega,a.2.2⟩
   ·by_cases j5:r.2.1.getD i 0=-1
    ·omega
    ·refine .inr ⟨?_,?_,e2⟩
     ·have:=(hp.lT i E).resolve_left j5;grind
     ·have h1:=A3 _ j5;have h2:0<gC r.2.1 (r.2.1.getD i 0):=apE (by rw[hp.len];exact E) rfl;by_cases e:r.2.1.getD i 0=(k:Int)
      ·grind
      ·rw[if_neg e]at h1;have h3:0<gC g (r.2.1.getD i 0):=by grind
       unfold gC at h3;rw[List.countP_pos_iff]at h3;obtain⟨x,hx,eN⟩:=h3;obtain⟨q,bf,rfl⟩:=List.mem_iff_getElem.1 hx;have:=h.lT q (by rw[<-h.len];exact bf);grind
  ·have h1:=A3 j (by omega);have h2:=h.one j aC;change gC r.2.1 j=gC g j+_ at h1;change gC g j<=1 at h2;show gC r.2.1 j<=1;by_cases e:j=(k:Int)
   ·subst e;rw[if_pos rfl]at h1;omega
   ·rw[if_neg e]at h1;omega
  ·rw[if_pos ab];have h1:=h.num;change n=_ at h1;show n=_;rw[h1,List.range_succ,List.countP_append];have h2:∀ j:Nat,j<k->gC r.2.1 (j:Int)=gC g (j:Int):=λj aC=>by
    have:=A3 (j:Int) (by omega);rw[if_neg (by omega)]at this;omega
   have h3:gC r.2.1 (k:Int)=1:=by
    grind
   have aR:(List.range k).countP (λ(j:Nat)=>decide (gC r.2.1 (j:Int)=0))=(List.range k).countP (λ(j:Nat)=>decide (gC g (j:Int)=0)):=List.countP_congr λj aC=>by grind
   simp_all
  ·show r.2.1.getD i 0≠-1/\C (r.2.1.getD i 0);by_cases e:r.2.1.getD i 0=g.getD i 0
   ·rw[e];exact jb c tL i E El
   grind
  ·grind
  ·change gC r.2.1 (j:Int)=0 at hu;have h1:=A3 (j:Int) (by omega);change gC r.2.1 _=gC g _+_ at h1;by_cases e:j=k
   ·grind
   ·rw[if_neg (by omega)]at h1;grind
 ·have Cy:r.1=false:=by grind
  obtain⟨hw,Ir,kY⟩:=G.no Cy;change r.2.1=g at hw;simp only[hw];refine⟨h.len,λi E=>?_,h.one,?_,λc=>C c\/c=(k:Int)\/∃ i,i<m/\1<=cy r.2.2 (i:Int)/\c=g.getD i 0,λc tL i E El=>?_,λc tL=>?_,λj aC hu=>?_⟩
  ·rcases h.lT i E with a | a
   ·exact .inl a
   ·exact .inr ⟨a.1,by have:=a.2.1;show g.getD i 0<_;change g.getD i 0<_ at this;omega,a.2.2⟩
  ·rw[if_neg ab];have h1:=h.num;change n=_ at h1;show n+1=_;rw[h1,List.range_succ,List.countP_append];grind
  ·have az:1<=cy r.2.2 (i:Int)->g.getD i 0≠-1/\(C (g.getD i 0)\/g.getD i 0=(k:Int)\/∃ q,q<m/\1<=cy r.2.2 (q:Int)/\g.getD i 0=g.getD q 0):=λhs=>⟨(kY i E rfl hs).1,.inr (.inr ⟨i,E,hs,rfl⟩)⟩
   rcases tL with e | e | ⟨q,bf,hs,e⟩
   ·exact⟨(jb c e i E El).1,.inl (jb c e i E El).2⟩
   ·grind
   ·subst e;exact az ((kY q bf rfl hs).2 i E El)
  ·rcases tL with e | e | ⟨q,bf,hs,e⟩
   ·grind
   ·omega
   ·have:=(h.lT q bf).resolve_left (kY q bf rfl hs).1;grind
  grind
theorem apH(gd:Nat->Int->Bool)(m J F:Nat)(bd:m<F):Ek gd m J J (Pl gd m J F):=by
 unfold Pl;have key:∀ k,k<=J->Ek gd m J k ((List.range k).foldl (yi gd m F) (List.replicate m (-1),0)):=by
  intro k;induction k with
  | zero=>
   intro _;refine⟨by simp,λi E=>.inl (apD E),λj aC=>?_,by simp,λ_=>False,λ_ h=>h.elim,λ_ h=>h.elim,λj aC=>by omega⟩;show gC (List.replicate m (-1)) j<=1;have:gC (List.replicate m (-1)) j=0:=by
    unfold gC;grind
   omega
  | succ k aH=>
   intro ao;rw[List.range_succ,List.foldl_append];exact Zm bd (by omega) (aH (by omega))
 grind
def ru(t:Sto)(sp:Int×Int)(j:rr):Bool:=decide (sp.2<=j.2.2)&&decide ((oG t.2.2 (sp.1,j.1,j.2.1)).getD 0 > 0)
abbrev fcGood:aJ:=⟨.aw vZ (.aw If Im),cN,λx=>∃ t,x.1=some t,λx=>ru (x.1.getD yf) x.2.1 x.2.2⟩
theorem apI(x):M.le (Vx x) (fcGood.sh x):=M.bg λh=>by
 obtain⟨o,sp,j⟩:=x;obtain⟨t,ar⟩:=h;change o=_ at ar;subst ar;unfold Vx;simp only[Option.isSome_some,Option.getD_some,and_true,true_and,and_self,imp_self,implies_true,M.be];rfl
def Em(t:Sto)(l:List rr):Bool:=l.all λj=>(List.range t.1.2.1.length).any λ(i:Nat)=>ru t ((i:Int),0) j
abbrev Pm:aJ:=⟨.aw vZ (.slice Im),cN,λx=>∃ t,x.1=some t/\t.1.2.1.length<2 ^ 63/\x.2.length<2 ^ 63,λx=>Em (x.1.getD yf) x.2⟩
theorem apJ(t:Sto)(l:List rr)(h1:t.1.2.1.length<2 ^ 63)(h2:l.length<2 ^ 63):Ns fcGood.sh (some t,l)=M.pure (Em t l):=by
 unfold Ns;rw[M.dh l (λi (_:Unit)=>(some t,l,(l.length:Int),(i:Int),())) (λj b=>if (!(List.range t.1.2.1.length).any λ(i:Nat)=>ru t ((i:Int),0) j)=true then .done (.done false) else .next b) (λ_=>.next ()) () ?_ ?_ ?_]
 ·rw[j7 (q:=λj=>(List.range t.1.2.1.length).any λ(i:Nat)=>ru t ((i:Int),0) j) _ _ (λ_=>rfl)];unfold Em;cases l.all λj=>(List.range t.1.2.1.length).any λ(i:Nat)=>ru t ((i:Int),0) j<;>simp
 ·rfl
 ·intro i E b;have hw:=bn (n:=(i:Int)+1) (by omega) (by omega);simp only[bG,cC E,if_true,cV E,ct E,M.be,Option.isSome_some,Option.getD_some];rw[M.dh (List.range t.1.2.1.length) (λk (b:Bool)=>(some t,b,l,(l.length:Int),(i:Int),(t.1.2.1.length:Int),(k:Int),l[i],())) (λ(k:Nat) b=>.next (b||ru t ((k:Int),0) l[i])) (λb=>.next (some t,b,l,(l.length:Int),(i:Int),())) false ?_ ?_ ?_]
  ·rw[dP];have e:∀ (r:List Nat) (b:Bool),r.foldl (λ(b:Bool) (k:Nat)=>b||ru t ((k:Int),0) l[i]) b=(b||r.any λ(k:Nat)=>ru t ((k:Int),0) l[i]):=by
    intro r;induction r with
    | nil=>simp
    | cons k r aH=>grind
   rw[e,Bool.false_or];simp only[M.aE,M.bK];cases (List.range t.1.2.1.length).any λ(k:Nat)=>ru t ((k:Int),0) l[i]<;>simp[aa.gT,hw]
  ·rfl
  ·intro k ao b;have ao:k<t.1.2.1.length:=by grind
   have mm:=bn (n:=(k:Int)+1) (by omega) (by omega);simp only[cC ao,if_true,List.getElem_range,aJ.sh,M.iR,M.c_];rw[M.bk (by simp)];simp only[Option.getD_some,b2,mm,aa.gT];grind
  simp
 simp
theorem apK(x):M.le (Ns fcGood.sh x) (Pm.sh x):=M.bg λh=>by
 obtain⟨o,l⟩:=x;obtain⟨t,ar,h1,h2⟩:=h;change o=_ at ar;subst ar;exact apJ t l h1 h2
def gK(t:Sto)(l:List rr)(i:Nat)(j:Int):Bool:=ru t (t.2.1.getD i (0,0)) (l.getD j.toNat (0,0,0))
abbrev Pn:=Option Sto×List rr×Int×z4'×z1'×Unit
abbrev Zn:=Bool×z4'×z1'×Unit
def uy(r:Bool×kP):Zn:=(r.1,r.2.2,r.2.1,())
def Po(f:Nat)(x:Pn):Prop:=∃ t,x.1=some t/\t.2.1.length<=200/\x.2.1.length<=1000/\0<=x.2.2.1/\x.2.2.1<(x.2.1.length:Int)/\yh t.2.1.length x.2.1.length f (x.2.2.2.2.1,x.2.2.2.1)
def uz(f:Nat)(x:Pn):M Zn:=M.dv (Po f x) (uy (jN (gK (x.1.getD yf) x.2.1) (x.1.getD yf).2.1.length f x.2.2.1 (x.2.2.2.2.1,x.2.2.2.1)))
theorem apL{t:Sto}{l:List rr}(an:t.2.1.length<=200)(ai:l.length<=1000){f:Nat}{own:Int}(Zk:0<=own)(Zl:own<(l.length:Int)){st:kP}(h0:yh t.2.1.length l.length (f+1) st) :
  NA fcGood.sh (uz f) (some t,l,own,st.2,st.1,())=M.pure (uy (jN (gK t l) t.2.1.length (f+1) own st)):=by
 have DW:=Pk (gd:=gK t l) (m:=t.2.1.length) (J:=l.length) f;unfold NA;simp only[bG,M.be,aoz,Option.isSome_some,Option.getD_some];rw[M.fZ (List.range t.2.1.length) (λi (b:kP)=>(some t,l,own,t.2.1,(t.2.1.length:Int),(i:Int),b.2,b.1,())) (λi b=>aa.uv (λr=>.done (uy r)) (nT (gK t l) (jN (gK t l) t.2.1.length f) own i b)) (λb=>.next (b.2,b.1,())) (λi b=>b.1=st.1/\∀ q,cy st.2 q<=cy b.2 q/\cy b.2 q<=1) st ?_ ?_ ?_ ?_]
 ·show _=M.pure (uy (eE (nT (gK t l) (jN (gK t l) t.2.1.length f) own) (λst=>(false,st)) (List.range t.2.1.length) st));rw[O0,O0,Y1];cases ya (nT (gK t l) (jN (gK t l) t.2.1.length f) own) (List.range t.2.1.length) st<;>(simp only[aa.uv,aa.fin,M.aE,M.bK,M.pb];try rfl)
 ·rfl
 ·exact⟨rfl,λq=>⟨Int.le_refl _,(h0.seen q).2⟩⟩
 ·intro i E b ab;have E:i<t.2.1.length:=by grind
  have lf:=bn (n:=(i:Int)+1) (by omega) (by omega);rw[List.getElem_range];have apM:b.1.length=t.2.1.length:=by rw[ab.1];exact h0.len
  have ek:i<b.1.length:=by omega
  have apN:0<=own/\own<(l.length:Int):=⟨Zk,Zl⟩
  have kE:=ab.2 (i:Int);have mM:=h0.seen (i:Int);simp only[bG,cC E,if_true,ct E,ct ek,M.be,apN,aJ.sh,M.mf,M.fY,Int.toNat_natCast,Option.getD_some];have y9:ru t (t.2.1.getD i (0,0)) (l.getD own.toNat (0,0,0))=gK t l i own:=rfl;rw[y9];have apO:(∃ cD,(some t:Option Sto)=some cD)=True:=by simp
  simp only[apO,and_true,true_and,and_self,imp_self,implies_true,M.be];by_cases Is:cy b.2 (i:Int) > 0
  ·have hu:nT (gK t l) (jN (gK t l) t.2.1.length f) own i b=.next b:=by unfold nT;grind
   rw[hu];refine⟨?_,λaZ cS=>by cases cS;exact ab⟩;simp only[Is,decide_true,Bool.true_or,if_true,M.aE,M.bK,b2,lf,aa.gT,aa.uv,Bool.not_true,Bool.false_eq_true,false_imp_iff,Bool.true_eq_false,M.be,and_self,implies_true];rfl
  ·by_cases aA:gK t l i own=true
   ·have bb:cy b.2 (i:Int)=0:=by omega
    have Ik:=bn (n:=cy b.2 (i:Int)+1) (by omega) (by omega);have j5:∀ q,cy b.2 q<=cy (eQ b.2 (i:Int) (cy b.2 (i:Int)+1)) q/\cy (eQ b.2 (i:Int) (cy b.2 (i:Int)+1)) q<=1:=λq=>by
     have:=ab.2 q;rw[AW];omega
    have J8:¬(decide (cy b.2 (i:Int) > 0)||!gK t l i own)=true:=by grind
    by_cases ar:b.1.getD i 0=-1
    ·have hu:nT (gK t l) (jN (gK t l) t.2.1.length f) own i b=.done (true,(b.1.set i own,eQ b.2 (i:Int) (cy b.2 (i:Int)+1))):=by
      unfold nT;grind
     rw[hu];refine⟨?_,λaZ cS=>by cases cS⟩;simp only[Is,aA,ar,decide_true,decide_false,Bool.not_true,Bool.not_false,Bool.or_self,Bool.false_eq_true,if_false,if_true,false_imp_iff,Bool.true_eq_false,Bool.true_or,M.be,M.aE,M.pb,b2,Ik,ct ek,aa.gT,aa.uv,and_self,implies_true,true_imp_iff];rfl
    ·have aya:=h0.lT i E;have aC:0<=b.1.getD i 0/\b.1.getD i 0<(l.length:Int):=by grind
     have v_:yh t.2.1.length l.length f (b.1,eQ b.2 (i:Int) (cy b.2 (i:Int)+1)):=by
      refine⟨apM,?_,λk=>⟨?_,(j5 k).2⟩,?_⟩
      ·show Pd _ _ b.1;rw[ab.1];exact h0.lT
      ·have:=(j5 k).1;have:=ab.2 k;have:=(h0.seen k).1;grind
      ·have h1:=YZ (n:=t.2.1.length) (m:=b.2) (s:=(i:Int)) (v:=cy b.2 (i:Int)+1) (by omega) (by omega) bb (by omega);have h2:=Y0 (n:=t.2.1.length) (a:=st.2) (b:=b.2) λk=>⟨(h0.seen k).1,(ab.2 k).1⟩
       have h3:=h0.b3;grind
     obtain⟨zP,apP⟩:=DW (b.1.getD i 0) (b.1,eQ b.2 (i:Int) (cy b.2 (i:Int)+1)) aC.1 aC.2 v_;have gw:Po f (some t,l,b.1.getD i 0,eQ b.2 (i:Int) (cy b.2 (i:Int)+1),b.1,()):=⟨t,rfl,an,ai,aC.1,aC.2,v_⟩
     have vm:uz f (some t,l,b.1.getD i 0,eQ b.2 (i:Int) (cy b.2 (i:Int)+1),b.1,())=M.pure (uy (jN (gK t l) t.2.1.length f (b.1.getD i 0) (b.1,eQ b.2 (i:Int) (cy b.2 (i:Int)+1)))):=M.bE gw _;simp only[Is,aA,ar,decide_true,decide_false,Bool.not_true,Bool.not_false,Bool.or_self,Bool.false_eq_true,if_false,if_true,false_imp_iff,Bool.true_eq_false,Bool.false_or,M.be,b2,Ik,and_self,implies_true,true_imp_iff,vm,M.aE];have tB:(jN (gK t l) t.2.1.length f (b.1.getD i 0) (b.1,eQ b.2 (i:Int) (cy b.2 (i:Int)+1))).2.1.length=t.2.1.length:=zP.len;have ayb:=zP.seen;have ayc:=apP.no;have Zo:nT (gK t l) (jN (gK t l) t.2.1.length f) own i b=if (jN (gK t l) t.2.1.length f (b.1.getD i 0) (b.1,eQ b.2 (i:Int) (cy b.2 (i:Int)+1))).1=true then .done (true,((jN (gK t l) t.2.1.length f (b.1.getD i 0) (b.1,eQ b.2 (i:Int) (cy b.2 (i:Int)+1))).2.1.set i own,(jN (gK t l) t.2.1.length f (b.1.getD i 0) (b.1,eQ b.2 (i:Int) (cy b.2 (i:Int)+1))).2.2)) else .next (jN (gK t l) t.2.1.length f (b.1.getD i 0) (b.1,eQ b.2 (i:Int) (cy b.2 (i:Int)+1))).2:=by
      unfold nT;grind
     rw[Zo];clear Zo vm;generalize jN (gK t l) t.2.1.length f (b.1.getD i 0) (b.1,eQ b.2 (i:Int) (cy b.2 (i:Int)+1))=r at *
     obtain⟨ok,g',s'⟩:=r;have pV:i<g'.length:=by grind
     cases ok with
     | true=>
      refine⟨?_,λaZ cS=>by cases cS⟩;simp only[uy,if_true,ct pV,M.be,M.aE,M.pb,aa.gT,aa.uv]
     | false=>
      refine⟨?_,λaZ cS=>?_⟩
      ·simp only[uy,Bool.false_eq_true,if_false,M.aE,M.bK,b2,lf,aa.gT,aa.uv];rfl
      ·cases cS;grind
   ·have hu:nT (gK t l) (jN (gK t l) t.2.1.length f) own i b=.next b:=by unfold nT;grind
    rw[hu];refine⟨?_,λaZ cS=>by cases cS;exact ab⟩;simp only[Is,aA,decide_false,Bool.not_false,Bool.or_true,if_true,M.aE,M.bK,b2,lf,aa.gT,aa.uv,Bool.false_eq_true,M.be,and_self,implies_true];rfl
 simp
theorem apQ(f:Nat)(x):M.le (NA fcGood.sh (uz f) x) (uz (f+1) x):=M.bg λh=>by
 obtain⟨o,l,own,seen,g,u⟩:=x;obtain⟨t,ar,an,ai,h0,h1,v_⟩:=h;change o=_ at ar;subst ar;exact apL (st:=(g,seen)) an ai h0 h1 v_
theorem apR(x:Pn):¬(uz 0 x).bY:=λ⟨_,_,_,_,_,_,h⟩=>absurd h.b3 (by omega)
def yj(t:Sto)(l:List rr):Int:=(Pl (gK t l) t.2.1.length l.length 201).2
abbrev It:aJ:=⟨.aw vZ (.slice Im),tI,λx=>∃ t,x.1=some t/\t.2.1.length<=200/\x.2.length<=1000,λx=>yj (x.1.getD yf) x.2⟩
theorem apS(t:Sto)(l:List rr)(an:t.2.1.length<=200)(ai:l.length<=1000):Nt vU (uz 201) (some t,l)=M.pure (yj t l):=by
 unfold Nt;simp only[bG,Option.isSome_some,Option.getD_some,M.be];unfold vU;simp only[M.c_];rw[M.bk (by grind)];simp only[Int.toNat_natCast];rw[M.fZ (List.range l.length) (λi (b:z1'×Int)=>(some t,l,b.2,(l.length:Int),(i:Int),b.1,())) (λi b=>.next (yi (gK t l) t.2.1.length 201 b i)) (λb=>.next (b.2,())) (λi b=>Ek (gK t l) t.2.1.length l.length i b/\0<=b.2/\b.2<=(i:Int)) (List.replicate t.2.1.length (-1),0) ?_ ?_ ?_ ?_]
 ·rw[dP,M.aE,M.bK];rfl
 ·rfl
 ·refine⟨?_,by simp⟩;have:=apH (gK t l) t.2.1.length 0 201 (by omega);exact⟨this.len,this.lT,this.one,this.num,this.Pb⟩
 ·intro i E b ab;have E:i<l.length:=by grind
  have lf:=bn (n:=(i:Int)+1) (by omega) (by omega);rw[List.getElem_range];obtain⟨g,n⟩:=b;obtain⟨ab,rX,pW⟩:=ab;change 0<=n at rX;change n<=(i:Int) at pW;have AV:=bn (n:=n+1) (by omega) (by omega);have gw:Po 201 (some t,l,(i:Int),[],g,()):=by
   refine⟨t,rfl,an,ai,Int.natCast_nonneg i,Int.ofNat_lt.2 E,ab.len,λk ao=>?_,λk=>by show 0<=cy [] k/\cy [] k<=1;simp[cy,uu],?_⟩
   ·rcases ab.lT k ao with h | h
    ·exact .inl h
    ·exact .inr ⟨h.1,Int.lt_trans h.2.1 (Int.ofNat_lt.2 E)⟩
   ·have:rp t.2.1.length []<=t.2.1.length:=by
     unfold rp;exact Nat.le_trans List.countP_le_length (by simp)
    grind
  have vm:uz 201 (some t,l,(i:Int),[],g,())=M.pure (uy (jN (gK t l) t.2.1.length 201 (i:Int) (g,[]))):=M.bE gw _;have CS:=Zm (F:=201) (by omega) E ab;refine⟨?_,λaZ cS=>?_⟩
  ·simp only[cC E,if_true,vm,M.aE,uy];unfold yi;cases cq:(jN (gK t l) t.2.1.length 201 (i:Int) (g,[])).1 with
   | true=>
    simp_all
   | false=>
    simp_all
  ·cases cS;refine⟨CS,?_⟩;have e1:(0:Int)<=n+1:=by omega
   have e2:n+1<=((i+1:Nat):Int):=by omega
   have e3:n<=((i+1:Nat):Int):=by omega
   unfold yi;omega
 simp
theorem apT(x):M.le (Nt vU (uz 201) x) (It.sh x):=M.bg λh=>by
 obtain⟨o,l⟩:=x;obtain⟨t,ar,h1,h2⟩:=h;change o=_ at ar;subst ar;exact apS t l h1 h2
theorem Zp{s:br}(hv:lS s):(O8 s).length<=200:=by
 have h1:∀ (l:List Nat),(∀ i∈l,i<s.2.1.length)->(l.flatMap λ(i:Nat)=>lg ((i:Int),0) (s.2.1.getD i 0)).length<=10*l.length:=by
  intro l;induction l with
  | nil=>simp
  | cons i l aH=>
   intro ai;have h1:=aH λj aC=>ai j (by grind);have h2:=ai i (by simp);have h3:=hv.qp _ (List.getElem_mem h2);have iD:s.2.1.getD i 0=s.2.1[i]:=by grind
   rw[List.flatMap_cons,List.length_append,List.length_cons,iD];simp only[lg,List.length_replicate];simp only[lg]at h1;omega
 have h2:∀ (l:List Du),(∀ d∈l,oI s.1 d=true)->(l.flatMap λd=>lg (d.2.1,d.1) d.2.2).length<=10*l.length:=by
  intro l;induction l with
  | nil=>simp
  | cons d l aH=>
   intro ai;have h1:=aH λj aC=>ai j (by grind);have h3:=ai d (by simp);simp only[oI,bM,Bool.and_eq_true,decide_eq_true_eq]at h3;rw[List.flatMap_cons,List.length_append,List.length_cons];simp only[lg,List.length_replicate];simp only[lg]at h1;omega
 have a:=h1 (List.range s.2.1.length) λi E=>by grind
 have b:=h2 s.2.2.2.2.1 hv.Y7;have c:=hv.Y8;have d:=hv.O7;have e:=hv.Eg;unfold O8 Eh Y';grind
theorem Zq{s:br}(hv:lS s){cb:z1'}(hp:nR s cb):(lh s cb).1.length<=24:=by
 unfold lh;split
 ·have:∀ (l:List Nat),(∀ i∈l,i<cb.length)->(l.flatMap λi=>(oJ s cb i).getD []).length<=4*l.length:=by
   intro l;induction l with
   | nil=>simp
   | cons i l aH=>
    intro ai;have h1:=aH λj aC=>ai j (by grind);have h2:=ai i (by simp);rw[List.flatMap_cons,List.length_append,List.length_cons];have:((oJ s cb i).getD []).length<=4:=by
     cases h:oJ s cb i with
     | none=>simp
     | some y=>exact Zc hv hp h2 h
    omega
  have a:=this (List.range cb.length) λi E=>by grind
  rw[List.length_range]at a;have:=hp.1;have:=hv.uw;grind
 ·simp
def pC(s:br)(cb:z1'):Bool:=(lh s cb).2&&decide (yj (cX s) (lh s cb).1=0)
abbrev v':aJ:=⟨.aw vZ fm,cN,λx=>∃ s,v8 x.1 s/\nR s x.2,λx=>pC (nS x.1) x.2⟩
theorem apU(x):M.le (Vq Ip.sh It.sh x) (v'.sh x):=M.bg λh=>by
 obtain⟨o,cb⟩:=x;obtain⟨s,⟨ar,hv⟩,hp⟩:=h;change o=_ at ar;subst ar;unfold Vq;simp only[aJ.sh,M.c_,M.iR];rw[M.bk (by exact⟨s,⟨rfl,hv⟩,hp⟩),M.bk (by exact λ_=>⟨cX s,rfl,Zp hv,Nat.le_trans (Zq hv hp) (by omega)⟩)];show M.pure ((lh s cb).2&&decide ((if (lh s cb).2=true then yj (cX s) (lh s cb).1 else 0)=0))=M.pure (pC s cb);unfold pC;grind
def A4(s:br)(first:z1')(p:Nat):Bool:=!(first.contains (p:Int)||decide (sP (mo s (first.length:Int)) (mY s (p:Int))=0))
def ka(s:br)(e:Int):Nat->z1'->List (z1')
 | 0,first=>[first]
 | n+1,first=>((List.range s.2.2.1.length).flatMap λp=>if A4 s first p=true then ka s e n (first++[(p:Int)]) else [])++(if e=0 then [] else ka s e n (first++[-1]))
abbrev Zr:Type:=Nat×(List (z1')->Prop)×List (z1')×Bool
abbrev Pp:Type:=Option Sto×z1'×Int×Nat×Zr×Unit
abbrev Zs:Type:=Bool×Zr×Unit
structure Pq(f:Nat)(x:Pp)(s:br)(n:Nat)(a b:List (z1')):Prop where
 ayd:v8 x.1 s
 len:x.2.1.length+n=s.2.2.2.1.length
 b3:n<f
 aye:x.2.2.2.2.1.1=x.2.2.2.1
 bm:x.2.2.2.2.1.2.2.2=false
 seq:x.2.2.2.2.1.2.1=λT=>T=a++ka s x.2.2.1 n x.2.1++b
 pos:x.2.2.2.2.1.2.2.1=a
def apV(x:Pp)(y:Zs):Prop:=y.2.1.1=x.2.2.2.1/\y.2.1.2.1=x.2.2.2.2.1.2.1/\(y.1=true->y.2.1.2.2.2=false/\y.2.1.2.2.1=x.2.2.2.2.1.2.2.1++ka (nS x.1) x.2.2.1 ((nS x.1).2.2.2.1.length - x.2.1.length) x.2.1)/\(y.1=false->y.2.1.2.2.2=true)
def rv(f:Nat)(x:Pp):M Zs:=⟨∃ s n a b,Pq f x s n a b,apV x⟩
def lU(s:br)(e:Int)(n:Nat)(first:z1')(k:Nat):List (z1'):=(List.range k).flatMap λp=>if A4 s first p=true then ka s e n (first++[(p:Int)]) else []
theorem Iu(s:br)(e:Int)(n:Nat)(first:z1')(k:Nat):lU s e n first (k+1)=lU s e n first k++(if A4 s first k=true then ka s e n (first++[(k:Int)]) else []):=by
 unfold lU;rw[List.range_succ,List.flatMap_append];simp
theorem apW(s:br)(e:Int)(n:Nat)(first:z1'){k m:Nat}(h:k<=m):∃ t,lU s e n first m=lU s e n first k++t:=by
 induction m with
 | zero=>simp_all
 | succ m aH=>
  by_cases ao:k=m+1
  ·simp_all
  ·obtain⟨t,aG⟩:=aH (by omega);rw[Iu,aG,List.append_assoc];simp
theorem apX{f:Nat}{s:br}(hv:lS s){first:z1'}{e:Int}{l:Nat}{L:List (z1')->Prop}{n:Nat}(hlen:first.length+n=s.2.2.2.1.length)(ar:n<f+1){a b:List (z1')}(iy:L=λT=>T=a++ka s e n first++b) :
  M.b_ (NB vV.sh (rv f) mj.sh (some (cX s),first,e,l,(l,L,a,false),())) λy=>y.2.1.1=l/\y.2.1.2.1=L/\(y.1=true->y.2.1.2.2.2=false/\y.2.1.2.2.1=a++ka s e n first)/\(y.1=false->y.2.1.2.2.2=true):=by
 have fX:(cX s).1=s:=rfl;have A1:=hv.uw;have apY:=hv.Ii;unfold NB;simp only[Option.isSome_some,Option.getD_some,M.be,bG,fX];cases n with
 | zero=>
  have au:decide ((first.length:Int)=(s.2.2.2.1.length:Int))=true:=by grind
  have aA:∃ T,L (a++first::T):=⟨b,by rw[iy];show _=_;simp[ka]⟩
  simp only[au,if_true,true_and,and_self];rw[M.bk aA,M.fJ];refine⟨⟨true,trivial⟩,λy _=>M.dF.2 ?_⟩;refine⟨rfl,rfl,λh=>?_,λh=>?_⟩
  ·change y=true at h;subst h;exact⟨rfl,rfl⟩
  grind
 | succ n=>
  have au:decide ((first.length:Int)=(s.2.2.2.1.length:Int))=false:=by grind
  simp only[au,Bool.false_eq_true,if_false,M.fJ];obtain⟨z,bb⟩:∃ z,ka s e (n+1) first=lU s e n first s.2.2.1.length++z:=⟨_,rfl⟩
  refine M.aox s.2.2.1.length (λk q=>q=(some (cX s),first,e,l,(first.length:Int),s.2.2.1,(s.2.2.1.length:Int),(k:Int),(l,L,a++lU s e n first k,false),())) ?_ ?_ ?_
  ·show _=_;simp[lU]
  ·rintro k ao q rfl;have mm:=bn (n:=(k:Int)+1) (by omega) (by omega);have fC:first.length<2 ^ 63:=by omega
   have sQ:first.length<s.2.2.2.1.length:=by omega
   have Iq:=O' sQ;have A2:List.getD s.2.2.2.1 first.length ([],(0,0),0,0,0)=mo s (first.length:Int):=rfl
   have Pa:s.2.2.1[k]=mY s (k:Int):=by simp[mY,List.getD_eq_getElem?_getD,ao]
   have nL:vV.pre (mo s (first.length:Int),mY s (k:Int)):=hv.gv.2.2.2.2.2.2 _ Iq;have apZ:(first.length<2 ^ 63)=True:=by grind
   simp only[cC ao,if_true,ct ao,cV ao,M.be,aJ.sh,M.mf,M.fY,apZ,fX,Int.toNat_natCast,ct sQ,A2,Pa,and_true,true_and,and_self,imp_self,implies_true];have ap0:((mo s (first.length:Int)).1.length<2 ^ 63)=True:=by grind
   have ap1:List.getD s.2.2.1 k (0,0,0,0,[])=mY s (k:Int):=rfl;have ea:first.contains (k:Int)=false->(!first.contains (k:Int))=true:=λh=>by grind
   have iz:((0:Int)<=0/\0<=(first.length:Int)/\(first.length:Int)<=(first.length:Int))=True:=by simp
   have kB:List.take first.length first=first:=List.take_length
   have kC:(0<Add.add 0 1/\bT (Add.add first.length (Add.add 0 1))):=⟨by decide,by show bT (first.length+1);unfold bT;omega⟩
   have h8:(first.contains (k:Int)||decide (sP (mo s (first.length:Int)) (mY s (k:Int))=0))=!A4 s first k:=by unfold A4;simp
   have jB:first.contains (k:Int)=first.contains (k:Int):=rfl
   simp only[Option.isSome_some,Option.getD_some,fX,ct sQ,A2,ap1,ap0,and_true,true_and,and_self,imp_self,implies_true,M.be,M.bk ea,h8,iz,kB];rw[M.bk (by omega)];obtain⟨t,aG⟩:=apW s e n first (show k+1<=s.2.2.1.length by omega)
   cases az:A4 s first k with
   | false=>
    simp only[Bool.not_false,if_true,M.aE,M.bK,M.dF,b2,mm];show _=_;rw[Iu,az];simp
   | true=>
    rw[Iu,az,if_pos rfl]at aG;simp only[Bool.not_true,Bool.false_eq_true,if_false,M.fJ];have DY:Pq f (some (cX s),first++[(k:Int)],e,l,(l,L,a++lU s e n first k,false),()) s n (a++lU s e n first k) (t++z++b):=by
     refine⟨⟨rfl,hv⟩,by grind,by omega,rfl,rfl,?_,rfl⟩;grind
    refine⟨⟨s,n,_,_,DY⟩,λy aM=>?_⟩;obtain⟨JP,⟨yl,Zt,Pr,ys⟩,ap2⟩:=y;obtain⟨c7,q2,q3,rq⟩:=aM;change yl=l at c7;change Zt=L at q2;subst c7;subst q2;cases JP with
    | false=>
     have aR:ys=true:=rq rfl;subst aR;simp only[Bool.not_false,if_true,M.aE,M.dF,M.pb];simp
    | true=>
     obtain⟨bw,cZ⟩:=q3 rfl;change ys=false at bw;change Pr=(a++lU s e n first k)++ka s e (s.2.2.2.1.length - (first++[(k:Int)]).length) (first++[(k:Int)]) at cZ;have vc:s.2.2.2.1.length - (first++[(k:Int)]).length=n:=by grind
     rw[vc]at cZ;subst bw;subst cZ;simp only[Bool.not_true,Bool.false_eq_true,if_false,M.aE,M.dF,M.bK,b2,mm];show _=_;rw[Iu,az,if_pos rfl];simp
  ·rintro q rfl;have kB:List.take first.length first=first:=List.take_length
   have iz:((0:Int)<=0/\0<=(first.length:Int)/\(first.length:Int)=(first.length:Int)/\(first.length:Int)<=(first.length:Int))=True:=by simp
   have kC:(0<Add.add 0 1/\bT (Add.add first.length (Add.add 0 1))):=⟨by decide,by show bT (first.length+1);unfold bT;omega⟩
   simp only[Int.lt_irrefl,decide_false,Bool.false_eq_true,if_false,M.aE,M.dF,M.bK,iz,kB,Int.toNat_natCast,and_true];by_cases he:e=0
   ·have y7:ka s e (n+1) first=lU s e n first s.2.2.1.length:=by
     show lU s e n first s.2.2.1.length++(if e=0 then [] else ka s e n (first++[-1]))=_
     grind
    simp only[he,decide_true,Bool.not_true,Bool.false_eq_true,if_false,false_imp_iff,M.be,Bool.true_or,M.dF,Bool.true_eq_false,and_self,implies_true];grind
   ·have y7:ka s e (n+1) first=lU s e n first s.2.2.1.length++ka s e n (first++[-1]):=by
     show lU s e n first s.2.2.1.length++(if e=0 then [] else ka s e n (first++[-1]))=_
     grind
    simp only[he,decide_false,Bool.not_false,if_true,true_imp_iff,M.be,Bool.false_or,and_self,implies_true];rw[M.bk (by simp),M.bk (by omega)];have DY:Pq f (some (cX s),first++[-1],e,l,(l,L,a++lU s e n first s.2.2.1.length,false),()) s n (a++lU s e n first s.2.2.1.length) b:=by
     refine⟨⟨rfl,hv⟩,by grind,by omega,rfl,rfl,?_,rfl⟩;grind
    rw[M.fJ];refine⟨⟨s,n,_,_,DY⟩,λy aM=>M.dF.2 ?_⟩;obtain⟨JP,⟨yl,Zt,Pr,ys⟩,ap2⟩:=y;obtain⟨c7,q2,q3,rq⟩:=aM;refine⟨c7,q2,λh=>?_,rq⟩;obtain⟨bw,cZ⟩:=q3 h;change Pr=(a++lU s e n first s.2.2.1.length)++ka s e (s.2.2.2.1.length - (first++[(-1:Int)]).length) (first++[-1]) at cZ;grind
theorem ap3(f:Nat)(x):M.le (NB vV.sh (rv f) mj.sh x) (rv (f+1) x):=λh=>by
 obtain⟨o,first,e,l,⟨l',L,p,st⟩,u⟩:=x;obtain⟨s,n,a,b,hp⟩:=h;obtain⟨⟨ar,hv⟩,h1,h2,h3,aR,bw,cZ⟩:=hp;change o=_ at ar;change l'=l at h3;change st=false at aR;change p=a at cZ;change L=_ at bw;change first.length+n=_ at h1
 change _ at bw;subst ar;subst h3;subst aR;subst cZ;have vc:(nS (some (cX s))).2.2.2.1.length - first.length=n:=by show s.2.2.2.1.length - first.length=n;omega
 refine M.b_.mono (apX hv h1 h2 bw) λy aM=>⟨aM.1,aM.2.1,λh=>?_,aM.2.2.2⟩
 obtain⟨aO,aP⟩:=aM.2.2.1 h;refine⟨aO,?_⟩;rw[aP];show _=p++ka (nS (some (cX s))) e ((nS (some (cX s))).2.2.2.1.length - first.length) first
 rw[vc];rfl
theorem ap4(x):¬(rv 0 x).bY:=λ⟨s,n,a,b,h⟩=>by have:=h.b3;omega
def lj(e:Int)(s:br):List (z1'):=ka s e s.2.2.2.1.length []
def yk(o:Option Sto):Prop:=∃ s,v8 o s
def Iv(o:Option Sto):List (z1'):=lj 1 (nS o)
def Ps(o:Option Sto):List (z1'):=lj 0 (nS o)
theorem ap5(s:br)(hv:lS s)(l:Nat):M.b_ (Hf (rv 10) (some (cX s),l,(l,(λT=>T=lj 1 s),[],false),())) λy=>y.1.1=l/\y.1.2.1=(λT=>T=lj 1 s)/\(y.1.2.2.2=false->y.1.2.2.1=lj 1 s):=by
 unfold Hf;rw[M.fJ];have A1:=hv.uw;refine⟨⟨s,s.2.2.2.1.length,[],[],⟨rfl,hv⟩,by simp,by omega,rfl,rfl,by show (λT=>T=lj 1 s)=_;simp[lj],rfl⟩,λy aM=>M.dF.2 ?_⟩;obtain⟨c7,q2,q3,rq⟩:=aM;refine⟨c7,q2,λh=>?_⟩;cases h1:y.1 with
 | false=>grind
 | true=>
  obtain⟨_,h3⟩:=q3 h1;show y.2.1.2.2.1=_;rw[h3];rfl
theorem ap6(s:br)(hv:lS s)(l:Nat):M.b_ (Hg (rv 10) (some (cX s),l,(l,(λT=>T=lj 0 s),[],false),())) λy=>y.1.1=l/\y.1.2.1=(λT=>T=lj 0 s)/\(y.1.2.2.2=false->y.1.2.2.1=lj 0 s):=by
 unfold Hg;rw[M.fJ];have A1:=hv.uw;refine⟨⟨s,s.2.2.2.1.length,[],[],⟨rfl,hv⟩,by simp,by omega,rfl,rfl,by show (λT=>T=lj 0 s)=_;simp[lj],rfl⟩,λy aM=>M.dF.2 ?_⟩;obtain⟨c7,q2,q3,rq⟩:=aM;refine⟨c7,q2,λh=>?_⟩;cases h1:y.1 with
 | false=>grind
 | true=>
  obtain⟨_,h3⟩:=q3 h1;show y.2.1.2.2.1=_;rw[h3];rfl
theorem Pt{A aj:Type}{body:A->aj->M (cQ×A)}(g:A->aj->A)(I:A->Prop):∀ (l:List aj) (s:A),I s->(∀ x∈l,∀ s,I s->body s x=M.pure (cQ.normal,g s x)/\I (g s x))->jA body l s=M.pure (cQ.normal,l.foldl g s)
 | [],s,_,_=>rfl
 | x::l,s,d_,h=>by
  obtain⟨h1,h2⟩:=h x (by simp) s d_;unfold jA;rw[h1,M.aE];exact Pt g I l (g s x) h2 λy aM=>h y (List.mem_cons_of_mem _ aM)
theorem Pu{s:br}{e:Int}:∀ {n:Nat} {first y:z1'},y∈ka s e n first->y.length=first.length+n/\∀ p∈y,p∈first\/p=-1\/(0<=p/\p<(s.2.2.1.length:Int))
 | 0,first,y,h=>by
  simp only[ka,List.mem_singleton]at h;grind
 | n+1,first,y,h=>by
  simp only[ka,List.mem_append,List.mem_flatMap,List.mem_range]at h;rcases h with⟨p,hp,h⟩ | h
  ·split at h
   ·obtain⟨h1,h2⟩:=Pu h;grind
   grind
  ·split at h
   ·cases h
   ·obtain⟨h1,h2⟩:=Pu h;grind
theorem Pv{s:br}{e:Int}{y:z1'}(h:y∈lj e s):y.length=s.2.2.2.1.length/\nR s y:=by
 obtain⟨h1,h2⟩:=Pu h;have h1:y.length=s.2.2.2.1.length:=by grind
 refine⟨h1,by omega,λp hp=>?_⟩;grind
theorem ap7(s:br):nR s (List.replicate s.2.2.2.1.length (-1)):=⟨by simp,λp hp=>by grind⟩
def sS(s:br)(b y:z1'):z1':=if (decide (rs s y > rs s b)&&pC s y)=true then y else b
def En(s:br):z1':=(lj 1 s).foldl (sS s) (List.replicate s.2.2.2.1.length (-1))
theorem Zu{s:br}:∀ (l:List (z1')) (b:z1'),(∀ y∈l,y.length=s.2.2.2.1.length/\nR s y)->(b.length=s.2.2.2.1.length/\nR s b)->((l.foldl (sS s) b).length=s.2.2.2.1.length/\nR s (l.foldl (sS s) b))
 | [],b,_,ab=>ab
 | y::l,b,ai,ab=>by
  rw[List.foldl_cons];refine Zu l _ (λz bb=>ai z (List.mem_cons_of_mem _ bb)) ?_;unfold sS;grind
theorem ap8(s:br):(En s).length=s.2.2.2.1.length/\nR s (En s):=Zu _ _ (λ_ h=>Pv h) ⟨by simp,ap7 s⟩
abbrev Pw:aJ:=⟨vZ,fm,λo=>∃ s,v8 o s,λo=>En (nS o)⟩
theorem ap9(s:br)(hv:lS s):Nw Ie.sh v'.sh sR.sh yk Iv (some (cX s))=M.pure (En s):=by
 unfold Nw;have A1:=hv.uw;have fX:(cX s).1=s:=rfl;have gw:yk (some (cX s)):=⟨s,rfl,hv⟩
 have Px:Iv (some (cX s))=lj 1 s:=rfl;simp only[Option.isSome_some,Option.getD_some,M.be,bG,fX,aJ.sh,M.c_,Px];rw[M.bk (by grind),M.bk gw];simp only[Int.toNat_natCast];rw[Pt (λ(b:Option Sto×z1'×Unit) (y:z1')=>(some (cX s),sS s b.2.1 y,())) (λb=>b.1=some (cX s)/\b.2.1.length=s.2.2.2.1.length) (lj 1 s) (some (cX s),List.replicate s.2.2.2.1.length (-1),()) ⟨rfl,by simp⟩ ?_]
 ·have ar:∀ (l:List (z1')) (b:z1'),l.foldl (λ(b:Option Sto×z1'×Unit) (y:z1')=>(some (cX s),sS s b.2.1 y,())) (some (cX s),b,())=(some (cX s),l.foldl (sS s) b,()):=by
   intro l;induction l with
   | nil=>simp
   | cons y l aH=>grind
  rw[ar,M.aE];rfl
 ·intro y aM b ab;obtain⟨dt,eG,ap_⟩:=b;obtain⟨l9,qK⟩:=ab;change dt=_ at l9;change eG.length=_ at qK;subst l9;obtain⟨xq,r9⟩:=Pv aM;have jw:sR.pre (some (cX s),y):=⟨s,⟨rfl,hv⟩,by grind⟩
  have pS:sR.pre (some (cX s),eG):=⟨s,⟨rfl,hv⟩,by grind⟩
  have l5:v'.pre (some (cX s),y):=⟨s,⟨rfl,hv⟩,r9⟩
  have e1:sR.g (some (cX s),y)=rs s y:=rfl;have e2:sR.g (some (cX s),eG)=rs s eG:=rfl;have e3:v'.g (some (cX s),y)=pC s y:=rfl;refine⟨?_,rfl,?_⟩
  ·simp only[M.mf,M.fY,M.bk jw,M.bk pS,e1,e2,e3,l5,and_true,true_and,and_self,imp_self,implies_true,M.be,sS];have c7:∀ c:Prop,(c->c/\(∃ mZ,v8 (some (cX s)) mZ/\nR mZ y)):=λc h=>⟨h,l5⟩
   rw[M.bk (c7 _)];have e1:nS (some (cX s))=s:=rfl;simp only[e1];cases hc:(decide (rs s y > rs s eG)&&pC s y)<;>simp
  ·show (sS s eG y).length=_;unfold sS;grind
theorem ap'(x):M.le (Nw Ie.sh v'.sh sR.sh yk Iv x) (Pw.sh x):=M.bg λh=>by
 obtain⟨s,ar,hv⟩:=h;subst ar;exact ap9 s hv
theorem Iw{s:br}{bO:Bool}(h:kQ s bO=0):ye s bO=(some (cX s),0):=by simp[ye,h]
theorem Ix{s:br}{bO:Bool}(h:kQ s bO≠0):ye s bO=(none,kQ s bO):=by simp[ye,h]
def ym(s:br)(bO:Bool):Int×Int:=if kQ s bO≠0 then (0,kQ s bO) else (rs s (En s),0)
abbrev Py:aJ:=⟨.aw lR cN,.aw tI tI,λx=>fb x.1,λx=>ym x.1 x.2⟩
theorem aqa(x):M.le (Vo AZ.sh Pw.sh sR.sh x) (Py.sh x):=M.bg λh=>by
 unfold Vo;show _=M.pure (ym x.1 x.2);unfold ym;simp only[aJ.sh,M.c_];rw[M.bk (by exact h)];by_cases ao:kQ x.1 x.2=0
 ·have hv:=AY h (AX ao).1;simp only[Iw ao,ao,ne_eq,not_true,decide_false,Bool.false_eq_true,if_false];rw[M.bk (by exact⟨x.1,rfl,hv⟩),M.bk (by exact⟨x.1,⟨rfl,hv⟩,Nat.le_of_eq (ap8 x.1).1⟩)];rfl
 ·simp[Ix ao,ao]
abbrev Iy:aJ:=⟨lR,.aw tI tI,fb,λs=>ym s true⟩
theorem aqb(x):M.le (Vh Py.sh x) (Iy.sh x):=M.bg λh=>by
 unfold Vh;simp only[aJ.sh,M.c_];simp_all
def A5(s:br)(n:Int)(y:z1'):Int:=if (!(lh s y).2||!Em (cX s) (lh s y).1)=true then n else if (decide (n=-1)||decide (yj (cX s) (lh s y).1<n))=true then yj (cX s) (lh s y).1 else n
def Iz(s:br):Int:=(lj 0 s).foldl (A5 s) (-1)
def A6(s:br):Int×Int:=if kQ s true≠0 then (0,kQ s true) else if Iz s=-1 then (0,3) else (Iz s,0)
abbrev IA:aJ:=⟨lR,.aw tI tI,fb,A6⟩
theorem aqc(x):M.le (Vi AZ.sh yk Ps Ip.sh Pm.sh It.sh x) (IA.sh x):=M.bg λh=>by
 unfold Vi;show _=M.pure (A6 x);unfold A6;simp only[aJ.sh,M.c_];rw[M.bk (by exact h)];by_cases ao:kQ x true=0
 ·have hv:=AY h (AX ao).1;have gw:yk (some (cX x)):=⟨x,rfl,hv⟩
  have Px:Ps (some (cX x))=lj 0 x:=rfl;simp only[Iw ao,ao,ne_eq,not_true,decide_false,Bool.false_eq_true,if_false,Px];rw[M.bk gw];rw[Pt (λ(b:Option Sto×Int×Unit) (y:z1')=>(some (cX x),A5 x b.2.1 y,())) (λb=>b.1=some (cX x)) (lj 0 x) (some (cX x),-1,()) rfl ?_]
  ·have ar:∀ (l:List (z1')) (b:Int),l.foldl (λ(b:Option Sto×Int×Unit) (y:z1')=>(some (cX x),A5 x b.2.1 y,())) (some (cX x),b,())=(some (cX x),l.foldl (A5 x) b,()):=by
    intro l;induction l with
    | nil=>simp
    | cons y l aH=>grind
   rw[ar,M.aE];show (if decide (Iz x=-1)=true then M.pure ((0:Int),(3:Int)) else M.pure (Iz x,0))=_;grind
  ·intro y aM b ab;obtain⟨dt,eG,ap_⟩:=b;change dt=_ at ab;subst ab;obtain⟨xq,r9⟩:=Pv aM;refine⟨?_,rfl⟩;have zJ:=Zq hv r9;have jw:∃ mZ,v8 (some (cX x)) mZ/\nR mZ y:=⟨x,⟨rfl,hv⟩,r9⟩
   have hsl:(cX x).1.2.1.length<2 ^ 63:=h.2.1;have pS:∃ t,some (cX x)=some t/\t.1.2.1.length<2 ^ 63/\(lh x y).1.length<2 ^ 63:=⟨_,rfl,hsl,by omega⟩
   have l5:∃ t,some (cX x)=some t/\t.2.1.length<=200/\(lh x y).1.length<=1000:=⟨_,rfl,Zp hv,by omega⟩
   have e1:nS (some (cX x))=x:=rfl;have e2:Option.getD (some (cX x)) yf=cX x:=rfl;simp only[M.iR,M.c_,e1,e2];rw[M.bk jw];simp only[pS,implies_true,M.be];rw[M.bk (by exact l5)];show _=M.pure (cQ.normal,some (cX x),A5 x eG y,());unfold A5;cases h1:(lh x y).2
   ·simp
   ·cases h2:Em (cX x) (lh x y).1
    ·simp
    ·simp only[Bool.not_true,Bool.not_false,if_true,Bool.or_self,Bool.false_eq_true,if_false];cases h3:(decide (eG=-1)||decide (yj (cX x) (lh x y).1<eG))<;>simp
 ·simp[Ix ao,ao]
def m_(s:br)(w p:Int):z1':=(List.replicate s.2.2.2.1.length (-1)).set w.toNat p
def Zv(s:br)(w:Int):z1':=((List.range s.2.2.1.length).filter λ(p:Nat)=>pC s (m_ s w (p:Int))).map λ(p:Nat)=>(p:Int)
def uA(s:br)(w:Int):z1'×Int:=if kQ s (yc s w)≠0 then ([],kQ s (yc s w)) else (Zv s w,0)
abbrev IB:aJ:=⟨.aw lR tI,.aw fm tI,λx=>fb x.1,λx=>uA x.1 x.2⟩
theorem Zw{aj β:Type}{p:aj->Bool}{g:aj->β}:∀ (l:List aj) (b:List β),l.foldl (λb x=>if p x=true then b++[g x] else b) b=b++(l.filter p).map g
 | [],b=>by simp
 | x::l,b=>by
  simp only[List.foldl_cons,List.filter_cons];rw[Zw l];grind
theorem aqd{s:br}{w:Int}{p:Nat}(hp:p<s.2.2.1.length):nR s (m_ s w (p:Int)):=by
 refine⟨by simp[m_],λq bf=>?_⟩;unfold m_ at bf;grind
theorem aqe(x):M.le (Vj AZ.sh O5.sh vU v'.sh x) (IB.sh x):=M.bg λh=>by
 obtain⟨s,w⟩:=x;change fb s at h;unfold Vj;show _=M.pure (uA s w);unfold uA;simp only[aJ.sh,M.mf,M.fY];rw[M.bk (by exact h),M.bk (by exact h)];by_cases ao:kQ s (yc s w)=0
 ·have hv:=AY h (AX ao).1;have hw:=ao9.1 (AX ao).2.1;have A1:=hv.uw;have apY:=hv.Ii;simp only[Iw ao,ao,ne_eq,not_true,decide_false,Bool.false_eq_true,if_false];unfold vU;simp only[M.c_,bG];rw[M.bk (by grind)];simp only[Int.toNat_natCast];rw[M.fZ (List.range s.2.2.1.length) (λi (b:z1'×z1')=>(w,some (cX s),(s.2.2.1.length:Int),(i:Int),b.1,b.2,())) (λ(p:Nat) b=>.next (if pC s (m_ s w (p:Int))=true then b.1++[(p:Int)] else b.1,m_ s w (p:Int))) (λb=>.next (b.1,())) (λi b=>b.1.length<=i/\∀ p,b.2.set w.toNat p=m_ s w p) ([],List.replicate s.2.2.2.1.length (-1)) ?_ ?_ ?_ ?_]
  ·rw[dP];have ar:∀ (l:List Nat) (b:z1'×z1'),(l.foldl (λb (p:Nat)=>(if pC s (m_ s w (p:Int))=true then b.1++[(p:Int)] else b.1,m_ s w (p:Int))) b).1=l.foldl (λb (p:Nat)=>if pC s (m_ s w (p:Int))=true then b++[(p:Int)] else b) b.1:=by
    intro l;induction l with
    | nil=>simp
    | cons p l aH=>grind
   rw[ar,Zw,M.aE,M.bK];rfl
  ·rfl
  ·exact⟨Nat.le_refl _,λp=>rfl⟩
  ·intro i E b ab;have E:i<s.2.2.1.length:=by grind
   have lf:=bn (n:=(i:Int)+1) (by omega) (by omega);obtain⟨dt,eG⟩:=b;obtain⟨l9,qK⟩:=ab;change dt.length<=i at l9;change ∀ p,eG.set w.toNat p=m_ s w p at qK;have kC:bT (dt.length+(0+1)):=by unfold bT;omega
   have hlen:eG.length=s.2.2.2.1.length:=by
    have:=congrArg List.length (qK 0);simpa [m_]using this
   have xx:0<=w/\w<(eG.length:Int):=by omega
   rw[List.getElem_range];refine⟨?_,λaZ cS=>?_⟩
   ·simp only[cC E,if_true,xx,and_self,M.be,M.c_,qK];rw[M.bk (by exact⟨s,⟨rfl,hv⟩,aqd E⟩)];have e1:nS (some (cX s))=s:=rfl;simp only[e1,b2,hX,M.bk kC];cases pC s (m_ s w (i:Int))<;>simp[aa.gT,lf]
   ·cases cS;refine⟨?_,λp=>?_⟩
    ·grind
    ·show (m_ s w (i:Int)).set w.toNat p=m_ s w p;unfold m_;simp
  simp
 ·simp[Ix ao,ao]
def A7(s:br)(cb:z1'):Int×Int:=if kQ s (vY s cb)≠0 then (0,kQ s (vY s cb)) else if (!pC s cb)=true then (0,3) else (rs s cb,0)
abbrev IC:aJ:=⟨.aw lR fm,.aw tI tI,λx=>fb x.1/\x.2.length<2 ^ 63,λx=>A7 x.1 x.2⟩
theorem aqf{s:br}{cb:z1'}(h:vY s cb=true):cb.length=s.2.2.2.1.length/\nR s cb:=by
 unfold vY at h;simp only[Bool.and_eq_true,List.all_eq_true,List.mem_range,decide_eq_true_eq]at h;obtain⟨h1,h2⟩:=h;refine⟨by omega,by omega,λp hp=>?_⟩;obtain⟨i,E,rfl⟩:=List.mem_iff_getElem.1 hp;have:=h1 i E;have iD:cb.getD i 0=cb[i]:=by grind
 unfold vW at this;simp only[iD,Bool.or_eq_true,decide_eq_true_eq,Bool.and_eq_true,ao_]at this;omega
theorem aqg(x):M.le (Vn AZ.sh v'.sh Ih.sh sR.sh x) (IC.sh x):=M.bg λh=>by
 obtain⟨s,cb⟩:=x;obtain⟨hs,ai⟩:=h;unfold Vn;show _=M.pure (A7 s cb);unfold A7;simp only[aJ.sh,M.mf,M.fY];have hp:Ih.pre (s,cb):=⟨hs,ai⟩
 rw[M.bk (by exact hp),M.bk (by exact hs)];by_cases ao:kQ s (vY s cb)=0
 ·have hv:=AY hs (AX ao).1;obtain⟨aqh,xt⟩:=aqf (AX ao).2.1;simp only[Iw ao,ao,ne_eq,not_true,decide_false,Bool.false_eq_true,if_false,M.c_];rw[M.bk (by exact⟨s,⟨rfl,hv⟩,xt⟩)];have e1:nS (some (cX s))=s:=rfl;simp only[e1];cases ar:pC s cb with
  | false=>simp
  | true=>
   simp only[Bool.not_true,Bool.false_eq_true,if_false];rw[M.bk (by exact⟨s,⟨rfl,hv⟩,Nat.le_of_eq aqh⟩)]
 ·simp[Ix ao,ao]
def Eo(s:br):Prop:=aoA s.1/\s.2.1.length<=2000000/\s.2.2.1.length<=2000000/\s.2.2.2.1.length<=2000000/\s.2.2.2.2.1.length<=2000000/\(∀ p∈s.2.2.1,p.2.2.2.2.length<=2000000)/\∀ x∈s.2.2.2.1,x.1.length<=2000000
theorem aqi{s:br}(hv:lS s):Eo s:=by
 have YI:=x7 hv.sF.2;refine⟨⟨by omega,by omega,by omega,λm an=>?_⟩,by have:=hv.Eg;omega,by have:=hv.Ii;omega,by have:=hv.uw;omega,by have:=hv.O7;omega,λp hp=>by have:=(O_ hv hp).2.1;omega,λx hx=>?_⟩
 ·have kE:=(AP hv.sF.2).2.2.1 m an;simp only[ql,Bool.and_eq_true,Bool.not_eq_true',decide_eq_false_iff_not,List.all_eq_true]at kE;refine⟨by omega,λs' rR=>?_⟩;have:=kE.2 s' rR;simp only[pw,Bool.and_eq_true,decide_eq_true_eq]at this;omega
 ·have:=hv.Y6 x hx;simp only[oH,bM,Bool.and_eq_true,decide_eq_true_eq]at this;omega
def Zx(s:br):Int:=(s.2.2.1.map λp=>(p.2.2.2.2.length:Int)).foldl (·+·) 0
def uB(s:br):Bool:=
 if (lP s.1||decide ((s.2.1.length:Int) > 40)||decide ((s.2.2.1.length:Int) > 40)||decide ((s.2.2.2.1.length:Int) > 40)||decide ((s.2.2.2.2.1.length:Int) > 40))=true then true
 else if (s.2.2.1.any λp=>decide ((p.2.2.2.2.length:Int) > 40))=true then true
 else if (s.2.2.2.1.any λx=>decide ((x.1.length:Int) > 40))=true then true
 else if iW s≠0 then false
 else decide ((s.2.2.2.1.length:Int) > 3)||decide ((s.2.2.1.length:Int) > 4)||decide ((s.2.2.2.2.1.length:Int) > 3)||decide (Zx s > 4)
abbrev ID:aJ:=⟨lR,cN,fb,uB⟩
theorem aqj(x):M.le (Yw pB.sh vM.sh x) (ID.sh x):=M.bg λh=>by
 change fb x at h;unfold Yw;show _=M.pure (uB x);unfold uB;simp only[aJ.sh,M.c_,bG];rw[M.bk (by exact h.1)];obtain⟨g1,dW,g3,g4,g5,g6,g7⟩:=id h;by_cases h1:(lP x.1||decide ((x.2.1.length:Int) > 40)||decide ((x.2.2.1.length:Int) > 40)||decide ((x.2.2.2.1.length:Int) > 40)||decide ((x.2.2.2.2.1.length:Int) > 40))=true
 ·grind
 ·rw[if_neg h1,if_neg h1];simp only[Bool.or_eq_true,decide_eq_true_eq,not_or]at h1;rw[M.dh x.2.2.1 (λi (_:Unit)=>((i:Int),x,())) (λp u=>if decide ((p.2.2.2.2.length:Int) > 40)=true then .done (.done true) else .next u) (λ_=>.next (x,())) () ?_ ?_ ?_]
  ·rw[qd (p:=λp:db=>decide ((p.2.2.2.2.length:Int) > 40))];by_cases h2:(x.2.2.1.any λp=>decide ((p.2.2.2.2.length:Int) > 40))=true
   ·simp only[h2,if_true,M.aE,M.pb]
   ·simp only[h2,Bool.false_eq_true,if_false,M.aE,M.bK];rw[M.dh x.2.2.2.1 (λi (_:Unit)=>((i:Int),x,())) (λp u=>if decide ((p.1.length:Int) > 40)=true then .done (.done true) else .next u) (λ_=>.next (x,())) () ?_ ?_ ?_]
    ·rw[qd (p:=λp:dr=>decide ((p.1.length:Int) > 40))];by_cases h3:(x.2.2.2.1.any λx=>decide ((x.1.length:Int) > 40))=true
     ·simp only[h3,if_true,M.aE,M.pb]
     ·simp only[h3,Bool.false_eq_true,if_false,M.aE,M.bK];rw[M.bk (by exact h)];by_cases he:iW x=0
      ·simp only[he,ne_eq,not_true,decide_false,Bool.false_eq_true,if_false];have ab:∀ p∈x.2.2.1,p.2.2.2.2.length<=40:=λp hp=>by
        grind
       rw[M.fZ x.2.2.1 (λi (n:Int)=>(n,(i:Int),x,())) (λp n=>.next (n+(p.2.2.2.2.length:Int))) (λn=>.next (n,x,())) (λi n=>0<=n/\n<=40*i) 0 ?_ ?_ ?_ ?_]
       ·rw[dP,M.aE,M.bK];unfold Zx;rw[List.foldl_map]
       ·rfl
       ·simp
       ·intro i E n az;have lf:=bn (n:=(i:Int)+1) (by omega) (by omega);have ayf:=ab _ (List.getElem_mem E);have AV:=bn (n:=n+(x.2.2.1[i].2.2.2.2.length:Int)) (by omega) (by omega);refine⟨?_,λaZ cS=>?_⟩
        ·simp only[cC E,if_true,ct E,M.be,cV E,b2,lf,AV];rfl
        grind
       simp
      grind
    ·rfl
    ·intro i E u;have lf:=bn (n:=(i:Int)+1) (by omega) (by omega);simp only[cC E,if_true,ct E,M.be,cV E,M.aE,b2,lf];exact lJ (mk:=λ_:Unit=>((i:Int)+1,x,()))
    simp
  ·rfl
  ·intro i E u;have lf:=bn (n:=(i:Int)+1) (by omega) (by omega);simp only[cC E,if_true,ct E,M.be,cV E,M.aE,b2,lf];exact lJ (mk:=λ_:Unit=>((i:Int)+1,x,()))
  simp
def A8:br:=(H8,[1,0,0,0],[(1,60,0,0,[0]),(1,60,7,0,[]),(2,65,0,1,[0]),(2,60,0,0,[0,1])],[([1],(55,65),7,3,500),([1,2],(60,60),0,5,400),([2],(60,70),9,8,700),([2],(65,65),0,5,300)],[(4,2,1),(6,3,1)],2)
abbrev IE:aJ:=⟨.cz,lR,λ_=>True,λ_=>A8⟩
theorem aqk(x):M.le (Yx O1.sh x) (IE.sh x):=M.bg λ_=>by
 unfold Yx;simp only[aJ.sh,M.c_,M.be];rfl
theorem aql:fb A8:=by
 refine⟨aoE,by decide,by decide,by decide,by decide,?_,?_⟩
 ·intro p hp;simp only[A8,List.mem_cons,List.not_mem_nil,or_false]at hp;grind
 ·intro x hx;simp only[A8,List.mem_cons,List.not_mem_nil,or_false]at hx;grind
end Go.Fer
namespace Go.Fer.H
open M (aa)
def Zy(Ac:aQ->M Int)(NJ:List aU->M (List aU×Bool))(aqm:List (List aU)->M (List aU))(aqn:List (z1')×Unit->M (z1'×Unit))(NL:z1'×Unit->M (z1'×Unit))(aqo:z1'×Unit->M ((Nat×Nat)×z1'×Unit))(IF:z4'->M (z4'))(x:aQ×List aU×z1'):M (aQ×Int):=
 letI a:=x.1.2.2.2;M.bind (Ac x.1) λy=>if decide (y≠0)=true then M.pure (([],[],[],[],0,0,0,0,0,0,0),y) else M.bind (Ac (x.1.1,x.2.1,x.2.2,a)) λy=>if decide (y≠0)=true then M.pure (([],[],[],[],0,0,0,0,0,0,0),y) else M.bind (aqm [x.1.2.1,x.2.1]) λy=>M.bind (NJ y) λy=>if (!y.2)=true then M.pure (([],[],[],[],0,0,0,0,0,0,0),91) else M.bind (aqn ([x.1.2.2.1,x.2.2],())) λbL=>M.bind (NL (bL.1,())) λdq=>M.bind (aqo (dq.1,())) λgn=>if (decide (Int.ofNat (List.length y.1) > 12)||decide (Int.ofNat (gn.1.2-gn.1.1) > 12))=true then M.pure (([],[],[],[],0,0,0,0,0,0,0),90) else M.ae (IF x.1.1).bY (M.ae (IF a.1).bY (M.pure ((M.val (IF x.1.1) [],y.1,List.drop gn.1.1 (List.take gn.1.2 gn.2.1),M.val (IF a.1) [],a.2),0)))
def Zz(aqp:Int×Unit->M (List aU×Unit))(x:List (List aU)):M (List aU):=
 M.bind (M.loop (λ(A:List (List aU)×Int×List (List aU)×Int×Int×Unit)=>letI d:=A.2.2;letI b:=d.2.2.1;letI a:=IntKind.wrap .i64 (Add.add A.2.1 (Int.ofNat (List.length (List.getD d.1 (Int.toNat b) []))));if decide (b<d.2.1)=true then M.bind (M.ae (0<=b/\b<Int.ofNat (List.length d.1)) (if decide (a<0)=true then M.ae False (M.ae False (M.pure (aa.next (A.1,a,d.1,d.2.1,b,())))) else M.pure (aa.next (A.1,a,d.1,d.2.1,b,())))) (aa.bm (λ(A:List (List aU)×Int×List (List aU)×Int×Int×Unit)=>M.pure (aa.next (A.1,A.2.1,A.2.2.1,A.2.2.2.1,IntKind.wrap .i64 (Add.add A.2.2.2.2.1 1),())))) else M.bind (M.pure (aa.next (A.1,A.2.1,()))) λr=>M.pure (aa.done r)) (x,0,x,Int.ofNat (List.length x),0,())) (aa.bm (λ(A:List (List aU)×Int×Unit)=>M.bind (aqp (A.2.1,())) λy=>M.bind (M.loop (λ(A:List (List aU)×Int×Int×List aU×Unit)=>letI e:=A.2.2;letI c:=List.getD A.1 (Int.toNat e.1) [];if decide (e.1<A.2.1)=true then M.ae (0<=e.1/\e.1<Int.ofNat (List.length A.1)) (M.ae (bT (Add.add (List.length e.2.1) (List.length c))) (M.pure (aa.next (A.1,A.2.1,IntKind.wrap .i64 (Add.add e.1 1),e.2.1++c,())))) else M.bind (M.pure (aa.next (e.2.1,()))) λr=>M.pure (aa.done r)) (A.1,Int.ofNat (List.length A.1),0,y.1,())) (aa.bm (λ(A:List aU×Unit)=>M.pure A.1))))
def ZA(aqq:Int×Unit->M (z1'×Unit))(x:List (z1')×Unit):M (z1'×Unit):=
 M.bind (M.loop (λ(A:List (z1')×Int×List (z1')×Int×Int×Unit)=>letI d:=A.2.2;letI b:=d.2.2.1;letI a:=IntKind.wrap .i64 (Add.add A.2.1 (Int.ofNat (List.length (List.getD d.1 (Int.toNat b) []))));if decide (b<d.2.1)=true then M.bind (M.ae (0<=b/\b<Int.ofNat (List.length d.1)) (if decide (a<0)=true then M.ae False (M.ae False (M.pure (aa.next (A.1,a,d.1,d.2.1,b,())))) else M.pure (aa.next (A.1,a,d.1,d.2.1,b,())))) (aa.bm (λ(A:List (z1')×Int×List (z1')×Int×Int×Unit)=>M.pure (aa.next (A.1,A.2.1,A.2.2.1,A.2.2.2.1,IntKind.wrap .i64 (Add.add A.2.2.2.2.1 1),())))) else M.bind (M.pure (aa.next (A.1,A.2.1,()))) λr=>M.pure (aa.done r)) (x.1,0,x.1,Int.ofNat (List.length x.1),0,())) (aa.bm (λ(A:List (z1')×Int×Unit)=>M.bind (aqq (A.2.1,())) λy=>M.bind (M.loop (λ(A:List (z1')×Int×Int×z1'×Unit)=>letI e:=A.2.2;letI c:=List.getD A.1 (Int.toNat e.1) [];if decide (e.1<A.2.1)=true then M.ae (0<=e.1/\e.1<Int.ofNat (List.length A.1)) (M.ae (bT (Add.add (List.length e.2.1) (List.length c))) (M.pure (aa.next (A.1,A.2.1,IntKind.wrap .i64 (Add.add e.1 1),e.2.1++c,())))) else M.bind (M.pure (aa.next (e.2.1,()))) λr=>M.pure (aa.done r)) (A.1,Int.ofNat (List.length A.1),0,y.1,())) (aa.bm (λ(A:z1'×Unit)=>M.pure (A.1,())))))
def aqr(x:z1'×Unit):M ((Nat×Nat)×z1'×Unit):=
 if decide (Int.ofNat (List.length x.1)<2)=true then M.pure ((0,List.length x.1),x.1,()) else M.bind (M.loop (λ(A:Int×z1'×Unit)=>letI l:=A.1;letI j:=A.2.1;letI g:=IntKind.wrap .i64 (l-1);letI b:=Int.ofNat (List.length j);if decide (l<b)=true then M.bind (M.ae (0<=l/\l<b) (M.ae (0<=g/\g<b) (if decide (List.getD j (Int.toNat l) 0=List.getD j (Int.toNat g) 0)=true then M.ae (0<=l/\l<=b/\b<=b) (M.bind (M.loop (λ(A:Int×(Nat×Nat)×Int×z1'×Unit)=>letI k:=A.2.1;letI e:=A.2.2;letI i:=IntKind.wrap .i64 (e.1-1);letI h:=List.getD e.2.1 (Add.add k.1 (Int.toNat e.1)) 0;letI d:=Int.ofNat (k.2-k.1);if decide (e.1<d)=true then M.bind (M.ae (0<=e.1/\e.1<d) (M.ae (0<=i/\i<d) (if decide (h≠List.getD e.2.1 (Add.add k.1 (Int.toNat i)) 0)=true then M.ae (0<=e.1/\e.1<d) (M.ae (0<=A.1/\A.1<Int.ofNat (List.length e.2.1)) (M.pure (aa.next (IntKind.wrap .i64 (Add.add A.1 1),k,e.1,List.set e.2.1 (Int.toNat A.1) h,())))) else M.pure (aa.next (A.1,k,e.1,e.2.1,()))))) (aa.bm (λ(A:Int×(Nat×Nat)×Int×z1'×Unit)=>M.pure (aa.next (A.1,A.2.1,IntKind.wrap .i64 (Add.add A.2.2.1 1),A.2.2.2.1,())))) else M.bind (M.pure (aa.next (A.1,e.2.1,()))) λr=>M.pure (aa.done r)) (l,(Int.toNat l,Int.toNat b),1,j,())) (aa.bm (λ(A:Int×z1'×Unit)=>letI f:=Int.toNat A.1;letI c:=Int.ofNat (List.length A.2.1);letI a:=List.take f A.2.1++List.replicate (Int.toNat c-f) 0++List.drop (Add.add f (List.length (List.replicate (Int.toNat c-f) (0:Int)))) A.2.1;M.ae (0<=A.1/\A.1<=c/\c<=c) (M.ae True (M.ae ((0:Int)<=0/\0<=A.1/\A.1<=Int.ofNat (List.length a)) (M.bind (M.bind (M.bind (M.pure ((Int.toNat 0,f),a,())) (λr=>M.pure (aa.done r))) (λr=>M.pure (aa.done r))) (λr=>M.pure (aa.done r)))))))) else M.pure (aa.next (l,j,()))))) (aa.bm (λ(A:Int×z1'×Unit)=>M.pure (aa.next (IntKind.wrap .i64 (Add.add A.1 1),A.2.1,())))) else M.bind (M.pure (aa.next (j,()))) λr=>M.pure (aa.done r)) (1,x.1,())) (aa.bm (λ(A:z1'×Unit)=>M.pure ((0,List.length A.1),A.1,())))
end Go.Fer.H
