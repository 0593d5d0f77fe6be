/- Part 6 of the proof of TopFees: shallow programs of Go functions, and what they compute. No condition. -/
import Derived.Test.YtjjgkigajpocoaaGreatDoorTopFeesE
import Derived.Lib.AtoiAll
import Derived.Lib.ItoaLen
import Derived.Lib.Join
noncomputable section
set_option linter.unusedVariables false
set_option linter.unusedSimpArgs false
namespace Go.Fer
abbrev bc:Type:=List UInt8
abbrev bD:Type:=bN×H.bb
abbrev Nk:Type:=z3'×List (List (z17'))×Int×Int×z3'×z1'×List ow×List lB×List Eh×Unit
abbrev EO:Type:=Int×Bool×Option Nat
abbrev nn(l:List (bc×EO))(a:bc)(b:EO):List (bc×EO):=oQ (k:=.str) (v:=.ae (.aw (.int .i64) (.aw .bool .eY))) l a b
variable (ays:bD->L Int) (ayt:bD×Unit->L (bD×Unit)) (ayu:Unit->L (List (bc×Int×Bool×Option Nat))) (ayv:List (bc×Int×Bool×Option Nat)×bc×bD×Unit->L (bc×bD×Unit)) (H9:bN->L Int) (BI:H.bb->L Int) (U1:H.bb×List (z18')×z1'->L (H.bb×Int)) (ayw:bN->L bN) (ayx:bc×bc->L (List bc)) (ayy:bc->L (z27')) (ayz:Nat->z1'×bD×Unit->L (bc×bD×Unit)) (U2:List (z18')×z1'×bD×Unit->L (bc×bD×Unit)) (ayA:Int->L bc) (ayB:List bc×bc->L bc) (ayC:List lB->L (List lB)) (ayD:Int×Int×List lB×Unit->L ((z21')×List lB×Unit)) (aPa:H.bb×H.bb->L Bool) (aPb:bZ×bZ->L Bool) (aPc:z34'->L Bool) (ayE:bc->L (List bc)) (ayF:bc->L Int) (ayG:Unit->L (List bc×z1'×z1')) (af0:bD×List bc->L Bool) (ayH:Int->L bc) (MN:bN->L bN) (Ni:H.bb->L H.bb) (U3:bD->L Int) (af1:bN->L Bool) (U0:H.bb->L Bool) (Tv:z12'->L Int) (aPd:Unit->L Bool) (U4:bc×z1'->L bc) (af2:bD->L bD) (af3:bD×List bc->L (List bc×bD×Int)) (af4:List bc×Int->L Bool) (aPe:bD×bD->L Bool) (af5:H.bb->L (List bc)) (BJ:H.bb->L Int) (af6:H.bb×H.bb×Int×Int×Int×Int->L Bool) (ML:bZ×Int×Int×Int->L (z11')) (MK:bZ×Int->L (z23')) (IH:bN×Unit->L (Nk)) (Eg:z12'->L Int) (Nl:bN×bD×Unit->L (bc×bD×Unit)) (aPf:bD×List bc×Int->L Bool) (aPg:Unit->L Bool) (aPh:List bc×List bc->L Bool) (aPi:bc->L bc) (ayI:bc->L (bc×z1'×Bool)) (aPj:bc->L Bool) (aPk:bc×z1'->L bc) (afW IF IG Nj:H.bb×Int->L (z23')) (Nn:z23'->L bc) (IE:H.bb×Int×Int->L (z19')) (ayJ:z34'->L Bool) (afX:H.bb×Int->L (z1'×z19')) (af7:bN×Int->L (z19')) (No af8:bN->L (z11')) (af9:Unit->L bD) (MO:bN->L Int) (af_:bN×z1'->L (z11')) (ayK:z14'->L (z14')) (zl:Int×z1'->L bc) (Np:z1'->L bc) (aPl:z19'->L bc) (aPm:z23'->L bc) (aPn:z1'->L bc) (c0:z3'->L (z3')) (bI:List (List (z17'))->L (List (List (z17')))) (c2:z3'->L (z3')) (c3:List (z17')×Unit->L (List (z17')×Unit)) (c4:z1'->L (z1')) (c5:List ow->L (List ow)) (pt:List lB->L (List lB)) (rW:z5'->L (z5'))
def af'(x:bD):L Int:=
 ar (MO x.1) λy=>cj (!(jq y 0)) (BJ x.2) 0 λcp=>if jq y 0||jq cp 0 then mpure 120 else mpure 0
def aga(x:bD×List bc):L (List bc×bD×Int):=
 ar (ays x.1) λy=>bl (y≠0) (mpure ([],((([],[],0,[]),[],[],[],[],0),[],[],[],[],0,0,0,0,0,0,0),y)) (bl (aY x.2 > 40) (mpure ([],((([],[],0,[]),[],[],[],[],0),[],[],[],[],0,0,0,0,0,0,0),2)) (ar (ayt (x.1,())) (λy=>ar (ayu ()) λcp=>bS (λ(A:List (bc×Int×Bool×Option Nat)×List bc×Int×Int×List bc×Int×Int×Int×Int×Int×Int×Int×Int×Int×bD×Unit)=>letI f:=A.2.2.2;letI e:=f.2.2.2.2;letI g:=e.2.2.2.2;bl (f.1<A.2.2.1) (bY f.1 A.2.1 (ar (ayv (A.1,bF A.2.1 f.1 [],g.2.2.2.1,())) (λy=>ed f.2.1 (bg (A.1,A.2.1,A.2.2.1,bh f.1,f.2.1++[y.1],f.2.2.1,f.2.2.2.1,e.1,e.2.1,e.2.2.1,e.2.2.2.1,g.1,g.2.1,g.2.2.1,y.2.1,()))))) (b4 (f.2.1,f.2.2.1,f.2.2.2.1,e.1,e.2.1,e.2.2.1,e.2.2.2.1,g.1,g.2.1,g.2.2.1,g.2.2.2.1,()))) (cp,x.2,aY x.2,0,[],0,0,0,0,0,0,0,0,0,y.1,()) λA=>ah True (mpure (A.1,A.2.2.2.2.2.2.2.2.2.2.1,0)))))
def agb(x:bD):L Int:=
 ar (H9 x.1) λy=>cj (!(jq y 0)) (BI x.2) 0 λcp=>if jq y 0||jq cp 0 then mpure 120 else mpure 0
def agc(x:bD×Unit):L (bD×Unit):=
 letI a:=ayw x.1.1;ar (U1 (x.1.2,[],[])) λy=>dy a (mpure ((L.val a (([],[],0,[]),[],[],[],[],0),y.1),()))
def ayL(x:Unit):L (List (bc×Int×Bool×Option Nat)):=
 mpure (nn (nn (nn (nn (nn (nn (nn (nn (nn (nn (nn (nn (nn (nn (nn (nn (nn (nn (nn (nn [] [108,101,110,100] (5,false,some 87)) [98,97,99,107] (4,false,some 88)) [118,111,105,100] (1,false,some 89)) [108,97,115,116,115] (1,false,some 90)) [102,101,101] (1,false,some 91)) [111,119,101,115] (1,false,some 92)) [104,101,108,100] (1,false,some 93)) [119,104,101,114,101] (2,false,some 94)) [109,105,115,115,105,110,103] (1,false,some 95)) [116,114,105,97,108] (4,false,some 96)) [102,105,116,115] (3,false,some 97)) [115,116,111,99,107] (2,false,some 98)) [99,111,109,101,115] (3,false,some 99)) [112,105,101,99,101] (4,true,some 100)) [119,105,115,104] (5,true,some 101)) [100,114,111,112] (1,false,some 102)) [99,97,110] (1,false,some 103)) [116,97,107,101,115] (0,true,some 104)) [109,111,115,116] (0,false,some 105)) [101,120,116,114,97] (0,false,some 106))
def agd(x:List (bc×Int×Bool×Option Nat)×bc×bD×Unit):L (bc×bD×Unit):=
 ar (ayx (x.2.1,[32])) λy=>letI j:=aY y;letI i:=gG y [];letI g:=List.drop (Int.toNat 1) (y.take j.toNat);gF y (bJ (!(ho (λp=>cu i p.1) x.1).isSome||decide (cF j 1<((ho (λp=>cu i p.1) x.1).getD (0,false,none)).1)||dr (cF j 1) ((ho (λp=>cu i p.1) x.1).getD (0,false,none)).1&&!((ho (λp=>cu i p.1) x.1).getD (0,false,none)).2.1) (mpure ([63],x.2.2.1,())) (cy (ah ((0:Int)<=1/\1<=j/\j<=j) (dI (λA=>letI h:=A.2.2;bl (h.1<A.2.1) (bY h.1 A.1 (ar (ayy (bF A.1 h.1 [])) (λy=>bJ (!y.2) (di ([63],h.2.2.2.1,())) (ed h.2.2.1 (bg (A.1,A.2.1,bh h.1,h.2.1,h.2.2.1++[y.1],h.2.2.2.1,())))))) (b4 (h.2.1,h.2.2.1,h.2.2.2.1,()))) (g,aY g,0,(ho (λp=>cu i p.1) x.1).getD (0,false,none),[],x.2.2.1,()))) (λA=>ar (ah (∃ (k:Nat),List.Mem k [87,88,89,90,91,92,93,94,95,96,97,98,99,100,101,102,103,104,105,106]/\A.1.2.2=some k) (ayz (A.1.2.2.getD 0) (A.2.1,A.2.2.1,()))) λy=>mpure (y.1,y.2.1,()))))
def age(x:z1'×bD×Unit):L (bc×bD×Unit):=
 letI c:=x.1.getD;letI b:=aY x.1;gF x.1 (ah ((0:Int)<=1/\1<b) (ah ((0:Int)<=2/\2<b) (ah ((0:Int)<=3/\3<b) (ah ((0:Int)<=4/\4<b) (ar (U2 ([(gG x.1 0,c (Int.toNat 1) 0,c (Int.toNat 2) 0,1,c (Int.toNat 3) 0,c (Int.toNat 4) 0)],[],x.2.1,())) (λy=>mpure (y.1,y.2.1,())))))))
def agf(x:List (z18')×z1'×bD×Unit):L (bc×bD×Unit):=
 ah True (ar (U1 (x.2.2.1.2,x.1,x.2.1)) (λy=>bl (y.2≠0) (mpure ([110,111],x.2.2.1,())) (ah True (mpure ([111,107],(x.2.2.1.1,y.1),())))))
def agh(x:z1'×bD×Unit):L (bc×bD×Unit):=
 gF x.1 (ah ((0:Int)<=1/\1<aY x.1) (ah ((0:Int)<=2/\2<aY x.1) (ah ((0:Int)<=3/\3<aY x.1) (ar (U2 ([(gG x.1 0,x.1.getD (Int.toNat 1) 0,x.1.getD (Int.toNat 2) 0,2,x.1.getD (Int.toNat 3) 0,0)],[],x.2.1,())) (λy=>mpure (y.1,y.2.1,()))))))
def agi(x:z1'×bD×Unit):L (bc×bD×Unit):=
 ar (U2 ([],x.1,x.2.1,())) λy=>mpure (y.1,y.2.1,())
def agj(x:z1'×bD×Unit):L (bc×bD×Unit):=
 letI c:=afW (x.2.1.2,gG x.1 0);letI b:=Nn (L.val c ((0,0),0));ah True (gF x.1 (dy c (dy b (mpure (L.val b [],x.2.1,())))))
def agk(x:z23'):L bc:=
 ar (zl (x.2,[x.1.1,x.1.2])) λy=>mpure y
def agl(x:Int×z1'):L bc:=
 bl (x.1=0) (ar (Np x.2) (λy=>mpure y)) (bl (x.1=3) (mpure [110,111,110,101]) (mpure [110,111]))
def agm(x:z1'):L bc:=
 bl (aY x=0) (mpure [110,111,110,101]) (bS (λA=>letI c:=A.2.2;bl (c.1<A.2.1) (bY c.1 A.1 (ar (ayA (bF A.1 c.1 0)) (λy=>ed c.2.1 (bg (A.1,A.2.1,bh c.1,c.2.1++[y],()))))) (b4 (c.2.1,()))) (x,aY x,0,[],()) (λA=>ar (ayB (A.1,[32])) λy=>mpure y))
def agn(x:z1'×bD×Unit):L (bc×bD×Unit):=
 letI c:=IF (x.2.1.2,gG x.1 0);letI b:=Nn (L.val c ((0,0),0));ah True (gF x.1 (dy c (dy b (mpure (L.val b [],x.2.1,())))))
def ago(x:z1'×bD×Unit):L (bc×bD×Unit):=
 letI c:=IG (x.2.1.2,gG x.1 0);letI b:=Nn (L.val c ((0,0),0));ah True (gF x.1 (dy c (dy b (mpure (L.val b [],x.2.1,())))))
def agp(x:z1'×bD×Unit):L (bc×bD×Unit):=
 letI c:=Nj (x.2.1.2,gG x.1 0);letI b:=Nn (L.val c ((0,0),0));ah True (gF x.1 (dy c (dy b (mpure (L.val b [],x.2.1,())))))
def agq(x:z1'×bD×Unit):L (bc×bD×Unit):=
 letI d:=IE (x.2.1.2,gG x.1 0,x.1.getD (Int.toNat 1) 0);letI c:=L.val d ([],0);letI f:=(!(jq c.2 0))=true;letI e:=aY c.1;ah True (gF x.1 (ah ((0:Int)<=1/\1<aY x.1) (dy d (ah (f->(f/\True)/\((0:Int)<=0/\0<e)/\True) (if jq c.2 0||decide (gG c.1 (0:Int)>=0) then ar (zl (c.2,c.1)) λy=>mpure (y,x.2.1,()) else bl (e=1) (mpure ([115,104,111,112],x.2.1,())) (ah ((0:Int)<=1/\1<=e/\e<=e) (ar (Np ((List.take (Int.toNat e) c.1).drop (Int.toNat 1))) (λy=>ah (b2 (Add.add (Add.add (Add.add (Add.add (Add.add (Add.add 0 1) 1) 1) 1) 1) y.length)) (mpure ([115,104,111,112,32]++y,x.2.1,()))))))))))
def agr(x:z1'×bD×Unit):L (bc×bD×Unit):=
 letI c:=afX (x.2.1.2,gG x.1 0);letI b:=L.val c ([],[],0);ah True (gF x.1 (dy c (bl (b.2.2≠0) (ar (zl (b.2.2,[])) (λy=>mpure (y,x.2.1,()))) (ar (Np b.1) (λy=>ah (b2 (Add.add y.length (Add.add (Add.add (Add.add 0 1) 1) 1))) (ar (Np b.2.1) (λcp=>ah (b2 (Add.add (y++[32,47,32]).length cp.length)) (mpure (y++[32,47,32]++cp,x.2.1,())))))))))
def ags(x:z1'×bD×Unit):L (bc×bD×Unit):=
 ah True (ar (IH (x.2.1.1,())) (λy=>letI f:=y.2.2.2.2;letI e:=(y.1,y.2.1,y.2.2.1,f.1++[(gG x.1 0,x.1.getD (Int.toNat 1) 0,x.1.getD (Int.toNat 2) 0,x.1.getD (Int.toNat 3) 0)]);letI g:=MK (e,gG x.1 0);ah True (gF x.1 (ah ((0:Int)<=1/\1<aY x.1) (ah ((0:Int)<=2/\2<aY x.1) (ah ((0:Int)<=3/\3<aY x.1) (ed f.1 (ah True (ah True (ar (Eg e) (λcp=>bl (cp≠0) (mpure ([110,111],x.2.1,())) (ah True (gF x.1 (dy g (bl ((L.val g ((0,0),0)).2≠0) (mpure ([108,105,97,114],x.2.1,())) (ah True (mpure ([111,107],((e,f.2.1,f.2.2.1,f.2.2.2.1,f.2.2.2.2.1,y.2.2.2.1),x.2.1.2),()))))))))))))))))))
def agt(x:z1'×bD×Unit):L (bc×bD×Unit):=
 letI c:=ML (x.2.1.1.1,gG x.1 0,x.1.getD (Int.toNat 1) 0,x.1.getD (Int.toNat 2) 0);ah True (gF x.1 (ah ((0:Int)<=1/\1<aY x.1) (ah ((0:Int)<=2/\2<aY x.1) (dy c (bl ((L.val c (0,0)).2≠0) (ar (zl ((L.val c (0,0)).2,[])) (λy=>mpure (y,x.2.1,()))) (ah (0<=(L.val c (0,0)).1/\(L.val c (0,0)).1<Int.ofNat 4) (mpure (List.getD [[],[115,117,114,101,108,121],[110,101,118,101,114],[112,101,114,104,97,112,115]] (Int.toNat (L.val c (0,0)).1) [],x.2.1,()))))))))
def agu(x:z1'×bD×Unit):L (bc×bD×Unit):=
 letI f:=gG x.1 0;ah True (ar (IH (x.2.1.1,())) (λy=>letI e:=y.2.2.2.2.2;gF x.1 (bl (f>=aY e.1) (mpure ([110,111],x.2.1,())) (gF x.1 (bY f e.1 (ah ((0:Int)<=1/\1<aY x.1) (bY f e.1 (ar (Nl (((y.1,y.2.1,y.2.2.1,y.2.2.2.2.1),List.set e.1 f.toNat (e1 (bF e.1 f 0) (x.1.getD (Int.toNat 1) 0)),e.2.1,e.2.2.1,e.2.2.2.1,y.2.2.2.1),x.2.1,())) (λy=>mpure (y.1,y.2.1,()))))))))))
def agv(x:bN×bD×Unit):L (bc×bD×Unit):=
 ar (H9 x.1) λy=>bl (y≠0) (mpure ([110,111],x.2.1,())) (ah True (mpure ([111,107],(x.1,x.2.1.2),())))
def agw(x:z1'×bD×Unit):L (bc×bD×Unit):=
 ah True (ar (IH (x.2.1.1,())) (λy=>letI c:=y.2.2.2.2.2;gF x.1 (ah ((0:Int)<=1/\1<aY x.1) (ah ((0:Int)<=2/\2<aY x.1) (ed c.2.2.2.1 (ar (Nl (((y.1,y.2.1,y.2.2.1,y.2.2.2.2.1),c.1,c.2.1,c.2.2.1,c.2.2.2.1++[(gG x.1 0,x.1.getD (Int.toNat 1) 0,x.1.getD (Int.toNat 2) 0)],y.2.2.2.1),x.2.1,())) (λy=>mpure (y.1,y.2.1,()))))))))
def agx(x:z1'×bD×Unit):L (bc×bD×Unit):=
 letI c:=aY x.1;ah True (ar (IH (x.2.1.1,())) (λy=>letI d:=y.2.2.2.2.2;gF x.1 (ah ((0:Int)<=1/\1<c) (ah ((0:Int)<=2/\2<c) (ah ((0:Int)<=3/\3<c) (ah ((0:Int)<=4/\4<=c/\c<=c) (ed d.2.1 (ar (Nl (((y.1,y.2.1,y.2.2.1,y.2.2.2.2.1),d.1,d.2.1++[(gG x.1 0,x.1.getD (Int.toNat 1) 0,x.1.getD (Int.toNat 2) 0,x.1.getD (Int.toNat 3) 0,List.drop (Int.toNat 4) (x.1.take c.toNat))],d.2.2.1,d.2.2.2.1,y.2.2.2.1),x.2.1,())) (λy=>mpure (y.1,y.2.1,()))))))))))
def agy(x:z1'×bD×Unit):L (bc×bD×Unit):=
 letI e:=x.1.getD;letI c:=aY x.1;ah True (ar (IH (x.2.1.1,())) (λy=>letI d:=y.2.2.2.2.2;gF x.1 (ah ((0:Int)<=1/\1<c) (ah ((0:Int)<=2/\2<c) (ah ((0:Int)<=3/\3<c) (ah ((0:Int)<=4/\4<c) (ah ((0:Int)<=5/\5<=c/\c<=c) (ed d.2.2.1 (ar (Nl (((y.1,y.2.1,y.2.2.1,y.2.2.2.2.1),d.1,d.2.1,d.2.2.1++[(List.drop (Int.toNat 5) (x.1.take c.toNat),(gG x.1 0,e (Int.toNat 1) 0),e (Int.toNat 2) 0,e (Int.toNat 3) 0,e (Int.toNat 4) 0)],d.2.2.2.1,y.2.2.2.1),x.2.1,())) (λy=>mpure (y.1,y.2.1,())))))))))))
def agz(x:z1'×bD×Unit):L (bc×bD×Unit):=
 letI f:=gG x.1 0;letI e:=x.2.1.1.2;letI d:=ayC e.2.2.1;gF x.1 (ah True (bl (f>=aY e.2.2.1) (mpure ([110,111],x.2.1,())) (ah True (dy d (gF x.1 (gF x.1 (ar (ayD (f,bh f,L.val d [],())) (λy=>ah True (mpure ([111,107],((x.2.1.1.1,e.1,e.2.1,List.drop y.1.1 (y.2.1.take y.1.2),e.2.2.2),x.2.1.2),()))))))))))
def agA(x:z1'×bD×Unit):L (bc×bD×Unit):=
 letI b:=af7 (x.2.1.1,gG x.1 0);ah True (gF x.1 (dy b (ar (zl ((L.val b ([],0)).2,(L.val b ([],0)).1)) (λy=>mpure (y,x.2.1,())))))
def agB(x:z1'×bD×Unit):L (bc×bD×Unit):=
 ar (ayK (x.1,())) λy=>bS (λA=>letI c:=A.2;bl (c.1<A.1) (bY c.1 c.2.1 (bY c.1 c.2.1 (bg (A.1,bh c.1,List.set c.2.1 c.1.toNat (cF (bF c.2.1 c.1 0) 1),c.2.2.1,())))) (b4 (c.2.1,c.2.2.1,()))) (aY y.1,0,y.1,x.2.1,()) λA=>ah True (ar (af_ (A.2.1.1,A.1)) (λy=>ar (zl (y.2,[y.1])) λy=>mpure (y,A.2.1,())))
def agC(x:z1'×bD×Unit):L (bc×bD×Unit):=
 ah True (ar (No x.2.1.1) (λy=>ar (zl (y.2,[y.1])) λy=>mpure (y,x.2.1,())))
def agD(x:z1'×bD×Unit):L (bc×bD×Unit):=
 ah True (ar (af8 x.2.1.1) (λy=>ar (zl (y.2,[y.1])) λy=>mpure (y,x.2.1,())))
def agE(x:z34'):L Bool:=
 bl (aY x.1≠aY x.2) jL (bS (λA=>letI c:=A.2.2.1;gx c A.1 (bY c A.2.1 (bl (bF A.1 c 0≠bF A.2.1 c 0) (di false) (bg (A.1,A.2.1,bh c,())))) (b4 ())) (x.1,x.2,0,()) (λA=>ku))
def agF(x:bD×List bc):L Bool:=
 ar (af1 x.1.1) λy=>cj (!y) (U0 x.1.2) false λcp=>bJ (y||cp||dr (aY x.2) 60) ku (bS (λA=>letI q:=A.2.2.2;letI m:=q.2.2;letI s:=m.2.1.1.2.2.1;hy m.1 s (bY m.1 s (bg (A.1,A.2.1,A.2.2.1,q.1,e1 q.2.1 (aY (bF s m.1 (0,0,0,0,[])).2.2.2.2),bh m.1,m.2.1,()))) (b4 (A.1,A.2.1,A.2.2.1,q.1,q.2.1,m.2.1,()))) (x.2,aY x.1.1.2.2.2.1,aY x.1.1.2.2.1,aY x.1.1.2.2.2.2.1,0,0,x.1,()) (λA=>bS (λA=>letI u:=A.1;letI t:=A.2.1;letI n:=A.2.2;letI l:=n.2.2;letI p:=l.2.2.1;letI o:=l.2.1;hy o u (cy (bY o u (bl (aY (bF u o []) > 80) (j0 (di true)) (bY o u (ar (ayI (bF u o [])) (λy=>bJ (!y.2.2) (bg (u,t,n.1,n.2.1,l.1,o,p,())) (bl (y.1=[119,105,115,104]) (bg (u,bh t,n.1,n.2.1,l.1,o,p,())) (bl (y.1=[112,105,101,99,101]) (bg (u,t,bh n.1,n.2.1,e1 l.1 (cF (aY y.2.1) 4),o,p,())) (bl (y.1=[99,111,109,101,115]) (bg (u,t,n.1,bh n.2.1,l.1,o,p,())) (bg (u,t,n.1,n.2.1,l.1,o,p,())))))))))) (λA=>letI v:=A.2.2.2;bg (A.1,A.2.1,A.2.2.1,v.1,v.2.1,bh v.2.2.1,v.2.2.2.1,()))) (b4 (t,n.1,n.2.1,l.1,p,()))) (A.1,A.2.1,A.2.2.1,A.2.2.2.1,A.2.2.2.2.1,0,A.2.2.2.2.2.1,()) λA=>ar (U3 A.2.2.2.2.1) λy=>mpure (cu y 0&&(dr A.1 3||dr A.2.1 4||dr A.2.2.1 3||dr A.2.2.2.1 4))))
def agG(x:bc):L (bc×z1'×Bool):=
 ar (ayE x) λy=>bS (λA=>gx A.2.1 A.1 (ar (ayF (bF A.1 A.2.1 [])) (λy=>bl (y<0) (di ([],[],false)) (ed A.2.2.1 (bg (A.1,bh A.2.1,A.2.2.1++[y],()))))) (b4 (A.1,A.2.2.1,()))) (y,1,[],()) λA=>ar (ayG ()) λy=>bS (λA=>letI q:=A.2.2.2;letI v:=q.2.1;letI u:=(0<=v/\v<aY q.1)/\True;letI t:=decide (bF q.1 v (0:Int)<0);letI o:=decide (aY q.2.2.1>=bF A.2.2.1 v 0);letI s:=o=true;letI p:=(o&&!t)=true;letI w:=p->p/\True/\True;gx v A.2.1 (gF A.1 (bl (bF A.2.1 v []=gG A.1 []) (gF A.1 (bY v A.2.2.1 (ah (s->(s/\s)/\u) (ah (s->s/\True/\True) (ah (s->(s/\True)/\True/\True) (ah (s->True/\True/\s) (ah w (ah (p->(p/\p)/\u) (ah w (ah (p->(p/\p)/\True/\True) (ah (s->(s/\(t=false->p))/\True/\True) (ah (True/\(s->s)) (di (gG A.1 [],q.2.2.1,o&&(t||decide (aY q.2.2.1<=bF q.1 v 0)))))))))))))))) (bg (A.1,A.2.1,A.2.2.1,q.1,bh v,q.2.2.1,())))) (b4 ())) (A.1,y.1,y.2.1,y.2.2,0,A.2.1,()) λA=>mpure ([],[],false)
def agH(x:bc):L (List bc):=
 bS (λA=>letI l:=A.2.1;letI k:=A.2.2.1;letI j:=List.drop l.toNat (A.1.take (bh l).toNat);letI i:=cF (aY k) 1;hy l A.1 (cy (bY l A.1 (bl (Int.ofNat (bF A.1 l 0).1.1.1=32) (ed k (bg (A.1,l,k++[[]],()))) (bY i k (ah (0<=l/\l<=bh l/\bh l<=aY A.1) (ah (b2 (Add.add (bF k i []).length j.length)) (bY i k (bg (A.1,l,List.set k i.toNat (bF k i []++j),())))))))) (λA=>bg (A.1,bh A.2.1,A.2.2.1,()))) (b4 (k,()))) (x,0,[[]],()) λA=>mpure A.1
def agI(x:bc):L Int:=
 letI m:=dr (aY x) 1;letI j:=cu (aY x) 0||dr (aY x) 6;ah ((!j&&m)=true->((!j&&m)=true/\True)/\((0:Int)<=0/\0<aY x)/\True) (bJ (j||m&&cu (Int.ofNat (gG x 0).1.1.1) 48) (mpure (-1)) (bS (λA=>letI l:=A.2.2.1;letI i:=Int.ofNat (bF A.1 l 0).1.1.1;letI k:=(!(fZ i 48))=true;gx l A.1 (ah (k->(k/\k)/\(0<=l/\l<aY A.1)/\True) (bJ (fZ i 48||dr i 57) (di (-1)) (bY l A.1 (bg (A.1,e1 (IntKind.wrap .i64 (10*A.2.1)) (IntKind.wrap .i64 (IntKind.wrap .u8 (i-48))),e1 l 1,()))))) (b4 (A.2.1,()))) (x,0,0,()) (λA=>mpure A.1)))
def ayM(x:Unit):L (List bc×z1'×z1'):=
 mpure ([[108,101,110,100],[98,97,99,107],[118,111,105,100],[108,97,115,116,115],[102,101,101],[111,119,101,115],[104,101,108,100],[119,104,101,114,101],[109,105,115,115,105,110,103],[116,114,105,97,108],[102,105,116,115],[115,116,111,99,107],[99,111,109,101,115],[112,105,101,99,101],[119,105,115,104],[100,114,111,112],[99,97,110],[116,97,107,101,115],[109,111,115,116],[101,120,116,114,97]],[5,4,1,1,1,1,1,2,1,4,3,2,3,4,5,1,1,0,0,0],[5,4,1,1,1,1,1,2,1,4,3,2,3,-1,-1,1,1,-1,0,0])
def agJ(x:Int):L bc:=
 bl (x<0) (mpure [115,104,111,112]) (ah ((10:Int)≠0) (bS (λA=>letI b:=IntKind.wrap .i64 (Int.tdiv A.1 10);bl (A.1>=10) (ah ((10:Int)≠0) (ah ((10:Int)≠0) (ah (b2 (Add.add (Add.add 0 1) A.2.1.length)) (bg (b,[UInt8.ofNat (Int.toNat (IntKind.wrap .u8 (e1 48 (Int.tmod b 10))))]++A.2.1,()))))) (b4 (A.2.1,()))) (x,[UInt8.ofNat (Int.toNat (IntKind.wrap .u8 (e1 48 (Int.tmod x 10))))],()) (λA=>mpure A.1)))
def agK(x:bD):L bD:=
 dy (MN x.1) (dy (Ni x.2) (mpure (L.val (MN x.1) (([],[],0,[]),[],[],[],[],0),L.val (Ni x.2) ([],[],[],[],0,0,0,0,0,0,0))))
def agL(x:List bc×Int):L Bool:=
 bS (λA=>gx A.2.2.1 A.1 (bl (bF A.1 A.2.2.1 []≠[111,107]) (di false) (bg (A.1,A.2.1,bh A.2.2.1,()))) (b4 (A.1,A.2.1,()))) (x.1,x.2,0,()) λA=>mpure (decide (aY A.1=A.2.1))
def agM(x:H.bb):L (List bc):=
 bS (λA=>gx A.1 A.2.1.2.2.1 (ar (U4 ([118,111,105,100],[bF A.2.1.2.2.1 A.1 0])) (λy=>ed A.2.2.1 (bg (bh A.1,A.2.1,A.2.2.1++[y],())))) (b4 (A.2.1,A.2.2.1,()))) (0,x,[],()) λA=>bS (λA=>letI g:=A.2.2.1;letI f:=bF A.2.1.2.1 A.1 (0,0,0,0,0,0);hy A.1 A.2.1.2.1 (cy (bY A.1 A.2.1.2.1 (bl (f.2.2.2.1=1) (ar (U4 ([108,101,110,100],[f.1,f.2.1,f.2.2.1,f.2.2.2.2.1,f.2.2.2.2.2])) (λy=>ed g (bg (A.1,A.2.1,g++[y],())))) (ar (U4 ([98,97,99,107],[f.1,f.2.1,f.2.2.1,f.2.2.2.2.1])) (λy=>ed g (bg (A.1,A.2.1,g++[y],())))))) (λA=>bg (bh A.1,A.2.1,A.2.2.1,()))) (b4 (g,()))) (0,A.1,A.2.1,()) λA=>mpure A.1
def agN(x:H.bb×H.bb×Int×Int×Int×Int):L Bool:=
 letI d:=x.2.2.2;ar (IG (x.1,x.2.2.1)) λy=>ar (IG (x.2.1,x.2.2.1)) λcp=>letI c:=cu y.1.1 cp.1.1&&cu y.1.2 cp.1.2&&cu y.2 cp.2;ar (IE (x.1,d.1,d.2.1)) λef=>ar (IE (x.2.1,d.1,d.2.1)) λhg=>ar (Nj (x.1,d.2.1)) λkO=>ar (Nj (x.2.1,d.2.1)) λuX=>ar (IF (x.1,d.2.2)) λwa=>ar (IF (x.2.1,d.2.2)) λII=>cj c (ayJ (ef.1,hg.1)) false λayN=>mpure (c&&ayN&&cu ef.2 hg.2&&(cu kO.1.1 uX.1.1&&cu kO.1.2 uX.1.2)&&cu kO.2 uX.2&&(cu wa.1.1 II.1.1&&cu wa.1.2 II.1.2)&&cu wa.2 II.2)
def ayO(x:z34'):L Bool:=
 bl (aY x.1≠aY x.2) jL (bS (λA=>letI c:=A.2.2.1;gx c A.1 (bY c A.2.1 (bl (bF A.1 c 0≠bF A.2.1 c 0) (di false) (bg (A.1,A.2.1,bh c,())))) (b4 ())) (x.1,x.2,0,()) (λA=>ku))
def agO(x:bc×z1'):L bc:=
 bS (λA=>gx A.2.2.1 A.2.1 (ar (ayH (bF A.2.1 A.2.2.1 0)) (λy=>ah (b2 (Add.add (Add.add 0 1) y.length)) (ah (b2 (Add.add A.1.length (Add.add y.length 1))) (bg (A.1++([32]++y),A.2.1,bh A.2.2.1,()))))) (b4 (A.1,()))) (x.1,x.2,0,()) λA=>mpure A.1
def Nq{fs:Type}(c0:z3'->L (z3'))(bI:List (List (z17'))->L (List (List (z17'))))(c2:z3'->L (z3'))(c3:List (z17')×Unit->L (List (z17')×Unit))(c4:z1'->L (z1'))(c5:List ow->L (List ow))(pt:List lB->L (List lB))(rW:z5'->L (z5'))(x:bN)(fin:bN->L fs):L fs:=
 ah True (dy (c0 x.1.1) (ah True (dy (bI x.1.2.1) (ah True (dy (c2 x.1.2.2.2) (ah True (ah True (ah True (cy (ah True (dI (λ(A:Int×Int×Int×z1'×List ow×List lB×z5'×Int×Int×Int×z3'×List (List (z17'))×z3'×Unit)=>letI aT:=A.2;letI nH:=aT.2.2.2;letI s1:=aT.1.toNat;letI fC:=nH.2.2.2;letI iS:=fC.2.2.2;bl (aT.1<A.1) (cy (ah True (bY aT.1 iS.2.1 (ah True (ah (s1=s1) (ar (c3 (bF iS.2.1 aT.1 [],())) (λy=>ah True (ah (s1=s1) (ah True (ah (s1=s1) (dI (λA=>letI eH:=A.2.2.2.2;letI b1:=eH.2.2.2;letI i1:=b1.2.2.2;letI c6:=i1.2.2.2.2;letI bB:=c6.2.2.1;letI kC:=bF bB eH.1 (0,[],0,0);bl (eH.1<A.2.2.2.1) (ah True (ah (A.1=c6.1.2) (ah True (ah (A.1=c6.1.2) (bY eH.1 bB (dy (c4 kC.2.1) (bY eH.1 bB (bg (A.1,A.2.1,A.2.2.1,A.2.2.2.1,bh eH.1,eH.2.1,eH.2.2.1,b1.1,b1.2.1,b1.2.2.1,i1.1,i1.2.1,i1.2.2.1,i1.2.2.2.1,c6.1,c6.2.1,List.set bB eH.1.toNat (kC.1,L.val (c4 kC.2.1) [],kC.2.2),()))))))))) (b4 (A.2.1,A.2.2.1,eH.2.1,eH.2.2.1,b1.1,b1.2.1,b1.2.2.1,i1.1,i1.2.1,i1.2.2.1,i1.2.2.2.1,c6.1,c6.2.1,bB,()))) (s1,A.1,aT.1,aY y.1,0,aT.2.1,aT.2.2.1,nH.1,nH.2.1,nH.2.2.1,fC.1,fC.2.1,fC.2.2.1,iS.1,(iS.2.1,s1),iS.2.2.1,y.1,()))))))))))) (λA=>letI f2:=A.2.2.2.2;letI fU:=f2.2.2.2;letI eo:=fU.2.2.2;bg (A.1,bh A.2.1,A.2.2.1,A.2.2.2.1,f2.1,f2.2.1,f2.2.2.1,fU.1,fU.2.1,fU.2.2.1,eo.1,List.set eo.2.1.1 eo.2.1.2 eo.2.2.2.1,eo.2.2.1,()))) (b4 (aT.2.1,aT.2.2.1,nH.1,nH.2.1,nH.2.2.1,fC.1,fC.2.1,fC.2.2.1,iS.1,iS.2.1,iS.2.2.1,()))) (aY (L.val (bI x.1.2.1) []),0,x.1.2.2.1,x.2.1,x.2.2.1,x.2.2.2.1,x.2.2.2.2.1,x.2.2.2.2.2,0,0,L.val (c0 x.1.1) [],L.val (bI x.1.2.1) [],L.val (c2 x.1.2.2.2) [],()))) (λA=>letI M:=A.2.2;letI ch:=M.2.2;letI fR:=ch.2.2.2;dy (c4 A.2.1) (dy (c5 M.1) (dy (pt M.2.1) (dy (rW ch.1) (bS (λA=>letI i2:=A.2;letI t1:=i2.2.2.2;letI o4:=t1.2.2.2.2;letI d2:=o4.2.2;letI m1:=bF d2.1 i2.1 (0,0,0,0,[]);bl (i2.1<A.1) (bY i2.1 d2.1 (dy (c4 m1.2.2.2.2) (bY i2.1 d2.1 (bg (A.1,bh i2.1,i2.2.1,i2.2.2.1,t1.1,t1.2.1,t1.2.2.1,t1.2.2.2.1,o4.1,o4.2.1,List.set d2.1 i2.1.toNat (m1.1,m1.2.1,m1.2.2.1,m1.2.2.2.1,L.val (c4 m1.2.2.2.2) []),d2.2.1,d2.2.2.1,()))))) (b4 (i2.2.1,i2.2.2.1,t1.1,t1.2.1,t1.2.2.1,t1.2.2.2.1,o4.1,o4.2.1,d2.1,d2.2.1,d2.2.2.1,()))) (aY (L.val (c5 M.1) []),0,A.1,ch.2.1,ch.2.2.1,fR.1,fR.2.1,fR.2.2.1,fR.2.2.2.1,L.val (c4 A.2.1) [],L.val (c5 M.1) [],L.val (pt M.2.1) [],L.val (rW ch.1) [],()) (λA=>letI m2:=A.2.2.2;letI v1:=m2.2.2.2;bS (λA=>letI nh:=A.2;letI jK:=nh.2.2.2;letI aO:=jK.2.2.2.2;letI fc:=aO.2.2.2;letI cn:=bF fc.1 nh.1 ([],(0,0),0,0,0);bl (nh.1<A.1) (bY nh.1 fc.1 (dy (c4 cn.1) (bY nh.1 fc.1 (bg (A.1,bh nh.1,nh.2.1,nh.2.2.1,jK.1,jK.2.1,jK.2.2.1,jK.2.2.2.1,aO.1,aO.2.1,aO.2.2.1,List.set fc.1 nh.1.toNat (L.val (c4 cn.1) [],cn.2),fc.2.1,()))))) (b4 (nh.2.1,nh.2.2.1,jK.1,jK.2.1,jK.2.2.1,jK.2.2.2.1,aO.1,aO.2.1,aO.2.2.1,fc.1,fc.2.1,()))) (aY v1.2.2.2.1,0,A.1,A.2.1,A.2.2.1,m2.1,m2.2.1,m2.2.2.1,v1.1,v1.2.1,v1.2.2.1,v1.2.2.2.1,v1.2.2.2.2.1,()) λA=>letI mD:=A.2.2.2.2.2;fin ((A.2.2.2.2.1,mD.1,A.1,mD.2.1),mD.2.2.1,mD.2.2.2.1,mD.2.2.2.2.1,mD.2.2.2.2.2.1,A.2.1))))))))))))))))
def lW(s:bN):Nk:=(s.1.1,s.1.2.1,s.1.2.2.1,s.2.2.2.2.2,s.1.2.2.2,s.2.1,s.2.2.1,s.2.2.2.1,s.2.2.2.2.1,())
def ayP(x:bN):L bN:=Nq c0 bI c2 c3 c4 c5 pt rW x mpure
def ayQ(x:bN×Unit):L Nk:=Nq c0 bI c2 c3 c4 c5 pt rW x.1 λs=>mpure (lW s)
end Go.Fer
namespace Go.Fer
variable (aPo:bN->L Bool) (aPp:Unit->L Bool) (aPq:bN×Unit->L (auK)) (aPr:bN×bN->L Bool) (MN:bN->L (bN)) (No af8:bN->L (z11')) (af7:bN×Int->L (z19')) (aPs:bN×Int->L (z11')) (af1:bN->L Bool) (H9 MO:bN->L Int) (aPt aPu:bN×Int×Int->L (z11')) (aPv:bN×Int->L (z19')) (aPw:z34'->L Bool) (aPx:bN×bN->L Bool) (auP:bN->L (z11')) (aPy:bN×Int->L (z11')) (aPz:bN->L (z11')) (aPA:bN->L (z19')) (aPB:z19'->L Bool) (aPC:bN×z1'->L Int) (auS:bN×z1'->L Bool) (aPD:bN×z1'->L Int) (aPE af_:bN×z1'->L (z11')) (auT:bN×z1'->L Bool) (auO:bN->L Int) (agP:Unit->L (bN)) (adj:z12'->L Bool) (adk:Unit->L bZ)
def agQ(x:bN):L Bool:=
 ar (adj x.1) λy=>if y||dr (aY x.2.1) 40||dr (aY x.2.2.1) 40||dr (aY x.2.2.2.1) 40||dr (aY x.2.2.2.2.1) 40 then ku else bS (λA=>gx A.1 A.2.1.2.2.1 (bl (aY (bF A.2.1.2.2.1 A.1 (0,0,0,0,[])).2.2.2.2 > 40) (di true) (bg (bh A.1,A.2.1,()))) (b4 (A.2.1,()))) (0,x,()) λA=>bS (λA=>gx A.1 A.2.1.2.2.2.1 (bl (aY (bF A.2.1.2.2.2.1 A.1 ([],(0,0),0,0,0)).1 > 40) (di true) (bg (bh A.1,A.2.1,()))) (b4 (A.2.1,()))) (0,A.1,()) λA=>ar (MO A.1) λy=>bl (y≠0) jL (bS (λA=>letI e:=A.2.2.1;gx A.2.1 e.2.2.1 (bg (e1 A.1 (aY (bF e.2.2.1 A.2.1 (0,0,0,0,[])).2.2.2.2),bh A.2.1,e,())) (b4 (A.1,e,()))) (0,0,A.1,()) (λA=>mpure (dr (aY A.2.1.2.2.2.1) 3||dr (aY A.2.1.2.2.1) 4||dr (aY A.2.1.2.2.2.2.1) 3||dr A.1 4)))
def agR(x:Unit):L (bN):=
 ar (adk ()) λy=>mpure (y,[1,0,0,0],[(1,60,0,0,[0]),(1,60,7,0,[]),(2,65,0,1,[0]),(2,60,0,0,[0,1])],[([1],(55,65),7,3,500),([1,2],(60,60),0,5,400),([2],(60,70),9,8,700),([2],(65,65),0,5,300)],[(4,2,1),(6,3,1)],2)
end Go.Fer
namespace Go.Fer
abbrev bK:aa:=.int .i64
abbrev d_:aa:=.bool
abbrev hG:aa:=.slice bK
abbrev o6:aa:=.ae (.aw bK bK)
abbrev mL:aa:=.ae (.aw bK (.aw bK o6))
abbrev tC:aa:=.ae (.aw bK (.aw hG o6))
abbrev np:aa:=.ae (.slice tC)
abbrev l1:aa:=.ae (.aw bK (.aw bK (.aw bK bK)))
abbrev mM:aa:=.ae (.aw (.slice mL) (.aw (.slice np) (.aw bK (.slice l1))))
attribute [simp] v' To xH e7 FY PT iK kN sb ml ov db uU dn kv Tn aL.pM
abbrev dC:aQ:=⟨.aw bK (.aw bK bK),d_,λ_=>True,λx=>decide (x.2.1<=x.1)&&decide (x.1<=x.2.2)⟩
theorem ayR(x):a_ (auo x) (dC.sh x):=bu λ_=>rfl
abbrev sj:aQ:=⟨.aw hG bK,d_,λx=>x.1.length<2 ^ 63,λx=>x.1.contains x.2⟩
abbrev U5:Type:=z28'
abbrev B5:Type:=z17'
abbrev pV:Type:=z28'
def jf(w:bZ):Prop:=w.1.length<2 ^ 63/\w.2.1.length<2 ^ 63/\w.2.2.2.length<2 ^ 63/\∀ m∈w.2.1,m.length<2 ^ 63/\∀ s∈m,s.2.1.length<2 ^ 63
def iV(w:bZ)(n:Int):Bool:=decide (0<=n)&&decide (n<(w.1.length:Int))
def tD(w:bZ)(n:Int):Bool:=decide (0<=n)&&decide (n<(w.2.1.length:Int))
def lD(w:bZ)(m:Int):List B5:=w.2.1.getD m.toNat []
def kS(w:bZ)(m k:Int):Bool:=tD w m&&(decide (0<=k)&&decide (k<((lD w m).length:Int)))
variable {w:bZ}
theorem x1{n:Int}:iV w n=true<->0<=n/\n<(w.1.length:Int):=by simp[iV]
theorem U6{n:Int}:tD w n=true<->0<=n/\n<(w.2.1.length:Int):=by simp[tD]
variable {m:Int}{k:Int}
theorem EP:kS w m k=true<->(0<=m/\m<(w.2.1.length:Int))/\0<=k/\k<((lD w m).length:Int):=by simp[kS,tD]
theorem Nr(hw:jf w)(m:Int):(lD w m).length<2 ^ 63:=by
 unfold lD;rw[am1];cases h:w.2.1[m.toNat]? with
 | none=>simp
 | some x=>exact (hw.2.2.2 x (aRD h)).1
theorem zm(n m:Int):decide (n<=m - 1)=decide (n<m):=by
 grind
abbrev sq:aQ:=⟨.aw mM bK,d_,λx=>jf x.1,λx=>iV x.1 x.2⟩
theorem agS(w:bZ)(n:Int)(h:jf w):Tw dC.sh (w,n)=mpure (iV w n):=by
 unfold Tw aY cF;have ai:=h.1;have hw:=bA (n:=(w.1.length:Int) - 1);simp[aQ.sh,dC,hw,iV,zm]
theorem ayS(x):a_ (Tw dC.sh x) (sq.sh x):=bu λh=>agS x.1 x.2 h
abbrev ER:aQ:=⟨.aw mM bK,d_,λx=>jf x.1,λx=>tD x.1 x.2⟩
theorem ayT(w:bZ)(n:Int)(h:jf w):Tz dC.sh (w,n)=mpure (tD w n):=by
 unfold Tz aY cF;have ai:=h.2.1;have hw:=bA (n:=(w.2.1.length:Int) - 1);simp[aQ.sh,dC,hw,tD,zm]
theorem ayU(x):a_ (Tz dC.sh x) (ER.sh x):=bu λh=>ayT x.1 x.2 h
abbrev u4:aQ:=⟨.aw mM (.aw bK bK),d_,λx=>jf x.1,λx=>kS x.1 x.2.1 x.2.2⟩
theorem agT(w:bZ)(m k:Int)(h:jf w):MG dC.sh ER.sh (w,m,k)=mpure (kS w m k):=by
 unfold MG cj bF aY cF;have ai:=Nr h m;have hw:=bA (n:=((lD w m).length:Int) - 1);unfold lD at hw;simp only[aQ.sh,dC,ER,e7,ml,cD,hw,zm,bd h];rw[bd,bd (by simp)]
 ·simp only[kS,lD];simp
 ·intro hm;exact⟨⟨hm,hm⟩,U6.1 hm,trivial⟩
theorem ayV(x):a_ (MG dC.sh ER.sh x) (u4.sh x):=bu λh=>agT x.1 x.2.1 x.2.2 h
def zn(s:z11'):Bool:=(decide (0<=s.1)&&decide (s.1<=s.2))&&decide (s.2<=999)
abbrev rI:aQ:=⟨o6,d_,λ_=>True,zn⟩
theorem agU(s:z11'):TB dC.sh s=mpure (zn s):=by
 unfold TB hY;simp[aQ.sh,dC,zn]
theorem ayW(x):a_ (TB dC.sh x) (rI.sh x):=bu λ_=>agU x
def wo(l:z1'):Bool:=(List.range (l.length - 1)).all λi=>decide (l.getD i 0<l.getD (i+1) 0)
abbrev x2:aQ:=⟨hG,d_,λx=>x.length<2 ^ 63,wo⟩
theorem agV(l:z1')(h:l.length<2 ^ 63):Ty l=mpure (wo l):=by
 unfold Ty gx bF bl bh bS di b4 bg ku bY cF;rw[e2 (List.range (l.length - 1)) (λi (_:Unit)=>(l,((i+1:Nat):Int),())) (λi b=>if (decide (l.getD i 0<l.getD (i+1) 0))=true then .az b else .aX (.aX false)) (λ_=>.az ()) () ?_ ?_ ?_]
 ·rw[MA];unfold wo;cases (List.range (l.length - 1)).all λi=>decide (l.getD i 0<l.getD (i+1) 0)<;>simp
 ·simp
 ·intro i G b;have ea:i+1<l.length:=by grind
  have hw:=bA (n:=(i:Int)+1+1);have gJ:=bA (n:=(i:Int)+1 - 1);have aF:((i:Int)+1).toNat=i+1:=by omega
  have bB:((i:Int)+1 - 1).toNat=i:=by omega
  have cn:(0:Int)<=(i:Int)+1/\(i:Int)+1<(l.length:Int):=by omega
  have cN:(0:Int)<=(i:Int)+1 - 1/\(i:Int)+1 - 1<(l.length:Int):=by omega
  simp only[cD,Int.natCast_add,Int.cast_ofNat_Int,hw,gJ,cn,cN,bd,aF,bB,dn,aQw,am0,if_true,aP,aR8,aRx,Int.natCast_one];generalize l.getD i 0=aK;generalize l.getD (i+1) 0=B;by_cases hc:aK<B
  ·simp[hc,Int.not_le.2 hc]
  ·simp[hc,Int.not_lt.1 hc]
 ·intro b;have:¬(((List.range (l.length - 1)).length:Int)+1<(l.length:Int)):=by grind
  simp[this];omega
theorem ayX(x):a_ (Ty x) (x2.sh x):=bu λh=>agV x h
def tE(n:Int):Bool:=decide (0<=n)&&decide (n<=9)
def sr(s:B5):Bool:=s.2.1.all tE&&(tE s.1&&decide ((s.2.1.length:Int)<=4)&&wo s.2.1&&zn s.2.2)
def u5(s:U5):Bool:=tE s.1&&tE s.2.1&&zn s.2.2
def wx(w:bZ)(t:pV):Bool:=iV w t.1&&kS w t.2.1 t.2.2.1&&(decide (0<=t.2.2.2)&&decide (t.2.2.2<=1))
def tF(m:List B5):Bool:=!decide ((m.length:Int) > 4)&&m.all sr
def zo(w:bZ):Bool:=!(decide ((w.1.length:Int) > 10)||decide ((w.2.1.length:Int) > 6)||!(decide (0<=w.2.2.1)&&decide (w.2.2.1<=99))||decide ((w.2.2.2.length:Int) > 30))
def nq(w:bZ):Bool:=zo w&&w.1.all u5&&w.2.1.all tF&&w.2.2.2.all (wx w)
abbrev wy:aQ:=⟨tC,d_,λx=>x.2.1.length<2 ^ 63,sr⟩
theorem ayY(s:B5)(h:s.2.1.length<2 ^ 63):TC x2.sh dC.sh rI.sh s=mpure (sr s):=by
 unfold TC hY gx cj bF bh aY bS di b4 bg;rw[e2 s.2.1 (λi (_:Unit)=>((i:Int),s,())) (λn b=>if tE n=true then .az b else .aX (.aX false)) (λ_=>.az (s,())) () ?_ ?_ ?_]
 ·rw[MA];unfold sr;cases s.2.1.all tE with
  | false=>simp
  | true=>
   simp only[aQ.sh,dC,x2,rI,bd h,tE,if_true,aP,db,e7,ml,ck,cD,h,aQZ,aRL];simp
 ·rfl
 ·intro i G b;have hw:=bA (n:=(i:Int)+1);simp[aQ.sh,dC,G,hw,tE];grind
 simp
theorem ayZ(x):a_ (TC x2.sh dC.sh rI.sh x) (wy.sh x):=bu λh=>ayY x h
abbrev zp:aQ:=⟨mM,d_,jf,nq⟩
theorem ay0(w:bZ)(h:jf w):TA sq.sh u4.sh dC.sh rI.sh wy.sh w=mpure (nq w):=by
 have ax:=h;obtain⟨E,M,al,a7⟩:=h;unfold TA dr hy gx cj bF cy bJ bl bh aY bS di j0 b4 bg jL ku bY;simp only[aQ.sh,dC,ml,e7,aQZ,ck,cD,v'];split
 ·rename_i hc;have:zo w=false:=by unfold zo;grind
  simp[nq,this]
 ·rename_i hc;have dj:zo w=true:=by unfold zo;grind
  have aPF:w.2.1.length<=6:=by grind
  rw[e2 w.1 (λi (_:Unit)=>((i:Int),w,())) (λn b=>if (!tE n.1||!tE n.2.1||!zn n.2.2)=true then .aX (.aX false) else .az b) (λ_=>.az (w,())) () ?_ ?_ ?_]
  ·rw[ng (q:=u5) _ _ (λt=>by simp only[u5,Bool.not_and])];cases kZ:w.1.all u5 with
   | false=>simp[nq,kZ]
   | true=>
    simp only[aP,if_true,db];rw[e2 w.2.1 (λi (_:Unit)=>((i:Int),w,())) (λm b=>if tF m=true then .az b else .aX (.aX false)) (λ_=>.az (w,())) () ?_ ?_ ?_]
    ·rw[MA];cases a6:w.2.1.all tF with
     | false=>simp[nq,a6]
     | true=>
      simp only[aP,if_true,db];rw[e2 w.2.2.2 (λi (_:Unit)=>((i:Int),w,())) (λt b=>if (!iV w t.1||!kS w t.2.1 t.2.2.1||!(decide (0<=t.2.2.2)&&decide (t.2.2.2<=1)))=true then .aX (.aX false) else .az b) (λ_=>.az ()) () ?_ ?_ ?_]
      ·rw[ng (q:=wx w) _ _ (λt=>by simp only[wx,Bool.not_and])];cases kH:w.2.2.2.all (wx w)<;>simp[nq,kZ,a6,kH,dj]
      ·rfl
      ·intro i G b;have hw:=bA (n:=(i:Int)+1);simp only[cD,dQ G,if_true,d' G,dH G,ck,aQ.sh,sq,u4,e7,ml,ax,aQZ,v',aP,dn,hw];exact pO (mk:=λ_:Unit=>((i:Int)+1,w,()))
      simp
    ·rfl
    ·intro i G b;have hw:=bA (n:=(i:Int)+1);obtain⟨nc,di⟩:=a7 w.2.1[i] (amV G);simp only[cD,Int.ofNat_lt,G,aR8,if_true,d' G,Int.natCast_nonneg,aRx,ck];by_cases hlen:(w.2.1[i].length:Int) > 4
     ·simp[hlen,tF]
     ·simp only[hlen,aQ9,amW,aQv];rw[e2 w.2.1[i] (λk (_:Unit)=>((i:Int),(k:Int),w,())) (λs b=>if (!sr s)=true then .aX (.aX (.aX (.aX false))) else .az b) (λ_=>.az ((i:Int),w,())) () ?_ ?_ ?_]
      ·rw[ng (q:=sr) _ _ (λ_=>rfl)];cases U7:w.2.1[i].all sr<;>simp[tF,U7,hlen,hw]
      ·rfl
      ·intro k aj b;have nl:=bA (n:=(k:Int)+1);have IJ:=di w.2.1[i][k] (amV aj);simp only[cD,dQ aj,dQ G,if_true,d' G,d' aj,dH G,dH aj,ck,wy,e7,IJ,bd IJ,aP,dn,nl];exact pO (mk:=λ_:Unit=>((i:Int),(k:Int)+1,w,()))
      simp_all
    simp
  ·rfl
  ·intro i G b;have hw:=bA (n:=(i:Int)+1);simp only[cD,dQ G,if_true,d' G,dH G,ck,aQ.sh,rI,e7,ml,aQZ,v',aP,dn,hw,Bool.not_not];exact pO (mk:=λ_:Unit=>((i:Int)+1,w,()))
  simp
theorem ay1(x):a_ (TA sq.sh u4.sh dC.sh rI.sh wy.sh x) (zp.sh x):=bu λh=>ay0 x h
abbrev tG:pV:=(0,0,0,0)
def pW(a b:pV):Bool:=decide (a.1=b.1)&&decide (a.2.1=b.2.1)&&decide (a.2.2.1=b.2.2.1)&&decide (a.2.2.2≠b.2.2.2)
def qE(l:List pV):Bool:=(List.range l.length).all λi=>(List.range i).all λk=>!pW (l.getD k tG) (l.getD i tG)
def c_(w:bZ):Int:=if nq w=true then (if qE w.2.2.2=true then 0 else 71) else 70
theorem agW{a b:Nat}(h:a<b):((0:Int)<=(a:Int)/\(a:Int)<(b:Int))=True:=dH h
abbrev iU:aQ:=⟨mM,bK,jf,c_⟩
theorem ay2(w:bZ)(h:jf w):Tx zp.sh w=mpure (c_ w):=by
 have ax:=h;obtain⟨E,M,al,a7⟩:=h;unfold Tx cu hy jq bF bJ bl bh bS di j0 b4 bg bY;simp only[aQ.sh,e7,bd ax];unfold c_;cases hw:nq w with
 | false=>simp
 | true=>
  rw[e2 (List.range w.2.2.2.length) (λi (_)=>((i:Int),w,())) (λi b=>if (List.range i).any (λk=>pW (w.2.2.2.getD k tG) (w.2.2.2.getD i tG))=true then .aX (.aX (71)) else .az b) (λ_=>.az ()) () ?_ ?_ ?_]
  ·rw[ng (q:=λi=>(List.range i).all λk=>!pW (w.2.2.2.getD k tG) (w.2.2.2.getD i tG)) _ _ (λi=>acM (λk=>by simp) _)];have e:((List.range w.2.2.2.length).all λi=>(List.range i).all λk=>!pW (w.2.2.2.getD k tG) (w.2.2.2.getD i tG))=qE w.2.2.2:=rfl;rw[e];cases qE w.2.2.2<;>simp
  ·rfl
  ·intro i G b;have G:i<w.2.2.2.length:=by grind
   have l2:=bA (n:=i+1);simp only[cD,dQ G,aQw];rw[e2 (List.range i) (λk (_)=>((i:Int),(k:Int),w,())) (λk b=>if pW (w.2.2.2.getD k tG) (w.2.2.2.getD i tG)=true then .aX (.aX (.aX (.aX (71)))) else .az b) (λ_=>.az (i,w,())) () ?_ ?_ ?_]
   ·rw[uV];cases (List.range i).any (λk=>pW (w.2.2.2.getD k tG) (w.2.2.2.getD i tG))<;>simp[l2]
   ·rfl
   ·intro k aj b;have aj:k<i:=by grind
    have oz:k<w.2.2.2.length:=by omega
    have nl:=bA (n:=k+1);simp only[dQ aj,aQw,agW oz,agW G,ck,aP,dn,nl];exact pO (mk:=λ_=>((i:Int),(k:Int)+1,w,()))
   simp
  simp
theorem ay3(x):a_ (Tx zp.sh x) (iU.sh x):=bu λh=>ay2 x h
def jy(w:bZ)(i:Int):U5:=w.1.getD i.toNat (0,0,0,0)
def zq(w:bZ)(m k:Int):B5:=(lD w m).getD k.toNat (0,[],0,0)
variable {i:Int}
theorem ay4(h:iV w i=true):jy w i∈w.1:=by
 rw[x1]at h;exact BE h.1 h.2
theorem U8(h:kS w m k=true):lD w m∈w.2.1:=by
 rw[EP]at h;exact BE h.1.1 h.1.2
theorem agX(h:kS w m k=true):zq w m k∈lD w m:=by
 rw[EP]at h;exact BE h.2.1 h.2.2
theorem ES(h:nq w=true):zo w=true/\(∀ s∈w.1,u5 s=true)/\(∀ m∈w.2.1,tF m=true)/\∀ t∈w.2.2.2,wx w t=true:=by
 simp  [nq,aQL]at h;grind
theorem IK(h:nq w=true):w.1.length<=10/\w.2.1.length<=6/\(0<=w.2.2.1/\w.2.2.1<=99)/\w.2.2.2.length<=30:=by
 have:=(ES h).1;simp[zo]at this;omega
theorem ay5(h:nq w=true)(hm:kS w m k=true):(lD w m).length<=4:=by
 have:=(ES h).2.2.1 _ (U8 hm);simp[tF]at this;omega
theorem ay6(h:nq w=true)(hm:kS w m k=true):sr (zq w m k)=true:=by
 have:=(ES h).2.2.1 _ (U8 hm);simp only[tF,amX,aQL]at this;exact this.2 _ (agX hm)
theorem ay7{s:B5}(h:sr s=true):0<=s.2.2.1/\s.2.2.1<=s.2.2.2/\s.2.2.2<=999:=by
 simp  [sr,zn,am0]at h;omega
theorem agY(h:nq w=true)(G:iV w i=true):0<=(jy w i).2.2.1/\(jy w i).2.2.1<=(jy w i).2.2.2/\(jy w i).2.2.2<=999:=by
 have:=(ES h).2.1 _ (ay4 G);simp  [u5,zn,am0]at this;omega
theorem ay8(h:nq w=true){t:pV}(aH:t∈w.2.2.2):iV w t.1=true/\kS w t.2.1 t.2.2.1=true:=by
 have:=(ES h).2.2.2 _ aH;simp  [wx]at this;grind
def B6(w:bZ)(i n m k:Int):Bool:=
 decide ((jy w i).1=(zq w m k).1)&&(zq w m k).2.1.contains (jy w i).2.1&&(decide ((zq w m k).2.2.1<=n)&&decide (n<=(zq w m k).2.2.2+w.2.2.1))
def tH(w:bZ):Prop:=jf w/\nq w=true
abbrev IL:aQ:=⟨.aw mM (.aw bK (.aw bK (.aw bK bK))),d_,λx=>tH x.1/\iV x.1 x.2.1=true/\kS x.1 x.2.2.2.1 x.2.2.2.2=true,λx=>B6 x.1 x.2.1 x.2.2.1 x.2.2.2.1 x.2.2.2.2⟩
theorem ay9(w:bZ)(i n m k:Int)(hw:tH w)(G:iV w i=true)(hm:kS w m k=true):acZ sj.sh dC.sh (w,i,n,m,k)=mpure (B6 w i n m k):=by
 unfold acZ e1 cu cj bF bY;have cn:=x1.1 G;have cN:=EP.1 hm;have fH:=ay7 (ay6 hw.2 hm);have Qs:=(IK hw.2).2.2.1;have IJ:=(hw.1.2.2.2 _ (U8 hm)).2 _ (agX hm);have l2:=bA (n:=(zq w m k).2.2.2+w.2.2.1);simp only[zq,lD]at *
 simp only[aQ.sh,ml,e7,cD,cn,cN,aRx,ck,aQZ,dn,l2,xH,IJ];rfl
def zr(w:bZ)(i n:Int)(t:pV):Bool:=!(decide (t.1=i)&&!decide (B6 w i n t.2.1 t.2.2.1=decide (t.2.2.2=1)))
def U9(w:bZ)(i n:Int):Bool:=w.2.2.2.all (zr w i n)&&(decide ((jy w i).2.2.1<=n)&&decide (n<=(jy w i).2.2.2))
def j3(w:bZ)(i:Int):z1':=(fy (jy w i).2.2.1 (jy w i).2.2.2).filter (U9 w i)
theorem agZ(hw:tH w)(G:iV w i=true):(j3 w i).length<=1000:=by
 have:=agY hw.2 G;have M:=aQ3 (U9 w i) (fy (jy w i).2.2.1 (jy w i).2.2.2);rw[D_]at M;unfold j3;omega
theorem ay_{i:Nat}(h:i<w.1.length):iV w (i:Int)=true:=by rw[x1];omega
def zt(w:bZ):Bool:=(List.range w.1.length).all λi=>!decide (((j3 w (i:Int)).length:Int)=0)
def fq(w:bZ)(cb:Bool):Int:=if c_ w≠0 then c_ w else if cb=false then 1 else if zt w=true then 0 else 3
theorem U_(h:c_ w=0):nq w=true:=by
 unfold c_ at h;grind
theorem IM{cb:Bool}(h:fq w cb=0):c_ w=0/\cb=true/\zt w=true:=by
 unfold fq at h;grind
theorem ag0{cb:Bool}(ax:jf w)(h:fq w cb=0):tH w:=⟨ax,U_ (IM h).1⟩
theorem ay'(h:zt w=true)(G:iV w i=true):0<(j3 w i).length:=by
 rw[x1]at G;have:=List.all_eq_true.1 h i.toNat (by grind);grind
def ET(w:bZ)(i:Int):z23':=if fq w (iV w i)≠0 then ((0,0),fq w (iV w i)) else (((j3 w i).getD 0 0,(j3 w i).getD ((j3 w i).length - 1) 0),0)
abbrev EU:aQ:=⟨.aw mM bK,.aw o6 bK,λx=>jf x.1,λx=>ET x.1 x.2⟩
def Ns(some many:Int):Int:=if some=many then 1 else if some=0 then 2 else 3
abbrev Nt:aQ:=⟨.aw bK bK,bK,λ_=>True,λx=>Ns x.1 x.2⟩
theorem ag1{af:Type}{p:af->Bool}:∀ (l:List af) (n:Int),l.foldl (λn x=>if p x=true then n+1 else n) n=n+(l.countP p:Int)
 | [],n=>by simp
 | x::l,n=>by
  simp;rw[ag1 l];grind
def x3(w:bZ)(i m k:Int):Int:=Ns ((j3 w i).countP λn=>B6 w i n m k:Int) ((j3 w i).length:Int)
def tI(w:bZ)(i m k:Int):z11':=if fq w (iV w i&&kS w m k)≠0 then (0,fq w (iV w i&&kS w m k)) else (x3 w i m k,0)
abbrev EV:aQ:=⟨.aw mM (.aw bK (.aw bK bK)),.aw bK bK,λx=>jf x.1,λx=>tI x.1 x.2.1 x.2.2.1 x.2.2.2⟩
section
variable {af:Type}
def BL(d:af)(x:List af×(af->L Bool)):L Int:=
 ar (dI (λ(A:List af×(af->L Bool)×Int×Int×Unit)=>if decide (A.2.2.2.1<A.2.2.1)=true then ah (0<=A.2.2.2.1/\
 A.2.2.2.1<Int.ofNat (List.length A.1)) (ar (A.2.1 (List.getD A.1 (Int.toNat A.2.2.2.1) d)) λy=>if y=true then ar (ar (mpure
 A.2.2.2.1) λr=>mpure (aL.aX r)) λr=>mpure (aL.aX r) else mpure (aL.az (A.1,A.2.1,A.2.2.1,IntKind.wrap .i64 (Add.add
 A.2.2.2.1 1),()))) else ar (mpure (aL.az ())) λr=>mpure (aL.aX r)) (x.1,x.2,Int.ofNat (List.length x.1),0,())) (aL.fQ λ(A
 : Unit)=>mpure (-1))
def Ih(c:List af×(af->L Bool)->L Int)(x:List af×(af->L Bool)):L Bool:=ar (c x) λy=>mpure (decide (y>=0))
def ag2(c:List af×(af->L Bool)->L Bool)(bI:af×Option (af->L Bool)->L Bool)(x:List af×(af->L Bool)):L Bool:=
 ar (c (x.1,λjv=>bI (jv,some x.2))) λy=>mpure !y
def ag3(x:af×Option (af->L Bool)):L Bool:=ar (Option.getD x.2 (λx=>{ fr:=False,a8:=λx=>False }) x.1) λy=>mpure !y
def jQ(p:af->Bool):List af->Int->Int
 | [],_=>-1
 | x::l,i=>if p x=true then i else jQ p l (i+1)
theorem Ej(p:af->Bool):∀ (l:List af) (i:Int),0<=i->(decide (jQ p l i>=0))=l.any p
 | [],i,_=>by rfl
 | x::l,i,h=>by
  simp only[jQ,aRr];by_cases an:p x=true
  ·grind
  ·have:=Ej p l (i+1) (by omega);grind
theorem Ek(p:af->Bool):∀ (l:List af) (i:Int),fa (λx (i:Int)=>if p x=true then (.aX (.aX i):aL Int (aL Unit Int)) else .az (i+1)) (λ_=>.az ()) l i=if l.any p=true then .aX (jQ p l i) else .az ()
 | [],i=>by rfl
 | x::l,i=>by
  simp only[fa,aRr,jQ];by_cases an:p x=true
  ·grind
  ·have:=Ek p l (i+1);grind
theorem Ii{p:af->Bool}:∀ (l:List af) (i:Int),¬l.any p=true->jQ p l i=-1
 | [],_,_=>rfl
 | x::l,i,aA=>by
  simp only[aRr,aQH,not_or]at aA;simp only[jQ,aA.1,amW,aQv];exact Ii l _ aA.2
theorem Ub(d:af)(l:List af)(f:af->L Bool)(h:l.length<2 ^ 63)(aC:∀ y∈l,∃ b,f y=mpure b):BL d (l,f)=mpure (jQ (λy=>(f y).val false) l 0):=by
 unfold BL;rw[eW l (λi (b:Int)=>(l,f,(l.length:Int),b,())) (λy (i:Int)=>if (f y).val false=true then (.aX (.aX i):aL Int (aL Unit Int)) else .az (i+1)) (λ_=>.az ()) (λi b=>b=(i:Int)) 0 ?_ ?_ ?_ ?_]
 ·rw[Ek (λy=>(f y).val false)];by_cases aZ:(l.any λy=>(f y).val false)=true
  ·simp[aZ]
  ·have:jQ (λy=>(f y).val false) l 0=-1:=by
    have:∀ (l:List af) (i:Int),¬(l.any λy=>(f y).val false)=true->jQ (λy=>(f y).val false) l i=-1:=by
     intro l;induction l with
     | nil=>intro i _;rfl
     | cons x l aR=>
      intro i aA;simp only[aRr,aQH,not_or]at aA;simp only[jQ,aA.1,amW,aQv];grind
    grind
   simp[aZ,this]
 ·rfl
 ·rfl
 ·intro i G b U;subst U;have hw:=bA (n:=(i:Int)+1);refine⟨?_,λbk dZ=>?_⟩
  ·obtain⟨b,U⟩:=aC _ (amV G);simp only[cD,dQ G,if_true,d' G,dH G,ck,U,kN,aP,dn,hw];split<;>rfl
  grind
 simp
end
abbrev k3(e:aa):aQ:=⟨.aw (.slice e) (.fn e .bool),bK,λx=>x.1.length<2 ^ 63/\∀ y∈x.1,∃ b,x.2 y=mpure b,λx=>jQ (λy=>(x.2 y).val false) x.1 0⟩
theorem tt(e:aa)(x):a_ (BL e.dW x) ((k3 e).sh x):=bu λh=>Ub e.dW x.1 x.2 h.1 h.2
abbrev h_(e:aa):aQ:=⟨.aw (.slice e) (.fn e .bool),d_,λx=>x.1.length<2 ^ 63/\∀ y∈x.1,∃ b,x.2 y=mpure b,λx=>x.1.any λy=>(x.2 y).val false⟩
theorem tu(e:aa)(x):a_ (Ih (k3 e).sh x) ((h_ e).sh x):=bu λh=>by
 unfold Ih;simp only[aQ.sh,k3,e7];rw[bd (by exact h)];exact congrArg mpure (Ej (λy=>(x.2 y).val false) x.1 0 (by omega))
abbrev zu(e:aa):aQ:=⟨.aw e (.bP (.fn e .bool)),d_,λx=>∃ f,x.2=some f/\∃ b,f x.1=mpure b,λx=>!((x.2.getD λ_=>eb) x.1).val false⟩
theorem IN(e:aa)(x):a_ (ag3 x) ((zu e).sh x):=bu λh=>by
 obtain⟨y,o⟩:=x;obtain⟨f,aC,b,U⟩:=h;change o=some f at aC;subst aC;change f y=mpure b at U;unfold ag3;simp_all
abbrev lE(e:aa):aQ:=⟨.aw (.slice e) (.fn e .bool),d_,λx=>x.1.length<2 ^ 63/\∀ y∈x.1,∃ b,x.2 y=mpure b,λx=>x.1.all λy=>(x.2 y).val false⟩
theorem IP(e:aa)(x):a_ (ag2 (h_ e).sh (zu e).sh x) ((lE e).sh x):=bu λh=>by
 obtain⟨l,f⟩:=x;obtain⟨E,M⟩:=h;unfold ag2;have hc:∀ y∈l,(zu e).sh (y,some f)=mpure (!(f y).val false):=λy bf=>by
  obtain⟨b,U⟩:=M y bf;exact bO ⟨f,rfl,b,U⟩ _
 simp only[aQ.sh,h_,e7];rw[bd ⟨E,λy bf=>⟨_,hc y bf⟩⟩];refine congrArg mpure ?_;rw[List.not_any_eq_all_not];simp
end Go.Fer
namespace Go.Fer
variable {af:Type}
theorem U'{p q:af->Bool}:∀ {l:List af},(∀ x∈l,p x=q x)->l.all p=l.all q
 | [],_=>rfl
 | x::l,h=>by
  grind
theorem aza(x):a_ (auG x) (dC.sh x):=bu λ_=>rfl
theorem azb(x):a_ (auH dC.sh x) (rI.sh x):=bu λ_=>agU x
abbrev B7:aQ:=⟨bK,d_,λ_=>True,tE⟩
theorem azc(x):a_ (ac' dC.sh x) (B7.sh x):=bu λ_=>by
 unfold ac';simp only[aQ.sh,dC,e7,ck,B7,tE]
theorem azd(x):a_ (auE dC.sh x) (sq.sh x):=bu λh=>agS x.1 x.2 h
theorem aze(x):a_ (ac9 dC.sh x) (u4.sh x):=bu λh=>by
 obtain⟨w,m,k⟩:=x;change jf w at h;have:=agT w m k h;unfold MG cj bF aY cF at this;unfold ac9 cj bF aY cF;simp only[aQ.sh,ER,e7,bd h,dC,ck,cD]at this ⊢;have ai:=h.2.1;have hw:=bA (n:=(w.2.1.length:Int) - 1);simp only[hw,zm];exact this
theorem azf(x):a_ (auF x) (x2.sh x):=bu λh=>agV x h
theorem azg(l:z1')(n:Int)(h:l.length<2 ^ 63):TD (l,n)=mpure (jQ (λy=>decide (n=y)) l 0):=by
 unfold TD bF bl bh aY bS di b4 bg bY;rw[eW l (λi (b:Int)=>(l,n,(l.length:Int),b,())) (λy (i:Int)=>if decide (n=y)=true then (.aX (.aX i):aL Int (aL Unit Int)) else .az (i+1)) (λ_=>.az ()) (λi b=>b=(i:Int)) 0 ?_ ?_ ?_ ?_]
 ·rw[Ek (λy=>decide (n=y))];by_cases aZ:(l.any λy=>decide (n=y))=true
  ·simp_all
  ·rw[if_neg aZ,Ii l 0 aZ];simp
 ·rfl
 ·rfl
 ·intro i G b U;subst U;have hw:=bA (n:=(i:Int)+1);refine⟨?_,λbk dZ=>?_⟩
  ·simp only[cD,dQ G,if_true,d' G,dH G,ck,aP,dn,hw];split<;>rfl
  grind
 simp
abbrev Nu:aQ:=⟨.aw hG bK,bK,λx=>x.1.length<2 ^ 63,λx=>jQ (λy=>decide (x.2=y)) x.1 0⟩
theorem azh(x):a_ (TD x) (Nu.sh x):=bu λh=>azg x.1 x.2 h
theorem azi(x):a_ (ac1 Nu.sh x) (sj.sh x):=bu λh=>by
 unfold ac1;simp only[aQ.sh,Nu,e7];rw[bd (by exact h),Ej _ _ _ (by omega)];grind
theorem azj(x):a_ (ac_ B7.sh rI.sh x) ((⟨mL,d_,λ_=>True,u5⟩:aQ).sh x):=bu λ_=>by
 unfold ac_ cj;simp only[aQ.sh,B7,rI,e7,ml,ck,aQZ,xH,u5]
abbrev Nv:aQ:=⟨mL,d_,λ_=>True,u5⟩
theorem azk(x):a_ (ada x2.sh (lE bK).sh B7.sh rI.sh x) (wy.sh x):=bu λh=>by
 unfold ada hY cj aY;simp only[aQ.sh,x2,rI,lE,B7,e7,ml,ck,aQZ,iK];rw[bd (by exact λ_=>⟨h,λy _=>⟨_,bO trivial _⟩⟩),bd (by omega)];simp only[xH,cD];refine congrArg mpure ?_;show _=sr x;unfold sr;grind
abbrev EW:aQ:=⟨.aw np (.bP (.fn tC .bool)),d_,λx=>∃ f,x.2=some f/\x.1.length<2 ^ 63/\∀ y∈x.1,∃ b,f y=mpure b,λx=>decide ((x.1.length:Int)<=4)&&x.1.all λy=>((x.2.getD λ_=>eb) y).val false⟩
theorem azl(x):a_ (adb (lE tC).sh x) (EW.sh x):=bu λh=>by
 obtain⟨m,o⟩:=x;obtain⟨f,aC,E,M⟩:=h;change o=some f at aC;subst aC;unfold adb cj aY;simp only[aQ.sh,lE,e7,ml,aQs];simp_all
abbrev EX:aQ:=⟨.aw l1 (.bP mM),d_,λx=>∃ w,x.2=some w/\jf w,λx=>wx (x.2.getD ([],[],0,[])) x.1⟩
theorem azm(x):a_ (ade sq.sh u4.sh dC.sh x) (EX.sh x):=bu λh=>by
 obtain⟨t,o⟩:=x;obtain⟨w,aC,E⟩:=h;change o=some w at aC;subst aC;unfold ade cj;simp only[aQ.sh,sq,u4,dC,e7,ml,aQs,bd E,E,aQZ,ck,xH,EX,wx]
theorem azn(x):a_ (ac8 dC.sh (lE mL).sh (lE np).sh (lE l1).sh EW.sh EX.sh Nv.sh wy.sh x) (zp.sh x):=bu λh=>by
 have aV:jf x:=h;obtain⟨E,M,al,a7⟩:=(h:jf x)
 unfold ac8 hY cj aY;have d1:∀ s,Nv.sh s=mpure (u5 s):=λ_=>rfl;have d2:∀ m∈x.2.1,EW.sh (m,some wy.sh)=mpure (tF m):=λm hm=>by
  refine (bO ⟨_,rfl,(a7 m hm).1,λy bf=>⟨_,bO ((a7 m hm).2 y bf) _⟩⟩ _).trans (congrArg mpure ?_);simp only[EW,aQs,tF,aQ.sh,iK];grind
 have d3:∀ t,EX.sh (t,some x)=mpure (wx x t):=λt=>bO ⟨_,rfl,aV⟩ _;have cH:(x.1.all λy=>(Nv.sh y).val false)=x.1.all u5:=U' λs _=>iK;have b1:(x.2.1.all λy=>(EW.sh (y,some wy.sh)).val false)=x.2.1.all tF:=U' λm hm=>(congrArg (λz:L Bool=>z.val false) (d2 m hm)).trans kN;have ek:(x.2.2.2.all λy=>(EX.sh (y,some x)).val false)=x.2.2.2.all (wx x):=U' λt _=>iK;have aF:∀ y,(lE mL).sh y=eF ((lE mL).pre y) ((lE mL).g y):=λ_=>rfl;have bB:∀ y,(lE np).sh y=eF ((lE np).pre y) ((lE np).g y):=λ_=>rfl;have c7:∀ y,(lE l1).sh y=eF ((lE l1).pre y) ((lE l1).g y):=λ_=>rfl;have bW:∀ y,dC.sh y=mpure (dC.g y):=λ_=>rfl;simp only[aF,bB,c7,bW,e7,ml,ov,aP];rw[bd (by grind),bd (by grind),bd (by exact λ_=>⟨al,λy _=>⟨_,d3 y⟩⟩)];simp only[xH,cD];refine congrArg mpure ?_;show _=nq x;rw[cH,b1,ek];unfold nq zo;grind
def rJ(m:z7')(k:z15'):Option Int:=Option.map (λx=>x.2) (List.find? (λp=>decide (k.1=p.1.1)&&(decide (k.2.1=p.1.2.1)&&decide (k.2.2=p.1.2.2))) m)
def x4(m:z4')(k:Int):Option Int:=Option.map (λx=>x.2) (List.find? (λp=>decide (k=p.1)) m)
theorem ag4{a b:z15'}:(decide (a.1=b.1)&&(decide (a.2.1=b.2.1)&&decide (a.2.2=b.2.2)))=decide (a=b):=by
 grind
theorem azo(k):rJ [] k=none:=rfl
theorem ag5(k:z15')(v:Int)(k':z15'):∀ m,rJ (y8 m k v) k'=if k'=k then some v else rJ m k'
 | []=>by
  show rJ [(k,v)] k'=_;by_cases h:k'=k<;>simp[rJ,ag4]
 | p::m=>by
  have aR:=ag5 k v k' m;show rJ (if (decide (k.1=p.1.1)&&(decide (k.2.1=p.1.2.1)&&decide (k.2.2=p.1.2.2)))=true then (p.1,v)::m else p::y8 m k v) k'=_;by_cases h:k=p.1
  ·subst h;by_cases e3:k'=p.1<;>simp[rJ,ag4,e3]
  ·simp  [rJ,List.find?_cons]at aR ⊢;grind
theorem ag6(k v k':Int):∀ m,x4 (hf m k v) k'=if k'=k then some v else x4 m k'
 | []=>by
  show x4 [(k,v)] k'=_;by_cases h:k'=k<;>simp[x4]
 | p::m=>by
  have aR:=ag6 k v k' m;show x4 (if decide (k=p.1)=true then (p.1,v)::m else p::hf m k v) k'=_;by_cases h:k=p.1
  ·subst h;by_cases e3:k'=p.1<;>simp[x4,e3]
  ·simp  [x4]at aR ⊢;grind
def ss(t:pV):z15':=(t.1,t.2.1,t.2.2.1)
theorem Nw{a b:pV}:pW a b=true<->ss a=ss b/\a.2.2.2≠b.2.2.2:=by
 simp  [pW,ss];omega
theorem ag7(l:List pV):qE l=true<->l.Pairwise λa b=>pW a b=false:=by
 unfold qE;rw[List.pairwise_iff_getElem];simp;grind
def Nx(m:z7')(pre:List pV):Prop:=∀ k v,rJ m k=some v<->(∃ t∈pre,ss t=k/\t.2.2.2=v)
def IQ(m:z7')(t:pV):Bool:=Option.isSome (rJ m (ss t))&&decide (Option.getD (rJ m (ss t)) 0≠t.2.2.2)
theorem ag8{m pre}(h:Nx m pre)(ak:pre.Pairwise λa b=>pW a b=false)(t:pV):IQ m t=true<->∃ a∈pre,pW a t=true:=by
 unfold IQ;cases ai:rJ m (ss t) with
 | none=>
  simp only[Option.isSome_none,aR',amW,false_iff];rintro⟨a,aZ,hc⟩;have:=(h (ss t) a.2.2.2).2 ⟨a,aZ,(Nw.1 hc).1,rfl⟩;grind
 | some v=>
  simp only[aQG,aRL,aQs,am0];obtain⟨b,U,aj,ag⟩:=(h _ _).1 ai;constructor
  ·intro eM;exact⟨b,U,Nw.2 ⟨aj,by omega⟩⟩
  ·rintro⟨a,aZ,hc⟩ rfl;obtain⟨bI,c2⟩:=Nw.1 hc;have:=(h (ss t) a.2.2.2).2 ⟨a,aZ,bI,rfl⟩;grind
theorem azp{m pre}(h:Nx m pre){t:pV}(U:∀ a∈pre,pW a t=false):Nx (y8 m (ss t) t.2.2.2) (pre++[t]):=by
 intro k v;rw[ag5];by_cases aj:k=ss t
 ·constructor
  ·grind
  ·rintro⟨a,aZ,E,M⟩;rcases List.mem_append.1 aZ with aZ | aZ
   ·have:¬pW a t=true:=by grind
    rw[Nw]at this;grind
   grind
 ·rw[if_neg aj,h];grind
theorem ag9:∀ (b9:List pV) (m) (pre:List pV),Nx m pre->(pre.Pairwise λa b=>pW a b=false)->
  fa (λt m=>if IQ m t=true then (.aX (.aX 71):aL _ (aL Unit Int)) else .az (y8 m (ss t) t.2.2.2)) (λ_=>.az ()) b9 m=if qE (pre++b9)=true then .az () else .aX 71
 | [],m,pre,h,ak=>by
  have:=(ag7 pre).2 ak;simp[fa,this]
 | t::b9,m,pre,h,ak=>by
  simp  [fa];by_cases U:IQ m t=true
  ·obtain⟨a,aZ,hc⟩:=(ag8 h ak t).1 U;have:¬qE (pre++t::b9)=true:=by
    rw[ag7];grind
   grind
  ·have aA:∀ a∈pre,pW a t=false:=λa aZ=>by
    have:=λhc=>U ((ag8 h ak t).2 ⟨a,aZ,hc⟩);grind
   have AE:(pre++[t]).Pairwise λa b=>pW a b=false:=by
    grind
   have:=ag9 b9 _ (pre++[t]) (azp h aA) AE;grind
theorem azq(w:bZ)(h:jf w):TE zp.sh w=mpure (c_ w):=by
 have ax:=h;obtain⟨E,M,al,a7⟩:=h;unfold TE cu jq bF bJ bl bh aY bS di b4 bg bY;simp only[aQ.sh,e7,bd ax];unfold c_;cases hw:nq w with
 | false=>simp
 | true=>
  rw[e2 w.2.2.2 (λi m=>(w.2.2.2,(w.2.2.2.length:Int),(i:Int),m,())) (λt m=>if IQ m t=true then (.aX (.aX 71)) else .az (y8 m (ss t) t.2.2.2)) (λ_=>.az ()) [] ?_ ?_ ?_]
  ·rw[ag9 w.2.2.2 [] [] (λk v=>by simp[azo]) (by simp)];by_cases aH:qE w.2.2.2=true<;>simp[aH]
  ·rfl
  ·intro i G m;have l2:=bA (n:=i+1);simp only[cD,dQ G,d' G,dH G,ck,aP,dn,l2];exact acN (mk:=λm=>(w.2.2.2,(w.2.2.2.length:Int),(i:Int)+1,m,()))
  simp
theorem azr(x):a_ (TE zp.sh x) (iU.sh x):=bu λh=>azq x h
theorem azs(w:bZ)(i n m k:Int)(hw:tH w)(G:iV w i=true)(hm:kS w m k=true):adg dC.sh sj.sh (w,i,n,m,k)=mpure (B6 w i n m k):=ay9 w i n m k hw G hm
theorem azt(x):a_ (adg dC.sh sj.sh x) (IL.sh x):=bu λh=>azs x.1 x.2.1 x.2.2.1 x.2.2.2.1 x.2.2.2.2 h.1 h.2.1 h.2.2
abbrev IS:aQ:=⟨.aw l1 (.aw (.bP bK) (.aw (.bP mM) (.bP bK))),d_,λx=>∃ i w n,x.2=(some i,some w,some n)/\tH w/\iV w i=true/\kS w x.1.2.1 x.1.2.2.1=true,λx=>zr (x.2.2.1.getD ([],[],0,[])) (x.2.1.getD 0) (x.2.2.2.getD 0) x.1⟩
theorem azu(x):a_ (adf IL.sh x) (IS.sh x):=bu λh=>by
 obtain⟨t,o⟩:=x;obtain⟨i,w,n,aC,hw,G,hm⟩:=h;subst aC;unfold adf cu jq nf;simp  [aQ.sh,ne_eq];by_cases aH:t.1=i
 ·have ak:tH w/\iV w i=true/\kS w t.2.1 t.2.2.1=true:=⟨hw,G,hm⟩
  simp[zr,ak]
 ·simp[zr,aH]
def su(w:bZ):List (z1'):=(List.range w.1.length).map λ(i:Nat)=>j3 w (i:Int)
def lF(w:bZ)(cb:Bool):Option xJ×Int:=if fq w cb≠0 then (none,fq w cb) else (some (w,su w),0)
abbrev EY:aQ:=⟨.aw mM d_,.aw (.bP (.ae (.aw mM (.slice hG)))) bK,λx=>jf x.1,λx=>lF x.1 x.2⟩
variable {w:bZ}
theorem azv{i:Int}:j3 w i=(fy (jy w i).2.2.1 (jy w i).2.2.2).filter λn=>w.2.2.2.all (zr w i n):=by
 refine aRF λn aA=>?_;rw[rD]at aA;simp[U9,aA]
theorem ag_{w:bZ}:∀ (l:List Nat) (acc:List (z1')),fa (λ(i:Nat) (acc:List (z1'))=>if decide (((j3 w (i:Int)).length:Int)=0)=true then (.aX (.aX (none,(3:Int))):aL _ (aL (List U5×List (List B5)×Int×List pV×List (z1')×Unit) (Option xJ×Int))) else .az (acc++[j3 w (i:Int)])) (λacc=>.az (w.1,w.2.1,w.2.2.1,w.2.2.2,acc,())) l acc
  =if (l.all λ(i:Nat)=>!decide (((j3 w (i:Int)).length:Int)=0))=true then .az (w.1,w.2.1,w.2.2.1,w.2.2.2,acc++l.map (λ(i:Nat)=>j3 w (i:Int)),()) else .aX (none,3)
 | [],acc=>by simp[fa]
 | i::l,acc=>by
  simp only[fa,aRd];by_cases h:((j3 w i).length:Int)=0
  ·grind
  ·simp only[h,aQ9,amW,aQv,aRL];rw[ag_ l];simp
theorem azw(w:bZ)(cb:Bool)(h:jf w):TH iU.sh (lE l1).sh IS.sh (w,cb)=mpure (lF w cb):=by
 unfold TH bF cy bJ bl bh aY bS di j0 b4 bg ed bY lF fq;simp only[aQ.sh,e7,bd h];by_cases hc:c_ w=0
 ·have hw:tH w:=⟨h,U_ hc⟩
  have azx:=IK hw.2;simp only[hc,aQv];cases cb with
  | false=>simp
  | true=>
   rw[eW (List.range w.1.length) (λi acc=>(w.1,(w.1.length:Int),(i:Int),w,w.1,w.2.1,w.2.2.1,w.2.2.2,acc,())) (λi acc=>if decide (((j3 w i).length:Int)=0)=true then (.aX (.aX (none,(3)))) else .az (acc++[j3 w i])) (λacc=>.az (w.1,w.2.1,w.2.2.1,w.2.2.2,acc,())) (λi acc=>acc.length<=i) [] ?_ ?_ ?_ ?_]
   ·rw[ag_];have e:((List.range w.1.length).all λi=>!decide (((j3 w i).length:Int)=0))=zt w:=rfl;rw[e];by_cases aH:zt w=true<;>simp[aH,su]
   ·rfl
   ·simp
   ·intro i G acc Va;have G:i<w.1.length:=by grind
    have mj:=ay_ G;have ai:=agY hw.2 mj;have l2:=bA (n:=i+1);have aB:w.1[i]=jy w i:=by simp[jy,G]
    refine⟨?_,λbk U=>?_⟩
    ·simp only[cD,dQ G,d' G,dH G,aB];rw[eW (fy (jy w i).2.2.1 (jy w i).2.2.2) (λk l=>(w.1,(w.1.length:Int),(i:Int),w,(i:Int),jy w i,l,(jy w i).2.2.1+k,w.1,w.2.1,w.2.2.1,w.2.2.2,acc,())) (λn l=>.az (if w.2.2.2.all (zr w i n)=true then l++[n] else l)) (λl=>.az (w.1,(w.1.length),i,w,l,w.1,w.2.1,w.2.2.1,w.2.2.2,acc,())) (λk l=>l.length<=k) [] ?_ ?_ ?_ ?_]
     ·rw[ew,H6];simp only[aP,db];rw[<-azv];by_cases bz:((j3 w i).length)=0
      ·simp[bz]
      ·have o7:b2 (acc.length+(0+1)):=by unfold b2;omega
       simp_all
     ·simp
     ·simp
     ·intro k aj l Ny;have bS:(jy w i).2.2.1+k<=(jy w i).2.2.2:=by rw[D_]at aj;omega
      have Nz:=bA (n:=(jy w i).2.2.1+(k+1));have o7:b2 (l.length+(0+1)):=by unfold b2;omega
      refine⟨?_,λbk U=>?_⟩
      ·have kY:∀ t∈w.2.2.2,IS.sh (t,some i,some w,some ((jy w i).2.2.1+k))=mpure (zr w i ((jy w i).2.2.1+k) t):=λt aH=>bO ⟨_,_,_,rfl,hw,mj,(ay8 hw.2 aH).2⟩ _;simp only[bS,H7];rw[bd (by exact⟨h.2.2.1,λt aH=>⟨_,kY t aH⟩⟩)];by_cases U:w.2.2.2.all (zr w i ((jy w i).2.2.1+k))=true
       ·simp  [U,bd o7,Nz,Int.add_assoc]
       ·simp  [U,Nz,Int.add_assoc]
      grind
     ·have:¬(jy w i).2.2.1+((fy (jy w i).2.2.1 (jy w i).2.2.2).length)<=(jy w i).2.2.2:=by rw[D_];omega
      simp  [this,aP]
    grind
   simp
 grind
theorem azy(x):a_ (TH iU.sh (lE l1).sh IS.sh x) (EY.sh x):=bu λh=>azw x.1 x.2 h
theorem azz(x):a_ (adh x) (Nt.sh x):=bu λ_=>by
 unfold adh bl;simp  [Ns];grind
theorem ag'(w:bZ):(su w).length=w.1.length:=by simp[su]
theorem Vb{i:Int}(h:iV w i=true):List.getD (su w) i.toNat []=j3 w i:=by
 rw[x1]at h;have:=by omega
 have e:(i.toNat)=i:=by omega
 simp[su,this,e]
abbrev azA:aa:=.bP (.ae (.aw mM (.slice hG)))
def azB(o:Option xJ)(w:bZ):Prop:=o=some (w,su w)/\tH w
abbrev NA:aQ:=⟨.aw azA (.aw bK (.aw bK bK)),bK,λx=>∃ w,azB x.1 w/\iV w x.2.1=true/\kS w x.2.2.1 x.2.2.2=true,λx=>x3 ((x.1.getD (([],[],0,[]),[])).1) x.2.1 x.2.2.1 x.2.2.2⟩
theorem azC(w:bZ)(i m k:Int)(hw:tH w)(G:iV w i=true)(hm:kS w m k=true):TI IL.sh Nt.sh (some (w,su w),i,m,k)=mpure (x3 w i m k):=by
 unfold TI bF cy bJ bl bh aY b4 bg bY;have o7:=agZ hw G;have cn:0<=i/\i<((su w).length):=by rw[ag'];exact x1.1 G
 simp only[aQs,cD,Vb G];rw[eW (j3 w i) (λj n=>(some (w,su w),i,m,k,n,j3 w i,((j3 w i).length:Int),(j:Int),())) (λx n=>.az (if B6 w i x m k=true then n+1 else n)) (λn=>.az (some (w,su w),i,n,())) (λj n=>0<=n/\n<=(j:Int)) 0 ?_ ?_ ?_ ?_]
 ·rw[ew,ag1];simp only[aP,db,aQG,aQs,ck,bd cn,Vb G,aQ.sh,e7,aSc];rfl
 ·rfl
 ·simp
 ·intro j aM n aA;have azD:=bA (n:=j+1);have EZ:=bA (n:=n+1);have ak:tH w/\iV w i=true/\kS w m k=true:=⟨hw,G,hm⟩
  refine⟨?_,λbk U=>?_⟩
  ·simp only[dQ aM,d' aM,dH aM,aQs,aQ.sh,e7,bd ak,dn,EZ];cases B6 w i (j3 w i)[j] m k<;>simp[azD]
  grind
 simp
theorem azE(x):a_ (TI IL.sh Nt.sh x) (NA.sh x):=bu λh=>by
 obtain⟨o,i,m,k⟩:=x;obtain⟨w,⟨aC,hw⟩,G,hm⟩:=h;subst aC;exact azC w i m k hw G hm
theorem aha{cb:Bool}(h:fq w cb=0):lF w cb=(some (w,su w),0):=by simp[lF,h]
theorem ahb{cb:Bool}(h:fq w cb≠0):lF w cb=(none,fq w cb):=by simp[lF,h]
theorem azF(w:bZ)(i:Int)(h:jf w):TF EY.sh sq.sh (w,i)=mpure (ET w i):=by
 unfold TF bF gG bl aY bY gF dy cF nf ET;simp only[aQ.sh,iK,h];by_cases aj:fq w (iV w i)=0
 ·have hw:=ag0 h aj;have G:=(IM aj).2.1;have ak:=ay' (IM aj).2.2 G;have o7:=agZ hw G;have l2:=bA (n:=((j3 w i).length) - 1);have y4:0<=i/\i<((su w).length):=by rw[ag'];exact x1.1 G
  have cN:(0)<=((j3 w i).length:Int) - 1/\((j3 w i).length) - 1<((j3 w i).length:Int):=by omega
  simp only[aha aj,aQs,Vb G,bd cN];simp_all
 ·simp[ahb aj,aj]
theorem azG(x):a_ (TF EY.sh sq.sh x) (EU.sh x):=bu λh=>azF x.1 x.2 h
theorem azH(w:bZ)(i m k:Int)(h:jf w):TG EY.sh sq.sh u4.sh NA.sh (w,i,m,k)=mpure (tI w i m k):=by
 unfold TG bl dy nf tI;simp only[aQ.sh,sb,iK,h,ck,aR1,aRx,imp_self];by_cases aj:fq w (iV w i&&kS w m k)=0
 ·have hw:=ag0 h aj;have G:=(IM aj).2.1;simp  at G;simp only[aha aj,aj,e7];rw[bd (by exact⟨w,⟨rfl,hw⟩,G.1,G.2⟩)];rfl
 ·simp[ahb aj,aj]
theorem azI(x):a_ (TG EY.sh sq.sh u4.sh NA.sh x) (EV.sh x):=bu λh=>azH x.1 x.2.1 x.2.2.1 x.2.2.2 h
theorem Vc{n:Int}(E:0<=n:=by omega)(M:n<18446744073709551616:=by omega):IntKind.u64.wrap n=n:=by
 show (if (false&&decide (n % 2 ^ 64>=(2 ^ (64 - 1):Int)))=true then n % 2 ^ 64 - 2 ^ 64 else n % 2 ^ 64)=n;grind
theorem ahc:∀ (n:Nat) (l:z1'),l.Nodup->(∀ x∈l,0<=x/\x<(n:Int))->l.length<=n
 | 0,l,_,h=>by
  cases l with
  | nil=>simp
  | cons x l=>have:=h x (by simp);omega
 | n+1,l,aA,h=>by
  have M:=ahc n (l.erase (n:Int)) (aA.erase _) λx an=>by
   grind
  grind
variable {rho:Type}
theorem azJ{A:Type}{body:A->L (aL A rho)}{p:rho->Prop}{s0:A}(n:Nat)(I:Nat->A->Prop)(aV:I 0 s0)
  (ax:∀ i,i<n->∀ s,I i s->c8 (body s) λae=>match ae with | .az s'=>I (i+1) s' | .aX r=>p r)
  (aC:∀ s,I n s->c8 (body s) λae=>match ae with | .az _=>False | .aX r=>p r):c8 (dI body s0) p:=by
 have key:∀ k i s,n - i=k->i<=n->I i s->c8 (dI body s) p:=by
  intro k;induction k with
  | zero=>
   intro i s aj G h;have:i=n:=by omega
   subst this;rw[Af,fS];refine (aC s h).mono λy bf=>?_;cases y with
   | az s'=>grind
   | aX r=>exact dR.2 bf
  | succ k aR=>
   intro i s aj G h;rw[Af,fS];refine (ax i (by omega) s h).mono λy bf=>?_;cases y with
   | az s'=>grind
   | aX r=>exact dR.2 bf
 grind
def Vd(x:z11'):Int:=IntKind.wrap .u64
 (Add.add (IntKind.wrap .u64 (Add.add (IntKind.wrap .u64 (lp .u64 x.1 32*lp .u64 x.2 32)) (lp .u64 (IntKind.wrap .u64 (Add.add (IntKind.wrap
 .u64 (lp .u64 x.1 32*n' .u64 x.2 4294967295)) (lp .u64 (IntKind.wrap .u64 (n' .u64 x.1 4294967295*n' .u64 x.2 4294967295)) 32))) 32)))
 (lp .u64 (IntKind.wrap .u64 (Add.add (n' .u64 (IntKind.wrap .u64 (Add.add (IntKind.wrap .u64 (lp .u64 x.1 32*n' .u64 x.2 4294967295)) (lp
 .u64 (IntKind.wrap .u64 (n' .u64 x.1 4294967295*n' .u64 x.2 4294967295)) 32))) 4294967295) (IntKind.wrap .u64 (n' .u64 x.1 4294967295*lp
 .u64 x.2 32)))) 32))
def NB:Nat->Bool
 | 0=>true
 | n+1=>decide (Vd (1,(n:Int))=0)&&NB n
theorem ahd:∀ (N n:Nat),NB N=true->n<N->Vd (1,(n:Int))=0
 | 0,n,_,h=>by omega
 | N+1,n,hc,h=>by
  simp only[NB,amX,am0]at hc;by_cases e:n=N
  ·grind
  ·exact ahd N n hc.2 (by omega)
variable {bet:Type}
theorem azK{f:af->bet->aL bet rho}{fin:bet->rho}(I:Nat->bet->Prop)(Q:rho->Prop)(l:List af)(b:bet)(aV:I 0 b)
  (ax:∀ i (h:i<l.length) b,I i b->match f l[i] b with | .az bk=>I (i+1) bk | .aX r=>Q r) (aC:∀ b,I l.length b->Q (fin b)):Q (fa f fin l b):=by
 have key:∀ (k:Nat) (r:List af) (b:bet),k<=l.length->r=l.drop k->I k b->Q (fa f fin r b):=by
  intro k r;induction r generalizing k with
  | nil=>
   intro b aj D fk;have:k=l.length:=by have:=congrArg List.length D;grind
   subst this;exact aC b fk
  | cons x r aR=>
   intro b aj D fk;have dx:k<l.length:=by
    grind
   rw[aQy dx]at D;injection D with an D
   have E:=ax k dx b fk;rw[<-an]at E;simp only[fa];grind
 grind
def ec(m:z4')(k:Int):Int:=(x4 m k).getD 0
theorem azL(m:z4')(k:Int):Option.getD (Option.map (λx=>x.2) (List.find? (λp=>decide (k=p.1)) m)) 0=ec m k:=rfl
theorem E0(k v k':Int)(m:z4'):ec (hf m k v) k'=if k'=k then v else ec m k':=by
 unfold ec;rw[ag6];grind
def x5(n:Nat)(m:z4'):Nat:=(List.range n).countP λ(s:Nat)=>decide (ec m (s:Int)=0)
theorem ahe{p q:Nat->Bool}{s:Nat}(h:∀ x,x≠s->p x=q x)(ak:p s=true)(bC:q s=false):∀ (l:List Nat),l.Nodup->s∈l->l.countP p=l.countP q+1
 | [],_,ax=>by cases ax
 | x::l,aA,ax=>by
  rw[List.nodup_cons]at aA;rw[List.countP_cons,List.countP_cons];by_cases e:x=s
  ·subst e;have:l.countP p=l.countP q:=List.countP_congr λy bf=>by
    grind
   grind
  ·have:=ahe h ak bC l aA.2 (by grind);grind
theorem ahf{n:Nat}{m:z4'}{s v:Int}(aV:0<=s)(aA:s<(n:Int))(hm:ec m s=0)(ag:v≠0):x5 n m=x5 n (hf m s v)+1:=by
 unfold x5;refine ahe (s:=s.toNat) (λx an=>?_) ?_ ?_ _ List.nodup_range (by grind)
 ·rw[E0,if_neg (by omega)]
 ·grind
 ·rw[E0,if_pos (by omega)];grind
theorem ahg{n:Nat}{a b:z4'}(h:∀ k,0<=ec a k/\ec a k<=ec b k):x5 n b<=x5 n a:=by
 unfold x5;refine List.countP_mono_left λx _ an=>?_;grind
abbrev oC:=z1'×z4'
def aL.IT{kI:Type}(g:rho->kI):aL bet rho->aL bet kI
 | .az b=>.az b
 | .aX r=>.aX (g r)
def B8{af bet rho:Type}(f:af->bet->aL bet rho):List af->bet->aL bet rho
 | [],b=>.az b
 | x::l,b=>match f x b with
  | .az bk=>B8 f l bk
  | .aX r=>.aX r
def aL.fin(n:bet->rho):aL bet rho->rho
 | .az b=>n b
 | .aX r=>r
theorem Ve{af bet rho:Type}{f:af->bet->aL bet rho}{n:bet->rho}:∀ (l:List af) (b:bet),fa f n l b=aL.fin n (B8 f l b)
 | [],b=>rfl
 | x::l,b=>by
  simp only[fa,B8];cases f x b with
  | az bk=>exact Ve l bk
  | aX r=>rfl
theorem ahh{af bet rho kI:Type}{f:af->bet->aL bet rho}{g:rho->kI}:∀ (l:List af) (b:bet),B8 (λx b=>aL.IT g (f x b)) l b=aL.IT g (B8 f l b)
 | [],b=>rfl
 | x::l,b=>by
  simp only[B8];cases f x b with
  | az bk=>exact ahh l bk
  | aX r=>rfl
def Vf(w:bZ):Prop:=w.1.length<=2000000/\w.2.1.length<=2000000/\w.2.2.2.length<=2000000/\∀ m∈w.2.1,m.length<=2000000/\∀ s∈m,s.2.1.length<=2000000
abbrev xM:aQ:=⟨mM,mM,Vf,λw=>w⟩
theorem azM{fs:Type}(w:bZ)(h:Vf w)(fin:bZ->L fs):Tu w fin=fin w:=by
 obtain⟨E,M,al,a7⟩:=h;unfold Tu hy gx bF cy bh bS b4 bg fx ed bY;have cn:b2 (0+w.1.length):=by grind [b2]
 have cN:b2 (0+w.2.2.2.length):=by grind [b2]
 simp only[kv,bd cn,bd cN];rw[eW w.2.1 (λi a8=>((i:Int),w,0,w.2.2.1,w.1,w.2.2.2,a8,())) (λm a8=>.az (a8++[m])) (λa8=>.az (0,w.2.2.1,w.1,w.2.2.2,a8,())) (λi a8=>a8.length<=i) [] ?_ ?_ ?_ ?_]
 ·rw[ew,pN  ];simp
 ·rfl
 ·simp
 ·intro i G a8 qz;have hm:=a7 w.2.1[i] (amV G);have mN:=bA (n:=i+1);have fF:b2 (0+w.2.1[i].length):=by grind [b2]
  have oi:b2 (a8.length+(0+1)):=by grind [b2]
  refine⟨?_,λbk dZ=>?_⟩
  ·simp only[d' G];rw[e2 w.2.1[i] (λk (_)=>((i:Int),(k:Int),w,0,w.2.2.1,w.1,w.2.2.2,w.2.1[i],a8,())) (λs u=>.az u) (λ_=>.az (i,w,0,w.2.2.1,w.1,w.2.2.2,w.2.1[i],a8,())) () ?_ ?_ ?_]
   ·simp_all[ew]
   ·rfl
   ·intro k aj u;have nl:=bA (n:=k+1);have mE:b2 (0+(w.2.1[i])[k].2.1.length):=by grind [b2]
    have ra:(w.2.1[i]).set k ((w.2.1[i])[k].1,(w.2.1[i])[k].2.1,(w.2.1[i])[k].2.2)=w.2.1[i]:=aRo aj;simp_all
   simp
  grind
 simp
theorem Uc(x):a_ (Tu x mpure) (xM.sh x):=bu λh=>azM x h mpure
def B9(m:List (z17')):Bool:=decide ((m.length:Int) > 20)||m.any λs=>decide ((s.2.1.length:Int) > 20)
def nm(w:bZ):Bool:=
 if (decide ((w.1.length:Int) > 40)||decide ((w.2.1.length:Int) > 40)||decide ((w.2.2.2.length:Int) > 60))=true then true
 else if w.2.1.any B9=true then true
 else if c_ w≠0 then false
 else if (w.1.any λs=>decide (IntKind.i64.wrap (s.2.2.2 - s.2.2.1)>=50))=true then true
 else decide ((w.1.length:Int) > 6)||decide ((w.2.1.length:Int) > 4)||decide ((w.2.2.2.length:Int) > 10)
abbrev zk:aQ:=⟨mM,d_,jf,nm⟩
theorem azN(w:bZ)(h:jf w):TJ iU.sh w=mpure (nm w):=by
 unfold TJ dr hy gx bF cy bl bh aY bS di j0 b4 bg jL ku bY cF nm;simp only[cD];by_cases E:(decide ((w.1.length:Int) > 40)||decide ((w.2.1.length:Int) > 40)||decide ((w.2.2.2.length:Int) > 60))=true
 ·grind
 ·rw[if_neg E,if_neg E];have ai:=h;obtain⟨c6,cM,hU,lK⟩:=h;rw[e2 w.2.1 (λi (_:Unit)=>((i:Int),w,())) (λm u=>if B9 m=true then .aX (.aX true) else .az u) (λ_=>.az (w,())) () ?_ ?_ ?_]
  ·rw[uV];by_cases M:w.2.1.any B9=true
   ·simp only[M,if_true,aP,uU]
   ·simp only[M,amW,aQv,aP,db,aQ.sh,e7,bd ai];by_cases al:c_ w=0
    ·simp only[al,ne_eq,not_true,aQ9,amW,aQv];rw[e2 w.1 (λi (_:Unit)=>((i:Int),w,())) (λs u=>if decide (IntKind.i64.wrap (s.2.2.2 - s.2.2.1)>=50)=true then .aX (.aX true) else .az u) (λ_=>.az (w,())) () ?_ ?_ ?_]
     ·rw[uV];by_cases a7:(w.1.any λs=>decide (IntKind.i64.wrap (s.2.2.2 - s.2.2.1)>=50))=true
      ·simp_all
      ·simp only[a7,amW,aQv,aP,db]
     ·rfl
     ·intro i G u;have mN:=bA (n:=(i:Int)+1);simp only[cD,dQ G,if_true,dH G,ck,d' G,aP,dn,mN];exact pO (mk:=λ_:Unit=>((i:Int)+1,w,()))
     simp
    grind
  ·rfl
  ·intro i G u;have mN:=bA (n:=(i:Int)+1);have hm:=lK _ (amV G);simp only[cD,dQ G,if_true,dH G,ck,d' G,aP];by_cases bR:decide ((w.2.1[i].length:Int) > 20)=true
   ·have aC:B9 w.2.1[i]=true:=by unfold B9;grind
    simp_all
   ·have aC:B9 w.2.1[i]=w.2.1[i].any λs=>decide ((s.2.1.length:Int) > 20):=by unfold B9;grind
    rw[if_neg bR];rw[e2 w.2.1[i] (λk (_:Unit)=>((i:Int),(k:Int),w,())) (λs u=>if decide ((s.2.1.length:Int) > 20)=true then .aX (.aX (.aX (.aX true))) else .az u) (λ_=>.az ((i:Int),w,())) () ?_ ?_ ?_]
    ·rw[uV,aC];by_cases er:(w.2.1[i].any λs=>decide ((s.2.1.length:Int) > 20))=true
     ·simp_all
     ·simp only[er,amW,aQv,aP,db,dn,mN];rfl
    ·rfl
    ·intro k aj u;have nl:=bA (n:=(k:Int)+1);simp only[dH G,ck,d' G,dQ aj,if_true,dH aj,d' aj,aP,dn,nl];exact pO (mk:=λ_:Unit=>((i:Int),(k:Int)+1,w,()))
    simp_all
  simp
theorem azO(x):a_ (TJ iU.sh x) (zk.sh x):=bu λh=>azN x h
def NC:bZ:=([(1,2,300,310),(1,3,305,305),(2,1,50,60),(1,2,320,330)],[[(1,[2,3],300,306),(2,[1],40,58)],[(1,[2],310,326)]],5,[(0,1,0,0)])
abbrev Vg:aQ:=⟨.dc,mM,λ_=>True,λ_=>NC⟩
theorem azP(x):a_ (auJ x) (Vg.sh x):=bu λ_=>rfl
theorem azQ:jf NC:=by
 refine⟨by decide,by decide,by decide,?_⟩;intro m hm;simp only[NC,aRK,aRW,or_false]at hm;grind
abbrev pX:aa:=.ae (.aw bK (.aw bK (.aw bK (.aw bK hG))))
abbrev pY:aa:=.ae (.aw hG (.aw o6 (.aw bK (.aw bK bK))))
abbrev sv:aa:=.ae (.aw bK (.aw bK bK))
abbrev nr:aa:=.ae (.aw mM (.aw hG (.aw (.slice pX) (.aw (.slice pY) (.aw (.slice sv) bK)))))
def h0(s:bN):Prop:=jf s.1/\s.2.1.length<2 ^ 63/\s.2.2.1.length<2 ^ 63/\s.2.2.2.1.length<2 ^ 63/\s.2.2.2.2.1.length<2 ^ 63/\(∀ p∈s.2.2.1,p.2.2.2.2.length<2 ^ 63)/\∀ x∈s.2.2.2.1,x.1.length<2 ^ 63
def cz(n ba G:Int):Bool:=decide (ba<=n)&&decide (n<=G)
def mu(n:Int):Bool:=cz n 0 99
def ns(p:Int->Bool)(l:z1'):Bool:=(List.range l.length).all λi=>p (l.getD i 0)&&!(decide (0<i)&&decide (l.getD i 0<=l.getD (i - 1) 0))
def ND(w:bZ)(m:Int)(n:Int):Bool:=decide (0<=n)&&decide (n<((lD w m).length:Int))
def wz(w:bZ)(p:ow):Bool:=mu p.1&&mu p.2.1&&mu p.2.2.1&&tD w p.2.2.2.1&&ns (ND w p.2.2.2.1) p.2.2.2.2
def u6(x:lB):Bool:=cz (x.1.length:Int) 1 8&&ns mu x.1&&mu x.2.1.1&&mu x.2.1.2&&decide (x.2.1.1<=x.2.1.2)&&mu x.2.2.1&&mu x.2.2.2.1&&cz x.2.2.2.2 0 100000
def tJ(w:bZ)(d:Eh):Bool:=mu d.1&&iV w d.2.1&&cz d.2.2 1 10
def rK(s:bN):Bool:=decide ((s.2.1.length:Int)=(s.1.1.length:Int))&&(s.2.1.all λn=>cz n 0 10)&&decide ((s.2.2.1.length:Int)<=8)&&s.2.2.1.all (wz s.1)&&decide ((s.2.2.2.1.length:Int)<=6)&&s.2.2.2.1.all u6&&decide ((s.2.2.2.2.1.length:Int)<=8)&&s.2.2.2.2.1.all (tJ s.1)&&mu s.2.2.2.2.2
def l3(s:bN):Int:=if c_ s.1≠0 then c_ s.1 else if rK s=true then 0 else 80
theorem azR(x):a_ (ava x) (dC.sh x):=bu λ_=>rfl
theorem azS(x):a_ (au8 x) (dC.sh x):=bu λ_=>rfl
abbrev u7:aQ:=⟨bK,d_,λ_=>True,mu⟩
theorem azT(x):a_ (adK dC.sh x) (u7.sh x):=bu λ_=>by
 unfold adK;simp[aQ.sh,dC,mu,cz]
theorem azU(x):a_ (adO dC.sh x) (u7.sh x):=bu λ_=>by
 unfold adO;simp[aQ.sh,dC,mu,cz]
abbrev NF:aQ:=⟨.aw hG (.fn bK .bool),d_,λx=>x.1.length<2 ^ 63/\∀ y∈x.1,∃ b,x.2 y=mpure b,λx=>ns (λy=>(x.2 y).val false) x.1⟩
theorem azV(x):a_ (adL x) (NF.sh x):=bu λh=>by
 obtain⟨l,f⟩:=x;obtain⟨E,M⟩:=h;change l.length<2 ^ 63 at E;change ∀ y∈l,∃ b,f y=mpure b at M;unfold adL dr bF bl bh aY bS di b4 bg ku bY cF;rw[e2 (List.range l.length) (λi (_:Unit)=>(l,f,l,(l.length:Int),(i:Int),())) (λi b=>if (!((f (l.getD i 0)).val false&&!(decide (0<i)&&decide (l.getD i 0<=l.getD (i - 1) 0))))=true then .aX (.aX false) else .az b) (λ_=>.az ()) () ?_ ?_ ?_]
 ·rw[ng (q:=λi=>(f (l.getD i 0)).val false&&!(decide (0<i)&&decide (l.getD i 0<=l.getD (i - 1) 0))) _ _ (λ_=>rfl)];show _=mpure (ns (λy=>(f y).val false) l);unfold ns;cases (List.range l.length).all λi=>(f (l.getD i 0)).val false&&!(decide (0<i)&&decide (l.getD i 0<=l.getD (i - 1) 0))<;>simp
 ·rfl
 ·intro i G b;have G:i<l.length:=by grind
  have hw:=bA (n:=(i:Int)+1);have gJ:=bA (n:=(i:Int) - 1);have bB:((i:Int) - 1).toNat=i - 1:=by omega
  obtain⟨c,hc⟩:=M _ (amV G);have ka:l.getD i 0=l[i]:=by grind
  have wj:(decide ((i:Int) > 0))=decide (0<i):=by simp
  simp only[cD,dQ G,if_true,aQw,d' G,dH G,ck,ka,hc,kN,aP,dn,hw,gJ,bB,wj];rw[bd (by grind)];cases c<;>cases (decide (0<i)&&decide (l[i]<=l.getD (i - 1) 0))<;>rfl
 simp
abbrev NG:aQ:=⟨.aw hG bK,d_,λx=>x.1.length<2 ^ 63,λx=>ns (λn=>cz n 0 x.2) x.1⟩
theorem azW(x):a_ (adR x) (NG.sh x):=bu λh=>by
 obtain⟨l,m⟩:=x;change l.length<2 ^ 63 at h;unfold adR dr gx bF bh aY bS di b4 bg ku cF;rw[e2 (List.range l.length) (λi (_:Unit)=>(l,m,(i:Int),())) (λi b=>if (!(cz (l.getD i 0) 0 m&&!(decide (0<i)&&decide (l.getD i 0<=l.getD (i - 1) 0))))=true then .aX (.aX false) else .az b) (λ_=>.az ()) () ?_ ?_ ?_]
 ·rw[ng (q:=λi=>cz (l.getD i 0) 0 m&&!(decide (0<i)&&decide (l.getD i 0<=l.getD (i - 1) 0))) _ _ (λ_=>rfl)];show _=mpure (ns (λn=>cz n 0 m) l);unfold ns;cases (List.range l.length).all λi=>cz (l.getD i 0) 0 m&&!(decide (0<i)&&decide (l.getD i 0<=l.getD (i - 1) 0))<;>simp
 ·rfl
 ·intro i G b;have G:i<l.length:=by grind
  have hw:=bA (n:=(i:Int)+1);have gJ:=bA (n:=(i:Int) - 1);have bB:((i:Int) - 1).toNat=i - 1:=by omega
  have ka:l.getD i 0=l[i]:=by grind
  have wj:(decide ((i:Int) > 0))=decide (0<i):=by simp
  simp only[cD,dQ G,if_true,aQw,d' G,dH G,ck,ka,aP,dn,hw,gJ,bB,wj];have y4:0<i->(0:Int)<=(i:Int) - 1/\(i:Int) - 1<(l.length:Int):=by omega
  generalize l.getD (i - 1) 0=B;generalize l[i]=aK;by_cases kZ:aK<0<;>by_cases qm:aK > m<;>by_cases aV:0<i<;>by_cases a6:aK<=B<;>simp_all[cz,aL.pM,bd]<;>(grind)<;>(grind)
 simp
theorem Vh{p q:Int->Bool}{l:z1'}(h:∀ y∈l,p y=q y):ns p l=ns q l:=by
 grind [ns]
theorem azX(n:Int)(k:Nat):cz n 0 ((k:Int) - 1)=(decide (0<=n)&&decide (n<(k:Int))):=by
 unfold cz;grind
abbrev Vi:aQ:=⟨.aw bK (.aw (.bP mM) (.bP pX)),d_,λx=>∃ w p,x.2=(some w,some p)/\jf w/\tD w p.2.2.2.1=true,λx=>ND (x.2.1.getD ([],[],0,[])) (x.2.2.getD (0,0,0,0,[])).2.2.2.1 x.1⟩
theorem azY(x):a_ (adM dC.sh x) (Vi.sh x):=bu λh=>by
 obtain⟨n,o⟩:=x;obtain⟨w,p,aC,hw,hm⟩:=h;subst aC;unfold adM bF aY bY cF;have r:=U6.1 hm;have ai:=Nr hw p.2.2.2.1;have l2:=bA (n:=((lD w p.2.2.2.1).length) - 1);unfold lD at l2;simp only[aQ.sh,aQs,cD,r,aRx,ck,l2,e7,zm];rfl
abbrev IU:aQ:=⟨.aw pX (.bP mM),d_,λx=>x.1.2.2.2.2.length<2 ^ 63/\∃ w,x.2=some w/\jf w,λx=>!wz (x.2.getD ([],[],0,[])) x.1⟩
theorem azZ(x):a_ (adJ dC.sh u7.sh NF.sh Vi.sh x) (IU.sh x):=bu λh=>by
 obtain⟨p,o⟩:=x;obtain⟨ak,w,aC,hw⟩:=h;unfold adJ cj aY cF;have ai:=hw.2.1;have l2:=bA (n:=((w.2.1.length)) - 1);have aF:(decide (0<=p.2.2.2.1)&&decide (p.2.2.2.1<(w.2.1.length)))=tD w p.2.2.2.1:=rfl;simp only[aQ.sh,e7,ml,aF];grind [Vh,iK,bd,wz,bO]
abbrev IV:aQ:=⟨pY,d_,λx=>x.1.length<2 ^ 63,λx=>!u6 x⟩
theorem az0(x):a_ (adN dC.sh u7.sh NF.sh u7.sh x) (IV.sh x):=bu λh=>by
 unfold adN dr cj aY;have key:(ns (λy=>(eF (u7.pre y) (u7.g y)).val false) x.1)=ns mu x.1:=Vh λy bf=>iK;simp only[aQ.sh,e7,ml,v'];grind [bd,u6,cz,bO]
abbrev IW:aQ:=⟨.aw sv (.bP mM),d_,λx=>∃ w,x.2=some w/\jf w,λx=>!tJ (x.2.getD ([],[],0,[])) x.1⟩
theorem az1(x):a_ (adP dC.sh u7.sh x) (IW.sh x):=bu λh=>by
 obtain⟨w,aC,hw⟩:=h;unfold adP cj aY cF;have ai:=hw.1;have l2:=bA (n:=((w.1.length)) - 1);simp  [aQ.sh,v'];grind [tJ,iV,cz]
abbrev IX:aQ:=⟨bK,d_,λ_=>True,λn=>!cz n 0 10⟩
theorem az2(x):a_ (adQ dC.sh x) (IX.sh x):=bu λ_=>by
 simp_all[adQ,aQ.sh,cz]
theorem NH{p q:af->Bool}{l:List af}(h:∀ x∈l,p x=!q x):l.any p=!l.all q:=by
 grind
abbrev Vj:aQ:=⟨nr,d_,h0,rK⟩
theorem az3(x):a_ (adC u7.sh (h_ bK).sh (h_ pX).sh (h_ pY).sh (h_ sv).sh IU.sh IW.sh IV.sh IX.sh x) (Vj.sh x):=bu λh=>by
 obtain⟨E,M,al,a7,bR,er,jj⟩:=h;unfold adC hY cj aY;simp only[aQ.sh,ck,e7,ml,aQZ];have aO:(x.2.1.any λy=>(eF (IX.pre y) (IX.g y)).val false)=!x.2.1.all λn=>cz n 0 10:=NH λy _=>iK;have aT:(x.2.2.1.any λy=>(eF (IU.pre (y,some x.1)) (IU.g (y,some x.1))).val false)=!x.2.2.1.all (wz x.1):=NH λy _=>iK;have b7:(x.2.2.2.1.any λy=>(eF (IV.pre y) (IV.g y)).val false)=!x.2.2.2.1.all u6:=NH λy _=>iK;have gZ:(x.2.2.2.2.1.any λy=>(eF (IW.pre (y,some x.1)) (IW.g (y,some x.1))).val false)=!x.2.2.2.2.1.all (tJ x.1):=NH λy _=>iK;rw[bd,bd,bd,bd]
 ·congr 1;grind [rK]
 ·grind [bO]
 ·grind [bO]
 ·grind [bO]
 grind [bO]
abbrev sw:aQ:=⟨nr,bK,h0,l3⟩
theorem az4(x):a_ (adw iU.sh Vj.sh x) (sw.sh x):=bu λh=>by
 unfold adw bl;simp  [aQ.sh,bd h.1];grind [l3,bd]
abbrev NI:aQ:=⟨.aw nr pX,d_,λx=>h0 x.1/\x.2.2.2.2.2.length<2 ^ 63,λx=>wz x.1.1 x.2⟩
theorem az5(x):a_ (adD dC.sh NG.sh x) (NI.sh x):=bu λh=>by
 obtain⟨s,p⟩:=x;obtain⟨ax,ak⟩:=h;change h0 s at ax;unfold adD cj bF bJ aY jL bY dy cF nf;have ai:=ax.1.2.1;have hx:=Nr ax.1 p.2.2.2.1;have l2:=bA (n:=((s.1.2.1.length)) - 1);have Nz:=bA (n:=((lD s.1 p.2.2.2.1).length) - 1);unfold lD at Nz;have aF:(decide (0<=p.2.2.2.1)&&decide (p.2.2.2.1<(s.1.2.1.length)))=tD s.1 p.2.2.2.1:=rfl;simp  [aQ.sh,iK];unfold wz;have afc:ns (λn=>cz n 0 (((List.getD s.1.2.1 (Int.toNat p.2.2.2.1) []).length) - 1)) p.2.2.2.2=ns (ND s.1 p.2.2.2.1) p.2.2.2.2:=Vh λy _=>azX y _;grind [bd,mu,cz]
abbrev Vk:aQ:=⟨pY,d_,λx=>x.1.length<2 ^ 63,u6⟩
theorem az6(x):a_ (adE dC.sh NG.sh x) (Vk.sh x):=bu λh=>by
 unfold adE hY cj aY;simp  [aQ.sh,aQZ];rw[bd (by omega)];congr 1;grind [u6,ns,cz,mu]
theorem az7(x):a_ (adx iU.sh dC.sh NI.sh Vk.sh x) (sw.sh x):=bu λh=>by
 have ax:=h;obtain⟨E,M,al,a7,bR,er,jj⟩:=h;unfold adx dr jq gx cj bF bJ bh aY bS di b4 bg dy cF rA;simp only[aQ.sh,e7,bd E];unfold l3;by_cases hc:c_ x.1=0
 ·simp only[hc,ml,e7,aQZ,ck,cD,v',decide_not];have e:(!decide ((x.2.1.length)=(x.1.1.length:Int))||decide ((x.2.2.1.length:Int) > 8)||decide ((x.2.2.2.1.length:Int) > 6)||decide ((x.2.2.2.2.1.length:Int) > 8)||!(decide (0<=x.2.2.2.2.2)&&decide (x.2.2.2.2.2<=99)))=!(decide ((x.2.1.length)=(x.1.1.length:Int))&&decide ((x.2.2.1.length:Int)<=8)&&decide ((x.2.2.2.1.length:Int)<=6)&&decide ((x.2.2.2.2.1.length:Int)<=8)&&mu x.2.2.2.2.2):=by
   grind [mu,cz]
  rw[e];by_cases dj:(decide ((x.2.1.length)=(x.1.1.length:Int))&&decide ((x.2.2.1.length:Int)<=8)&&decide ((x.2.2.2.1.length:Int)<=6)&&decide ((x.2.2.2.2.1.length:Int)<=8)&&mu x.2.2.2.2.2)=true
  ··rw[e2 x.2.1 (λi (_)=>((i:Int),x,())) (λn b=>if (!cz n 0 10)=true then .aX (.aX (80)) else .az b) (λ_=>.az (x,())) () ?_ ?_ ?_]
    ·rw[ng   _ _ (λ_=>rfl)];cases kZ:x.2.1.all λn=>cz n 0 10 with
     | false=>simp[rK,kZ]
     | true=>
      simp only[aP,if_true,db];rw[e2 x.2.2.1 (λi (_)=>((i:Int),x,())) (λp b=>if (!wz x.1 p)=true then .aX (.aX (80)) else .az b) (λ_=>.az (x,())) () ?_ ?_ ?_]
      ·rw[ng   _ _ (λ_=>rfl)];cases a6:x.2.2.1.all (wz x.1) with
       | false=>simp[rK,a6]
       | true=>
        simp only[aP,if_true,db];rw[e2 x.2.2.2.1 (λi (_)=>((i:Int),x,())) (λp b=>if (!u6 p)=true then .aX (.aX (80)) else .az b) (λ_=>.az (x,())) () ?_ ?_ ?_]
        ·rw[ng   _ _ (λ_=>rfl)];cases kH:x.2.2.2.1.all u6 with
         | false=>simp[rK,kH]
         | true=>
          simp only[aP,if_true,db];rw[e2 x.2.2.2.2.1 (λi (_)=>((i:Int),x,())) (λp b=>if (!tJ x.1 p)=true then .aX (.aX (80)) else .az b) (λ_=>.az ()) () ?_ ?_ ?_]
          ·rw[ng   _ _ (λ_=>rfl)];cases U7:x.2.2.2.2.1.all (tJ x.1)<;>simp[rK,kZ,a6,kH,U7,dj]
          ·rfl
          ·intro i G b;have hw:=bA (n:=i+1);have ai:=E.1;have l2:=bA (n:=((x.1.1.length)) - 1);simp only[dQ G,d' G,dH G,ck,dn,hw,l2,zm];have e:(!(decide (0<=(x.2.2.2.2.1[i]).1)&&decide ((x.2.2.2.2.1[i]).1<=99))||!(decide (0<=(x.2.2.2.2.1[i]).2.1)&&decide ((x.2.2.2.2.1[i]).2.1<(x.1.1.length)))||!(decide (1<=(x.2.2.2.2.1[i]).2.2)&&decide ((x.2.2.2.2.1[i]).2.2<=10)))=!tJ x.1 x.2.2.2.2.1[i]:=by
            simp_all[tJ,mu,iV,cz]
           rw[e];exact pO (mk:=λ_=>((i:Int)+1,x,()))
          simp
        ·rfl
        ·intro i G b;have hw:=bA (n:=i+1);simp only[dQ G,d' G,dH G,ck,dn,hw,bd (jj _ (amV G))];exact pO (mk:=λ_=>((i:Int)+1,x,()))
        simp
      ·rfl
      ·intro i G b;have hw:=bA (n:=i+1);simp only[dQ G,d' G,dH G,ck,dn,hw,sb,iK,bd (show NI.pre (x,x.2.2.1[i]) from⟨ax,er _ (amV G)⟩)];exact pO (mk:=λ_=>((i:Int)+1,x,()))
      simp
    ·rfl
    ·intro i G b;have hw:=bA (n:=i+1);simp only[dQ G,d' G,dH G,ck,aP,dn,hw];exact pO (mk:=λ_=>((i:Int)+1,x,()))
    simp
  ·grind [rK]
 grind
theorem az8:NB 201=true:=by decide +kernel
abbrev wA:aQ:=⟨.aw (.int .u64) (.int .u64),.aw (.int .u64) (.int .u64),λx=>x.1=1/\0<=x.2/\x.2<=200,λx=>(0,x.2)⟩
theorem az9(x):a_ (ac2 x) (wA.sh x):=bu λh=>by
 obtain⟨a,b⟩:=x;obtain⟨E,M,al⟩:=h;change a=1 at E;change 0<=b at M;change b<=200 at al;subst E;have aV:=ahd 201 b.toNat az8 (by omega);rw[Int.toNat_of_nonneg M]at aV;have hw:=Vc (n:=1*b);have az_:((0:Int)<=32)=True:=by simp
 unfold ac2;simp only[az_,ck];show mpure (Vd (1,b),IntKind.wrap .u64 (1*b))=_;grind
theorem az'(aAa)(x):a_ (ac0 aAa wA.sh x) (wA.sh x):=bu λh=>by
 unfold ac0;simp only[aQ.sh,e7];simp_all
section
variable {af bet:Type}
theorem aAb(a d:af)(m J:Nat)(E:1<=m)(M:m<J) :
  List.take m (List.replicate m a++List.replicate (J - m) d)++List.take (J - m) (List.take m (List.replicate m a++List.replicate (J - m) d))++
   List.drop (m+(List.take (J - m) (List.take m (List.replicate m a++List.replicate (J - m) d))).length) (List.replicate m a++List.replicate (J - m) d)
  =List.replicate (m+min (J - m) m) a++List.replicate (J - (m+min (J - m) m)) d:=by
 have aF:List.take m (List.replicate m a++List.replicate (J - m) d)=List.replicate m a:=by
  simp
 rw[aF,List.take_replicate,List.replicate_append_replicate,aRg,List.drop_append,aRg];have bB:List.drop (m+min (J - m) m) (List.replicate m a)=[]:=by simp
 grind
def ahi(d:af)(fin:List af->L bet)(Ef:z11'->L (z11'))(x:List af)(n:Int):L bet:=
 ar (if decide (n<0)=true then ah False (ah False (mpure (aL.az (x,n,())))) else mpure (aL.az (x,n,())))
 (aL.fQ λ(A:List af×Int×Unit)=>ar (Ef (IntKind.wrap .u64 (Int.ofNat (List.length A.1)),IntKind.wrap .u64 A.2.1)) λy
 =>ar (if (decide (y.1 > 0)||decide (y.2 > 9223372036854775807))=true then ah False (ah False (mpure (aL.az (A.1,y.2,())))) else
 mpure (aL.az (A.1,y.2,()))) (aL.fQ λ(A:List af×Int×Unit)=>ah (0<=IntKind.wrap .i64 A.2.1/\IntKind.wrap .i64 A.2.1=
 IntKind.wrap .i64 A.2.1/\b2 (Int.toNat (IntKind.wrap .i64 A.2.1))) (ah True (ar (dI (λ(A:Int×List af×Unit)=>if decide (A.1
 < Int.ofNat (List.length A.2.1))=true then ah (0<=A.1/\A.1<=Int.ofNat (List.length A.2.1)/\Int.ofNat (List.length A.2.1)<=Int.ofNat
 (List.length A.2.1)) (ah ((0:Int)<=0/\0<=A.1/\A.1<=Int.ofNat (List.length A.2.1)) (ah True (mpure (aL.az (IntKind.wrap .i64
 (Add.add A.1 (Int.ofNat (if Int.toNat (Int.ofNat (List.length A.2.1)) - Int.toNat A.1<=List.length (List.take (Int.toNat A.1) A.2.1) then Int.toNat
 (Int.ofNat (List.length A.2.1)) - Int.toNat A.1 else List.length (List.take (Int.toNat A.1) A.2.1)))),List.take (Int.toNat A.1) A.2.1++List.take
 (Int.toNat (Int.ofNat (List.length A.2.1)) - Int.toNat A.1) (List.take (Int.toNat A.1) A.2.1)++List.drop (Add.add (Int.toNat A.1) (List.length
 (List.take (Int.toNat (Int.ofNat (List.length A.2.1)) - Int.toNat A.1) (List.take (Int.toNat A.1) A.2.1)))) A.2.1,()))))) else ar (mpure
 (aL.az (A.2.1,()))) λr=>mpure (aL.aX r)) (Int.ofNat (if List.length (List.replicate (Int.toNat (IntKind.wrap .i64 A.2.1)) d) - 0<=
 List.length A.1 then List.length (List.replicate (Int.toNat (IntKind.wrap .i64 A.2.1)) d) - 0 else List.length A.1),[]++List.take (List.length
 (List.replicate (Int.toNat (IntKind.wrap .i64 A.2.1)) d) - 0) A.1++List.drop (Add.add 0 (List.length (List.take (List.length (List.replicate
 (Int.toNat (IntKind.wrap .i64 A.2.1)) d) - 0) A.1))) (List.replicate (Int.toNat (IntKind.wrap .i64 A.2.1)) d),())) (aL.fQ λ(A:List af×
 Unit)=>fin A.1)))))
theorem Vl(d a:af)(Sh:List af->bet)(n:Int)(M:0<=n)(al:n<=200):c8 (ahi d (λl=>mpure (Sh l)) wA.sh [a] n) λy=>y=Sh (List.replicate n.toNat a):=by
 obtain⟨J,rfl⟩:=Int.eq_ofNat_of_zero_le M;have GP:decide ((J:Int)<0)=false:=by simp
 have pz:IntKind.u64.wrap (Int.ofNat ([a]:List af).length)=1:=Vc (by simp) (by simp);have aAc:=Vc (n:=(J:Int));have mN:=bA (n:=(J:Int));have ak:wA.pre (1,(J:Int)):=⟨rfl,M,al⟩
 have aAd:decide ((J:Int) > 9223372036854775807)=false:=by grind
 have o7:b2 J:=by unfold b2;omega
 have D:0<=(J:Int)/\True/\b2 (Int.toNat (J:Int)):=⟨M,trivial,by grind⟩
 unfold ahi;simp only[GP,amW,aQv,aP,db,pz,aAc,aQ.sh,e7];rw[bd (by grind)];simp only[gt_iff_lt,Int.lt_irrefl,aQ9,aRj,amW,aQv,aP,db,mN];have aAe:decide ((9223372036854775807:Int)<(J:Int))=false:=aAd;simp only[aAe,amW,aQv,aP,db,mN];rw[bd D];simp only[ck,fS,aQI,aRg,Nat.sub_zero,aRa,aRQ,cD,kv,aRt];refine Ah (λs=>∃ m:Nat,(1<=m\/J=0)/\m<=J/\s=((m:Int),List.replicate m a++List.replicate (J - m) d,())) (λs=>J - s.1.toNat) ?_ _ ?_
 ·rintro s ⟨m,hm,aPG,rfl⟩;have hlen:(List.replicate m a++List.replicate (J - m) d).length=J:=by grind
  simp only[hlen];by_cases dx:m<J
  ·have gv:0<=(m:Int)/\(m:Int)<=(J:Int)/\(J:Int)<=(J:Int):=by omega
   have cY:(0:Int)<=0/\0<=(m:Int)/\(m:Int)<=(J:Int):=by omega
   have nc:1<=m:=by omega
   have IY:(List.take m (List.replicate m a++List.replicate (J - m) d)).length=m:=by simp
   simp only[dQ dx,if_true,bd gv,bd cY,ck,aQI,IY,dn];rw[dR,aAb a d m J nc dx];have bl:(if J - m<=m then J - m else m)=min (J - m) m:=by rfl
   rw[bl];have gJ:=bA (n:=(m:Int)+((min (J - m) m:Nat):Int));refine⟨⟨m+min (J - m) m,.inl (by omega),by omega,?_⟩,?_⟩
   ·rw[gJ];simp
   ·simp only[gJ];omega
  ·have:m=J:=by omega
   subst this;simp only[Int.lt_irrefl,aQ9,amW,aQv,aP,dR,db,Nat.sub_self,List.replicate_zero,aQD]
 ·by_cases aPH:J=0
  ·grind
  ·refine⟨1,.inl (amY _),by omega,?_⟩;grind
end
abbrev NJ:aQ:=⟨.aw hG bK,hG,λx=>x.1=[-1]/\0<=x.2/\x.2<=200,λx=>List.replicate x.2.toNat (-1)⟩
theorem aAf(x):a_ (au7 wA.sh x) (NJ.sh x):=tm λh=>by
 obtain⟨l,n⟩:=x;obtain⟨E,M,al⟩:=h;change l=[-1]at E;subst E;exact Vl (0:Int) (-1) (λl=>l) n M al
def zv(x:z1'×z25'):L (z14'):=eF (x.1=[-1]/\0<=x.2.1/\x.2.1<=200) (List.replicate x.2.1.toNat (-1),())
theorem ahj(x):a_ (avb wA.sh x) (zv x):=tm λh=>by
 obtain⟨l,n,u⟩:=x;obtain⟨E,M,al⟩:=h;change l=[-1]at E;subst E;exact Vl (0:Int) (-1) (λl=>(l,())) n M al
abbrev NK:aa:=.ae (.aw bK bK)
abbrev NL:aQ:=⟨.aw (.slice NK) bK,.slice NK,λx=>x.1.length=1/\0<=x.2/\x.2<=200,λx=>List.replicate x.2.toNat (x.1.getD 0 (0,0))⟩
theorem aAg(x):a_ (au' wA.sh x) (NL.sh x):=tm λh=>by
 obtain⟨l,n⟩:=x;obtain⟨E,M,al⟩:=h;change l.length=1 at E;obtain⟨a,rfl⟩:=List.length_eq_one_iff.1 E;exact Vl ((0,0):z11') a (λl=>l) n M al
end Go.Fer
namespace Go.Fer
def B_(s:bN)(n:Int):Bool:=decide (0<=n)&&decide (n<(s.2.2.2.1.length:Int))
def B'(s:bN)(n:Int):Bool:=decide (0<=n)&&decide (n<(s.2.2.1.length:Int))
variable {s:bN}
theorem aAh{n:Int}:B_ s n=true<->0<=n/\n<(s.2.2.2.1.length:Int):=by simp[B_]
theorem aAi{n:Int}:B' s n=true<->0<=n/\n<(s.2.2.1.length:Int):=by simp[B']
abbrev Vm:aQ:=⟨.aw nr bK,d_,λx=>h0 x.1,λx=>B_ x.1 x.2⟩
abbrev Vn:aQ:=⟨.aw nr bK,d_,λx=>h0 x.1,λx=>B' x.1 x.2⟩
theorem aAj(x):a_ (adA dC.sh x) (Vm.sh x):=bu λh=>by
 have ai:=h.2.2.2.1;have hw:=bA (n:=(x.1.2.2.2.1.length:Int) - 1);unfold adA aY cF;simp[aQ.sh,dC,hw,B_,zm]
theorem aAk(x):a_ (adF dC.sh x) (Vn.sh x):=bu λh=>by
 have ai:=h.2.2.1;have hw:=bA (n:=(x.1.2.2.1.length:Int) - 1);unfold adF aY cF;simp[aQ.sh,dC,hw,B',zm]
def wB(x:lB)(p:ow):Int:=if (!x.1.contains p.1||!cz p.2.1 x.2.1.1 x.2.1.2)=true then 0 else if p.2.2.1=x.2.2.1 then 1 else if p.2.2.1=0 then 2 else 0
abbrev Ca:aQ:=⟨.aw pY pX,bK,λx=>x.1.1.length<2 ^ 63,λx=>wB x.1 x.2⟩
theorem aAl(x):a_ (adG dC.sh sj.sh x) (Ca.sh x):=bu λh=>by
 unfold adG cj bl;simp only[aQ.sh,dC,sj,e7,ml,aQZ,ck,v'];rw[bd (by exact h)];show _=mpure (wB x.1 x.2);unfold wB cz;grind
def zw(s:bN)(l:z1')(i:Nat):Bool:=decide (l.getD i 0=-1)||(B' s (l.getD i 0)&&!(l.take i).contains (l.getD i 0))
def zx(s:bN)(l:z1'):Bool:=((List.range l.length).all (zw s l))&&decide ((l.length:Int)=(s.2.2.2.1.length:Int))
abbrev NM:aQ:=⟨.aw nr hG,d_,λx=>h0 x.1/\x.2.length<2 ^ 63,λx=>zx x.1 x.2⟩
theorem aAm(x):a_ (adH Vn.sh sj.sh x) (NM.sh x):=bu λh=>by
 obtain⟨s,l⟩:=x;obtain⟨ax,ai⟩:=h;change h0 s at ax;change l.length<2 ^ 63 at ai;unfold adH cj bF bl bh aY bS di b4 bg bY;rw[e2 (List.range l.length) (λi (_:Unit)=>(l,l,(l.length:Int),(i:Int),s,())) (λi b=>if (!zw s l i)=true then .aX (.aX false) else .az b) (λ_=>.az (l,s,())) () ?_ ?_ ?_]
 ·rw[ng (q:=zw s l) _ _ (λ_=>rfl)];show _=mpure (zx s l);unfold zx;cases (List.range l.length).all (zw s l)<;>simp
 ·simp
 ·intro i G b;have G:i<l.length:=by grind
  have hw:=bA (n:=(i:Int)+1);obtain⟨aK,ka⟩:∃ aK,l.getD i 0=aK:=⟨_,rfl⟩
  have b8:zw s l i=(decide (aK=-1)||(B' s aK&&!(l.take i).contains aK)):=by unfold zw;rw[ka]
  simp only[cD,dQ G,if_true,aQw,dH G,ck,aQ.sh,e7,ml,aQI,ka];rw[bd (by grind),bd,bd]
  ·simp only[aP,dn,hw,zw,ka];by_cases E:aK=-1
   ·simp_all
   ·cases M:B' s aK<;>cases al:(l.take i).contains aK<;>simp[E,M,al,aL.pM]
  ·intro _;show (l.take i).length<2 ^ 63;rw[aRb];omega
  ·intro dj;exact⟨⟨dj,trivial,dj⟩,⟨by omega,by omega,by omega⟩,trivial⟩
 simp
def nt(s:bN)(cb:Bool):Int:=if l3 s≠0 then l3 s else if cb=false then 1 else fq s.1 true
theorem Vo(h:l3 s=0):c_ s.1=0/\rK s=true:=by
 unfold l3 at h;grind
theorem E1{cb:Bool}(h:nt s cb=0):l3 s=0/\cb=true/\fq s.1 true=0/\zt s.1=true:=by
 unfold nt at h;by_cases he:l3 s=0
 ·rw[if_neg (by omega)]at h;cases cb with
  | false=>grind
  | true=>
   simp only[aR5,aQv]at h;exact⟨he,rfl,h,(IM h).2.2⟩
 omega
structure oD(s:bN):Prop where
 iR:h0 s
 qM:tH s.1
 IZ:s.2.1.length=s.1.1.length
 Vp:∀ n∈s.2.1,0<=n/\n<=10
 NN:s.2.2.1.length<=8
 aAn:∀ p∈s.2.2.1,wz s.1 p=true
 x6:s.2.2.2.1.length<=6
 ahk:∀ x∈s.2.2.2.1,u6 x=true
 Vq:s.2.2.2.2.1.length<=8
 ahl:∀ d∈s.2.2.2.2.1,tJ s.1 d=true
 aAo:0<=s.2.2.2.2.2/\s.2.2.2.2.2<=99
theorem E2(ax:h0 s)(h:l3 s=0):oD s:=by
 obtain⟨E,M⟩:=Vo h;simp only[rK,amX,am0,aQL,cz,mu]at M;obtain⟨⟨⟨⟨⟨⟨⟨⟨aO,aT⟩,b7⟩,gZ⟩,rh⟩,uJ⟩,By⟩,HM⟩,SL⟩:=M;exact⟨ax,⟨ax.1,U_ E⟩,by omega,aT,by omega,gZ,by omega,uJ,by omega,HM,SL⟩
theorem oD.ahm(h:oD s):s.1.1.length<=10:=(IK h.qM.2).1
def NO(w:bZ)(t:z7')(q:z15'):z7':=if x3 w q.1 q.2.1 q.2.2=1 then y8 t q (IntKind.i64.wrap ((rJ t q).getD 0+1)) else t
def ahn(w:bZ)(i m:Nat)(t:z7'):z7':=(List.range (lD w (m:Int)).length).foldl (λt (k:Nat)=>NO w t ((i:Int),(m:Int),(k:Int))) t
def aho(w:bZ)(i:Nat)(t:z7'):z7':=(List.range w.2.1.length).foldl (λt m=>ahn w i m t) t
def x7(w:bZ)(n:Nat):z7':=(List.range n).foldl (λt i=>aho w i t) []
def pa(p:z11')(n:Int):z4':=List.replicate n.toNat p
def I0(l:z1'):z4':=(List.range l.length).flatMap λ(i:Nat)=>pa ((i:Int),0) (l.getD i 0)
def ahp(l:List Eh):z4':=l.flatMap λd=>pa (d.2.1,d.1) d.2.2
def Vr(s:bN):z4':=I0 s.2.1++ahp s.2.2.2.2.1
def eB(s:bN):f_:=(s,Vr s,x7 s.1 s.2.1.length)
def Cb(s:bN)(cb:Bool):Option f_×Int:=if nt s cb≠0 then (none,nt s cb) else (some (eB s),0)
theorem Vs{af bet:Type}(f:af->List bet):∀ (l:List af) (b:List bet),l.foldl (λb x=>b++f x) b=b++l.flatMap f
 | [],b=>by simp
 | x::l,b=>by rw[aQQ,Vs f l,aQV,aQ1]
abbrev aAp:aa:=.ae (.aw bK (.aw bK bK))
abbrev zy:aa:=.bP (.ae (.aw nr (.aw (.slice NK) (.map aAp bK))))
abbrev E3:aQ:=⟨.aw nr d_,.aw zy bK,λx=>h0 x.1,λx=>Cb x.1 x.2⟩
theorem aAq(s:bN)(cb:Bool)(ax:h0 s):TQ sw.sh EU.sh EV.sh NL.sh (s,cb)=mpure (Cb s cb):=by
 unfold TQ cu ho bF cy bl bh aY bS b4 pL bg bY dy Cb nt;simp only[aQ.sh,e7,bd ax];by_cases he:l3 s=0
 ·have ag:=E2 ax he;simp only[he,ne_eq,not_true,aQ9,amW,aQv];cases cb with
  | false=>simp
  | true=>
   simp only[aRc,amW,aQv,aR5];refine Eq.trans (congrArg (λm=>ar m _) (show _=(if fq s.1 true≠0 then mpure (aL.aX ((none:Option f_),fq s.1 true)) else mpure (aL.az (s,([]:z7'),s.1.1,s.1.2.1,s.1.2.2.1,s.1.2.2.2,s.2.1,s.2.2.1,s.2.2.2.1,s.2.2.2.2.1,s.2.2.2.2.2,()))) from ?_)) ?_
   ·by_cases bz:s.2.1.length=0
    ·have aH:fq s.1 true=0:=by
      unfold fq;have aV:s.1.1.length=0:=by rw[<-ag.IZ];exact bz
      have:zt s.1=true:=by unfold zt;grind
      simp[(Vo he).1,this]
     grind
    ·have E:decide (Int.ofNat (List.length s.2.1) > 0)=true:=by grind
     have M:iV s.1 0=true:=by rw[x1];have:=ag.IZ;omega
     rw[if_pos E,bd ax.1];unfold ET;rw[M];by_cases aj:fq s.1 true=0
     ·simp[aj]
     ·simp[aj]
   by_cases Vt:fq s.1 true=0
   ·simp only[Vt,ne_eq,not_true,aQv,aP,db];have aPI:=ag.ahm;have fH:=ag.IZ;have aAr:s.1.2.1.length<=6:=(IK ag.qM.2).2.1;rw[e2 (List.range s.2.1.length) (λi t=>((s.2.1.length:Int),(i:Int),s,t,s.1.1,s.1.2.1,s.1.2.2.1,s.1.2.2.2,s.2.1,s.2.2.1,s.2.2.2.1,s.2.2.2.2.1,s.2.2.2.2.2,())) (λi t=>.az (aho s.1 i t)) (λt=>.az (s,t,s.1.1,s.1.2.1,s.1.2.2.1,s.1.2.2.2,s.2.1,s.2.2.1,s.2.2.2.1,s.2.2.2.2.1,s.2.2.2.2.2,())) [] ?_ ?_ ?_]
    ·rw[ew];simp only[aP,db];rw[eW (List.range s.2.1.length) (λi acc=>(s.2.1,(s.2.1.length:Int),(i:Int),s,x7 s.1 s.2.1.length,s.1.1,s.1.2.1,s.1.2.2.1,s.1.2.2.2,s.2.1,s.2.2.1,s.2.2.2.1,s.2.2.2.2.1,s.2.2.2.2.2,acc,())) (λi acc=>.az (acc++pa ((i:Int),0) (s.2.1.getD i 0))) (λacc=>.az (s,x7 s.1 s.2.1.length,s.1.1,s.1.2.1,s.1.2.2.1,s.1.2.2.2,s.2.1,s.2.2.1,s.2.2.2.1,s.2.2.2.2.1,s.2.2.2.2.2,acc,())) (λi acc=>acc.length<=10*i) [] ?_ ?_ ?_ ?_]
     ·rw[ew,Vs];simp only[aP,db,aRa];have hA:(I0 s.2.1).length<=100:=by
       have:∀ (l:List Nat),(∀ i∈l,i<s.2.1.length)->(l.flatMap λ(i:Nat)=>pa ((i:Int),0) (s.2.1.getD i 0)).length<=10*l.length:=by
        intro l;induction l with
        | nil=>simp
        | cons i l aR=>
         intro ai;have E:=aR λj aM=>ai j (by grind);have M:=ai i (by simp);have al:=ag.Vp _ (amV M);have ka:s.2.1.getD i 0=s.2.1[i]:=by grind
         rw[aQV,aQW,aRU,ka];simp only[pa,aRg];simp only[pa]at E;omega
       have:=this (List.range s.2.1.length) (λi G=>by grind);rw[aR7]at this;unfold I0;omega
      rw[eW s.2.2.2.2.1 (λi acc=>(s.2.2.2.2.1,(s.2.2.2.2.1.length:Int),(i:Int),x7 s.1 s.2.1.length,s.1.1,s.1.2.1,s.1.2.2.1,s.1.2.2.2,s.2.1,s.2.2.1,s.2.2.2.1,s.2.2.2.2.1,s.2.2.2.2.2,acc,())) (λd acc=>.az (acc++pa (d.2.1,d.1) d.2.2)) (λacc=>.az (x7 s.1 s.2.1.length,s.1.1,s.1.2.1,s.1.2.2.1,s.1.2.2.2,s.2.1,s.2.2.1,s.2.2.2.1,s.2.2.2.2.1,s.2.2.2.2.2,acc,())) (λi acc=>acc.length<=100+10*i) (I0 s.2.1) ?_ ?_ ?_ ?_]
      ·rw[ew,Vs,aP,db];rfl
      ·rfl
      ·omega
      ·intro i G acc Va;have cu:=ag.Vq;have l2:=bA (n:=(i:Int)+1);have ay:=ag.ahl _ (amV G);have Sm:1<=s.2.2.2.2.1[i].2.2/\s.2.2.2.2.1[i].2.2<=10:=by
        simp only[tJ,cz,amX,am0]at ay;omega
       have hlen:(pa (s.2.2.2.2.1[i].2.1,s.2.2.2.2.1[i].1) s.2.2.2.2.1[i].2.2).length<=10:=by simp only[pa,aRg];omega
       have o7:b2 (acc.length+(pa (s.2.2.2.2.1[i].2.1,s.2.2.2.2.1[i].1) s.2.2.2.2.1[i].2.2).length):=by unfold b2;omega
       refine⟨?_,λbk U=>?_⟩
       ·simp only[cD,dQ G,if_true,d' G,dH G,ck,sb,iK,dn,kv,l2];rw[bd (by grind),bd (by exact o7)];rfl
       grind
      simp
     ·rfl
     ·simp
     ·intro i G acc Va;have G:i<s.2.1.length:=by grind
      have l2:=bA (n:=(i:Int)+1);have ka:s.2.1.getD i 0=s.2.1[i]:=by grind
      have Sm:=ag.Vp _ (amV G);have hlen:(pa ((i:Int),0) s.2.1[i]).length<=10:=by simp only[pa,aRg];omega
      have o7:b2 (acc.length+(pa ((i:Int),0) s.2.1[i]).length):=by unfold b2;omega
      refine⟨?_,λbk U=>?_⟩
      ·simp only[cD,dQ G,if_true,d' G,dH G,ck,sb,iK,dn,kv,l2,aQw,ka];rw[bd (by grind),bd (by exact o7)];rfl
      grind
     simp
    ·simp
    ·intro i G t;have G:i<s.2.1.length:=by grind
     have l2:=bA (n:=(i:Int)+1);simp only[cD,dQ G,if_true,aQw];rw[e2 (List.range s.1.2.1.length) (λm t=>((i:Int),(s.2.1.length:Int),(i:Int),s.1.2.1,(s.1.2.1.length:Int),(m:Int),s,t,s.1.1,s.1.2.1,s.1.2.2.1,s.1.2.2.2,s.2.1,s.2.2.1,s.2.2.2.1,s.2.2.2.2.1,s.2.2.2.2.2,())) (λm t=>.az (ahn s.1 i m t)) (λt=>.az ((s.2.1.length:Int),(i:Int),s,t,s.1.1,s.1.2.1,s.1.2.2.1,s.1.2.2.2,s.2.1,s.2.2.1,s.2.2.2.1,s.2.2.2.2.1,s.2.2.2.2.2,())) t ?_ ?_ ?_]
     ·rw[ew];simp only[aP,db,dn,l2];rfl
     ·rfl
     ·intro m hm t;have hm:m<s.1.2.1.length:=by grind
      have Vu:=bA (n:=(m:Int)+1);have aAs:s.1.2.1[m]=lD s.1 (m:Int):=by simp[lD,am1,hm]
      simp only[cD,dQ hm,if_true,aQw,dH hm,ck,d' hm,aAs];have IJ:=Nr ax.1 (m:Int);rw[e2 (List.range (lD s.1 (m:Int)).length) (λk t=>((i:Int),(m:Int),(s.2.1.length:Int),(i:Int),s.1.2.1,(s.1.2.1.length:Int),(m:Int),((lD s.1 (m:Int)).length:Int),(k:Int),s,t,s.1.1,s.1.2.1,s.1.2.2.1,s.1.2.2.2,s.2.1,s.2.2.1,s.2.2.2.1,s.2.2.2.2.1,s.2.2.2.2.2,())) (λk t=>.az (NO s.1 t ((i:Int),(m:Int),(k:Int)))) (λt=>.az ((i:Int),(s.2.1.length:Int),(i:Int),s.1.2.1,(s.1.2.1.length:Int),(m:Int),s,t,s.1.1,s.1.2.1,s.1.2.2.1,s.1.2.2.2,s.2.1,s.2.2.1,s.2.2.2.1,s.2.2.2.2.1,s.2.2.2.2.2,())) t ?_ ?_ ?_]
      ·rw[ew];simp only[aP,db,dn,Vu];rfl
      ·rfl
      ·intro k aj t;have aj:k<(lD s.1 (m:Int)).length:=by grind
       have nl:=bA (n:=(k:Int)+1);have mj:iV s.1 (i:Int)=true:=by rw[x1];omega
       have Vv:kS s.1 (m:Int) (k:Int)=true:=by rw[EP];omega
       have aC:tI s.1 (i:Int) (m:Int) (k:Int)=(x3 s.1 (i:Int) (m:Int) (k:Int),0):=by simp[tI,mj,Vv,Vt]
       simp only[dQ aj,if_true,aQw];simp only[aC,bd ax.1,am0];by_cases E:x3 s.1 (i:Int) (m:Int) (k:Int)=1
       ·simp only[E,if_true,aRx,ck,aP,db,dn,nl,aL.pM,NO];rfl
       ·simp only[E,aQv,aP,db,dn,nl,aL.pM,NO];rfl
      simp
     simp
    simp
   ·simp[Vt]
 grind
theorem aAt(x):a_ (TQ sw.sh EU.sh EV.sh NL.sh x) (E3.sh x):=bu λh=>aAq x.1 x.2 h
variable {p:Int->Bool}{l:z1'}
theorem aAu(h:ns p l=true):∀ x∈l,p x=true:=by
 intro x an;obtain⟨i,G,rfl⟩:=List.mem_iff_getElem.1 an;unfold ns at h;simp_all
theorem aAv(h:ns p l=true):l.Pairwise (·<·):=by
 unfold ns at h;have key:∀ j i,i<j->j<l.length->l.getD i 0<l.getD j 0:=by
  intro j;induction j<;>grind
 rw[List.pairwise_iff_getElem];grind
theorem Vw(ag:oD s){p:ow}(ak:p∈s.2.2.1):tD s.1 p.2.2.2.1=true/\p.2.2.2.2.length<=4/\∀ k∈p.2.2.2.2,kS s.1 p.2.2.2.1 k=true:=by
 have h:=ag.aAn p ak;simp  [wz]at h;obtain⟨⟨_,hm⟩,D⟩:=h;have gA:∀ k∈p.2.2.2.2,kS s.1 p.2.2.2.1 k=true:=λk aj=>by
  have:=aAu D k aj;rw[EP];simp  [ND,am0]at this;exact⟨U6.1 hm,this⟩
 refine⟨hm,?_,gA⟩;have aAw:=aAv D;have GD:p.2.2.2.2.Nodup:=aAw.imp λh e=>by omega
 cases U:p.2.2.2.2 with
 | nil=>simp
 | cons k l=>
  rw[<-U];have a7:=ay5 ag.qM.2 (gA k (by grind));have:=ahc (lD s.1 p.2.2.2.1).length p.2.2.2.2 GD λk aj=>by
   have:=EP.1 (gA k aj);omega
  omega
abbrev u9:Type:=z15'
abbrev aAx:lB:=([],(0,0),0,0,0)
abbrev aAy:ow:=(0,0,0,0,[])
abbrev Cc:f_:=((([],[],0,[]),[],[],[],[],0),[],[])
def pZ(s:bN)(i:Int):lB:=s.2.2.2.1.getD i.toNat aAx
def qQ(s:bN)(i:Int):ow:=s.2.2.1.getD i.toNat aAy
def zz(s:bN)(x:lB)(p:ow):Option Int:=if wB x p=0 then none else if (if wB x p=2 then x.2.2.2.1 - s.2.2.2.2.2 else x.2.2.2.1)<0 then none else some (if wB x p=2 then x.2.2.2.1 - s.2.2.2.2.2 else x.2.2.2.1)
def rL(s:bN)(dp:z1')(i:Nat):Option (List u9):=if dp.getD i 0<0 then some [] else (zz s (pZ s (i:Int)) (qQ s (dp.getD i 0))).map λd=>(qQ s (dp.getD i 0)).2.2.2.2.map λk=>((qQ s (dp.getD i 0)).2.2.2.1,k,d)
def nX(s:bN)(dp:z1'):List u9×Bool:=if ((List.range dp.length).all λi=>(rL s dp i).isSome)=true then ((List.range dp.length).flatMap λi=>(rL s dp i).getD [],true) else ([],false)
def qR(s:bN)(dp:z1'):Prop:=dp.length<=s.2.2.2.1.length/\∀ p∈dp,p<(s.2.2.1.length:Int)
def qS(o:Option f_):bN:=(o.getD Cc).1
def zA(o:Option f_)(s:bN):Prop:=o=some (eB s)/\oD s
variable {i:Nat}
theorem Vx(h:i<s.2.2.2.1.length):pZ s (i:Int)∈s.2.2.2.1:=by
 simp[pZ,h]
theorem ahq{i:Int}(aV:0<=i)(h:i<(s.2.2.1.length:Int)):qQ s i∈s.2.2.1:=BE aV h
theorem ahr(ag:oD s){x:lB}(an:x∈s.2.2.2.1):(0<=x.2.2.2.1/\x.2.2.2.1<=99)/\(0<=x.2.2.2.2/\x.2.2.2.2<=100000):=by
 have:=ag.ahk x an;simp  [u6,mu,cz,am0]at this;omega
variable {l:List u9}{dp:z1'}
theorem ahs(ag:oD s)(ak:qR s dp)(G:i<dp.length)(h:rL s dp i=some l):l.length<=4:=by
 unfold rL at h;split at h
 ·grind
 ·rw[aQX]at h;obtain⟨d,_,rfl⟩:=h;rw[aQJ];have hm:dp.getD i 0∈dp:=by grind
  exact (Vw ag (ahq (by omega) (ak.2 _ hm))).2.1
variable {af:Type}{bet:Type}{rho:Type}
def E4(f:af->Option (List bet))(r:rho)(x:af)(b:List bet):aL (List bet) rho:=if (f x).isSome=true then .az (b++(f x).getD []) else .aX r
theorem I1{f:af->Option (List bet)}{r:rho}{x:af}{b y:List bet}(h:f x=some y):E4 f r x b=.az (b++y):=by simp[E4,h]
theorem NP{f:af->Option (List bet)}{r:rho}{x:af}{b:List bet}(h:f x=none):E4 f r x b=.aX r:=by simp[E4,h]
theorem aht{af bet rho:Type}{f:af->Option (List bet)}{r:rho}{fin:List bet->rho}:∀ (l:List af) (b:List bet),fa (E4 f r) fin l b=if (l.all λx=>(f x).isSome)=true then fin (b++l.flatMap λx=>(f x).getD []) else r
 | [],b=>by simp[fa]
 | x::l,b=>by
  simp  [fa];cases h:f x with
  | none=>simp[NP h,h]
  | some y=>
   have:=aht (f:=f) (r:=r) (fin:=fin) l (b++y);simp  [I1 h,aQs];grind
abbrev NQ:aa:=.ae (.aw bK (.aw bK bK))
abbrev NR:aQ:=⟨.aw zy hG,.aw (.slice NQ) d_,λx=>∃ s,zA x.1 s/\qR s x.2,λx=>nX (qS x.1) x.2⟩
theorem aAz(s:bN)(ag:oD s)(dp:z1')(ak:qR s dp):TR Ca.sh (some (eB s),dp)=mpure (nX s dp):=by
 unfold TR bF cy bl bh aY bS di j0 b4 bg ed bY cF;have E5:=ag.x6;have aPJ:=ak.1;rw[eW (List.range dp.length) (λi acc=>(some (eB s),dp,(dp.length:Int),(i:Int),acc,())) (E4 (rL s dp) (.aX ([],false))) (λacc=>.az (acc,())) (λi acc=>acc.length<=4*i) [] ?_ ?_ ?_ ?_]
 ·rw[aht];unfold nX;by_cases h:((List.range dp.length).all λi=>(rL s dp i).isSome)=true
  ·simp[h]
  ·simp[h]
 ·rfl
 ·simp
 ·intro i G acc Va;have G:i<dp.length:=by grind
  have Cd:i<s.2.2.2.1.length:=by omega
  have l2:=bA (n:=i+1);have NS:=Vx Cd;rw[aQw];obtain⟨aK,aAA⟩:∃ aK,dp.getD i 0=aK:=⟨_,rfl⟩
  have aAB:aK∈dp:=by grind
  refine⟨?_,λbk U=>?_⟩
  ·simp only[aQI,aAA,aQs];by_cases GP:aK<0
   ·have qn:rL s dp i=some []:=by unfold rL;grind
    rw[I1 qn];simp_all
   ·have kZ:=ak.2 aK aAB;have aAC:=ahq   (by omega) kZ;have hA:(eB s).1=s:=rfl;have I2:List.getD s.2.2.2.1 i ([],(0,0),0,0,0)=pZ s i:=rfl;have Vy:List.getD s.2.2.1 aK.toNat (0,0,0,0,[])=qQ s aK:=rfl;simp only[GP,hA,aQ.sh,e7,I2,Vy];have qn:rL s dp i=(zz s (pZ s i) (qQ s aK)).map λd=>(qQ s aK).2.2.2.2.map λk=>((qQ s aK).2.2.2.1,k,d):=by unfold rL;grind
    rw[bd (ag.iR.2.2.2.2.2.2 _ NS)];obtain⟨aPK,_⟩:=ahr ag NS;have pI:=ag.aAo;obtain⟨aAr,hv,s8⟩:=Vw ag aAC;have aAD:=bA (n:=(pZ s i).2.2.2.1 - s.2.2.2.2.2);generalize pZ s i=x at *
    generalize qQ s aK=p at *
    by_cases aV:wB x p=0
    ·have ay:zz s x p=none:=by unfold zz;grind
     rw[ay]at qn;rw[NP qn];simp_all
    ·by_cases M:wB x p=2;all_goals simp only[aV,M,aR8,aQ9,amW,aQv,if_true,aP,db,aAD,Int.reduceEq]
     ·have ay:zz s x p=(if x.2.2.2.1 - s.2.2.2.2.2<0 then none else some (x.2.2.2.1 - s.2.2.2.2.2)):=by unfold zz;grind
      generalize x.2.2.2.1 - s.2.2.2.2.2=d at *
      by_cases xv:d<0
      ·rw[if_pos xv]at ay;rw[ay]at qn;rw[NP qn];simp_all
      ·rw[if_neg xv]at ay;rw[ay]at qn;rw[I1 qn];simp  [xv,aQv];rw[eW p.2.2.2.2 (λk acc=>(some (eB s),d,dp,(dp.length:Int),(i:Int),p.2.2.2.2,(p.2.2.2.2.length:Int),(k:Int),acc,p,())) (λk acc=>.az (acc++[(p.2.2.2.1,k,d)])) (λacc=>.az (some (eB s),dp,dp.length,i,acc,())) (λk Ce=>Ce.length<=4*i+k) acc ?_ ?_ ?_ ?_]
       ·rw[ew,pN];simp_all
       ·rfl
       ·omega
       ·intro k aj Ce aAE;have nl:=bA (n:=k+1);have o7:b2 (Ce.length+(0+1)):=by unfold b2;omega
        refine⟨?_,λbk U=>?_⟩
        ·simp_all
        grind
       simp
     ·have ay:zz s x p=(if x.2.2.2.1<0 then none else some x.2.2.2.1):=by unfold zz;grind
      generalize x.2.2.2.1=d at *
      by_cases xv:d<0
      ·omega
      ·rw[if_neg xv]at ay;rw[ay]at qn;rw[I1 qn];simp  [xv,aQv];rw[eW p.2.2.2.2 (λk acc=>(some (eB s),d,dp,(dp.length:Int),(i:Int),p.2.2.2.2,(p.2.2.2.2.length:Int),(k:Int),acc,p,())) (λk acc=>.az (acc++[(p.2.2.2.1,k,d)])) (λacc=>.az (some (eB s),dp,dp.length,i,acc,())) (λk Ce=>Ce.length<=4*i+k) acc ?_ ?_ ?_ ?_]
       ·rw[ew,pN];simp_all
       ·rfl
       ·omega
       ·intro k aj Ce aAE;have nl:=bA (n:=k+1);have o7:b2 (Ce.length+(0+1)):=by unfold b2;omega
        refine⟨?_,λbk U=>?_⟩
        ·simp_all
        grind
       simp
  ·cases qn:rL s dp i with
   | none=>rw[NP qn]at U;grind
   | some y=>
    rw[I1 qn]at U;have:=ahs ag ak G qn;grind
 simp
theorem aAF(x):a_ (TR Ca.sh x) (NR.sh x):=bu λh=>by
 obtain⟨o,dp⟩:=x;obtain⟨s,⟨aC,ag⟩,ak⟩:=h;subst aC;exact aAz s ag dp ak
def x8(s:bN)(dp:z1'):Int:=((List.range dp.length).map λ(i:Nat)=>if dp.getD i 0=-1 then 0 else (pZ s (i:Int)).2.2.2.2).foldl (·+·) 0
abbrev zB:aQ:=⟨.aw zy hG,bK,λx=>∃ s,zA x.1 s/\x.2.length<=s.2.2.2.1.length,λx=>x8 (qS x.1) x.2⟩
theorem aAG(s:bN)(ag:oD s)(dp:z1')(ak:dp.length<=s.2.2.2.1.length):TV (some (eB s),dp)=mpure (x8 s dp):=by
 unfold TV e1 bF cy bl aY bS b4 bg bY;have E5:=ag.x6;rw[eW (List.range dp.length) (λi n=>(some (eB s),n,dp,(dp.length:Int),(i:Int),())) (λi n=>.az (n+if dp.getD i 0=-1 then 0 else (pZ s i).2.2.2.2)) (λn=>.az (n,())) (λi n=>0<=n/\n<=100000*i) 0 ?_ ?_ ?_ ?_]
 ·rw[ew];unfold x8;rw[List.foldl_map,aP,db]
 ·rfl
 ·simp
 ·intro i G n aA;have G:i<dp.length:=by grind
  have Cd:i<s.2.2.2.1.length:=by omega
  have l2:=bA (n:=i+1);obtain⟨_,rp⟩:=ahr ag (Vx Cd);have I2:List.getD s.2.2.2.1 i ([],(0,0),0,0,0)=pZ s i:=rfl;have EZ:=bA (n:=n+(pZ s i).2.2.2.2);have hA:(eB s).1=s:=rfl;refine⟨?_,λbk U=>?_⟩
  ·by_cases E:dp.getD i 0=-1<;>simp_all
  grind
 simp
theorem aAH(x):a_ (TV x) (zB.sh x):=bu λh=>by
 obtain⟨o,dp⟩:=x;obtain⟨s,⟨aC,ag⟩,ak⟩:=h;subst aC;exact aAG s ag dp ak
theorem I3{l:z1'}{j:Nat}{s:Int}(aM:j<l.length):(l.set j s).getD i 0=if i=j then s else l.getD i 0:=by
 grind
theorem aAI{J:Nat}(h:i<J):(List.replicate J (-1:Int)).getD i 0=-1:=by
 grind
def mO(g:z1')(j:Int):Nat:=g.countP λx=>decide (x=j)
theorem ahu:∀ {g:z1'} {i:Nat} {x:Int} (j:Int),i<g.length->mO (g.set i x) j+(if g.getD i 0=j then 1 else 0)=mO g j+(if x=j then 1 else 0)
 | [],i,x,j,h=>by grind
 | y::g,0,x,j,h=>by
  unfold mO;grind
 | y::g,i+1,x,j,h=>by
  unfold mO at *
  grind
theorem aAJ{g:z1'}{j:Int}(G:i<g.length)(h:g.getD i 0=j):0<mO g j:=by
 unfold mO;grind
def qT(gd:Nat->Int->Bool)(rec:Int->oC->Bool×oC)(own:Int)(i:Nat)(ae:oC):aL oC (Bool×oC):=
 if (decide (ec ae.2 (i:Int) > 0)||!gd i own)=true then .az ae
 else if decide (ae.1.getD i 0=-1)=true then .aX (true,(ae.1.set i own,hf ae.2 (i:Int) (ec ae.2 (i:Int)+1)))
 else if (rec (ae.1.getD i 0) (ae.1,hf ae.2 (i:Int) (ec ae.2 (i:Int)+1))).1=true then .aX (true,((rec (ae.1.getD i 0) (ae.1,hf ae.2 (i:Int) (ec ae.2 (i:Int)+1))).2.1.set i own,(rec (ae.1.getD i 0) (ae.1,hf ae.2 (i:Int) (ec ae.2 (i:Int)+1))).2.2))
 else .az (rec (ae.1.getD i 0) (ae.1,hf ae.2 (i:Int) (ec ae.2 (i:Int)+1))).2
def mP(gd:Nat->Int->Bool)(m:Nat):Nat->Int->oC->Bool×oC
 | 0=>λ_ ae=>(false,ae)
 | f+1=>λown ae=>fa (qT gd (mP gd m f) own) (λae=>(false,ae)) (List.range m) ae
def ahv(m J:Nat)(g:z1'):Prop:=∀ i,i<m->g.getD i 0=-1\/(0<=g.getD i 0/\g.getD i 0<(J:Int))
structure Cf(m J f:Nat)(ae:oC):Prop where
 len:ae.1.length=m
 oE:ahv m J ae.1
 hs:∀ k,0<=ec ae.2 k/\ec ae.2 k<=1
 cX:x5 m ae.2<f
structure Vz(m J:Nat)(ae r:oC):Prop where
 len:r.1.length=m
 oE:ahv m J r.1
 hs:∀ k,ec ae.2 k<=ec r.2 k/\ec r.2 k<=1
def ahw(gd:Nat->Int->Bool)(m:Nat)(g:z1')(C:Int->Prop):Prop:=∀ j,C j->∀ i,i<m->gd i j=true->g.getD i 0≠-1/\C (g.getD i 0)
def ahx(gd:Nat->Int->Bool)(m:Nat)(g:z1')(s s':z4'):Prop:=∀ i,i<m->ec s (i:Int)=0->1<=ec s' (i:Int)->g.getD i 0≠-1/\∀ k,k<m->gd k (g.getD i 0)=true->1<=ec s' (k:Int)
structure VA(gd:Nat->Int->Bool)(m:Nat)(own:Int)(ae:oC)(r:Bool×oC):Prop where
 VB:r.1=false->r.2.1=ae.1/\(∀ i,i<m->gd i own=true->1<=ec r.2.2 (i:Int))/\ahx gd m ae.1 ae.2 r.2.2
 ahy:r.1=true->(∀ i,i<m->r.2.1.getD i 0=ae.1.getD i 0\/(ec ae.2 (i:Int)=0/\gd i (r.2.1.getD i 0)=true))/\∀ j,j≠-1->mO r.2.1 j=mO ae.1 j+(if j=own then 1 else 0)
 cl:∀ C,ahw gd m ae.1 C->(C own->r.1=false)/\(r.1=true->∀ i,i<m->r.2.1.getD i 0≠ae.1.getD i 0->∀ c,C c->gd i c=false)
def ahz(gd:Nat->Int->Bool)(m J f:Nat)(rec:Int->oC->Bool×oC):Prop:=∀ own ae,0<=own->own<(J:Int)->Cf m J f ae->Vz m J ae (rec own ae).2/\VA gd m own ae (rec own ae)
variable {m:Nat}{f:Nat}
theorem aAK{gd:Nat->Int->Bool}{J:Nat}{rec:Int->oC->Bool×oC}(Ix:ahz gd m J f rec){own:Int}(ahA:0<=own)(ahB:own<(J:Int)){ae:oC}(aV:Cf m J (f+1) ae) :
  Vz m J ae (fa (qT gd rec own) (λae=>(false,ae)) (List.range m) ae).2/\VA gd m own ae (fa (qT gd rec own) (λae=>(false,ae)) (List.range m) ae):=by
 refine azK (λk b=>b.1=ae.1/\(∀ q,ec ae.2 q<=ec b.2 q/\ec b.2 q<=1)/\(∀ i,i<k->i<m->gd i own=true->1<=ec b.2 i)/\ahx gd m ae.1 ae.2 b.2)
  (λr=>Vz m J ae r.2/\VA gd m own ae r) (List.range m) ae ⟨rfl,λq=>⟨aQB _,(aV.hs q).2⟩,λi G=>by omega,λi _ E M=>by omega⟩ (λi G b U=>?_) λb U=>?_
 ·obtain⟨hw,qO,NT,mf⟩:=U;have G:i<m:=by grind
  rw[aQw];have yR:=λq=>aR0 (aV.hs q).1 (qO q).1;unfold qT;by_cases hc:(decide (ec b.2 i > 0)||!gd i own)=true
  ·grind
  ·rw[if_neg hc];simp  at hc;obtain⟨bz,aB⟩:=hc;have bz:ec b.2 i=0:=by grind
   have ahC:=by have:=(qO i).1;have:=(aV.hs i).1;omega
   have AS:i<ae.1.length:=by rw[aV.len];omega
   have nc:∀ q,ec b.2 q<=ec (hf b.2 i (ec b.2 i+1)) q/\ec (hf b.2 i (ec b.2 i+1)) q<=1:=λq=>by
    have:=qO q;rw[E0];omega
   have aPL:ec (hf b.2 i (ec b.2 i+1)) i=1:=by rw[E0,if_pos rfl,bz];rfl
   by_cases aC:ae.1.getD i 0=-1
   ·rw[hw,if_pos (by grind)];refine⟨⟨by rw[aRl];exact aV.len,λk aj=>?_,λq=>⟨aR0 (qO q).1 (nc q).1,(nc q).2⟩⟩,λh=>(by grind),λ_=>⟨λk aj=>?_,λj aM=>?_⟩,λC kH=>⟨λE6=>?_,λ_ k aj eM c hc=>?_⟩⟩
    ·rw[I3 AS];split
     ·omega
     ·exact aV.oE k aj
    ·grind
    ·have:=ahu (x:=own) j AS;grind
    ·exact absurd aC (kH own E6 i G aB).1
    ·rw[I3 AS]at eM;split at eM
     ·rename_i e;subst e;cases I4:gd k c with
      | false=>rfl
      | true=>exact absurd aC (kH c hc k G I4).1
     omega
   ·rw[hw,if_neg (by grind)];have fx:=(aV.oE i G).resolve_left aC;have zC:Cf m J f (ae.1,hf b.2 i (ec b.2 i+1)):=by
     refine⟨aV.len,aV.oE,λq=>⟨aR0 (yR q) (nc q).1,(nc q).2⟩,?_⟩;have E:=ahf (n:=m)     (v:=ec b.2 i+1) (by omega) (by omega) bz (by omega);have M:=ahg (n:=m)     λk=>⟨(aV.hs k).1,(qO k).1⟩
     have al:=aV.cX;grind
    obtain⟨ak,D⟩:=Ix (ae.1.getD i 0) _ fx.1 fx.2 zC;revert ak D;generalize rec (ae.1.getD i 0) (ae.1,hf b.2 i (ec b.2 i+1))=r;intro ak D;have xm:=λq=>(ak.hs q).1;by_cases bR:r.1=true
    ·rw[if_pos bR];obtain⟨m_,Qh⟩:=D.ahy bR;have ed:i<r.2.1.length:=by rw[ak.len];omega
     have ql:r.2.1.getD i 0=ae.1.getD i 0:=by
      grind
     refine⟨⟨by rw[aRl];exact ak.len,λk aj=>?_,λq=>⟨aR0 (qO q).1 (aR0 (nc q).1 (xm q)),(ak.hs q).2⟩⟩,λh=>(by grind),λ_=>⟨λk aj=>?_,λj aM=>?_⟩,λC kH=>⟨λE6=>?_,λ_ k aj eM c hc=>?_⟩⟩
     ·rw[I3 ed];split
      ·omega
      ·exact ak.oE k aj
     ·rw[I3 ed];split
      ·grind
      ·rcases m_ k aj with e | ⟨aF,bB⟩
       ·grind
       ·have c:=(aV.hs k).1;grind
     ·have a:=ahu (x:=own) j ed;grind
     ·have:=(D.cl C kH).1 (kH own E6 i G aB).2;grind
     ·rw[I3 ed]at eM;split at eM
      ·rename_i e;subst e;cases I4:gd k c with
       | false=>rfl
       | true=>
        have:=(D.cl C kH).1 (kH c hc k G I4).2;grind
      ·exact (D.cl C kH).2 bR k aj eM c hc
    ·rw[if_neg bR];have G_:r.1=false:=by grind
     obtain⟨DI,aPM,aAL⟩:=D.VB G_;refine⟨DI,λq=>⟨aR0 (qO q).1 (aR0 (nc q).1 (xm q)),(ak.hs q).2⟩,λk aj VC LY=>?_,λk VC bQ aF=>?_⟩
     ·grind
     ·by_cases e:k=i
      ·grind
      ·by_cases bB:1<=ec b.2 k
       ·obtain⟨a,c⟩:=mf k VC bQ bB;grind
       ·refine aAL k VC ?_ aF;rw[E0];grind
 ·obtain⟨hw,qO,NT,mf⟩:=U;rw[aR7]at NT;refine⟨⟨by rw[hw];exact aV.len,by rw[hw];exact aV.oE,qO⟩,λ_=>⟨hw,λi G aB=>NT i G G aB,mf⟩,λh=>(by grind),λC kH=>⟨λ_=>rfl,λh=>(by grind)⟩⟩
theorem VD{gd:Nat->Int->Bool}{m J:Nat}:∀ f,ahz gd m J f (mP gd m f)
 | 0=>λown ae _ _ h=>absurd h.cX (by omega)
 | f+1=>λown ae aV E h=>aAK (VD f) aV E h
def Cg(gd:Nat->Int->Bool)(m F:Nat)(ae:z19')(j:Nat):z19':=((mP gd m F (j:Int) (ae.1,[])).2.1,if (mP gd m F (j:Int) (ae.1,[])).1=true then ae.2 else ae.2+1)
def VE(gd:Nat->Int->Bool)(m J F:Nat):z19':=(List.range J).foldl (Cg gd m F) (List.replicate m (-1),0)
structure I5(gd:Nat->Int->Bool)(m J k:Nat)(ae:z19'):Prop where
 len:ae.1.length=m
 oE:∀ i,i<m->ae.1.getD i 0=-1\/(0<=ae.1.getD i 0/\ae.1.getD i 0<(k:Int)/\gd i (ae.1.getD i 0)=true)
 one:∀ j,0<=j->mO ae.1 j<=1
 num:ae.2=(((List.range k).countP λ(j:Nat)=>decide (mO ae.1 (j:Int)=0):Nat):Int)
 ahD:∃ C,ahw gd m ae.1 C/\(∀ c,C c->0<=c/\c<(k:Int))/\∀ j:Nat,j<k->mO ae.1 (j:Int)=0->C (j:Int)
theorem ahE{gd:Nat->Int->Bool}{J F k:Nat}(bq:m<F)(aj:k<J){ae:z19'}(h:I5 gd m J k ae):I5 gd m J (k+1) (Cg gd m F ae k):=by
 obtain⟨g,n⟩:=ae;have hu:x5 m []<=m:=by
  exact am5 List.countP_le_length (by simp)
 have zC:Cf m J F (g,[]):=⟨h.len,λi G=>by have:=h.oE i G;grind,λq=>⟨aQB _,by show (0)<=1;decide⟩,by grind⟩
 obtain⟨ak,D⟩:=VD F k (g,[]) (by omega) (by omega) zC;unfold Cg;revert ak D;generalize mP gd m F k (g,[])=r;intro ak D;have AT:mO g k=0:=by
  unfold mO;rw[List.countP_eq_zero];intro x an;obtain⟨i,G,rfl⟩:=List.mem_iff_getElem.1 an;have:=h.oE i (by rw[<-h.len];omega);grind
 obtain⟨C,kH,aPN,aPO⟩:=h.ahD;by_cases U:r.1=true
 ·obtain⟨m_,Qh⟩:=D.ahy U;have aPP:=(D.cl C kH).2 U;refine⟨ak.len,λi G=>?_,λj aM=>?_,?_,C,λc uK i G Ch=>?_,λc uK=>?_,λj aM hu=>?_⟩
  ·show r.2.1.getD i 0=-1\/_;rcases m_ i G with e | ⟨aF,bB⟩
   ·rcases h.oE i G with a | a<;>grind
   ·by_cases nc:r.2.1.getD i 0=-1
    ·omega
    ·refine .inr ⟨?_,?_,bB⟩
     ·have:=(ak.oE i G).resolve_left nc;grind
     ·have M:=aAJ (by rw[ak.len];omega) rfl;by_cases e:r.2.1.getD i 0=k
      ·grind
      ·have al:0<mO g (r.2.1.getD i 0):=by grind
       unfold mO at al;rw[List.countP_pos_iff]at al;obtain⟨x,an,gu⟩:=al;obtain⟨q,bC,rfl⟩:=List.mem_iff_getElem.1 an;have:=h.oE q (by rw[<-h.len];omega);grind
  ·have M:=h.one j aM;grind
  ·have E:=h.num;rw[aR3,List.countP_append];have al:mO r.2.1 k=1:=by
    grind
   have a7:(List.range k).countP (λ(j:Nat)=>decide (mO r.2.1 j=0))=(List.range k).countP (λ(j:Nat)=>decide (mO g j=0)):=List.countP_congr λj aM=>by grind
   grind
  ·by_cases e:r.2.1.getD i 0=g.getD i 0
   ·rw[e];exact kH c uK i G Ch
   grind
  ·grind
  grind
 ·have G_:r.1=false:=by grind
  obtain⟨hw,NT,mf⟩:=D.VB G_;simp  [hw];refine⟨h.len,λi G=>?_,h.one,?_,λc=>C c\/c=k\/∃ i,i<m/\1<=ec r.2.2 i/\c=g.getD i 0,λc uK i G Ch=>?_,λc uK=>?_,λj aM hu=>?_⟩
  ·rcases h.oE i G with a | a<;>grind
  ·have E:=h.num;rw[aR3];grind
  ·have aA:1<=ec r.2.2 i->g.getD i 0≠-1/\(C (g.getD i 0)\/g.getD i 0=k\/∃ q,q<m/\1<=ec r.2.2 q/\g.getD i 0=g.getD q 0):=λax=>⟨(mf i G rfl ax).1,.inr (.inr ⟨i,G,ax,rfl⟩)⟩
   rcases uK with e | e | ⟨q,bC,ax,e⟩
   ·exact⟨(kH c e i G Ch).1,.inl (kH c e i G Ch).2⟩
   ·grind
   ·subst e;exact aA ((mf q bC rfl ax).2 i G Ch)
  ·rcases uK with e | e | ⟨q,bC,ax,e⟩
   ·grind
   ·omega
   ·have:=(h.oE q bC).resolve_left (mf q bC rfl ax).1;grind
  grind
theorem aAM(gd:Nat->Int->Bool)(m J F:Nat)(bq:m<F):I5 gd m J J (VE gd m J F):=by
 unfold VE;have key:∀ k,k<=J->I5 gd m J k ((List.range k).foldl (Cg gd m F) (List.replicate m (-1),0)):=by
  intro k;induction k with
  | zero=>
   intro _;refine⟨by simp,λi G=>.inl (aAI G),λj aM=>?_,by simp,λ_=>False,λ_ h=>h.elim,λ_ h=>h.elim,λj aM=>by omega⟩;show mO (List.replicate m (-1)) j<=1;have:mO (List.replicate m (-1)) j=0:=by
    unfold mO;grind
   omega
  | succ k aR=>
   intro aj;rw[aR3,List.foldl_append];exact ahE bq (by omega) (aR (by omega))
 grind
def wC(t:f_)(sp:z11')(j:u9):Bool:=decide (sp.2<=j.2.2)&&decide ((rJ t.2.2 (sp.1,j.1,j.2.1)).getD 0 > 0)
abbrev E7:aQ:=⟨.aw zy (.aw NK NQ),d_,λx=>∃ t,x.1=some t,λx=>wC (x.1.getD Cc) x.2.1 x.2.2⟩
theorem aAN(x):a_ (adI x) (E7.sh x):=bu λh=>by
 obtain⟨o,sp,j⟩:=x;obtain⟨t,aC⟩:=h;subst aC;unfold adI cu dr hY ho;simp;rfl
def I6(t:f_)(l:List u9):Bool:=l.all λj=>(List.range t.1.2.1.length).any λ(i:Nat)=>wC t ((i:Int),0) j
abbrev VF:aQ:=⟨.aw zy (.slice NQ),d_,λx=>∃ t,x.1=some t/\t.1.2.1.length<2 ^ 63/\x.2.length<2 ^ 63,λx=>I6 (x.1.getD Cc) x.2⟩
theorem aAO(t:f_)(l:List u9)(E:t.1.2.1.length<2 ^ 63)(M:l.length<2 ^ 63):TS E7.sh (some t,l)=mpure (I6 t l):=by
 unfold TS cj bF cy bl bh aY bS di j0 b4 bg ku bY;rw[e2 l (λi (_)=>(some t,l,(l.length:Int),(i:Int),())) (λj b=>if (!(List.range t.1.2.1.length).any λi=>wC t (i,0) j)=true then .aX (.aX false) else .az b) (λ_=>.az ()) () ?_ ?_ ?_]
 ·rw[ng   _ _ (λ_=>rfl)];unfold I6;cases l.all λj=>(List.range t.1.2.1.length).any λi=>wC t (i,0) j<;>simp
 ·rfl
 ·intro i G b;have hw:=bA (n:=i+1);simp only[cD,dQ G,d' G,dH G];rw[e2 (List.range t.1.2.1.length) (λk b=>(some t,b,l,(l.length:Int),(i:Int),(t.1.2.1.length:Int),(k:Int),l[i],())) (λk b=>.az (b||wC t (k,0) l[i])) (λb=>.az (some t,b,l,l.length,i,())) false ?_ ?_ ?_]
  ·rw[ew];have e:∀ (r:List Nat) (b:Bool),r.foldl (λb (k:Nat)=>b||wC t (k,0) l[i]) b=(b||r.any λk=>wC t (k,0) l[i]):=by
    intro r;induction r<;>grind
   rw[e];cases (List.range t.1.2.1.length).any λk=>wC t (k,0) l[i]<;>simp[hw]
  ·rfl
  ·grind [bA,aQ.sh,ml,e7,bd,aL.pM]
  simp
 simp
theorem aAP(x):a_ (TS E7.sh x) (VF.sh x):=bu λh=>by
 grind [aAO]
def jR(t:f_)(l:List u9)(i:Nat)(j:Int):Bool:=wC t (t.2.1.getD i (0,0)) (l.getD j.toNat (0,0,0))
abbrev VG:=Option f_×List u9×Int×z4'×z1'×Unit
abbrev ahF:=Bool×z4'×z14'
def x9(r:Bool×oC):ahF:=(r.1,r.2.2,r.2.1,())
def VH(f:Nat)(x:VG):Prop:=∃ t,x.1=some t/\t.2.1.length<=200/\x.2.1.length<=1000/\0<=x.2.2.1/\x.2.2.1<(x.2.1.length:Int)/\Cf t.2.1.length x.2.1.length f (x.2.2.2.2.1,x.2.2.2.1)
def x_(f:Nat)(x:VG):L ahF:=eF (VH f x) (x9 (mP (jR (x.1.getD Cc) x.2.1) (x.1.getD Cc).2.1.length f x.2.2.1 (x.2.2.2.2.1,x.2.2.2.1)))
theorem aAQ{t:f_}(hm:t.2.1.length<=200)(ai:l.length<=1000){own:Int}(ahA:0<=own)(ahB:own<(l.length:Int)){ae:oC}(aV:Cf t.2.1.length l.length (f+1) ae) :
  TW E7.sh (x_ f) (some t,l,own,ae.2,ae.1,())=mpure (x9 (mP (jR t l) t.2.1.length (f+1) own ae)):=by
 have Ix:=VD (gd:=jR t l) (m:=t.2.1.length) (J:=l.length) f;unfold TW;simp only[cD,azL,aQs];rw[eW (List.range t.2.1.length) (λi b=>(some t,l,own,t.2.1,(t.2.1.length:Int),(i:Int),b.2,b.1,())) (λi b=>aL.IT (λr=>.aX (x9 r)) (qT (jR t l) (mP (jR t l) t.2.1.length f) own i b)) (λb=>.az (b.2,b.1,())) (λi b=>b.1=ae.1/\∀ q,ec ae.2 q<=ec b.2 q/\ec b.2 q<=1) ae ?_ ?_ ?_ ?_]
 ·show _=mpure (x9 (fa (qT (jR t l) (mP (jR t l) t.2.1.length f) own) (λae=>(false,ae)) (List.range t.2.1.length) ae));rw[Ve,Ve,ahh];cases B8 (qT (jR t l) (mP (jR t l) t.2.1.length f) own) (List.range t.2.1.length) ae<;>(simp;try rfl)
 ·rfl
 ·exact⟨rfl,λq=>⟨aQB _,(aV.hs q).2⟩⟩
 ·intro i G b U;have G:i<t.2.1.length:=by grind
  have mN:=bA (n:=i+1);rw[aQw];have aAR:b.1.length=t.2.1.length:=by rw[U.1];exact aV.len
  have bJ:i<b.1.length:=by omega
  have aAS:0<=own/\own<l.length:=⟨ahA,ahB⟩
  have m_:=U.2 i;have qy:=aV.hs i;simp only[dQ G,dH G,dH bJ,aAS,aQ.sh,sb,iK,aQI,aQs];have cj:wC t (t.2.1.getD i (0,0)) (l.getD own.toNat (0,0,0))=jR t l i own:=rfl;rw[cj];have aAT:(∃ dO,(some t)=some dO)=True:=by simp
  simp only[aAT,aR1,aSi,aRx,ck];by_cases ahG:ec b.2 i > 0
  ·have hu:qT (jR t l) (mP (jR t l) t.2.1.length f) own i b=.az b:=by grind [qT]
   rw[hu];refine⟨?_,λbk dZ=>by cases dZ;omega⟩;simp  [ahG,mN,aQZ];rfl
  ·by_cases aB:jR t l i own=true
   ·have bz:ec b.2 i=0:=by omega
    have Vu:=bA (n:=ec b.2 i+1);have nc:∀ q,ec b.2 q<=ec (hf b.2 i (ec b.2 i+1)) q/\ec (hf b.2 i (ec b.2 i+1)) q<=1:=λq=>by
     grind [E0]
    by_cases aC:b.1.getD i 0=-1
    ·have hu:qT (jR t l) (mP (jR t l) t.2.1.length f) own i b=.aX (true,(b.1.set i own,hf b.2 i (ec b.2 i+1))):=by
      grind [qT]
     rw[hu];refine⟨?_,λbk dZ=>by cases dZ⟩;simp only[ahG,aB,aC,aR8,aQ9,aRc,aRh,Bool.or_self,amW,aQv,if_true,false_imp_iff,aR5,Bool.true_or,ck,aP,dn,Vu,true_imp_iff];rfl
    ·have aPQ:=aV.oE i G;have aM:0<=b.1.getD i 0/\b.1.getD i 0<l.length:=by grind
     have zC:Cf t.2.1.length l.length f (b.1,hf b.2 i (ec b.2 i+1)):=by
      refine⟨aAR,?_,λk=>⟨?_,(nc k).2⟩,?_⟩
      ·rw[U.1];exact aV.oE
      ·have:=(nc k).1;have:=U.2 k;have:=(aV.hs k).1;grind
      ·have E:=ahf (n:=t.2.1.length)     (v:=ec b.2 i+1) (by omega) (by omega) bz (by omega);have M:=ahg (n:=t.2.1.length)     λk=>⟨(aV.hs k).1,(U.2 k).1⟩
       have al:=aV.cX;grind
     obtain⟨DX,aAU⟩:=Ix (b.1.getD i 0) (b.1,hf b.2 i (ec b.2 i+1)) aM.1 aM.2 zC;have hW:VH f (some t,l,b.1.getD i 0,hf b.2 i (ec b.2 i+1),b.1,()):=⟨t,rfl,hm,ai,aM.1,aM.2,zC⟩
     have DW:x_ f (some t,l,b.1.getD i 0,hf b.2 i (ec b.2 i+1),b.1,())=mpure (x9 (mP (jR t l) t.2.1.length f (b.1.getD i 0) (b.1,hf b.2 i (ec b.2 i+1)))):=bO hW _;have ed:=DX.len;have aPR:=DX.hs;have aPS:=aAU.VB;have aAV:qT (jR t l) (mP (jR t l) t.2.1.length f) own i b=if (mP (jR t l) t.2.1.length f (b.1.getD i 0) (b.1,hf b.2 i (ec b.2 i+1))).1=true then .aX (true,((mP (jR t l) t.2.1.length f (b.1.getD i 0) (b.1,hf b.2 i (ec b.2 i+1))).2.1.set i own,(mP (jR t l) t.2.1.length f (b.1.getD i 0) (b.1,hf b.2 i (ec b.2 i+1))).2.2)) else .az (mP (jR t l) t.2.1.length f (b.1.getD i 0) (b.1,hf b.2 i (ec b.2 i+1))).2:=by
      grind [qT]
     rw[aAV];generalize mP (jR t l) t.2.1.length f (b.1.getD i 0) (b.1,hf b.2 i (ec b.2 i+1))=r at *
     obtain⟨ok,g',s'⟩:=r;cases ok with
     | true=>
      simp_all[x9,aL.IT]
     | false=>
      refine⟨?_,λbk dZ=>?_⟩
      ·simp_all[x9,aL.IT]
      ·cases dZ;grind
   ·have hu:qT (jR t l) (mP (jR t l) t.2.1.length f) own i b=.az b:=by grind [qT]
    rw[hu];refine⟨?_,λbk dZ=>by cases dZ;omega⟩;simp  [aB,mN,aQZ];rfl
 simp
theorem aAW(f:Nat)(x):a_ (TW E7.sh (x_ f) x) (x_ (f+1) x):=bu λh=>by
 obtain⟨o,l,own,hs,g,u⟩:=x;obtain⟨t,aC,hm,ai,aV,E,zC⟩:=h;subst aC;exact aAQ   hm ai aV E zC
theorem aAX(x:VG):¬(x_ 0 x).fr:=λ⟨_,_,_,_,_,_,h⟩=>absurd h.cX (by omega)
def Ci(t:f_)(l:List u9):Int:=(VE (jR t l) t.2.1.length l.length 201).2
abbrev NU:aQ:=⟨.aw zy (.slice NQ),bK,λx=>∃ t,x.1=some t/\t.2.1.length<=200/\x.2.length<=1000,λx=>Ci (x.1.getD Cc) x.2⟩
theorem aAY(t:f_)(l:List u9)(hm:t.2.1.length<=200)(ai:l.length<=1000):TT zv (x_ 201) (some t,l)=mpure (Ci t l):=by
 unfold TT cy bl bh aY bS b4 bg;unfold zv;simp;rw[bd (by grind)];rw[eW (List.range l.length) (λi b=>(some t,l,b.2,(l.length:Int),(i:Int),b.1,())) (λi b=>.az (Cg (jR t l) t.2.1.length 201 b i)) (λb=>.az (b.2,())) (λi b=>I5 (jR t l) t.2.1.length l.length i b/\0<=b.2/\b.2<=i) (List.replicate t.2.1.length (-1),0) ?_ ?_ ?_ ?_]
 ·rw[ew,aP];rfl
 ·rfl
 ·refine⟨?_,by simp⟩;have:=aAM (jR t l) t.2.1.length 0 201 (by omega);exact⟨this.len,this.oE,this.one,this.num,this.ahD⟩
 ·intro i G b U;have G:i<l.length:=by grind
  have mN:=bA (n:=i+1);obtain⟨g,n⟩:=b;obtain⟨U,yH,xd⟩:=U;have EZ:=bA (n:=n+1);have hW:VH 201 (some t,l,i,[],g,()):=by
   refine⟨t,rfl,hm,ai,Int.natCast_nonneg i,Int.ofNat_lt.2 G,U.len,λk aj=>?_,λk=>by simp[ec,x4],?_⟩
   ·rcases U.oE k aj with h | h<;>grind
   grind [x5,List.countP_le_length]
  have DW:x_ 201 (some t,l,i,[],g,())=mpure (x9 (mP (jR t l) t.2.1.length 201 i (g,[]))):=bO hW _;have abn:=ahE (F:=201) (by omega) G U;refine⟨?_,λbk dZ=>?_⟩
  ·simp  [DW,x9];grind [Cg]
  grind [Cg]
 simp
theorem aAZ(x):a_ (TT zv (x_ 201) x) (NU.sh x):=bu λh=>by
 grind [aAY]
theorem ahH(ag:oD s):(Vr s).length<=200:=by
 have E:∀ (l:List Nat),(∀ i∈l,i<s.2.1.length)->(l.flatMap λ(i:Nat)=>pa (i,0) (s.2.1.getD i 0)).length<=10*l.length:=by
  intro l;induction l with
  | nil=>simp
  | cons i l aR=>
   intro ai;have M:=ai i (by simp);have al:=ag.Vp _ (amV M);grind [pa]
 have M:∀ (l:List Eh),(∀ d∈l,tJ s.1 d=true)->(l.flatMap λd=>pa (d.2.1,d.1) d.2.2).length<=10*l.length:=by
  intro l;induction l with
  | nil=>simp
  | cons d l aR=>
   intro ai;have al:=ai d (by simp);grind [tJ,cz,pa]
 have b:=M s.2.2.2.2.1 ag.ahl;have c:=ag.ahm;have d:=ag.Vq;have e:=ag.IZ;grind [Vr,I0,ahp]
theorem ahI(ag:oD s)(ak:qR s dp):(nX s dp).1.length<=24:=by
 unfold nX;split
 ·have:∀ (l:List Nat),(∀ i∈l,i<dp.length)->(l.flatMap λi=>(rL s dp i).getD []).length<=4*l.length:=by
   intro l;induction l with
   | nil=>simp
   | cons i l aR=>
    intro ai;have E:=aR λj aM=>ai j (by grind);rw[aQV,aQW,aRU];have:((rL s dp i).getD []).length<=4:=by
     cases h:rL s dp i with
     | none=>simp
     | some y=>grind [ahs]
    omega
  have:=ak.1;have:=ag.x6;grind
 simp
def tK(s:bN)(dp:z1'):Bool:=(nX s dp).2&&decide (Ci (eB s) (nX s dp).1=0)
abbrev Cj:aQ:=⟨.aw zy hG,d_,λx=>∃ s,zA x.1 s/\qR s x.2,λx=>tK (qS x.1) x.2⟩
theorem aA0(x):a_ (adB NR.sh NU.sh x) (Cj.sh x):=bu λh=>by
 obtain⟨o,dp⟩:=x;obtain⟨s,⟨aC,ag⟩,ak⟩:=h;subst aC;unfold adB cu cj;simp only[aQ.sh,e7,ml];rw[bd (by exact⟨s,⟨rfl,ag⟩,ak⟩),bd (by exact λ_=>⟨eB s,rfl,ahH ag,am5 (ahI ag ak) (by omega)⟩)];show mpure ((nX s dp).2&&decide ((if (nX s dp).2=true then Ci (eB s) (nX s dp).1 else 0)=0))=mpure (tK s dp);grind [tK]
def E8(s:bN)(first:z1')(p:Nat):Bool:=!(first.contains (p:Int)||decide (wB (pZ s (first.length:Int)) (qQ s (p:Int))=0))
def mv(s:bN)(e:Int):Nat->z1'->List (z1')
 | 0,first=>[first]
 | n+1,first=>((List.range s.2.2.1.length).flatMap λp=>if E8 s first p=true then mv s e n (first++[(p:Int)]) else [])++(if e=0 then [] else mv s e n (first++[-1]))
abbrev ahJ:Type:=Nat×(List (z1')->Prop)×List (z1')×Bool
abbrev VI:Type:=Option f_×z1'×Int×Nat×ahJ×Unit
abbrev ahK:Type:=Bool×ahJ×Unit
structure VJ(f:Nat)(x:VI)(s:bN)(n:Nat)(a b:List (z1')):Prop where
 aPT:zA x.1 s
 len:x.2.1.length+n=s.2.2.2.1.length
 cX:n<f
 aPU:x.2.2.2.2.1.1=x.2.2.2.1
 fQ:x.2.2.2.2.1.2.2.2=false
 seq:x.2.2.2.2.1.2.1=λT=>T=a++mv s x.2.2.1 n x.2.1++b
 pos:x.2.2.2.2.1.2.2.1=a
def aA1(x:VI)(y:ahK):Prop:=y.2.1.1=x.2.2.2.1/\y.2.1.2.1=x.2.2.2.2.1.2.1/\(y.1=true->y.2.1.2.2.2=false/\y.2.1.2.2.1=x.2.2.2.2.1.2.2.1++mv (qS x.1) x.2.2.1 ((qS x.1).2.2.2.1.length - x.2.1.length) x.2.1)/\(y.1=false->y.2.1.2.2.2=true)
def u_(f:Nat)(x:VI):L ahK:=⟨∃ s n a b,VJ f x s n a b,aA1 x⟩
def oF(s:bN)(e:Int)(n:Nat)(first:z1')(k:Nat):List (z1'):=(List.range k).flatMap λp=>if E8 s first p=true then mv s e n (first++[(p:Int)]) else []
theorem NV(s:bN)(e:Int)(n:Nat)(first:z1')(k:Nat):oF s e n first (k+1)=oF s e n first k++(if E8 s first k=true then mv s e n (first++[(k:Int)]) else []):=by
 unfold oF;rw[aR3,aRM];simp
theorem aA2(s:bN)(e:Int)(n:Nat)(first:z1'){k:Nat}(h:k<=m):∃ t,oF s e n first m=oF s e n first k++t:=by
 induction m with
 | zero=>simp_all
 | succ m aR=>
  by_cases aj:k=m+1
  ·simp_all
  ·obtain⟨t,aH⟩:=aR (by omega);rw[NV,aH,aQ1];simp
theorem aA3(ag:oD s){first:z1'}{e:Int}{l:Nat}{ad:List (z1')->Prop}{n:Nat}(hlen:first.length+n=s.2.2.2.1.length)(aC:n<f+1){a b:List (z1')}(iJ:ad=λT=>T=a++mv s e n first++b) :
  c8 (TX Ca.sh (u_ f) sj.sh (some (eB s),first,e,l,(l,ad,a,false),())) λy=>y.2.1.1=l/\y.2.1.2.1=ad/\(y.1=true->y.2.1.2.2.2=false/\y.2.1.2.2.1=a++mv s e n first)/\(y.1=false->y.2.1.2.2.2=true):=by
 have hA:(eB s).1=s:=rfl;have E5:=ag.x6;have aA4:=ag.NN;unfold TX cu bF cy bJ bl bh aY di j0 b4 bg bY dy nf rA;simp only[aQG,aQs,ck,cD,hA];cases n with
 | zero=>
  have ay:decide ((first.length:Int)=(s.2.2.2.1.length:Int))=true:=by grind
  have aB:∃ T,ad (a++first::T):=⟨b,by rw[iJ];show _=_;simp[mv]⟩
  simp only[ay,if_true,aSi,aRx];rw[bd aB,fS];refine⟨⟨true,trivial⟩,λy _=>dR.2 ?_⟩;refine⟨rfl,rfl,λh=>?_,λh=>?_⟩
  ·change y=true at h;subst h;exact⟨rfl,rfl⟩
  grind
 | succ n=>
  have ay:decide ((first.length:Int)=(s.2.2.2.1.length:Int))=false:=by grind
  simp only[ay,amW,aQv,fS];obtain⟨z,bz⟩:∃ z,mv s e (n+1) first=oF s e n first s.2.2.1.length++z:=⟨_,rfl⟩
  refine azJ s.2.2.1.length (λk q=>q=(some (eB s),first,e,l,(first.length:Int),s.2.2.1,(s.2.2.1.length:Int),(k:Int),(l,ad,a++oF s e n first k,false),())) ?_ ?_ ?_
  ·show _=_;simp[oF]
  ·rintro k aj q rfl;have nl:=bA (n:=(k:Int)+1);have g_:first.length<2 ^ 63:=by omega
   have Cd:first.length<s.2.2.2.1.length:=by omega
   have NS:=Vx Cd;have I2:List.getD s.2.2.2.1 first.length ([],(0,0),0,0,0)=pZ s (first.length:Int):=rfl
   have Vy:s.2.2.1[k]=qQ s (k:Int):=by simp[qQ,am1,aj]
   have mj:Ca.pre (pZ s (first.length:Int),qQ s (k:Int)):=ag.iR.2.2.2.2.2.2 _ NS;have aA5:(first.length<2 ^ 63)=True:=by grind
   simp only[dQ aj,if_true,dH aj,d' aj,ck,aQ.sh,sb,iK,aA5,hA,aQI,dH Cd,I2,Vy,aR1,aSi,aRx,imp_self,aQZ];have aA6:((pZ s (first.length:Int)).1.length<2 ^ 63)=True:=by grind
   have aA7:List.getD s.2.2.1 k (0,0,0,0,[])=qQ s (k:Int):=rfl;have eM:first.contains (k:Int)=false->(!first.contains (k:Int))=true:=λh=>by grind
   have fx:((0:Int)<=0/\0<=(first.length:Int)/\(first.length:Int)<=(first.length:Int))=True:=by simp
   have mF:List.take first.length first=first:=aQ4
   have o7:(0<Add.add 0 1/\b2 (Add.add first.length (Add.add 0 1))):=⟨by decide,by show b2 (first.length+1);unfold b2;omega⟩
   have kZ:(first.contains (k:Int)||decide (wB (pZ s (first.length:Int)) (qQ s (k:Int))=0))=!E8 s first k:=by unfold E8;simp
   have pB:first.contains (k:Int)=first.contains (k:Int):=rfl
   simp only[aQG,aQs,hA,dH Cd,I2,aA7,aA6,aR1,aSi,aRx,imp_self,aQZ,ck,bd eM,kZ,fx,mF];rw[bd (by omega)];obtain⟨t,aH⟩:=aA2 s e n first (show k+1<=s.2.2.1.length by omega)
   cases aA:E8 s first k with
   | false=>
    simp only[aRh,if_true,aP,db,dR,dn,nl];show _=_;rw[NV,aA];simp
   | true=>
    rw[NV,aA,if_pos rfl]at aH;simp only[aRc,amW,aQv,fS];have yJ:VJ f (some (eB s),first++[(k:Int)],e,l,(l,ad,a++oF s e n first k,false),()) s n (a++oF s e n first k) (t++z++b):=by
     refine⟨⟨rfl,ag⟩,by grind,by omega,rfl,rfl,?_,rfl⟩;grind
    refine⟨⟨s,n,_,_,yJ⟩,λy bf=>?_⟩;obtain⟨nH,⟨ahL,ahM,VK,br⟩,aA8⟩:=y;obtain⟨c6,cM,hU,lK⟩:=bf;change ahL=l at c6;change ahM=ad at cM;subst c6;subst cM;cases nH with
    | false=>
     have a7:br=true:=lK rfl;subst a7;simp only[aRh,if_true,aP,dR,uU];simp
    | true=>
     obtain⟨bR,er⟩:=hU rfl;change br=false at bR;change VK=(a++oF s e n first k)++mv s e (s.2.2.2.1.length - (first++[(k:Int)]).length) (first++[(k:Int)]) at er;have yR:s.2.2.2.1.length - (first++[(k:Int)]).length=n:=by grind
     rw[yR]at er;subst bR;subst er;simp only[aRc,amW,aQv,aP,dR,db,dn,nl];show _=_;rw[NV,aA,if_pos rfl];simp
  ·rintro q rfl;have mF:List.take first.length first=first:=aQ4
   have fx:((0:Int)<=0/\0<=(first.length:Int)/\(first.length:Int)=(first.length:Int)/\(first.length:Int)<=(first.length:Int))=True:=by simp
   have o7:(0<Add.add 0 1/\b2 (Add.add first.length (Add.add 0 1))):=⟨by decide,by show b2 (first.length+1);unfold b2;omega⟩
   simp only[Int.lt_irrefl,aQ9,amW,aQv,aP,dR,db,fx,mF,aQI,aR1];by_cases he:e=0
   ·have Dg:mv s e (n+1) first=oF s e n first s.2.2.1.length:=by
     show oF s e n first s.2.2.1.length++(if e=0 then [] else mv s e n (first++[-1]))=_
     grind
    simp only[he,aR8,aRc,amW,aQv,false_imp_iff,ck,Bool.true_or,dR,aR5,aRx,aQZ];grind
   ·have Dg:mv s e (n+1) first=oF s e n first s.2.2.1.length++mv s e n (first++[-1]):=by
     show oF s e n first s.2.2.1.length++(if e=0 then [] else mv s e n (first++[-1]))=_
     grind
    simp only[he,aQ9,aRh,if_true,true_imp_iff,ck,aRj,aRx,aQZ];rw[bd (by simp),bd (by omega)];have yJ:VJ f (some (eB s),first++[-1],e,l,(l,ad,a++oF s e n first s.2.2.1.length,false),()) s n (a++oF s e n first s.2.2.1.length) b:=by
     refine⟨⟨rfl,ag⟩,by grind,by omega,rfl,rfl,?_,rfl⟩;grind
    rw[fS];refine⟨⟨s,n,_,_,yJ⟩,λy bf=>dR.2 ?_⟩;obtain⟨nH,⟨ahL,ahM,VK,br⟩,aA8⟩:=y;obtain⟨c6,cM,hU,lK⟩:=bf;refine⟨c6,cM,λh=>?_,lK⟩;obtain⟨bR,er⟩:=hU h;change VK=(a++oF s e n first s.2.2.1.length)++mv s e (s.2.2.2.1.length - (first++[(-1:Int)]).length) (first++[-1]) at er;grind
theorem aA9(f:Nat)(x):a_ (TX Ca.sh (u_ f) sj.sh x) (u_ (f+1) x):=λh=>by
 obtain⟨o,first,e,l,⟨ev,ad,p,ae⟩,u⟩:=x;obtain⟨s,n,a,b,ak⟩:=h;obtain⟨⟨aC,ag⟩,E,M,al,a7,bR,er⟩:=ak;change o=_ at aC;change ev=l at al;change ae=false at a7;change p=a at er;change ad=_ at bR;change first.length+n=_ at E
 change _ at bR;subst aC;subst al;subst a7;subst er;have yR:(qS (some (eB s))).2.2.2.1.length - first.length=n:=by show s.2.2.2.1.length - first.length=n;omega
 refine c8.mono (aA3 ag E M bR) λy bf=>⟨bf.1,bf.2.1,λh=>?_,bf.2.2.2⟩
 obtain⟨aO,aT⟩:=bf.2.2.1 h;refine⟨aO,?_⟩;rw[aT];show _=p++mv (qS (some (eB s))) e ((qS (some (eB s))).2.2.2.1.length - first.length) first
 rw[yR];rfl
theorem aA_(x):¬(u_ 0 x).fr:=λ⟨s,n,a,b,h⟩=>by have:=h.cX;omega
def nY(e:Int)(s:bN):List (z1'):=mv s e s.2.2.2.1.length []
def Ck(o:Option f_):Prop:=∃ s,zA o s
def NW(o:Option f_):List (z1'):=nY 1 (qS o)
def VL(o:Option f_):List (z1'):=nY 0 (qS o)
theorem aA'(s:bN)(ag:oD s)(l:Nat):c8 (MR (u_ 10) (some (eB s),l,(l,(λT=>T=nY 1 s),[],false),())) λy=>y.1.1=l/\y.1.2.1=(λT=>T=nY 1 s)/\(y.1.2.2.2=false->y.1.2.2.1=nY 1 s):=by
 unfold MR;rw[fS];have E5:=ag.x6;refine⟨⟨s,s.2.2.2.1.length,[],[],⟨rfl,ag⟩,by simp,by omega,rfl,rfl,by show (λT=>T=nY 1 s)=_;simp[nY],rfl⟩,λy bf=>dR.2 ?_⟩;obtain⟨c6,cM,hU,lK⟩:=bf;refine⟨c6,cM,λh=>?_⟩;cases E:y.1 with
 | false=>grind
 | true=>
  obtain⟨_,al⟩:=hU E;show y.2.1.2.2.1=_;rw[al];rfl
theorem aBa(s:bN)(ag:oD s)(l:Nat):c8 (MS (u_ 10) (some (eB s),l,(l,(λT=>T=nY 0 s),[],false),())) λy=>y.1.1=l/\y.1.2.1=(λT=>T=nY 0 s)/\(y.1.2.2.2=false->y.1.2.2.1=nY 0 s):=by
 unfold MS;rw[fS];have E5:=ag.x6;refine⟨⟨s,s.2.2.2.1.length,[],[],⟨rfl,ag⟩,by simp,by omega,rfl,rfl,by show (λT=>T=nY 0 s)=_;simp[nY],rfl⟩,λy bf=>dR.2 ?_⟩;obtain⟨c6,cM,hU,lK⟩:=bf;refine⟨c6,cM,λh=>?_⟩;cases E:y.1 with
 | false=>grind
 | true=>
  obtain⟨_,al⟩:=hU E;show y.2.1.2.2.1=_;rw[al];rfl
theorem VM{A af:Type}{body:A->af->L (dU×A)}(g:A->af->A)(I:A->Prop):∀ (l:List af) (s:A),I s->(∀ x∈l,∀ s,I s->body s x=mpure (dU.normal,g s x)/\I (g s x))->kr body l s=mpure (dU.normal,l.foldl g s)
 | [],s,_,_=>rfl
 | x::l,s,fk,h=>by
  obtain⟨E,M⟩:=h x (by simp) s fk;unfold kr;rw[E,aP];exact VM g I l (g s x) M λy bf=>h y (am2 _ bf)
theorem VN{s:bN}{e:Int}:∀ {n:Nat} {first y:z1'},y∈mv s e n first->y.length=first.length+n/\∀ p∈y,p∈first\/p=-1\/(0<=p/\p<(s.2.2.1.length:Int))
 | 0,first,y,h=>by
  simp  [mv]at h;grind
 | n+1,first,y,h=>by
  simp only[mv,aRH,List.mem_flatMap]at h;rcases h with⟨p,ak,h⟩ | h
  ·split at h
   ·obtain⟨E,M⟩:=VN h;grind
   grind
  ·split at h
   ·grind
   ·obtain⟨E,M⟩:=VN h;grind
theorem VO{e:Int}{y:z1'}(h:y∈nY e s):y.length=s.2.2.2.1.length/\qR s y:=by
 obtain⟨E,M⟩:=VN h;have E:y.length=s.2.2.2.1.length:=by grind
 refine⟨E,by omega,λp ak=>?_⟩;grind
theorem aBb(s:bN):qR s (List.replicate s.2.2.2.1.length (-1)):=⟨by simp,λp ak=>by grind⟩
def x'(s:bN)(b y:z1'):z1':=if (decide (x8 s y > x8 s b)&&tK s y)=true then y else b
def I7(s:bN):z1':=(nY 1 s).foldl (x' s) (List.replicate s.2.2.2.1.length (-1))
theorem ahN{s:bN}:∀ (l:List (z1')) (b:z1'),(∀ y∈l,y.length=s.2.2.2.1.length/\qR s y)->(b.length=s.2.2.2.1.length/\qR s b)->((l.foldl (x' s) b).length=s.2.2.2.1.length/\qR s (l.foldl (x' s) b))
 | [],b,_,U=>U
 | y::l,b,ai,U=>by
  refine ahN l _ (λz bz=>ai z (am2 _ bz)) ?_;unfold x';grind
theorem aBc(s:bN):(I7 s).length=s.2.2.2.1.length/\qR s (I7 s):=ahN _ _ (λ_ h=>VO h) ⟨by simp,aBb s⟩
abbrev VP:aQ:=⟨zy,hG,λo=>∃ s,zA o s,λo=>I7 (qS o)⟩
theorem aBd(s:bN)(ag:oD s):TU NJ.sh Cj.sh zB.sh Ck NW (some (eB s))=mpure (I7 s):=by
 unfold TU aY dy nf v_;have E5:=ag.x6;have hA:(eB s).1=s:=rfl;have hW:Ck (some (eB s)):=⟨s,rfl,ag⟩
 have VQ:NW (some (eB s))=nY 1 s:=rfl;simp only[aQG,aQs,ck,cD,hA,aQ.sh,e7,VQ];rw[bd (by grind),bd hW];simp only[aQI];rw[VM (λb y=>(some (eB s),x' s b.2.1 y,())) (λb=>b.1=some (eB s)/\b.2.1.length=s.2.2.2.1.length) (nY 1 s) (some (eB s),List.replicate s.2.2.2.1.length (-1),()) ⟨rfl,by simp⟩ ?_]
 ·have aC:∀ (l:List (z1')) (b:z1'),l.foldl (λb y=>(some (eB s),x' s b.2.1 y,())) (some (eB s),b,())=(some (eB s),l.foldl (x' s) b,()):=by
   intro l;induction l<;>grind
  rw[aC,aP];rfl
 ·intro y bf b U;obtain⟨dv,fc,aBe⟩:=b;obtain⟨oo,xe⟩:=U;subst oo;obtain⟨Bo,xx⟩:=VO bf;have fU:zB.pre (some (eB s),y):=⟨s,⟨rfl,ag⟩,by grind⟩
  have fW:zB.pre (some (eB s),fc):=⟨s,⟨rfl,ag⟩,by grind⟩
  have mB:Cj.pre (some (eB s),y):=⟨s,⟨rfl,ag⟩,xx⟩
  refine⟨?_,rfl,?_⟩
  ·simp only[sb,iK,bd fU,bd fW,aR1,aRx,x'];have c6:∀ c,(c->c/\(∃ p0,zA (some (eB s)) p0/\qR p0 y)):=λc h=>⟨h,mB⟩
   rw[bd (c6 _)];have aF:qS (some (eB s))=s:=rfl;simp only[aF];cases hc:(decide (x8 s y > x8 s fc)&&tK s y)<;>simp
  ·unfold x';grind
theorem aBf(x):a_ (TU NJ.sh Cj.sh zB.sh Ck NW x) (VP.sh x):=bu λh=>by
 obtain⟨s,aC,ag⟩:=h;subst aC;exact aBd s ag
theorem NX{cb:Bool}(h:nt s cb=0):Cb s cb=(some (eB s),0):=by simp[Cb,h]
theorem NY{cb:Bool}(h:nt s cb≠0):Cb s cb=(none,nt s cb):=by simp[Cb,h]
def zD(s:bN)(cb:Bool):z11':=if nt s cb≠0 then (0,nt s cb) else (x8 s (I7 s),0)
abbrev VR:aQ:=⟨.aw nr d_,.aw bK bK,λx=>h0 x.1,λx=>zD x.1 x.2⟩
theorem aBg(x):a_ (adz E3.sh VP.sh zB.sh x) (VR.sh x):=bu λh=>by
 unfold adz bl;show _=mpure (zD x.1 x.2);unfold zD;simp only[aQ.sh,e7];rw[bd (by omega)];by_cases aj:nt x.1 x.2=0
 ·have ag:=E2 h (E1 aj).1;simp only[NX aj,aj,aQv];rw[bd (by exact⟨x.1,rfl,ag⟩),bd (by exact⟨x.1,⟨rfl,ag⟩,aSb (aBc x.1).1⟩)];rfl
 ·simp[NY aj,aj]
abbrev E9:aQ:=⟨nr,.aw bK bK,h0,λs=>zD s true⟩
theorem aBh(x):a_ (adt VR.sh x) (E9.sh x):=bu λh=>by
 unfold adt;simp  [aQ.sh];simp_all
def I8(s:bN)(n:Int)(y:z1'):Int:=if (!(nX s y).2||!I6 (eB s) (nX s y).1)=true then n else if (decide (n=-1)||decide (Ci (eB s) (nX s y).1<n))=true then Ci (eB s) (nX s y).1 else n
def NZ(s:bN):Int:=(nY 0 s).foldl (I8 s) (-1)
def E_(s:bN):z11':=if nt s true≠0 then (0,nt s true) else if NZ s=-1 then (0,3) else (NZ s,0)
abbrev N0:aQ:=⟨nr,.aw bK bK,h0,E_⟩
theorem aBi(x):a_ (adu E3.sh Ck VL NR.sh VF.sh NU.sh x) (N0.sh x):=bu λh=>by
 unfold adu fZ cj bJ bl;show _=mpure (E_ x);unfold E_;simp only[aQ.sh,e7];rw[bd (by omega)];by_cases aj:nt x true=0
 ·have ag:=E2 h (E1 aj).1;have hW:Ck (some (eB x)):=⟨x,rfl,ag⟩
  have VQ:VL (some (eB x))=nY 0 x:=rfl;simp only[NX aj,VQ];rw[bd hW];rw[VM (λb y=>(some (eB x),I8 x b.2.1 y,())) (λb=>b.1=some (eB x)) (nY 0 x) (some (eB x),-1,()) rfl ?_]
  ·have aC:∀ (l:List (z1')) (b:Int),l.foldl (λb y=>(some (eB x),I8 x b.2.1 y,())) (some (eB x),b,())=(some (eB x),l.foldl (I8 x) b,()):=by
    intro l;induction l<;>grind
   rw[aC,aP];show (if decide (NZ x=-1)=true then mpure ((0),(3)) else mpure (NZ x,0))=_;grind
  ·intro y bf b U;obtain⟨dv,fc,aBe⟩:=b;subst U;obtain⟨Bo,xx⟩:=VO bf;have HE:=ahI ag xx;have fU:∃ p0,zA (some (eB x)) p0/\qR p0 y:=⟨x,⟨rfl,ag⟩,xx⟩
   have fH:=h.2.1;have fW:∃ t,some (eB x)=some t/\t.1.2.1.length<2 ^ 63/\(nX x y).1.length<2 ^ 63:=⟨_,rfl,fH,by omega⟩
   have mB:∃ t,some (eB x)=some t/\t.2.1.length<=200/\(nX x y).1.length<=1000:=⟨_,rfl,ahH ag,by omega⟩
   have aF:qS (some (eB x))=x:=rfl;have bB:Option.getD (some (eB x)) Cc=eB x:=rfl;simp only[aF,bB];rw[bd fU];simp only[fW,aQZ,ck];rw[bd (by omega)];unfold I8;cases E:(nX x y).2
   ·simp
   ·cases M:I6 (eB x) (nX x y).1
    ·simp
    ·cases al:(decide (fc=-1)||decide (Ci (eB x) (nX x y).1<fc))<;>simp
 ·simp[NY aj,aj]
def sx(s:bN)(w p:Int):z1':=(List.replicate s.2.2.2.1.length (-1)).set w.toNat p
def ahO(s:bN)(w:Int):z1':=((List.range s.2.2.1.length).filter λ(p:Nat)=>tK s (sx s w (p:Int))).map λ(p:Nat)=>(p:Int)
def ya(s:bN)(w:Int):z19':=if nt s (B_ s w)≠0 then ([],nt s (B_ s w)) else (ahO s w,0)
abbrev N1:aQ:=⟨.aw nr bK,.aw hG bK,λx=>h0 x.1,λx=>ya x.1 x.2⟩
theorem ahP{af bet:Type}{p:af->Bool}{g:af->bet}:∀ (l:List af) (b:List bet),l.foldl (λb x=>if p x=true then b++[g x] else b) b=b++(l.filter p).map g
 | [],b=>by simp
 | x::l,b=>by
  simp;rw[ahP l];grind
theorem aBj{w:Int}{p:Nat}(ak:p<s.2.2.1.length):qR s (sx s w (p:Int)):=by
 refine⟨by simp[sx],λq bC=>?_⟩;unfold sx at bC;grind
theorem aBk(x):a_ (adv E3.sh Vm.sh zv Cj.sh x) (N1.sh x):=bu λh=>by
 obtain⟨s,w⟩:=x;change h0 s at h;unfold adv cy bJ bl bh aY bS b4 bg ed bY dy nf;show _=mpure (ya s w);unfold ya;simp only[aQ.sh,sb,iK];rw[bd (by omega),bd (by omega)];by_cases aj:nt s (B_ s w)=0
 ·have ag:=E2 h (E1 aj).1;have hw:=aAh.1 (E1 aj).2.1;have E5:=ag.x6;have aA4:=ag.NN;simp only[NX aj,aj,aQv];unfold zv;simp only[e7,cD];rw[bd (by grind)];rw[eW (List.range s.2.2.1.length) (λi b=>(w,some (eB s),(s.2.2.1.length:Int),(i:Int),b.1,b.2,())) (λp b=>.az (if tK s (sx s w p)=true then b.1++[(p:Int)] else b.1,sx s w p)) (λb=>.az (b.1,())) (λi b=>b.1.length<=i/\∀ p,b.2.set w.toNat p=sx s w p) ([],List.replicate s.2.2.2.1.length (-1)) ?_ ?_ ?_ ?_]
  ·rw[ew];have aC:∀ (l:List Nat) (b:z34'),(l.foldl (λb (p:Nat)=>(if tK s (sx s w p)=true then b.1++[(p:Int)] else b.1,sx s w p)) b).1=l.foldl (λb (p:Nat)=>if tK s (sx s w p)=true then b++[(p:Int)] else b) b.1:=by
    intro l;induction l<;>grind
   rw[aC,ahP,aP];rfl
  ·rfl
  ·exact⟨amY _,λp=>rfl⟩
  ·intro i G b U;have G:i<s.2.2.1.length:=by grind
   have mN:=bA (n:=i+1);obtain⟨dv,fc⟩:=b;obtain⟨oo,xe⟩:=U;change dv.length<=i at oo;have o7:b2 (dv.length+(0+1)):=by unfold b2;omega
   have hlen:=by
    have:=congrArg List.length (xe 0);simpa [sx]using this
   have yX:0<=w/\w<fc.length:=by omega
   refine⟨?_,λbk dZ=>?_⟩
   ·simp only[dQ G,yX,aRx,ck,xe];rw[bd (by exact⟨s,⟨rfl,ag⟩,aBj G⟩)];have aF:qS (some (eB s))=s:=rfl;simp  [aF,bd o7];cases tK s (sx s w i)<;>simp[mN]
   ·cases dZ;refine⟨?_,λp=>?_⟩
    ·grind
    ·unfold sx;simp
  simp
 ·simp[NY aj,aj]
def E'(s:bN)(dp:z1'):z11':=if nt s (zx s dp)≠0 then (0,nt s (zx s dp)) else if (!tK s dp)=true then (0,3) else (x8 s dp,0)
abbrev N2:aQ:=⟨.aw nr hG,.aw bK bK,λx=>h0 x.1/\x.2.length<2 ^ 63,λx=>E' x.1 x.2⟩
theorem aBl(h:zx s dp=true):dp.length=s.2.2.2.1.length/\qR s dp:=by
 unfold zx at h;simp  at h;obtain⟨E,M⟩:=h;refine⟨by omega,by omega,λp ak=>?_⟩;obtain⟨i,G,rfl⟩:=List.mem_iff_getElem.1 ak;have:=E i G;have ka:dp.getD i 0=dp[i]:=by grind
 unfold zw at this;simp only[aQH,am0,amX,aAi]at this;omega
theorem aBm(x):a_ (ady E3.sh Cj.sh NM.sh zB.sh x) (N2.sh x):=bu λh=>by
 obtain⟨s,dp⟩:=x;obtain⟨ax,ai⟩:=h;unfold ady bl dy nf;show _=mpure (E' s dp);unfold E';simp only[aQ.sh,sb,iK];have ak:NM.pre (s,dp):=⟨ax,ai⟩
 rw[bd (by omega),bd (by omega)];by_cases aj:nt s (zx s dp)=0
 ·have ag:=E2 ax (E1 aj).1;obtain⟨Dq,xm⟩:=aBl (E1 aj).2.1;simp only[NX aj,aj,ne_eq,not_true,aQ9,e7];rw[bd (by exact⟨s,⟨rfl,ag⟩,xm⟩)];have aF:qS (some (eB s))=s:=rfl;simp only[aF];cases aC:tK s dp with
  | false=>simp
  | true=>
   simp only[aRc,amW,aQv];rw[bd (by exact⟨s,⟨rfl,ag⟩,aSb Dq⟩)]
 ·simp[NY aj,aj]
def zE(s:bN):Prop:=Vf s.1/\s.2.1.length<=2000000/\s.2.2.1.length<=2000000/\s.2.2.2.1.length<=2000000/\s.2.2.2.2.1.length<=2000000/\(∀ p∈s.2.2.1,p.2.2.2.2.length<=2000000)/\∀ x∈s.2.2.2.1,x.1.length<=2000000
theorem aBn(ag:oD s):zE s:=by
 have azx:=IK ag.qM.2;refine⟨⟨by omega,by omega,by omega,λm hm=>?_⟩,by have:=ag.IZ;omega,by have:=ag.NN;omega,by have:=ag.x6;omega,by have:=ag.Vq;omega,λp ak=>by have:=(Vw ag ak).2.1;omega,λx an=>?_⟩
 ·have m_:=(ES ag.qM.2).2.2.1 m hm;simp only[tF,amX,aQA,aQE,aQL]at m_;refine⟨by omega,λs' vy=>?_⟩;have:=m_.2 s' vy;simp only[sr,amX,am0]at this;omega
 ·have:=ag.ahk x an;simp only[u6,cz,amX,am0]at this;omega
abbrev N3:aQ:=⟨nr,nr,zE,λs=>s⟩
theorem aBo{fs:Type}(x:bN)(h:zE x)(fin:bN->L fs):TK xM.sh x fin=fin x:=by
 obtain⟨E,M,al,a7,bR,er,jj⟩:=h;unfold TK hy bF bh bS b4 bg fx bY;simp  [aQ.sh];have fC:b2 (0+x.2.1.length):=by grind [b2]
 have fR:b2 (0+x.2.2.1.length):=by grind [b2]
 have FX:b2 (0+x.2.2.2.1.length):=by grind [b2]
 have aPV:b2 (0+x.2.2.2.2.1.length):=by grind [b2]
 rw[e2 x.2.2.1 (λi (_)=>((i:Int),x,0,0,x.1.1,x.1.2.1,x.1.2.2.1,x.1.2.2.2,x.2.2.2.2.2,x.2.1,x.2.2.1,x.2.2.2.1,x.2.2.2.2.1,())) (λp b=>.az b) (λ_=>.az (x,0,0,x.1.1,x.1.2.1,x.1.2.2.1,x.1.2.2.2,x.2.2.2.2.2,x.2.1,x.2.2.1,x.2.2.2.1,x.2.2.2.2.1,())) () ?_ ?_ ?_]
 ·rw[ew,aP,db];rw[e2 x.2.2.2.1 (λi (_)=>((i:Int),x,0,0,x.1.1,x.1.2.1,x.1.2.2.1,x.1.2.2.2,x.2.2.2.2.2,x.2.1,x.2.2.1,x.2.2.2.1,x.2.2.2.2.1,())) (λp b=>.az b) (λ_=>.az (0,0,x.1.1,x.1.2.1,x.1.2.2.1,x.1.2.2.2,x.2.2.2.2.2,x.2.1,x.2.2.1,x.2.2.2.1,x.2.2.2.2.1,())) () ?_ ?_ ?_]
  ·simp_all[ew]
  ·rfl
  ·intro i G b;have mN:=bA (n:=i+1);have mE:b2 (0+x.2.2.2.1[i].1.length):=by grind [b2]
   have ra:x.2.2.2.1.set i (x.2.2.2.1[i].1,x.2.2.2.1[i].2)=x.2.2.2.1:=aRo G;simp_all
  simp
 ·rfl
 ·intro i G b;have mN:=bA (n:=i+1);have mE:b2 (0+x.2.2.1[i].2.2.2.2.length):=by grind [b2]
  have ra:x.2.2.1.set i (x.2.2.1[i].1,x.2.2.1[i].2.1,x.2.2.1[i].2.2.1,x.2.2.1[i].2.2.2.1,x.2.2.1[i].2.2.2.2)=x.2.2.1:=aRo G;simp_all
 simp
theorem aBp(x):a_ (TK xM.sh x mpure) (N3.sh x):=bu λh=>aBo x h _
def ahQ(s:bN):Int:=(s.2.2.1.map λp=>(p.2.2.2.2.length:Int)).foldl (·+·) 0
def u'(s:bN):Bool:=
 if (nm s.1||decide ((s.2.1.length:Int) > 40)||decide ((s.2.2.1.length:Int) > 40)||decide ((s.2.2.2.1.length:Int) > 40)||decide ((s.2.2.2.2.1.length:Int) > 40))=true then true
 else if (s.2.2.1.any λp=>decide ((p.2.2.2.2.length:Int) > 40))=true then true
 else if (s.2.2.2.1.any λx=>decide ((x.1.length:Int) > 40))=true then true
 else if l3 s≠0 then false
 else decide ((s.2.2.2.1.length:Int) > 3)||decide ((s.2.2.1.length:Int) > 4)||decide ((s.2.2.2.2.1.length:Int) > 3)||decide (ahQ s > 4)
abbrev N4:aQ:=⟨nr,d_,h0,u'⟩
theorem aBq(x):a_ (agQ sw.sh zk.sh x) (N4.sh x):=bu λh=>by
 change h0 x at h;unfold agQ e1 dr gx bF bl bh aY bS di b4 bg jL ku;show _=mpure (u' x);unfold u';simp only[aQ.sh,e7,cD];rw[bd (by exact h.1)];obtain⟨dT,eo,ko,g4,rf,xw,g7⟩:=id h;by_cases E:(nm x.1||decide ((x.2.1.length:Int) > 40)||decide ((x.2.2.1.length:Int) > 40)||decide ((x.2.2.2.1.length:Int) > 40)||decide ((x.2.2.2.2.1.length:Int) > 40))=true
 ·grind
 ·rw[if_neg E,if_neg E];simp only[aQH,am0,not_or]at E;rw[e2 x.2.2.1 (λi (_:Unit)=>((i:Int),x,())) (λp u=>if decide ((p.2.2.2.2.length:Int) > 40)=true then .aX (.aX true) else .az u) (λ_=>.az (x,())) () ?_ ?_ ?_]
  ·rw[uV (p:=λp:ow=>decide ((p.2.2.2.2.length:Int) > 40))];by_cases M:(x.2.2.1.any λp=>decide ((p.2.2.2.2.length:Int) > 40))=true
   ·simp only[M,if_true,aP,uU]
   ·simp only[M,amW,aQv,aP,db];rw[e2 x.2.2.2.1 (λi (_:Unit)=>((i:Int),x,())) (λp u=>if decide ((p.1.length:Int) > 40)=true then .aX (.aX true) else .az u) (λ_=>.az (x,())) () ?_ ?_ ?_]
    ·rw[uV (p:=λp:lB=>decide ((p.1.length:Int) > 40))];by_cases al:(x.2.2.2.1.any λx=>decide ((x.1.length:Int) > 40))=true
     ·simp only[al,if_true,aP,uU]
     ·simp only[al,amW,aQv,aP,db];rw[bd (by exact h)];by_cases he:l3 x=0
      ·simp only[he,ne_eq,not_true,aQ9,amW,aQv];have U:∀ p∈x.2.2.1,p.2.2.2.2.length<=40:=λp ak=>by
        grind
       rw[eW x.2.2.1 (λi (n:Int)=>(n,(i:Int),x,())) (λp n=>.az (n+(p.2.2.2.2.length:Int))) (λn=>.az (n,x,())) (λi n=>0<=n/\n<=40*i) 0 ?_ ?_ ?_ ?_]
       ·rw[ew,aP,db];unfold ahQ;rw[List.foldl_map]
       ·rfl
       ·simp
       ·intro i G n aA;have mN:=bA (n:=(i:Int)+1);have aPW:=U _ (amV G);have EZ:=bA (n:=n+(x.2.2.1[i].2.2.2.2.length:Int));refine⟨?_,λbk dZ=>?_⟩
        ·simp only[dQ G,if_true,dH G,ck,d' G,dn,mN,EZ];rfl
        grind
       simp
      grind
    ·rfl
    ·intro i G u;have mN:=bA (n:=(i:Int)+1);simp only[dQ G,if_true,dH G,ck,d' G,aP,dn,mN];exact pO (mk:=λ_:Unit=>((i:Int)+1,x,()))
    simp
  ·rfl
  ·intro i G u;have mN:=bA (n:=(i:Int)+1);simp only[dQ G,if_true,dH G,ck,d' G,aP,dn,mN];exact pO (mk:=λ_:Unit=>((i:Int)+1,x,()))
  simp
def Fa:bN:=(NC,[1,0,0,0],[(1,60,0,0,[0]),(1,60,7,0,[]),(2,65,0,1,[0]),(2,60,0,0,[0,1])],[([1],(55,65),7,3,500),([1,2],(60,60),0,5,400),([2],(60,70),9,8,700),([2],(65,65),0,5,300)],[(4,2,1),(6,3,1)],2)
abbrev N5:aQ:=⟨.dc,nr,λ_=>True,λ_=>Fa⟩
theorem aBr(x):a_ (agR Vg.sh x) (N5.sh x):=bu λ_=>by
 unfold agR;simp only[aQ.sh,e7,ck];rfl
theorem aBs:h0 Fa:=by
 refine⟨azQ,by decide,by decide,by decide,by decide,?_,?_⟩
 ·intro p ak;simp only[Fa,aRK,aRW,or_false]at ak;grind
 ·intro x an;simp only[Fa,aRK,aRW,or_false]at an;grind
end Go.Fer
namespace Go.Fer.H
variable (aym:bb->L Bool) (ayn:Unit->L Bool) (Ni:bb->L bb) (U0:bb->L Bool) (ayp:bb×bb->L Bool) (U1 aPX:bb×List bt×z1'->L (bb×Int)) (aPY:bb×bb×Int×Int×Int×Int×Int->L Bool) (BI:bb->L Int) (T5:List bt->L (List bt×Bool)) (aBt:List (List bt)->L (List bt)) (aBu:z26'->L (z14')) (T6:z14'->L (z14')) (aBv:z14'->L ((z21')×z14')) (ahR:z4'->L (z4')) (BJ:bb->L Int) (avj:List bt->L (List bt)) (avn:z19'->L Bool) (adT:bt×Int×Int×Int×Int×Int×Int->L Bool) (IE:bb×Int×Int->L (z19')) (ayo:z34'->L Bool) (IF IG:bb×Int->L (z23')) (aBw:z25'->L (List bt×Unit)) (aBx:z25'->L (z14'))
def ahS(x:bb×List bt×z1'):L (bb×Int):=
 letI c:=ahR x.1.1;letI b:=ahR x.1.2.2.2.1;ar (BI x.1) λy=>bl (y≠0) (mpure (([],[],[],[],0,0,0,0,0,0,0),y)) (ar (BI (x.1.1,x.2.1,x.2.2,x.1.2.2.2)) (λy=>bl (y≠0) (mpure (([],[],[],[],0,0,0,0,0,0,0),y)) (ar (aBt [x.1.2.1,x.2.1]) (λy=>ar (T5 y) λy=>bJ (!y.2) (mpure (([],[],[],[],0,0,0,0,0,0,0),91)) (ar (aBu ([x.1.2.2.1,x.2.2],())) (λcp=>ar (T6 (cp.1,())) λef=>ar (aBv (ef.1,())) λhg=>bJ (dr (aY y.1) 12||dr (Int.ofNat (hg.1.2-hg.1.1)) 12) (mpure (([],[],[],[],0,0,0,0,0,0,0),90)) (dy c (dy b (mpure ((L.val c [],y.1,List.drop hg.1.1 (hg.2.1.take hg.1.2),L.val b [],x.1.2.2.2.2),0))))))))))
def ahT(x:List (List bt)):L (List bt):=
 bS (λA=>letI g:=A.2.2;letI i:=g.2.2.1;letI f:=e1 A.2.1 (aY (bF g.1 i []));bl (i<g.2.1) (cy (bY i g.1 (bl (f<0) (ah False (ah False (bg (A.1,f,g.1,g.2.1,i,())))) (bg (A.1,f,g.1,g.2.1,i,())))) (λA=>bg (A.1,A.2.1,A.2.2.1,A.2.2.2.1,bh A.2.2.2.2.1,()))) (b4 (A.1,A.2.1,()))) (x,0,x,aY x,0,()) λA=>ar (aBw (A.2.1,())) λy=>bS (λA=>letI h:=A.2.2;bl (h.1<A.2.1) (bY h.1 A.1 (ah (b2 (Add.add h.2.1.length (bF A.1 h.1 []).length)) (bg (A.1,A.2.1,bh h.1,h.2.1++bF A.1 h.1 [],())))) (b4 (h.2.1,()))) (A.1,aY A.1,0,y.1,()) λA=>mpure A.1
def ahU(x:z26'):L (z14'):=
 bS (λA=>letI g:=A.2.2;letI i:=g.2.2.1;letI f:=e1 A.2.1 (aY (bF g.1 i []));bl (i<g.2.1) (cy (bY i g.1 (bl (f<0) (ah False (ah False (bg (A.1,f,g.1,g.2.1,i,())))) (bg (A.1,f,g.1,g.2.1,i,())))) (λA=>bg (A.1,A.2.1,A.2.2.1,A.2.2.2.1,bh A.2.2.2.2.1,()))) (b4 (A.1,A.2.1,()))) (x.1,0,x.1,aY x.1,0,()) λA=>ar (aBx (A.2.1,())) λy=>bS (λA=>letI h:=A.2.2;bl (h.1<A.2.1) (bY h.1 A.1 (ah (b2 (Add.add h.2.1.length (bF A.1 h.1 []).length)) (bg (A.1,A.2.1,bh h.1,h.2.1++bF A.1 h.1 [],())))) (b4 (h.2.1,()))) (A.1,aY A.1,0,y.1,()) λA=>mpure (A.1,())
def aBy(x:z14'):L ((z21')×z14'):=
 bl (aY x.1<2) (mpure ((0,x.1.length),x.1,())) (bS (λA=>letI w:=A.1;letI p:=A.2.1;letI u:=aY p;bl (w<u) (cy (bY w p (bY (cF w 1) p (bl (bF p w 0=bF p (cF w 1) 0) (ah (0<=w/\w<=u/\u<=u) (bS (λA=>letI v:=A.2.1;letI o:=A.2.2;letI y:=cF o.1 1;letI q:=o.2.1.getD (Add.add v.1 o.1.toNat) 0;letI n:=Int.ofNat (v.2-v.1);bl (o.1<n) (cy (ah (0<=o.1/\o.1<n) (ah (0<=y/\y<n) (bl (q≠o.2.1.getD (Add.add v.1 y.toNat) 0) (ah (0<=o.1/\o.1<n) (bY A.1 o.2.1 (bg (bh A.1,v,o.1,List.set o.2.1 A.1.toNat q,())))) (bg (A.1,v,o.1,o.2.1,()))))) (λA=>bg (A.1,A.2.1,bh A.2.2.1,A.2.2.2.1,()))) (b4 (A.1,o.2.1,()))) (w,(w.toNat,u.toNat),1,p,()) (λA=>letI t:=A.1.toNat;letI s:=aY A.2.1;letI m:=A.2.1.take t++List.replicate (s.toNat-t) 0++A.2.1.drop (Add.add t (List.replicate (s.toNat-t) (0:Int)).length);ah (0<=A.1/\A.1<=s/\s<=s) (ah True (ah ((0:Int)<=0/\0<=A.1/\A.1<=aY m) (j0 (di ((Int.toNat 0,t),m,())))))))) (bg (w,p,()))))) (λA=>bg (bh A.1,A.2.1,()))) (b4 (p,()))) (1,x.1,()) (λA=>mpure ((0,A.1.length),A.1,())))
end Go.Fer.H
namespace Go.Fer.H
def N6(x:z25'):L (z14'):=eF (0<=x.1/\x.1<60000) ([],())
def N7(x:z25'):L (List bt×Unit):=eF (0<=x.1/\x.1<60000) ([],())
section
variable {af fs:Type}
def N8(g:z25'->L (List af×Unit))(x:List (List af))(k:List af->L fs):L fs:=
 ar (dI (λ(A:List (List af)×Int×List (List af)×Int×Int×Unit)=>if decide (A.2.2.2.2.1<A.2.2.2.1)=true then ar (ah (0<=A.2.2.2.2.1/\
 A.2.2.2.2.1<Int.ofNat (List.length A.2.2.1)) (if decide (IntKind.wrap .i64 (Add.add A.2.1 (Int.ofNat (List.length (List.getD A.2.2.1 (Int.toNat A.2.2.2.2.1) [])))) <
 0)=true then ah False (ah False (mpure (aL.az (A.1,IntKind.wrap .i64 (Add.add A.2.1 (Int.ofNat (List.length (List.getD A.2.2.1 (Int.toNat A.2.2.2.2.1)
 [])))),A.2.2.1,A.2.2.2.1,A.2.2.2.2.1,())))) else mpure (aL.az (A.1,IntKind.wrap .i64 (Add.add A.2.1 (Int.ofNat (List.length (List.getD A.2.2.1 (Int.toNat
 A.2.2.2.2.1) [])))),A.2.2.1,A.2.2.2.1,A.2.2.2.2.1,())))) (aL.fQ λ(A:List (List af)×Int×List (List af)×Int×Int×Unit)=>mpure (aL.az (A.1,A.2.1,A.2.2.1,A.2.2.2.1,IntKind.wrap .i64 (Add.add A.2.2.2.2.1 1),()))) else ar (mpure (aL.az (A.1,A.2.1,()))) λr=>mpure (aL.aX r)) (x,0,x,Int.ofNat
 (List.length x),0,())) (aL.fQ λ(A:List (List af)×Int×Unit)=>ar (g (A.2.1,())) λy=>ar (dI (λ(A:List (List af)×Int×Int×List af×
 Unit)=>if decide (A.2.2.1<A.2.1)=true then ah (0<=A.2.2.1/\A.2.2.1<Int.ofNat (List.length A.1)) (ah (b2 (Add.add (List.length A.2.2.2.1) (List.length
 (List.getD A.1 (Int.toNat A.2.2.1) [])))) (mpure (aL.az (A.1,A.2.1,IntKind.wrap .i64 (Add.add A.2.2.1 1),A.2.2.2.1++List.getD A.1 (Int.toNat A.2.2.1) [],())))) else ar (mpure (aL.az (A.2.2.2.1,()))) λr=>mpure (aL.aX r)) (A.1,Int.ofNat (List.length A.1),0,y.1,())) (aL.fQ λ(A:List af×Unit)
 =>k A.1))
theorem ahV:∀ (l:List (List af)) (b:List af),l.foldl (λb x=>b++x) b=b++l.flatten
 | [],b=>by simp
 | x::l,b=>by simp[ahV l]
theorem ahW(g:z25'->L (List af×Unit))(aB:∀ n,0<=n->n<60000->g (n,())=mpure ([],()))(x:List (List af))(k:List af->L fs)(E:x.length<=2)(M:∀ l∈x,l.length<=40):N8 g x k=k x.flatten:=by
 unfold N8;rw[eW x (λi n=>(x,n,x,(x.length:Int),(i:Int),())) (λl n=>.az (n+(l.length:Int))) (λn=>.az (x,n,())) (λi n=>0<=n/\n<=40*i) 0 ?_ ?_ ?_ ?_]
 ·rw[ew,aP,db];have ax:∀ (l:List (List af)) (n:Int),0<=n->(∀ y∈l,y.length<=40)->0<=l.foldl (λn y=>n+(y.length:Int)) n/\l.foldl (λn y=>n+(y.length:Int)) n<=n+40*l.length:=by
   intro l;induction l<;>grind
  obtain⟨dv,fc⟩:=ax x 0 (aQB _) M;rw[aB _ dv (by omega),aP];rw[eW x (λi b=>(x,(x.length:Int),(i:Int),b,())) (λl b=>.az (b++l)) (λb=>.az (b,())) (λi b=>b.length<=40*i) [] ?_ ?_ ?_ ?_]
  ·simp_all[ew,ahV]
  ·rfl
  ·simp
  ·intro i G b U;have hw:=bA (n:=i+1);refine⟨?_,λbk dZ=>?_⟩
   ·simp only[cD,dQ G,d' G,dH G,ck,dn,hw];rw[bd (hk (by grind))];rfl
   grind
  simp
 ·rfl
 ·omega
 ·intro i G n aA;have hw:=bA (n:=i+1);have ai:=M _ (amV G);have gJ:=bA (n:=n+(x[i].length));have ay:decide (n+(x[i].length)<0)=false:=by grind
  refine⟨?_,λbk dZ=>?_⟩
  ·simp only[cD,dQ G,d' G,dH G,ck,dn,hw,gJ,ay,amW,aQv,aP,db];rfl
  grind
 simp
end
abbrev N9:aQ:=⟨.slice (.slice i'),.slice i',λx=>x.length<=2/\∀ l∈x,l.length<=40,λx=>x.flatten⟩
theorem aBz(x):a_ (ahT N7 x) (N9.sh x):=bu λh=>
 (show ahT N7 x=N8 N7 x mpure from rfl).trans (ahW _ (λn a b=>bO ⟨a,b⟩ _) x _ h.1 h.2)
def N_(x:z26'):L (z14'):=eF (x.1.length<=2/\∀ l∈x.1,l.length<=40) (x.1.flatten,())
theorem aBA(x):a_ (ahU N6 x) (N_ x):=bu λh=>
 (show ahU N6 x=N8 N6 x.1 (λl=>mpure (l,())) from rfl).trans (ahW _ (λn a b=>bO ⟨a,b⟩ _) x.1 _ h.1 h.2)
def rM(l:z1')(j:Nat):Bool:=decide (j=0)||decide (l.getD j 0≠l.getD (j - 1) 0)
def hn(l:z1')(p:Nat):z1':=((List.range p).filter (rM l)).map λj=>l.getD j 0
theorem VS(l:z1')(p:Nat):hn l (p+1)=hn l p++if rM l p=true then [l.getD p 0] else []:=by
 grind [hn,List.range_succ]
theorem aBB(l:z1')(p:Nat):(hn l p).length<=p:=by
 unfold hn;grind
variable {R:Type}
def I9:Int×(z21')×z20'->L (aL (Int×(z21')×z20') (aL (z20') R)):=
 (λ(A:Int×(z21')×z20')=>if decide (A.2.2.1<Int.ofNat (A.2.1.2 - A.2.1.1))=true then ar (ah (0<=A.2.2.1/\A.2.2.1<Int.ofNat
 (A.2.1.2 - A.2.1.1)) (ah (0<=IntKind.wrap .i64 (A.2.2.1 - 1)/\IntKind.wrap .i64 (A.2.2.1 - 1)<Int.ofNat (A.2.1.2 - A.2.1.1)) (if decide (List.getD A.2.2.2.1
 (Add.add A.2.1.1 (Int.toNat A.2.2.1)) 0≠List.getD A.2.2.2.1 (Add.add A.2.1.1 (Int.toNat (IntKind.wrap .i64 (A.2.2.1 - 1)))) 0)=true then ah (0<=A.2.2.1/\A.2.2.1
 < Int.ofNat (A.2.1.2 - A.2.1.1)) (ah (0<=A.1/\A.1<Int.ofNat (List.length A.2.2.2.1)) (mpure (aL.az (IntKind.wrap .i64 (Add.add A.1 1),A.2.1,A.2.2.1,List.set A.2.2.2.1 (Int.toNat A.1) (List.getD A.2.2.2.1 (Add.add A.2.1.1 (Int.toNat A.2.2.1)) 0),())))) else mpure (aL.az (A.1,A.2.1,A.2.2.1,A.2.2.2.1,())))))
 (aL.fQ λ(A:Int×(z21')×z20')=>mpure (aL.az (A.1,A.2.1,IntKind.wrap .i64 (Add.add A.2.2.1 1),A.2.2.2.1,()))) else ar
 (mpure (aL.az (A.1,A.2.2.2.1,()))) λr=>mpure (aL.aX r))
def zF:z20'->L (aL (z20') (aL (z14') ((z21')×z14'))):=
 (λ(A:z20')=>if decide (A.1<Int.ofNat (List.length A.2.1))=true then ar (ah (0<=A.1/\A.1<Int.ofNat (List.length A.2.1)) (ah (0<=
 IntKind.wrap .i64 (A.1 - 1)/\IntKind.wrap .i64 (A.1 - 1)<Int.ofNat (List.length A.2.1)) (if decide (List.getD A.2.1 (Int.toNat A.1) 0=List.getD A.2.1 (Int.toNat
 (IntKind.wrap .i64 (A.1 - 1))) 0)=true then ah (0<=A.1/\A.1<=Int.ofNat (List.length A.2.1)/\Int.ofNat (List.length A.2.1)<=Int.ofNat (List.length A.2.1))
 (ar (dI I9 (A.1,(Int.toNat A.1,Int.toNat (Int.ofNat (List.length A.2.1))),1,A.2.1,())) (aL.fQ λ(A:z20')=>ah (0<=A.1/\A.1<=
 Int.ofNat (List.length A.2.1)/\Int.ofNat (List.length A.2.1)<=Int.ofNat (List.length A.2.1)) (ah True (ah ((0:Int)<=0/\0<=A.1/\A.1<=Int.ofNat (List.length
 (List.take (Int.toNat A.1) A.2.1++List.replicate (Int.toNat (Int.ofNat (List.length A.2.1)) - Int.toNat A.1) 0++List.drop (Add.add (Int.toNat A.1) (List.length
 (List.replicate (Int.toNat (Int.ofNat (List.length A.2.1)) - Int.toNat A.1) (0:Int)))) A.2.1))) (ar (ar (ar (mpure ((Int.toNat 0,Int.toNat A.1),List.take
 (Int.toNat A.1) A.2.1++List.replicate (Int.toNat (Int.ofNat (List.length A.2.1)) - Int.toNat A.1) 0++List.drop (Add.add (Int.toNat A.1) (List.length (List.replicate
 (Int.toNat (Int.ofNat (List.length A.2.1)) - Int.toNat A.1) (0:Int)))) A.2.1,())) λr=>mpure (aL.aX r)) λr=>mpure (aL.aX r)) λr=>mpure (aL.aX
 r)))))) else mpure (aL.az (A.1,A.2.1,()))))) (aL.fQ λ(A:z20')=>mpure (aL.az (IntKind.wrap .i64 (Add.add A.1 1),A.2.1,()))) else
 ar (mpure (aL.az (A.2.1,()))) λr=>mpure (aL.aX r))
structure Cl(l:z1')(p:Nat)(m:z1'):Prop where
 len:m.length=l.length
 KG:m.take (hn l p).length=hn l p
 lt:(hn l p).length<p
 b9:∀ j,p<=j+1->m.getD j 0=l.getD j 0
theorem aBC{af:Type}{l:List af}{i j:Nat}{v d:af}(h:i<l.length):(l.set i v).getD j d=if j=i then v else l.getD j d:=by
 grind
variable {l:z1'}
theorem Cl.step{m:z1'}{p:Nat}(h:Cl l p m)(ak:p<l.length):Cl l (p+1) (if rM l p=true then m.set (hn l p).length (l.getD p 0) else m):=by
 have E:=h.lt;have M:=h.len;have hc:=VS l p;by_cases aj:rM l p=true
 ·rw[if_pos aj]at hc ⊢;refine⟨by grind,?_,?_,λj aM=>?_⟩
  ·rw[hc,aQW,aRQ];have aH:=h.KG;generalize hn l p=c at aH E;apply aRR;grind
  ·grind
  ·rw[aBC (by omega),if_neg (by omega)];exact h.b9 j (by omega)
 ·rw[if_neg aj,aQD]at hc;rw[if_neg aj];refine⟨M,by rw[hc];exact h.KG,by grind,λj aM=>h.b9 j (by omega)⟩
theorem aBD{m:z1'}{k p:Nat}(ai:l.length<60000)(aj:k<p)(AT:0<k)(h:Cl l p m)(ak:p<l.length) :
  I9 (R:=R) (((hn l p).length:Nat),(k,l.length),((p - k:Nat):Int),m,())=mpure (.az (((hn l (p+1)).length:Nat),(k,l.length),((p+1 - k:Nat):Int),(if rM l p=true then m.set (hn l p).length (l.getD p 0) else m),())):=by
 have E:=h.lt;have M:=h.len;have hc:=VS l p;have ch:=bA (n:=((p - k:Nat)) - 1);have dP:IntKind.wrap .i64 (((p - k:Nat))+1)=((p+1 - k:Nat)):=(bA).trans (by omega);have hM:=bA (n:=(((hn l p).length))+1);have d1:decide (((p - k))<((l.length - k)))=true:=by grind
 have cN:(0)<=((p - k:Nat):Int) - 1/\((p - k:Nat)) - 1<((l.length - k:Nat):Int):=by omega
 have fF:(0)<=(((hn l p).length))/\(((hn l p).length))<m.length:=by omega
 have aF:k+(((p - k):Int)).toNat=p:=by omega
 have bB:k+(((p - k):Int) - 1).toNat=p - 1:=by omega
 have dT:=h.b9 p (by omega);have eo:=h.b9 (p - 1) (by omega);have Qt:rM l p=decide (l.getD p 0≠l.getD (p - 1) 0):=by
  grind [rM]
 unfold I9;by_cases aPZ:rM l p=true<;>simp_all
theorem aBE{k:Nat}(ai:l.length<60000)(AT:0<k):∀ (n p:Nat) (m:z1'),l.length - p=n->p<=l.length->k<p->Cl l p m->
  ∃ dz,Cl l l.length dz/\dI (I9 (R:=R)) (((hn l p).length:Nat),(k,l.length),((p - k:Nat):Int),m,())=mpure (.az (((hn l l.length).length:Nat),dz,())):=by
 intro n;induction n with
 | zero=>
  intro p m aA ak aj h;have:p=l.length:=by omega
  subst this;refine⟨m,h,vo ?_⟩;simp_all[I9]
 | succ n aR=>
  intro p m aA ak aj h;have ak:p<l.length:=by omega
  obtain⟨dz,E,M⟩:=aR (p+1) _ (by omega) ak (by omega) (h.step ak);grind [CY,aBD]
def zG(l:z1'):(z21')×z14':=((0,(hn l l.length).length),hn l l.length++List.replicate (l.length - (hn l l.length).length) 0,())
theorem aBF(ai:l.length<60000):∀ (n p:Nat),l.length - p=n->p<=l.length->0<p->hn l p=l.take p->
  ar (dI zF ((p:Int),l,())) (aL.fQ λ(A:z14')=>mpure ((0,List.length A.1),A.1,()))=mpure (zG l):=by
 intro n;induction n with
 | zero=>
  intro p aA ak aV hc;have:p=l.length:=by omega
  subst this;have U:zF (l.length,l,())=mpure (.aX (.az (l,()))):=by
   simp_all[zF]
  rw[vo U];simp_all[zG]
 | succ n aR=>
  intro p aA ak aV hc;have ak:p<l.length:=by omega
  have ch:=bA (n:=p - 1);have dP:=bA (n:=p+1);have cN:(0)<=(p:Int) - 1/\p - 1<(l.length:Int):=by omega
  have Qt:rM l p=decide (l.getD p 0≠l.getD (p - 1) 0):=by
   unfold rM;rw[show decide (p=0)=false by grind,aRj]
  have q8:=VS l p;by_cases aj:rM l p=true
  ·have U:zF (p,l,())=mpure (.az (((p+1)),l,())):=by
    simp_all[zF]
   rw[CY U];refine aR (p+1) (by omega) ak (by omega) ?_;simp_all
  ·have heq:l.getD p 0=l.getD (p - 1) 0:=by grind
   have fk:Cl l (p+1) l:=⟨rfl,by grind,by grind,λ_ _=>rfl⟩
   obtain⟨dz,E,M⟩:=aBE   ai aV (l.length - (p+1)) (p+1) l rfl ak (by omega) fk;rw[show (hn l (p+1)).length=p by grind,show p+1 - p=1 from by omega]at M;have kY:=aBB l l.length;have u3:=E.len;have mF:=E.KG;have fF:(0)<=((hn l l.length).length:Int)/\((hn l l.length).length)<=(dz.length:Int):=by omega
   have hV:List.take (hn l l.length).length dz++List.replicate (dz.length - (hn l l.length).length) 0++List.drop ((hn l l.length).length+(List.replicate (dz.length - (hn l l.length).length) (0:Int)).length) dz=hn l l.length++List.replicate (l.length - (hn l l.length).length) 0:=by
    simp_all
   have U:zF (p,l,())=mpure (.aX (.aX (zG l))):=by
    unfold zF;simp only[cD,dQ ak,dH ak,ck,ch,cN,aRx,aQI,heq];rw[bd (by omega)];erw [M];simp only[aP,db,aQI,kv,hV];rw[bd ⟨fF.1,fF.2,aQB _⟩,bd ⟨aQB _,fF.1,by grind⟩];simp;rfl
   rw[vo U,aP,uU]
def N'(x:z14'):L ((z21')×z14'):=eF (x.1.length<60000) (zG x.1)
theorem aBG(x):a_ (aBy x) (N' x):=bu λh=>by
 obtain⟨l,u⟩:=x;change l.length<60000 at h;show (if decide (Int.ofNat l.length<2)=true then mpure ((0,l.length),l,()) else ar (dI zF (1,l,())) (aL.fQ λA=>mpure ((0,List.length A.1),A.1,())))=mpure (zG l);have qj:∀ l,l.length<2->hn l l.length=l:=λl ai=>by
  match l,ai with
  | [],_=>rfl
  | [a],_=>rfl
 by_cases M:l.length<2
 ·have ay:decide (Int.ofNat l.length<2)=true:=by grind
  simp_all[zG]
 ·have ay:¬decide (Int.ofNat l.length<2)=true:=by grind
  rw[if_neg ay];refine aBF h (l.length - 1) 1 rfl (by omega) (by omega) ?_;match l,M with
  | a::l,_=>rfl
  | [],M=>grind
end Go.Fer.H
namespace Go.Fer.H
variable {l:z1'}
theorem aBH:∀ j,j<l.length->l.getD j 0∈hn l l.length:=by
 intro j;induction j with
 | zero=>
  intro h;exact List.mem_map.2 ⟨0,List.mem_filter.2 ⟨by grind,by rfl⟩,rfl⟩
 | succ j aR=>
  grind [rM,hn]
theorem aBI{x:Int}:x∈hn l l.length<->x∈l:=by
 constructor
 ·grind [hn]
 ·intro h;obtain⟨j,aM,rfl⟩:=List.mem_iff_getElem.1 h;rw[<-xP   aM];exact aBH j aM
theorem aBJ(h:l.Pairwise (·<=·)):(hn l l.length).Pairwise (·<·):=by
 unfold hn;rw[aRS];have D:((List.range l.length).filter (rM l)).Pairwise (·<·):=aRT _ aRw;refine List.Pairwise.imp_of_mem ?_ D;intro i j G aM AX;have eM:l.getD j 0≠l.getD (j - 1) 0:=by
  grind [rM]
 have ax:=List.pairwise_iff_getElem.1 h;grind
def h'(a b:z1'):z1':=(fy 0 99).filter λid=>a.contains id||b.contains id
theorem VT(a b:Int):(fy a b).Pairwise (·<·):=by
 grind [fy,List.pairwise_lt_range]
theorem aBK{a b:z1'}(aZ:a.Pairwise (·<·))(U:b.Pairwise (·<·))(h:∀ x,x∈a<->x∈b):a=b:=by
 have aBL:a.Nodup:=aZ.imp λh=>by omega
 have o2:b.Nodup:=U.imp λh=>by omega
 have ak:=(aRy aBL o2).2 h;rw[<-En (aZ.imp λh=>by omega) (List.Perm.refl a)];exact En (U.imp λh=>by omega) ak
theorem aBM{a b:z1'}(aZ:∀ x∈a,cz x 0 99=true)(U:∀ x∈b,cz x 0 99=true):hn (hl jw (a++b)) (hl jw (a++b)).length=h' a b:=by
 refine aBK (aBJ (Uj _)) (aRT _ (VT 0 99)) λx=>?_;grind [aBI,aeW,h',rD,pS]
abbrev zH:bb:=([],[],[],[],0,0,0,0,0,0,0)
def fJ(c:bb)(more:List bt)(fA:z1'):bb:=(c.1,more,fA,c.2.2.2)
def nu(c:bb)(more:List bt)(fA:z1'):bb×Int:=
 if c_ c≠0 then (zH,c_ c) else if c_ (fJ c more fA)≠0 then (zH,c_ (fJ c more fA)) else
 if mn (c.2.1++more)=true then (zH,91) else
 if (decide (Int.ofNat (eg (c.2.1++more)).length > 12)||decide (Int.ofNat (h' c.2.2.1 fA).length > 12))=true then (zH,90) else (fJ c (eg (c.2.1++more)) (h' c.2.2.1 fA),0)
abbrev Fb:aQ:=⟨.aw kx (.aw (.slice i') hG),.aw kx bK,λx=>nC x.1/\x.2.1.length<2 ^ 63/\x.2.2.length<2 ^ 63,λx=>nu x.1 x.2.1 x.2.2⟩
abbrev I_:aQ:=⟨.slice o6,.slice o6,λx=>x.length<65536,λx=>x⟩
theorem aBN(x):a_ (aes x) (I_.sh x):=tm λh=>by
 unfold aes bJ fx;rw[fS];refine⟨⟨false,by simp⟩,λb U=>?_⟩;change b=true->x=[]at U;grind [dR,ib,hk]
structure ahX(c:bb):Prop where
 eH:c.1.length<=3
 ej:c.2.1.length<=12
 jJ:c.2.2.1.length<=12
 n4:c.2.2.2.1.length<=4
 ids:∀ s∈c.2.1,cz s.1 0 99=true
 fA:∀ n∈c.2.2.1,cz n 0 99=true
 cl:mn c.2.1=false
theorem Cm{c:bb}(h:c_ c=0):ahX c:=by
 unfold c_ at h;by_cases hc:kR c=true
 ·have kY:mn c.2.1=false:=by
   grind
  have G:=M8 hc;unfold kR u0 at hc;simp  at hc;obtain⟨⟨⟨⟨⟨bz,_⟩,_⟩,M⟩,al⟩,_⟩:=hc;exact⟨by omega,by omega,by omega,by omega,G.2,al,kY⟩
 grind
theorem aBO{a b:List bt}(aZ:a.length<=12)(U:b.length<=12)(E:∀ s∈a,cz s.1 0 99=true)(M:∀ s∈b,cz s.1 0 99=true):BQ (a++b):=
 ⟨by grind,λs ax=>(List.mem_append.1 ax).elim (E s) (M s)⟩
theorem aBP(x):a_ (ahS iU.sh Ew.sh N9.sh N_ Eo N' I_.sh x) (Fb.sh x):=bu λh=>by
 obtain⟨c,more,fA⟩:=x;obtain⟨E,M,al⟩:=h;have pA:nC (fJ c more fA):=⟨E.1,M,al,E.2.2.2⟩
 unfold ahS dr bJ bl aY dy;show _=mpure (nu c more fA);unfold nu;rw[show iU.sh (c,more,fA).1=mpure (c_ c) from bO E _,aP];by_cases aF:c_ c=0
 ·have dT:=Cm aF;rw[show iU.sh ((c,more,fA).1.1,(c,more,fA).2.1,(c,more,fA).2.2,(c,more,fA).1.2.2.2)=mpure (c_ (fJ c more fA)) from bO pA _,aP];by_cases bB:c_ (fJ c more fA)=0
  ·have eo:=Cm bB;have ej:more.length<=12:=eo.ej;have jJ:fA.length<=12:=eo.jJ;have fW:=dT.ej;have mB:=dT.jJ;have G:=aBO dT.ej eo.ej dT.ids eo.ids;rw[if_neg (by grind),if_neg (by grind),if_neg (by omega),if_neg (by omega)];rw[show N9.sh [(c,more,fA).1.2.1,(c,more,fA).2.1]=mpure (c.2.1++more) from (bO ⟨by simp,by grind⟩ _).trans (congrArg mpure (by simp)),aP];rw[show Ew.sh (c.2.1++more)=mpure (if mn (c.2.1++more)=true then ([],false) else (eg (c.2.1++more),true)) from bO G _,aP];cases hc:mn (c.2.1++more) with
   | true=>simp
   | false=>
    rw[show N_ ([c.2.2.1,fA],())=mpure (c.2.2.1++fA,()) from (bO ⟨by simp,by grind⟩ _).trans (congrArg mpure (by simp)),aP];rw[show Eo ((c.2.2.1++fA,()))=mpure (hl jw (c.2.2.1++fA),()) from bO (by grind) _,aP];rw[show N' ((hl jw (c.2.2.1++fA),()))=mpure (zG (hl jw (c.2.2.1++fA))) from bO (by grind [M2]) _];have jx:=aBM dT.fA eo.fA;unfold zG;rw[show (hn (hl jw (c.2.2.1++fA)) (hl jw (c.2.2.1++fA)).length)=h' c.2.2.1 fA from jx];rw[show I_.sh c.1=mpure c.1 from bO (by have:=dT.eH;omega) _,show I_.sh c.2.2.2.1=mpure c.2.2.2.1 from bO (by have:=dT.n4;omega) _];simp;split<;>rfl
  grind
 grind
end Go.Fer.H
namespace Go.Fer.W
abbrev wD:aa:=.slice .str
abbrev yb:aa:=.ae (.aw nr H.kx)
def dt:bc->List bc
 | []=>[[]]
 | c::s=>if c=32 then []::dt s else match dt s with
  | []=>[[c]]
  | w::l=>(c::w)::l
theorem Cn:∀ (s:bc),1<=(dt s).length/\(dt s).length<=s.length+1
 | []=>by simp[dt]
 | c::s=>by
  have:=Cn s;grind [dt]
theorem ahY:∀ (s:bc) {w:bc},w∈dt s->w.length<=s.length
 | [],w,h=>by grind [dt]
 | c::s,w,h=>by
  have aR:=@ahY s;grind [dt]
def iq:bc->Int->Int
 | [],n=>n
 | c::s,n=>if (decide ((c.toNat:Int)<48)||decide ((c.toNat:Int) > 57))=true then -1 else iq s (10*n+((c.toNat:Int) - 48))
def gm(s:bc):Int:=if (decide (s.length=0)||decide (s.length > 6)||decide (s.length > 1)&&decide ((s.getD 0 0).toNat=48))=true then -1 else iq s 0
theorem VU:∀ (s:bc) (n:Int) (k:Nat),0<=n->n<10 ^ k->iq s n<10 ^ (k+s.length)/\-1<=iq s n
 | [],n,k,aV,E=>by simp[iq];omega
 | c::s,n,k,aV,E=>by
  unfold iq;have ak:(0:Int)<10 ^ (k+(c::s).length):=Int.pow_pos (by decide);split
  ·omega
  ·rename_i hc;simp  at hc;have:=VU s (10*n+(c.toNat - 48)) (k+1) (by omega) (by omega);grind
theorem aBQ(s:bc):-1<=gm s/\gm s<=999999:=by
 unfold gm;split
 ·omega
 ·rename_i h;simp  at h;have:=VU s 0 0 (by decide) (by decide);have M:(10:Int) ^ (0+s.length)<=10 ^ 6:=by
   have:=aRE (n:=10) (by decide) (show 0+s.length<=6 by omega);grind
  omega
def wF(s:bc):Int:=match Go.Lib.atoiAll s with
 | .ok v=>v
 | .range=>Go.Lib.atoiSat s
 | _=>0
def uE(s:bc):z27':=(wF s,decide (0<=gm s))
def I'(l:List bc):Option (z1'):=if l.all (λw=>decide (0<=gm w))=true then some (l.map gm) else none
def va(n:Int):bc:=Go.Lib.itoa (IntKind.wrap .i64 n)
theorem VV(n:Int):(va n).length<=21:=by
 have:=sS .i64 n;exact Go.Lib.itoa_length_le _ this.1 this.2
abbrev wG:bc:=[111,107]
abbrev Co:bc:=[110,111]
abbrev ahZ:bc:=[110,111,110,101]
abbrev VW:bc:=[115,104,111,112]
abbrev aBR:bc:=[108,105,97,114]
abbrev aBS:bc:=[63]
def vb(l:z1'):bc:=if l=[] then ahZ else Go.Lib.join (l.map va) [32]
def tL(e:Int)(l:z1'):bc:=if e=0 then vb l else if e=3 then ahZ else Co
def Cp(x:z23'):bc:=tL x.2 [x.1.1,x.1.2]
abbrev bT(l:z1')(i:Nat):Int:=l.getD i 0
def sy(d:bD)(m:List H.bt)(v:z1'):bc×bD:=if (H.nu d.2 m v).2≠0 then (Co,d) else (wG,(d.1,(H.nu d.2 m v).1))
def sz(d:bD)(s:bN):bc×bD:=if l3 s≠0 then (Co,d) else (wG,(s,d.2))
def VX(d:bD)(l:z1'):bc×bD:=sy d [(bT l 0,bT l 1,bT l 2,1,bT l 3,bT l 4)] []
def VY(d:bD)(l:z1'):bc×bD:=sy d [(bT l 0,bT l 1,bT l 2,2,bT l 3,0)] []
def VZ(d:bD)(l:z1'):bc×bD:=sy d [] l
def V0(d:bD)(l:z1'):bc×bD:=(Cp (H.Uv d.2 (bT l 0)),d)
def V1(d:bD)(l:z1'):bc×bD:=(Cp (H.zf d.2 (bT l 0)),d)
def V2(d:bD)(l:z1'):bc×bD:=(Cp (H.xV d.2 (bT l 0)),d)
def V3(d:bD)(l:z1'):bc×bD:=(Cp (H.xW d.2 (bT l 0)),d)
def V4(r:z19'):bc:=if (decide (r.2≠0)||decide (r.1.getD 0 0>=0))=true then tL r.2 r.1 else if r.1.length=1 then VW else VW++[32]++vb (r.1.drop 1)
def V5(d:bD)(l:z1'):bc×bD:=(V4 (H.qL d.2 (bT l 0) (bT l 1)),d)
def V6(r:z1'×z19'):bc:=if r.2.2≠0 then tL r.2.2 [] else vb r.1++[32,47,32]++vb r.2.1
def V7(d:bD)(l:z1'):bc×bD:=(V6 (H.wq d.2 (bT l 0)),d)
def sA(w:bZ)(t:z28'):bZ:=(w.1,w.2.1,w.2.2.1,w.2.2.2++[t])
def Cq(d:bD)(l:z1'):bc×bD:=
 if c_ (sA d.1.1 (bT l 0,bT l 1,bT l 2,bT l 3))≠0 then (Co,d) else if (ET (sA d.1.1 (bT l 0,bT l 1,bT l 2,bT l 3)) (bT l 0)).2≠0 then (aBR,d)
 else (wG,((sA d.1.1 (bT l 0,bT l 1,bT l 2,bT l 3),d.1.2),d.2))
def x7(r:z11'):bc:=if r.2≠0 then tL r.2 [] else List.getD [[],[115,117,114,101,108,121],[110,101,118,101,114],[112,101,114,104,97,112,115]] r.1.toNat []
def V8(d:bD)(l:z1'):bc×bD:=(x7 (tI d.1.1 (bT l 0) (bT l 1) (bT l 2)),d)
def Ja(d:bD)(l:z1'):bc×bD:=if bT l 0>=(d.1.2.1.length:Int) then (Co,d) else sz d (d.1.1,d.1.2.1.set (bT l 0).toNat (d.1.2.1.getD (bT l 0).toNat 0+bT l 1),d.1.2.2)
def V9(d:bD)(l:z1'):bc×bD:=sz d (d.1.1,d.1.2.1,d.1.2.2.1,d.1.2.2.2.1,d.1.2.2.2.2.1++[(bT l 0,bT l 1,bT l 2)],d.1.2.2.2.2.2)
def V_(d:bD)(l:z1'):bc×bD:=sz d (d.1.1,d.1.2.1,d.1.2.2.1++[(bT l 0,bT l 1,bT l 2,bT l 3,l.drop 4)],d.1.2.2.2)
def V'(d:bD)(l:z1'):bc×bD:=sz d (d.1.1,d.1.2.1,d.1.2.2.1,d.1.2.2.2.1++[(l.drop 5,(bT l 0,bT l 1),bT l 2,bT l 3,bT l 4)],d.1.2.2.2.2)
def Jb(d:bD)(l:z1'):bc×bD:=if bT l 0>=(d.1.2.2.2.1.length:Int) then (Co,d) else (wG,((d.1.1,d.1.2.1,d.1.2.2.1,d.1.2.2.2.1.eraseIdx (bT l 0).toNat,d.1.2.2.2.2),d.2))
def Wa(d:bD)(l:z1'):bc×bD:=(tL (ya d.1 (bT l 0)).2 (ya d.1 (bT l 0)).1,d)
def Wb(d:bD)(l:z1'):bc×bD:=(tL (E' d.1 (l.map (· - 1))).2 [(E' d.1 (l.map (· - 1))).1],d)
def Wc(d:bD)(_:z1'):bc×bD:=(tL (zD d.1 true).2 [(zD d.1 true).1],d)
def Wd(d:bD)(_:z1'):bc×bD:=(tL (E_ d.1).2 [(E_ d.1).1],d)
def Fc:Nat->bD->z1'->bc×bD
 | 0=>VX | 1=>VY | 2=>VZ | 3=>V0 | 4=>V1 | 5=>V2 | 6=>V3 | 7=>V5 | 8=>V7 | 9=>Cq
 | 10=>V8 | 11=>Ja | 12=>V9 | 13=>V_ | 14=>V' | 15=>Jb | 16=>Wa | 17=>Wb | 18=>Wc | _=>Wd
def nZ:List (bc×Int×Bool):=[([108,101,110,100],5,false),([98,97,99,107],4,false),([118,111,105,100],1,false),([108,97,115,116,115],1,false),([102,101,101],1,false),([111,119,101,115],1,false),([104,101,108,100],1,false),([119,104,101,114,101],2,false),([109,105,115,115,105,110,103],1,false),([116,114,105,97,108],4,false),([102,105,116,115],3,false),([115,116,111,99,107],2,false),([99,111,109,101,115],3,false),([112,105,101,99,101],4,true),([119,105,115,104],5,true),([100,114,111,112],1,false),([99,97,110],1,false),([116,97,107,101,115],0,true),([109,111,115,116],0,false),([101,120,116,114,97],0,false)]
def rN(w:bc):List (bc×Int×Bool)->Nat->Option (Int×Bool×Nat)
 | [],_=>none
 | p::l,i=>if w=p.1 then some (p.2.1,p.2.2,i) else rN w l (i+1)
def wH(s:bc):Option (Nat×z1'):=
 match rN ((dt s).getD 0 []) nZ 0 with
 | none=>none
 | some (k,m,j)=>if (decide (((dt s).length:Int) - 1<k)||decide (((dt s).length:Int) - 1 > k)&&!m)=true then none else (I' ((dt s).drop 1)).map λl=>(j,l)
def pb(d:bD)(s:bc):bc×bD:=match wH s with
 | none=>(aBS,d)
 | some (j,l)=>Fc j d l
def mw:bD->List bc->List bc×bD
 | d,[]=>([],d)
 | d,s::l=>((pb d s).1::(mw (pb d s).2 l).1,(mw (pb d s).2 l).2)
theorem aBT(d:bD)(a:List bc):(mw d a).1.length=a.length:=by
 induction a generalizing d with
 | nil=>rfl
 | cons s a aR=>grind [mw]
def pc(d:bD):Int:=if (decide (l3 d.1≠0)||decide (H.c_ d.2≠0))=true then 120 else 0
def lF(d:bD):bD:=(d.1,(H.nu d.2 [] []).1)
abbrev We:bD:=((([],[],0,[]),[],[],[],[],0),[],[],[],[],0,0,0,0,0,0,0)
def Cr(d:bD)(l:List bc):List bc×bD×Int:=
 if pc d≠0 then ([],We,pc d) else if l.length > 40 then ([],We,2) else ((mw (lF d) l).1,(mw (lF d) l).2,0)
structure eQ(d:bD):Prop where
 iR:h0 d.1
 yc:l3 d.1=0
 rO:H.c_ d.2=0
 Cs:H.mq d.2.1<=60
variable {d:bD}
theorem eQ.val(h:eQ d):oD d.1:=E2 h.iR h.yc
theorem eQ.aBU(h:eQ d):pc d=0:=by simp[pc,h.yc,h.rO]
theorem eQ.Fe(h:eQ d):H.ahX d.2:=H.Cm h.rO
theorem eQ.iN{d:bD}(h:eQ d):H.iN d.2:=by
 have:=h.Fe;exact⟨⟨by have:=this.eH;omega,by have:=this.ej;omega,by have:=this.jJ;omega,by have:=this.n4;omega⟩,λ_=>h.Cs⟩
theorem eQ.nC{d:bD}(h:eQ d):H.nC d.2:=h.iN.iR
structure jc(k:Nat)(l:z1'):Prop where
 Wf:k<=l.length
 Oa:l.length<=10000
 num:∀ n∈l,0<=n/\n<=999999
theorem jc.bT{k:Nat}{l:z1'}(h:jc k l)(i:Nat):0<=bT l i/\bT l i<=999999:=by
 rcases aRs i l.length with G | G
 ·have:=h.num l[i] (by simp);grind
 grind
end Go.Fer.W
namespace Go.Fer.W
open H (hk)
abbrev Ob:aQ:=⟨.int .i64,.str,λ_=>True,va⟩
abbrev Jc:aQ:=⟨.aw wD .str,.str,λx=>x.1.length<=60000/\(∀ w∈x.1,w.length<=21)/\x.2.length=1,λx=>Go.Lib.join x.1 x.2⟩
theorem ah0:∀ (l:List bc) (s:bc) (n:Nat),(∀ w∈l,w.length<=n)->(Go.Lib.join l s).length<=l.length*(n+s.length)
 | [],s,n,h=>by simp[Go.Lib.join_nil]
 | x::r,s,n,h=>by
  rw[Go.Lib.join_cons];have aH:∀ (r:List bc),(∀ w∈r,w.length<=n)->(Go.Lib.joinTail s r).length<=r.length*(n+s.length):=by
   intro r;induction r with
   | nil=>simp[Go.Lib.joinTail]
   | cons y r aR=>
    grind [Go.Lib.joinTail,Nat.succ_mul]
  grind [Nat.succ_mul]
theorem Wg(l:z1'):(vb l).length<=l.length*22+4:=by
 unfold vb;split
 ·simp
 ·have:=ah0 (l.map va) [32] 21 λw hw=>by
   grind [VV]
  grind
abbrev Ct:aQ:=⟨hG,.str,λx=>x.length<=60000,vb⟩
theorem aBV(x):a_ (agm Ob.sh Jc.sh x) (Ct.sh x):=bu λh=>by
 unfold agm bF bl bh aY bS b4 bg ed bY;show _=mpure (vb x);unfold vb;by_cases an:x=[]
 ·grind
 ·have ai:x.length≠0:=by grind
  rw[if_neg (by grind),if_neg an];rw[eW x (λi o=>(x,(x.length:Int),(i:Int),o,())) (λn o=>.az (o++[va n])) (λo=>.az (o,())) (λi o=>o.length=i) [] ?_ rfl ?_ ?_]
  ·rw[ew,pN,aRa,aP,db];rw[show Jc.sh (x.map va,[32])=mpure (Go.Lib.join (x.map va) [32]) from bO ⟨by grind,λw hw=>by
    grind [VV],rfl⟩ _,aP]
  ·rfl
  ·intro i G o au;have hw:=bA (n:=i+1);refine⟨?_,λbk dZ=>?_⟩
   ·simp only[cD,dQ G,d' G,dH G,ck,dn,hw];rw[show Ob.sh x[i]=mpure (va x[i]) from rfl,aP,bd (hk (by grind))];rfl
   grind
  simp
abbrev tM:aQ:=⟨.aw (.int .i64) hG,.str,λx=>x.2.length<=60000,λx=>tL x.1 x.2⟩
theorem aBW(x):a_ (agl Ct.sh x) (tM.sh x):=bu λh=>by
 unfold agl bl;show _=mpure (tL x.1 x.2);unfold tL;rw[show Ct.sh x.2=mpure (vb x.2) from bO h _,aP];grind
abbrev Cu:aQ:=⟨.aw o6 (.int .i64),.str,λ_=>True,Cp⟩
theorem aBX(x):a_ (agk tM.sh x) (Cu.sh x):=bu λ_=>by
 unfold agk;rw[show tM.sh (x.2,[x.1.1,x.1.2])=mpure (Cp x) from bO (show 2<=60000 by decide) _,aP]
variable {l:z1'}
theorem Cv{e:Int}(h:l.length<=60000):tM.sh (e,l)=mpure (tL e l):=bO h _
theorem Wh(h:l.length<=60000):Ct.sh l=mpure (vb l):=bO h _
theorem Oc(x:z23'):Cu.sh x=mpure (Cp x):=rfl
def gO(k:Nat)(g:bD->z1'->bc×bD)(x:z1'×bD×Unit):L (bc×bD×Unit):=eF (eQ x.2.1/\jc k x.1) ((g x.2.1 x.1).1,(g x.2.1 x.1).2,())
theorem zI:Int.toNat 0=0:=rfl
theorem ah1:Int.toNat 1=1:=rfl
theorem aBY:Int.toNat 2=2:=rfl
theorem Cw:Int.toNat 5=5:=rfl
variable {af:Type}
theorem p1{k:Nat}(h:jc k l)(m:L af)(i:Int)(G:0<=i/\i<(k:Int)):ah (0<=i/\i<Int.ofNat l.length) m=m:=
 bd ⟨G.1,by have:=h.Wf;grind⟩ m
def Ff(x:List H.bt×z1'×bD×Unit):L (bc×bD×Unit):=eF (eQ x.2.2.1/\x.1.length<2 ^ 63/\x.2.1.length<2 ^ 63) ((sy x.2.2.1 x.1 x.2.1).1,(sy x.2.2.1 x.1 x.2.1).2,())
theorem aBZ(x):a_ (agf H.Fb.sh x) (Ff x):=bu λh=>by
 obtain⟨m,v,d,⟨⟩⟩:=x;obtain⟨ay,E,M⟩:=h;unfold agf bl;rw[show H.Fb.sh (d.2,m,v)=mpure (H.nu d.2 m v) from bO ⟨ay.nC,E,M⟩ _];unfold sy;by_cases e:(H.nu d.2 m v).2=0<;>simp[e]
variable {d:bD}
theorem Wi(ay:eQ d)(m:List H.bt)(v:z1')(E:m.length<2 ^ 63)(M:v.length<2 ^ 63):Ff (m,v,d,())=mpure ((sy d m v).1,(sy d m v).2,()):=bO ⟨ay,E,M⟩ _
theorem aB0(x):a_ (age Ff x) (gO 5 VX x):=bu λh=>by
 obtain⟨ay,ai⟩:=h;unfold age gG aY gF;simp (disch:=decide) only [p1 ai];rw[Wi ay _ _ (by simp) (by simp),aP];rfl
theorem aB1(x):a_ (agh Ff x) (gO 4 VY x):=bu λh=>by
 obtain⟨ay,ai⟩:=h;unfold agh gG aY gF;simp (disch:=decide) only [p1 ai];rw[Wi ay _ _ (by simp) (by simp),aP];rfl
theorem UB(x):a_ (agi Ff x) (gO 1 VZ x):=bu λh=>by
 obtain⟨l,d,⟨⟩⟩:=x;obtain⟨ay,ai⟩:eQ d/\jc _ l:=h;unfold agi;rw[Wi ay _ _ (by simp) (show l.length<2 ^ 63 by have:=ai.Oa;omega),aP];rfl
theorem aB2(x):a_ (agj H.Nc.sh Cu.sh x) (gO 1 V0 x):=bu λh=>by
 obtain⟨l,d,⟨⟩⟩:=x;obtain⟨ay,ai⟩:=h;unfold agj gG gF dy;simp (disch:=decide) only [p1 ai,zI];rw[show H.Nc.sh (d.2,bT l 0)=mpure _ from bO ay.iN _];simp  [Oc];rfl
theorem aB3(x):a_ (agn H.BV.sh Cu.sh x) (gO 1 V1 x):=bu λh=>by
 obtain⟨l,d,⟨⟩⟩:=x;obtain⟨ay,ai⟩:=h;unfold agn gG gF dy;simp (disch:=decide) only [p1 ai,zI];rw[show H.BV.sh (d.2,bT l 0)=mpure _ from bO ay.iN _];simp  [Oc];rfl
theorem aB4(x):a_ (ago H.BW.sh Cu.sh x) (gO 1 V2 x):=bu λh=>by
 obtain⟨l,d,⟨⟩⟩:=x;obtain⟨ay,ai⟩:=h;unfold ago gG gF dy;simp (disch:=decide) only [p1 ai,zI];rw[show H.BW.sh (d.2,bT l 0)=mpure _ from bO ay.iN _];simp  [Oc];rfl
theorem aB5(x):a_ (agp H.BX.sh Cu.sh x) (gO 1 V3 x):=bu λh=>by
 obtain⟨l,d,⟨⟩⟩:=x;obtain⟨ay,ai⟩:=h;unfold agp gG gF dy;simp (disch:=decide) only [p1 ai,zI];rw[show H.BX.sh (d.2,bT l 0)=mpure _ from bO ay.iN _];simp  [Oc];rfl
theorem ah2(c:H.bb)(u t:Int):(H.qL c u t).1.length<=101:=am5 (aQ3 ..) (by decide)
theorem aB6{c:H.bb}{u t:Int}(h:(H.qL c u t).2=0):0<(H.qL c u t).1.length:=by
 unfold H.qL at h ⊢;rcases H.EJ c (H.zg u t) with⟨E,_⟩ | ⟨E,M,al,a7⟩
 ·omega
 ·have aB:=H.o8 M;have b8:(0<=u/\u<=9)/\0<=t/\t<=9999:=by
   grind [H.zg,H.pS]
  have eM:H.dw c≠[]:=by
   grind [H.fq]
  obtain⟨w,T,aU⟩:=List.exists_cons_of_ne_nil eM;have hw:H.j2 c w=true:=H.zj (by grind);have aj:=H.afV aB hw b8.1 t;have U:-1<=H.o' c w u t/\H.o' c w u t<=99:=by
   rcases H.UX c w u t with h | ⟨s,ax,h⟩
   ·omega
   ·obtain⟨e,he,rfl⟩:=List.mem_map.1 ax;have:=H.UT aB (List.mem_filter.1 he).1;omega
  refine List.length_pos_of_mem   (List.mem_filter.2 ⟨rD.2 U,?_⟩);grind [H.Nd]
theorem aB7(x):a_ (agq H.BY.sh tM.sh Ct.sh x) (gO 2 V5 x):=bu λh=>by
 obtain⟨l,d,⟨⟩⟩:=x;obtain⟨ay,ai⟩:=h;unfold agq jq gG bl aY gF dy;simp (disch:=decide) only [p1 ai,Cw];have E:=ah2 d.2 (bT l 0) (bT l 1);have M:=aB6 (c:=d.2) (u:=bT l 0) (t:=bT l 1);have hc:H.BY.sh (d.2,bT l 0,bT l 1)=mpure (H.qL d.2 (bT l 0) (bT l 1)):=bO ay.iN _;show _=mpure (V4 (H.qL d.2 (bT l 0) (bT l 1)),d,());grind [tV,kN,bd,Cv,aP,V4,Wh,Wg,hk]
theorem aB8(c:H.bb)(t:Int):(H.wq c t).1.length<=10/\(H.wq c t).2.1.length<=10:=by
 unfold H.wq;split
 ·simp
 ·exact⟨am5 (aQ3 ..) (by decide),am5 (aQ3 ..) (by decide)⟩
theorem aB9(x):a_ (agr H.Nf.sh tM.sh Ct.sh x) (gO 1 V7 x):=bu λh=>by
 obtain⟨l,d,⟨⟩⟩:=x;obtain⟨ay,ai⟩:=h;unfold agr gG bl gF dy;simp (disch:=decide) only [p1 ai,zI];have E:=aB8 d.2 (bT l 0);have hc:H.Nf.sh (d.2,bT l 0)=mpure (H.wq d.2 (bT l 0)):=bO ay.iN _;simp only[hc];show _=mpure (V6 (H.wq d.2 (bT l 0)),d,());generalize H.wq d.2 (bT l 0)=r at *
 simp;rw[Cv (by simp),Wh (by omega),Wh (by omega)];have fC:=Wg r.1;have fR:=Wg r.2.1;unfold V6;by_cases e:r.2.2=0
 ·simp;grind [bd,hk]
 simp_all
theorem aB_(w:bZ)(i m k:Int):0<=x3 w i m k/\x3 w i m k<4:=by
 grind [x3,Ns]
theorem aB'(x):a_ (agt EV.sh tM.sh x) (gO 3 V8 x):=bu λh=>by
 obtain⟨l,d,⟨⟩⟩:=x;obtain⟨ay,ai⟩:=h;unfold agt gG bl aY gF dy;simp (disch:=decide) only [p1 ai,zI,ah1,aBY];have hc:EV.sh (d.1.1,bT l 0,bT l 1,bT l 2)=mpure (tI d.1.1 (bT l 0) (bT l 1) (bT l 2)):=bO ay.iR.1 _;simp only[hc];show _=mpure (x7 (tI d.1.1 (bT l 0) (bT l 1) (bT l 2)),d,());have E:0<=(tI d.1.1 (bT l 0) (bT l 1) (bT l 2)).1/\(tI d.1.1 (bT l 0) (bT l 1) (bT l 2)).1<4:=by
  have:=aB_ d.1.1 (bT l 0) (bT l 1) (bT l 2);grind [tI]
 generalize tI d.1.1 (bT l 0) (bT l 1) (bT l 2)=r at *
 simp;rw[Cv (by simp),bd ⟨E.1,E.2⟩];unfold x7;by_cases e:r.2=0<;>simp[e]
variable {s:bN}
theorem aCa(h:oD s)(w:Int):(ya s w).1.length<=2000:=by
 have:=h.NN;grind [ya,ahO]
theorem aCb(x):a_ (agA N1.sh tM.sh x) (gO 1 Wa x):=bu λh=>by
 obtain⟨l,d,⟨⟩⟩:=x;obtain⟨ay,ai⟩:eQ d/\jc _ l:=h;unfold agA gG gF dy;simp (disch:=decide) only [p1 ai,zI];rw[show N1.sh (d.1,bT l 0)=mpure (ya d.1 (bT l 0)) from bO ay.iR _];have:=aCa ay.val (bT l 0);simp only[tV,kN,ck];rw[Cv (show (ya d.1 (bT l 0)).1.length<=60000 by omega),aP];rfl
def Od(x:z14'):L (z14'):=eF (x.1.length<=3000000) x
theorem aCc(x):a_ (agB N2.sh Od tM.sh x) (gO 0 Wb x):=bu λh=>by
 obtain⟨l,d,⟨⟩⟩:=x;obtain⟨ay,ai⟩:eQ d/\jc _ l:=h;have hm:=ai.Oa;unfold agB bF bl bh aY bS b4 bg bY cF;rw[show Od (l,())=mpure (l,()) from bO (by grind) _,aP];rw[eW l (λi o=>((l.length:Int),(i:Int),o++l.drop i,d,())) (λn o=>.az (o++[n - 1])) (λo=>.az (o,d,())) (λi o=>o.length=i) [] ?_ rfl ?_ ?_]
 ·rw[ew,pN,aRa,aP,db,ck];rw[show N2.sh (d.1,l.map (· - 1))=mpure (E' d.1 (l.map (· - 1))) from bO ⟨ay.iR,by grind⟩ _,aP,Cv (by simp),aP];rfl
 ·simp
 ·intro i G o au;have hw:=bA (n:=i+1);have aA:=ai.num l[i] (by simp);have gJ:=bA (n:=l[i] - 1);subst au;have dx:o.length<(o++l.drop o.length).length:=by grind
  have ax:(o++l.drop o.length).set o.length (l[o.length] - 1)=o++[l[o.length] - 1]++l.drop (o.length+1):=by
   grind [List.drop_eq_getElem_cons]
  refine⟨?_,λbk dZ=>?_⟩
  ·simp only[cD,dH dx,hw];simp_all
  grind
 simp
theorem aCd(x):a_ (agC E9.sh tM.sh x) (gO 0 Wc x):=bu λh=>by
 obtain⟨l,d,⟨⟩⟩:=x;obtain⟨ay,ai⟩:=h;unfold agC;rw[ck,show E9.sh d.1=mpure (zD d.1 true) from bO ay.iR _,aP,Cv (by simp),aP];rfl
theorem aCe(x):a_ (agD N0.sh tM.sh x) (gO 0 Wd x):=bu λh=>by
 obtain⟨l,d,⟨⟩⟩:=x;obtain⟨ay,ai⟩:=h;unfold agD;rw[ck,show N0.sh d.1=mpure (E_ d.1) from bO ay.iR _,aP,Cv (by simp),aP];rfl
def Wj(x:List af×Unit):L (List af×Unit):=ar (mS λ(b:Bool)=>b=true->x.1=[]) λ(y:Bool)=>if y=true then mpure ([],()) else ah (b2 (Add.add 0 (List.length x.1))) (mpure ([]++x.1,()))
abbrev hP(t:aa):aQ:=⟨.slice t,.slice t,λx=>x.length<=3000000,λx=>x⟩
def tN(x:List af×Unit):L (List af×Unit):=eF (x.1.length<=3000000) x
theorem zJ(x:List af×Unit):a_ (Wj x) (tN x):=tm λh=>by
 unfold Wj;rw[fS];refine⟨⟨false,by simp⟩,λb U=>?_⟩;change b=true->x.1=[]at U;grind [dR,ib,b2]
theorem aCf(x:z14'):a_ (Wj x) (Od x):=zJ x
def ah3(z:af)(x:Int×Int×List af×Unit):L ((z21')×List af×Unit):=
 ah (0<=x.1/\x.1<=x.2.1/\x.2.1<=Int.ofNat (List.length x.2.2.1)/\Int.ofNat (List.length x.2.2.1)<=Int.ofNat (List.length x.2.2.1)) (if decide
 (x.1=x.2.1)=true then mpure ((0,List.length x.2.2.1),x.2.2.1,()) else ah ((0:Int)<=0/\0<=x.1/\x.1<=Int.ofNat (List.length x.2.2.1))
 (ah (0<=x.2.1/\x.2.1<=Int.ofNat (List.length x.2.2.1)/\Int.ofNat (List.length x.2.2.1)<=Int.ofNat (List.length x.2.2.1)) (ah (Add.add
 (Int.toNat x.1) (List.length (List.drop (Int.toNat x.2.1) (List.take (Int.toNat (Int.ofNat (List.length x.2.2.1))) x.2.2.1)))<=List.length x.2.2.1)
 (ah (0<=Int.ofNat (Add.add (Int.toNat x.1) (List.length (List.drop (Int.toNat x.2.1) (List.take (Int.toNat (Int.ofNat (List.length x.2.2.1)))
 x.2.2.1))) - Int.toNat 0)/\Int.ofNat (Add.add (Int.toNat x.1) (List.length (List.drop (Int.toNat x.2.1) (List.take (Int.toNat (Int.ofNat (List.length
 x.2.2.1))) x.2.2.1))) - Int.toNat 0)<=Int.ofNat (List.length x.2.2.1)/\Int.ofNat (List.length x.2.2.1)<=Int.ofNat (List.length (List.take
 (Int.toNat x.1) x.2.2.1++List.drop (Int.toNat x.2.1) (List.take (Int.toNat (Int.ofNat (List.length x.2.2.1))) x.2.2.1)++List.drop (Add.add
 (Int.toNat x.1) (List.length (List.drop (Int.toNat x.2.1) (List.take (Int.toNat (Int.ofNat (List.length x.2.2.1))) x.2.2.1)))) x.2.2.1) - Int.toNat
 0)) (ah True (mpure ((Int.toNat 0,Add.add (Int.toNat x.1) (List.length (List.drop (Int.toNat x.2.1) (List.take (Int.toNat (Int.ofNat (List.length
 x.2.2.1))) x.2.2.1)))),List.take (Add.add (Int.toNat 0) (Int.toNat (Int.ofNat (Add.add (Int.toNat x.1) (List.length (List.drop (Int.toNat x.2.1)
 (List.take (Int.toNat (Int.ofNat (List.length x.2.2.1))) x.2.2.1))) - Int.toNat 0)))) (List.take (Int.toNat x.1) x.2.2.1++List.drop (Int.toNat
 x.2.1) (List.take (Int.toNat (Int.ofNat (List.length x.2.2.1))) x.2.2.1)++List.drop (Add.add (Int.toNat x.1) (List.length (List.drop (Int.toNat
 x.2.1) (List.take (Int.toNat (Int.ofNat (List.length x.2.2.1))) x.2.2.1)))) x.2.2.1)++List.replicate (Add.add (Int.toNat 0) (Int.toNat (Int.ofNat
 (List.length x.2.2.1))) - Add.add (Int.toNat 0) (Int.toNat (Int.ofNat (Add.add (Int.toNat x.1) (List.length (List.drop (Int.toNat x.2.1) (List.take
 (Int.toNat (Int.ofNat (List.length x.2.2.1))) x.2.2.1))) - Int.toNat 0)))) z++List.drop (Add.add (Add.add (Int.toNat 0) (Int.toNat (Int.ofNat
 (Add.add (Int.toNat x.1) (List.length (List.drop (Int.toNat x.2.1) (List.take (Int.toNat (Int.ofNat (List.length x.2.2.1))) x.2.2.1))) - Int.toNat
 0)))) (List.length (List.replicate (Add.add (Int.toNat 0) (Int.toNat (Int.ofNat (List.length x.2.2.1))) - Add.add (Int.toNat 0) (Int.toNat (Int.ofNat
 (Add.add (Int.toNat x.1) (List.length (List.drop (Int.toNat x.2.1) (List.take (Int.toNat (Int.ofNat (List.length x.2.2.1))) x.2.2.1))) - Int.toNat
 0)))) z))) (List.take (Int.toNat x.1) x.2.2.1++List.drop (Int.toNat x.2.1) (List.take (Int.toNat (Int.ofNat (List.length x.2.2.1))) x.2.2.1)++
 List.drop (Add.add (Int.toNat x.1) (List.length (List.drop (Int.toNat x.2.1) (List.take (Int.toNat (Int.ofNat (List.length x.2.2.1))) x.2.2.1))))
 x.2.2.1),())))))))
def Oe(z:af)(x:Int×Int×List af×Unit):L ((z21')×List af×Unit):=eF (0<=x.1/\x.2.1=x.1+1/\x.1<(x.2.2.1.length:Int)/\x.2.2.1.length<=3000000) ((0,x.2.2.1.length - 1),x.2.2.1.eraseIdx x.1.toNat++[z],())
theorem aCg(z:af)(x):a_ (ah3 z x) (Oe z x):=bu λh=>by
 obtain⟨i,j,l,⟨⟩⟩:=x;obtain⟨aV,E,M,al⟩:0<=i/\j=i+1/\i<l.length/\l.length<=3000000:=h;subst E;obtain⟨n,rfl⟩:∃ n:Nat,i=n:=⟨i.toNat,by omega⟩
 have aF:((n:Int)+1).toNat=n+1:=by omega
 unfold ah3;simp only[cD,aQI,aF,aQ4,kv,List.length_drop];have bB:n+(l.length - (n+1))=l.length - 1:=by omega
 have c7:(l.take n++l.drop (n+1)++l.drop (l.length - 1))=l.eraseIdx n++l.drop (l.length - 1):=by grind
 have bW:(l.eraseIdx n).length=l.length - 1:=by grind
 have gS:l.length - (l.length - 1)=1:=by omega
 rw[bd (by omega),if_neg (by grind),bd (by omega),bd (by omega),bd (by omega)];rw[bB,bd (by grind),ck];grind
def zK(x:bN×Unit):L Nk:=eF (zE x.1) (lW x.1)
theorem Of{x:z1'}(h:x.length<=2000000):H.wg.sh x=mpure x:=bO (by omega) _
theorem Cx{t:aa}{x:(aa.slice t).aq}(h:List.length x<=2000000):(hP t).sh x=mpure x:=bO (by omega) _
theorem ah4{fs:Type}(h:zE s)(fin:bN->L fs):Nq (hP mL).sh (hP np).sh (hP l1).sh tN H.wg.sh (hP pX).sh (hP pY).sh (hP sv).sh s fin=fin s:=by
 obtain⟨⟨ch,dP,hM,Ir⟩,M,al,a7,bR,er,jj⟩:=h;obtain⟨⟨sp,mk,cut,aS⟩,ae,nv,pd,wI,kX⟩:=s;change mk.length<=2000000 at dP;change nv.length<=2000000 at al;change pd.length<=2000000 at a7;have aO:(hP mL).sh sp=mpure sp:=Cx ch;have aT:(hP np).sh mk=mpure mk:=Cx dP;have b7:(hP l1).sh aS=mpure aS:=Cx hM;have gZ:=Of M;have rh:(hP pX).sh nv=mpure nv:=Cx al;have uJ:(hP pY).sh pd=mpure pd:=Cx a7;have By:(hP sv).sh wI=mpure wI:=Cx bR;unfold Nq bF cy bl bh aY bS b4 bg bY dy;simp only[aO,aT,b7,kN,ck];rw[e2 mk (λi (_)=>((mk.length:Int),(i:Int),cut,ae,nv,pd,wI,kX,0,0,sp,mk,aS,())) (λp b=>.az b) (λ_=>.az (cut,ae,nv,pd,wI,kX,0,0,sp,mk,aS,())) () ?_ ?_ ?_]
 ·rw[ew,aP];simp  [gZ,rh,uJ,By,ck];rw[e2 nv (λi (_)=>((nv.length:Int),(i:Int),cut,kX,0,0,sp,mk,aS,ae,nv,pd,wI,())) (λp b=>.az b) (λ_=>.az (cut,kX,0,0,sp,mk,aS,ae,nv,pd,wI,())) () ?_ ?_ ?_]
  ·rw[ew,aP,db];rw[e2 pd (λi (_)=>((pd.length:Int),(i:Int),cut,kX,0,0,sp,mk,aS,ae,nv,pd,wI,())) (λp b=>.az b) (λ_=>.az (cut,kX,0,0,sp,mk,aS,ae,nv,pd,wI,())) () ?_ ?_ ?_]
   ·simp_all[ew]
   ·rfl
   ·intro i G b;have hw:=bA (n:=i+1);have hc:=Of (jj _ (amV G));have ra:pd.set i (pd[i].1,pd[i].2)=pd:=aRo G;simp_all
   simp
  ·rfl
  ·intro i G b;have hw:=bA (n:=i+1);have hc:=Of (er _ (amV G));have ra:nv.set i (nv[i].1,nv[i].2.1,nv[i].2.2.1,nv[i].2.2.2.1,nv[i].2.2.2.2)=nv:=aRo G;simp_all
  simp
 ·rfl
 ·intro i G b;have hw:=bA (n:=i+1);obtain⟨hm,ax⟩:=Ir _ (amV G);have hc:tN (mk[i],())=mpure (mk[i],()):=bO (by grind) _;simp only[d' G,hc,aP];rw[e2 mk[i] (λj (_)=>(i,(mk.length:Int),(i:Int),(mk[i].length:Int),(j:Int),cut,ae,nv,pd,wI,kX,0,0,sp,(mk,i),aS,mk[i],())) (λp b=>.az b) (λ_=>.az (mk.length,i,cut,ae,nv,pd,wI,kX,0,0,sp,(mk,i),aS,mk[i],())) () ?_ ?_ ?_]
  ·simp_all[ew]
  ·rfl
  ·intro j aM b;have hw:=bA (n:=j+1);have hc:=Of (ax _ (amV aM));have ra:mk[i].set j (mk[i][j].1,mk[i][j].2.1,mk[i][j].2.2)=mk[i]:=aRo aM;simp_all
  simp
 simp
theorem aCh(x):a_ (ayQ (hP mL).sh (hP np).sh (hP l1).sh tN H.wg.sh (hP pX).sh (hP pY).sh (hP sv).sh x) (zK x):=bu λh=>ah4 h _
abbrev Og:aQ:=⟨nr,nr,zE,λs=>s⟩
theorem aCi(x):a_ (ayP (hP mL).sh (hP np).sh (hP l1).sh tN H.wg.sh (hP pX).sh (hP pY).sh (hP sv).sh x) (Og.sh x):=bu λh=>ah4 h _
def zL(x:bN×bD×Unit):L (bc×bD×Unit):=eF (eQ x.2.1/\h0 x.1) ((sz x.2.1 x.1).1,(sz x.2.1 x.1).2,())
theorem aCj(x):a_ (agv sw.sh x) (zL x):=bu λh=>by
 obtain⟨s,d,⟨⟩⟩:=x;obtain⟨ay,ax⟩:=h;unfold agv bl;rw[show sw.sh s=mpure (l3 s) from bO ax _];unfold sz;by_cases e:l3 s=0<;>simp[e]
theorem aCk(ay:eQ d)(ax:h0 s):zL (s,d,())=mpure ((sz d s).1,(sz d s).2,()):=bO ⟨ay,ax⟩ _
theorem Oh(ay:eQ d)(s:bN)(ax:h0 s):ar (zL (s,d,())) (λy=>mpure (y.1,y.2.1,()))=mpure ((sz d s).1,(sz d s).2,()):=by grind [aCk,aP]
theorem eQ.copy(h:eQ d):zE d.1:=aBn h.val
theorem Jd(h:eQ d):zK (d.1,())=mpure (lW d.1):=bO h.copy _
theorem aCl(x):a_ (ags EU.sh zK iU.sh x) (gO 4 Cq x):=bu λh=>by
 obtain⟨l,d,⟨⟩⟩:=x;obtain⟨ay,ai⟩:=h;have hc:=ay.copy;have ax:jf (sA d.1.1 (bT l 0,bT l 1,bT l 2,bT l 3)):=⟨ay.iR.1.1,ay.iR.1.2.1,by have:=hc.1.2.2.1;grind [sA],ay.iR.1.2.2.2⟩
 unfold ags gG bl aY ed gF dy;rw[Jd ay,aP];simp (disch:=decide) only [p1 ai,ck,Cw];rw[bd (by have:=hc.1.2.2.1;grind [b2,lW])];show ar (iU.sh (sA d.1.1 (bT l 0,bT l 1,bT l 2,bT l 3))) _=mpure ((Cq d l).1,(Cq d l).2,());rw[show iU.sh (sA d.1.1 (bT l 0,bT l 1,bT l 2,bT l 3))=mpure (c_ (sA d.1.1 (bT l 0,bT l 1,bT l 2,bT l 3))) from bO ax _,aP];have hlen:EU.sh (sA d.1.1 (bT l 0,bT l 1,bT l 2,bT l 3),bT l 0)=mpure (ET (sA d.1.1 (bT l 0,bT l 1,bT l 2,bT l 3)) (bT l 0)):=bO ax _;grind [lW,sA,tV,kN,ck,Cq]
theorem aCm(x):a_ (agu zK zL x) (gO 2 Ja x):=bu λh=>by
 obtain⟨l,d,⟨⟩⟩:=x;obtain⟨ay,ai⟩:eQ d/\jc _ l:=h;unfold agu e1 bF gG bl aY bY gF;rw[ck,Jd ay,aP];simp (disch:=decide) only [p1 ai,zI,ah1,Cw];unfold Ja;have aV:=ai.bT 0;have E:=ai.bT 1;by_cases e:bT l 0>=(d.1.2.1.length)
 ·grind [lW]
 ·rw[if_neg (by grind [lW]),if_neg e];have aA:(bT l 0).toNat<d.1.2.1.length:=by omega
  rw[bd ⟨aV.1,by show bT l 0<(d.1.2.1.length);omega⟩,bd ⟨aV.1,by show bT l 0<(d.1.2.1.length);omega⟩];have ag:∀ n∈d.1.2.1,0<=n/\n<=10:=λn aA=>by
   have jW:=ay.yc;grind [l3,rK,cz]
  have U:=ag _ (amV aA);have aB:d.1.2.1.getD (bT l 0).toNat 0=d.1.2.1[(bT l 0).toNat]:=by grind
  have hw:=bA (n:=d.1.2.1.getD (bT l 0).toNat 0+bT l 1);have gJ:IntKind.wrap .i64 (Add.add ((lW d.1).2.2.2.2.2.1.getD (bT l 0).toNat 0) (bT l 1))=d.1.2.1.getD (bT l 0).toNat 0+bT l 1:=hw;rw[gJ];exact Oh ay (d.1.1,d.1.2.1.set (bT l 0).toNat (d.1.2.1.getD (bT l 0).toNat 0+bT l 1),d.1.2.2) ⟨ay.iR.1,by rw[aRl];exact ay.iR.2.1,ay.iR.2.2⟩
theorem aCn(x):a_ (agw zK zL x) (gO 3 V9 x):=bu λh=>by
 obtain⟨l,d,⟨⟩⟩:=x;obtain⟨ay,ai⟩:=h;have hc:=ay.copy;have bR:=hc.2.2.2.2.1;obtain⟨s1,s2,fh,nd,mQ,wJ,wK⟩:=ay.iR;unfold agw gG aY ed gF;rw[ck,Jd ay,aP];simp (disch:=decide) only [p1 ai,Cw];rw[bd (by grind [b2,lW])];exact Oh ay (d.1.1,d.1.2.1,d.1.2.2.1,d.1.2.2.2.1,d.1.2.2.2.2.1++[(bT l 0,bT l 1,bT l 2)],d.1.2.2.2.2.2) ⟨s1,s2,fh,nd,by grind,wJ,wK⟩
theorem aCo(x):a_ (agx zK zL x) (gO 4 V_ x):=bu λh=>by
 obtain⟨l,d,⟨⟩⟩:=x;obtain⟨ay,ai⟩:=h;have hc:=ay.copy;have bR:=hc.2.2.1;have hm:=ai.Oa;have hle:=ai.Wf;obtain⟨s1,s2,fh,nd,mQ,wJ,wK⟩:=ay.iR;unfold agx gG aY ed gF;rw[ck,Jd ay,aP];simp (disch:=decide) only [p1 ai,Cw];rw[bd ⟨by decide,by grind,aQB _⟩,bd (by grind [b2,lW])];simp;exact Oh ay (d.1.1,d.1.2.1,d.1.2.2.1++[(bT l 0,bT l 1,bT l 2,bT l 3,l.drop 4)],d.1.2.2.2) ⟨s1,s2,by grind,nd,mQ,λp ak=>by
  grind,wK⟩
theorem aCp(x):a_ (agy zK zL x) (gO 5 V' x):=bu λh=>by
 obtain⟨l,d,⟨⟩⟩:=x;obtain⟨ay,ai⟩:=h;have hc:=ay.copy;have bR:=hc.2.2.2.1;have hm:=ai.Oa;have hle:=ai.Wf;obtain⟨s1,s2,fh,nd,mQ,wJ,wK⟩:=ay.iR;unfold agy gG aY ed gF;rw[ck,Jd ay,aP];simp (disch:=decide) only [p1 ai,Cw];rw[bd ⟨by decide,by grind,aQB _⟩,bd (by grind [b2,lW])];simp;exact Oh ay (d.1.1,d.1.2.1,d.1.2.2.1,d.1.2.2.2.1++[(l.drop 5,(bT l 0,bT l 1),bT l 2,bT l 3,bT l 4)],d.1.2.2.2.2) ⟨s1,s2,fh,by grind,mQ,wJ,λp ak=>by
  grind⟩
abbrev Wk:lB:=([],(0,0),0,0,0)
theorem aCq(x):a_ (agz (hP pY).sh (Oe Wk) x) (gO 1 Jb x):=bu λh=>by
 obtain⟨ay,ai⟩:=h;have hc:=ay.copy.2.2.2.1;have aV:=ai.bT 0;unfold agz gG bl bh aY gF dy;simp (disch:=decide) only [p1 ai,Cw];grind [Jb,Cx,bA,tV,kN,ck,Oe,bO,aP]
theorem ah5{c:H.bb}{m:List H.bt}{v:z1'}(h:(H.nu c m v).2=0):H.c_ c=0/\H.c_ (H.nu c m v).1=0/\(H.nu c m v).1=H.fJ c (H.eg (c.2.1++m)) (H.h' c.2.2.1 v):=by
 unfold H.nu at h ⊢;split at h
 ·omega
 split at h
 ·omega
 split at h
 ·omega
 split at h
 ·omega
 rename_i cH b1 ek gp;rw[if_neg cH,if_neg b1,if_neg ek,if_neg gp];have dv:H.c_ c=0:=by omega
 refine⟨dv,?_,rfl⟩;have dT:H.kR c=true:=by grind [H.c_]
 have eo:H.kR (H.fJ c m v)=true:=by grind [H.c_]
 have aA:H.mn (H.eg (c.2.1++m))=false:=by
  rw[H.xR];have:=(H.xR (c.2.1++m)).1 (by grind);exact λa aZ b U=>this a (H.zc aZ) b (H.zc U)
 have pI:H.kR (H.fJ c (H.eg (c.2.1++m)) (H.h' c.2.2.1 v))=true:=by
  unfold H.kR H.u0 at dT eo ⊢;simp only[amX,aQL,aQA,aQ5,H.fJ]at dT eo ⊢;obtain⟨⟨⟨⟨⟨⟨⟨⟨iS,z2⟩,z3⟩,z4⟩,z5⟩,aO⟩,aT⟩,b7⟩,gZ⟩:=dT;simp only[aQH,not_or,Bool.not_eq_true]at gp;refine⟨⟨⟨⟨⟨⟨⟨⟨iS,gp.1⟩,gp.2⟩,z4⟩,z5⟩,aO⟩,λs ax=>?_⟩,λn aA=>?_⟩,gZ⟩
  ·rcases List.mem_append.1 (H.zc ax) with h | h<;>grind
  ·have:=(List.mem_filter.1 aA).2;grind
 unfold H.c_;rw[if_pos pI,if_neg (by show ¬H.mn (H.eg (c.2.1++m))=true;grind)]
theorem Wl(ay:eQ d)(m:List H.bt)(v:z1'):eQ (sy d m v).2:=by
 unfold sy;split
 ·omega
 ·obtain⟨E,M,al⟩:=ah5 (c:=d.2) (m:=m) (v:=v) (by omega);exact⟨ay.iR,ay.yc,M,by rw[al];exact ay.Cs⟩
theorem Oi(ay:eQ d)(ax:h0 s):eQ (sz d s).2:=by
 unfold sz;split
 ·omega
 ·exact⟨ax,by grind,ay.rO,ay.Cs⟩
theorem aCr(ay:eQ d)(ai:l.length<=10000)(j:Nat):eQ (Fc j d l).2:=by
 have hc:=ay.copy;obtain⟨s1,s2,fh,nd,mQ,wJ,wK⟩:=ay.iR;obtain⟨bI,c2,c3,c4,c5,pt,rW⟩:=ay.copy;unfold Fc;split<;>try exact ay
 ·exact Wl ay _ _
 ·exact Wl ay _ _
 ·exact Wl ay _ _
 ·unfold Cq;split
  ·omega
  split
  ·omega
  refine⟨⟨⟨s1.1,s1.2.1,by have:=hc.1.2.2.1;grind [sA],s1.2.2.2⟩,s2,fh,nd,mQ,wJ,wK⟩,?_,ay.rO,ay.Cs⟩;have ax:=ay.yc;unfold l3 at ax ⊢;have:rK (sA d.1.1 (bT l 0,bT l 1,bT l 2,bT l 3),d.1.2)=rK d.1:=rfl;grind
 ·unfold Ja;split
  ·omega
  ·exact Oi ay ⟨s1,by grind,fh,nd,mQ,wJ,wK⟩
 ·exact Oi ay ⟨s1,s2,fh,nd,by grind,wJ,wK⟩
 ·exact Oi ay ⟨s1,s2,by grind,nd,mQ,λp ak=>by
   grind,wK⟩
 ·exact Oi ay ⟨s1,s2,fh,by grind,mQ,wJ,λp ak=>by
   grind⟩
 ·unfold Jb;split
  ·omega
  ·refine⟨⟨s1,s2,fh,by grind,mQ,wJ,λp ak=>wK p (List.mem_of_mem_eraseIdx ak)⟩,?_,ay.rO,ay.Cs⟩;have ax:=ay.yc;grind [l3,rK,List.mem_of_mem_eraseIdx]
end Go.Fer.W
