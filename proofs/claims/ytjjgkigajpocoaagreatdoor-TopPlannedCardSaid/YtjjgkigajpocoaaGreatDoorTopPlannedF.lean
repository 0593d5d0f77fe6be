/- Part 6 of the proof of TopPlanned: shallow programs of Go functions, and what they compute. No condition. -/
import Derived.Test.YtjjgkigajpocoaaGreatDoorTopPlannedE
import Derived.Lib.AtoiAll
import Derived.Lib.ItoaLen
import Derived.Lib.Join
noncomputable section
set_option linter.unusedVariables false
set_option linter.unusedSimpArgs false
namespace Go.Fer
abbrev bd:Type:=List UInt8
abbrev bH:Type:=bJ×H.bg
abbrev M0:Type:=z3'×List (List (z17'))×Int×Int×z3'×z1'×List oV×List me×List D1×Unit
abbrev Ez:Type:=Int×Bool×Option Nat
abbrev ng(l:List (bd×Ez))(a:bd)(b:Ez):List (bd×Ez):=oG (k:=.str) (v:=.ad (.ar (.int .i64) (.ar .bool .eW))) l a b
variable (axV:bH->M Int) (axW:bH×Unit->M (bH×Unit)) (axX:Unit->M (List (bd×Int×Bool×Option Nat))) (axY:List (bd×Int×Bool×Option Nat)×bd×bH×Unit->M (bd×bH×Unit)) (HL:bJ->M Int) (Br:H.bg->M Int) (UK:H.bg×List (z19')×z1'->M (H.bg×Int)) (axZ:bJ->M bJ) (ax0:bd×bd->M (List bd)) (ax1:bd->M (z27')) (ax2:Nat->z1'×bH×Unit->M (bd×bH×Unit)) (UL:List (z19')×z1'×bH×Unit->M (bd×bH×Unit)) (ax3:Int->M bd) (ax4:List bd×bd->M bd) (ax5:List me->M (List me)) (ax6:Int×Int×List me×Unit->M ((z21')×List me×Unit)) (ax7:H.bg×H.bg->M Bool) (ax8:b2×b2->M Bool) (Ii:z1'×z1'->M Bool) (ax9:bd->M (List bd)) (ax_:bd->M Int) (ax':Unit->M (List bd×z1'×z1')) (afw:bH×List bd->M Bool) (M1:Int->M bd) (acM:bJ->M bJ) (afq:H.bg->M H.bg) (UM:bH->M Int) (afx:bJ->M Bool) (UJ:H.bg->M Bool) (Tc:z11'->M Int) (aOn:Unit->M Bool) (afy:bd×z1'->M bd) (aOo:bH->M bH) (afz:bH×List bd->M (List bd×bH×Int)) (aOp:List bd×Int->M Bool) (UN:bH×bH->M Bool) (aOq:H.bg->M (List bd)) (HS:H.bg->M Int) (aOr:H.bg×H.bg×Int×Int×Int×Int->M Bool) (Mp:b2×Int×Int×Int->M (z12')) (Mo:b2×Int->M (z22')) (Ij:bJ×Unit->M (M0)) (D0:z11'->M Int) (M2:bJ×bH×Unit->M (bd×bH×Unit)) (aOs:bH×List bd×Int->M Bool) (aOt:Unit->M Bool) (aOu:List bd×List bd->M Bool) (aOv:bd->M bd) (aya:bd->M (bd×z1'×Bool)) (aOw:bd->M Bool) (aOx:bd×z1'->M bd) (afr UH UI afs:H.bg×Int->M (z22')) (M3:z22'->M bd) (UG:H.bg×Int×Int->M (z18')) (aOy:z1'×z1'->M Bool) (aft:H.bg×Int->M (z1'×z18')) (afA:bJ×Int->M (z18')) (M4 M5:bJ->M (z12')) (afB:Unit->M bH) (Mq:bJ->M Int) (afC:bJ×z1'->M (z12')) (ayb:z14'->M (z14')) (y5:Int×z1'->M bd) (M6:z1'->M bd) (aOz:z18'->M bd) (aOA:z22'->M bd) (aOB:z1'->M bd) (c0:z3'->M (z3')) (bG:List (List (z17'))->M (List (List (z17')))) (c2:z3'->M (z3')) (c3:List (z17')×Unit->M (List (z17')×Unit)) (c4:z1'->M (z1')) (c5:List oV->M (List oV)) (ph:List me->M (List me)) (rK:z5'->M (z5'))
def afD(x:bH):M Int:=
 aq (Mq x.1) λy=>cf (!(e6 y 0)) (HS x.2) 0 λcn=>if e6 y 0||e6 cn 0 then mpure 120 else mpure 0
def afE(x:bH×List bd):M (List bd×bH×Int):=
 aq (axV x.1) λy=>bm (y≠0) (mpure ([],((([],[],0,[]),[],[],[],[],0),[],[],[],[],0,0,0,0,0,0,0),y)) (bm (aR x.2 > 40) (mpure ([],((([],[],0,[]),[],[],[],[],0),[],[],[],[],0,0,0,0,0,0,0),2)) (aq (axW (x.1,())) (λy=>aq (axX ()) λcn=>bQ (λ(A:List (bd×Int×Bool×Option Nat)×List bd×Int×Int×List bd×Int×Int×Int×Int×Int×Int×Int×Int×Int×bH×Unit)=>letI f:=A.2.2.2;letI e:=f.2.2.2.2;letI g:=e.2.2.2.2;bm (f.1<A.2.2.1) (bU f.1 A.2.1 (aq (axY (A.1,bw A.2.1 f.1 [],g.2.2.2.1,())) (λy=>eB f.2.1 (be (A.1,A.2.1,A.2.2.1,bf f.1,f.2.1++[y.1],f.2.2.1,f.2.2.2.1,e.1,e.2.1,e.2.2.1,e.2.2.2.1,g.1,g.2.1,g.2.2.1,y.2.1,()))))) (bY (f.2.1,f.2.2.1,f.2.2.2.1,e.1,e.2.1,e.2.2.1,e.2.2.2.1,g.1,g.2.1,g.2.2.1,g.2.2.2.1,()))) (cn,x.2,aR x.2,0,[],0,0,0,0,0,0,0,0,0,y.1,()) λA=>ae True (mpure (A.1,A.2.2.2.2.2.2.2.2.2.2.1,0)))))
def afF(x:bH):M Int:=
 aq (HL x.1) λy=>cf (!(e6 y 0)) (Br x.2) 0 λcn=>if e6 y 0||e6 cn 0 then mpure 120 else mpure 0
def afG(x:bH×Unit):M (bH×Unit):=
 letI a:=axZ x.1.1;aq (UK (x.1.2,[],[])) λy=>dE a (mpure ((M.val a (([],[],0,[]),[],[],[],[],0),y.1),()))
def ayc(x:Unit):M (List (bd×Int×Bool×Option Nat)):=
 mpure (ng (ng (ng (ng (ng (ng (ng (ng (ng (ng (ng (ng (ng (ng (ng (ng (ng (ng (ng (ng [] [108,101,110,100] (5,false,some 87)) [98,97,99,107] (4,false,some 88)) [118,111,105,100] (1,false,some 89)) [108,97,115,116,115] (1,false,some 90)) [102,101,101] (1,false,some 91)) [111,119,101,115] (1,false,some 92)) [104,101,108,100] (1,false,some 93)) [119,104,101,114,101] (2,false,some 94)) [109,105,115,115,105,110,103] (1,false,some 95)) [116,114,105,97,108] (4,false,some 96)) [102,105,116,115] (3,false,some 97)) [115,116,111,99,107] (2,false,some 98)) [99,111,109,101,115] (3,false,some 99)) [112,105,101,99,101] (4,true,some 100)) [119,105,115,104] (5,true,some 101)) [100,114,111,112] (1,false,some 102)) [99,97,110] (1,false,some 103)) [116,97,107,101,115] (0,true,some 104)) [109,111,115,116] (0,false,some 105)) [101,120,116,114,97] (0,false,some 106))
def afH(x:List (bd×Int×Bool×Option Nat)×bd×bH×Unit):M (bd×bH×Unit):=
 aq (ax0 (x.2.1,[32])) λy=>letI j:=aR y;letI i:=gB y [];letI g:=List.drop (Int.toNat 1) (y.take j.toNat);gA y (bD (!(hg (λp=>b7 i p.1) x.1).isSome||decide (cE j 1<((hg (λp=>b7 i p.1) x.1).getD (0,false,none)).1)||dp (cE j 1) ((hg (λp=>b7 i p.1) x.1).getD (0,false,none)).1&&!((hg (λp=>b7 i p.1) x.1).getD (0,false,none)).2.1) (mpure ([63],x.2.2.1,())) (cB (ae ((0:Int)<=1/\1<=j/\j<=j) (dA (λA=>letI h:=A.2.2;bm (h.1<A.2.1) (bU h.1 A.1 (aq (ax1 (bw A.1 h.1 [])) (λy=>bD (!y.2) (cS ([63],h.2.2.2.1,())) (eB h.2.2.1 (be (A.1,A.2.1,bf h.1,h.2.1,h.2.2.1++[y.1],h.2.2.2.1,())))))) (bY (h.2.1,h.2.2.1,h.2.2.2.1,()))) (g,aR g,0,(hg (λp=>b7 i p.1) x.1).getD (0,false,none),[],x.2.2.1,()))) (λA=>aq (ae (∃ (k:Nat),List.Mem k [87,88,89,90,91,92,93,94,95,96,97,98,99,100,101,102,103,104,105,106]/\A.1.2.2=some k) (ax2 (A.1.2.2.getD 0) (A.2.1,A.2.2.1,()))) λy=>mpure (y.1,y.2.1,()))))
def afI(x:z1'×bH×Unit):M (bd×bH×Unit):=
 letI c:=x.1.getD;letI b:=aR x.1;gA x.1 (ae ((0:Int)<=1/\1<b) (ae ((0:Int)<=2/\2<b) (ae ((0:Int)<=3/\3<b) (ae ((0:Int)<=4/\4<b) (aq (UL ([(gB x.1 0,c (Int.toNat 1) 0,c (Int.toNat 2) 0,1,c (Int.toNat 3) 0,c (Int.toNat 4) 0)],[],x.2.1,())) (λy=>mpure (y.1,y.2.1,())))))))
def afJ(x:List (z19')×z1'×bH×Unit):M (bd×bH×Unit):=
 ae True (aq (UK (x.2.2.1.2,x.1,x.2.1)) (λy=>bm (y.2≠0) (mpure ([110,111],x.2.2.1,())) (ae True (mpure ([111,107],(x.2.2.1.1,y.1),())))))
def afK(x:z1'×bH×Unit):M (bd×bH×Unit):=
 gA x.1 (ae ((0:Int)<=1/\1<aR x.1) (ae ((0:Int)<=2/\2<aR x.1) (ae ((0:Int)<=3/\3<aR x.1) (aq (UL ([(gB x.1 0,x.1.getD (Int.toNat 1) 0,x.1.getD (Int.toNat 2) 0,2,x.1.getD (Int.toNat 3) 0,0)],[],x.2.1,())) (λy=>mpure (y.1,y.2.1,()))))))
def afL(x:z1'×bH×Unit):M (bd×bH×Unit):=
 aq (UL ([],x.1,x.2.1,())) λy=>mpure (y.1,y.2.1,())
def afM(x:z1'×bH×Unit):M (bd×bH×Unit):=
 letI c:=afr (x.2.1.2,gB x.1 0);letI b:=M3 (M.val c ((0,0),0));ae True (gA x.1 (dE c (dE b (mpure (M.val b [],x.2.1,())))))
def afN(x:z22'):M bd:=
 aq (y5 (x.2,[x.1.1,x.1.2])) λy=>mpure y
def afO(x:Int×z1'):M bd:=
 bm (x.1=0) (aq (M6 x.2) (λy=>mpure y)) (bm (x.1=3) (mpure [110,111,110,101]) (mpure [110,111]))
def afP(x:z1'):M bd:=
 bm (aR x=0) (mpure [110,111,110,101]) (bQ (λA=>letI c:=A.2.2;bm (c.1<A.2.1) (bU c.1 A.1 (aq (ax3 (bw A.1 c.1 0)) (λy=>eB c.2.1 (be (A.1,A.2.1,bf c.1,c.2.1++[y],()))))) (bY (c.2.1,()))) (x,aR x,0,[],()) (λA=>aq (ax4 (A.1,[32])) λy=>mpure y))
def afQ(x:z1'×bH×Unit):M (bd×bH×Unit):=
 letI c:=UH (x.2.1.2,gB x.1 0);letI b:=M3 (M.val c ((0,0),0));ae True (gA x.1 (dE c (dE b (mpure (M.val b [],x.2.1,())))))
def afR(x:z1'×bH×Unit):M (bd×bH×Unit):=
 letI c:=UI (x.2.1.2,gB x.1 0);letI b:=M3 (M.val c ((0,0),0));ae True (gA x.1 (dE c (dE b (mpure (M.val b [],x.2.1,())))))
def afS(x:z1'×bH×Unit):M (bd×bH×Unit):=
 letI c:=afs (x.2.1.2,gB x.1 0);letI b:=M3 (M.val c ((0,0),0));ae True (gA x.1 (dE c (dE b (mpure (M.val b [],x.2.1,())))))
def afT(x:z1'×bH×Unit):M (bd×bH×Unit):=
 letI d:=UG (x.2.1.2,gB x.1 0,x.1.getD (Int.toNat 1) 0);letI c:=M.val d ([],0);letI f:=(!(e6 c.2 0))=true;letI e:=aR c.1;ae True (gA x.1 (ae ((0:Int)<=1/\1<aR x.1) (dE d (ae (f->(f/\True)/\((0:Int)<=0/\0<e)/\True) (if e6 c.2 0||decide (gB c.1 (0:Int)>=0) then aq (y5 (c.2,c.1)) λy=>mpure (y,x.2.1,()) else bm (e=1) (mpure ([115,104,111,112],x.2.1,())) (ae ((0:Int)<=1/\1<=e/\e<=e) (aq (M6 ((List.take (Int.toNat e) c.1).drop (Int.toNat 1))) (λy=>ae (cb (Add.add (Add.add (Add.add (Add.add (Add.add (Add.add 0 1) 1) 1) 1) 1) y.length)) (mpure ([115,104,111,112,32]++y,x.2.1,()))))))))))
def afU(x:z1'×bH×Unit):M (bd×bH×Unit):=
 letI c:=aft (x.2.1.2,gB x.1 0);letI b:=M.val c ([],[],0);ae True (gA x.1 (dE c (bm (b.2.2≠0) (aq (y5 (b.2.2,[])) (λy=>mpure (y,x.2.1,()))) (aq (M6 b.1) (λy=>ae (cb (Add.add y.length (Add.add (Add.add (Add.add 0 1) 1) 1))) (aq (M6 b.2.1) (λcn=>ae (cb (Add.add (y++[32,47,32]).length cn.length)) (mpure (y++[32,47,32]++cn,x.2.1,())))))))))
def afV(x:z1'×bH×Unit):M (bd×bH×Unit):=
 ae True (aq (Ij (x.2.1.1,())) (λy=>letI f:=y.2.2.2.2;letI e:=(y.1,y.2.1,y.2.2.1,f.1++[(gB x.1 0,x.1.getD (Int.toNat 1) 0,x.1.getD (Int.toNat 2) 0,x.1.getD (Int.toNat 3) 0)]);letI g:=Mo (e,gB x.1 0);ae True (gA x.1 (ae ((0:Int)<=1/\1<aR x.1) (ae ((0:Int)<=2/\2<aR x.1) (ae ((0:Int)<=3/\3<aR x.1) (eB f.1 (ae True (ae True (aq (D0 e) (λcn=>bm (cn≠0) (mpure ([110,111],x.2.1,())) (ae True (gA x.1 (dE g (bm ((M.val g ((0,0),0)).2≠0) (mpure ([108,105,97,114],x.2.1,())) (ae True (mpure ([111,107],((e,f.2.1,f.2.2.1,f.2.2.2.1,f.2.2.2.2.1,y.2.2.2.1),x.2.1.2),()))))))))))))))))))
def afW(x:z1'×bH×Unit):M (bd×bH×Unit):=
 letI c:=Mp (x.2.1.1.1,gB x.1 0,x.1.getD (Int.toNat 1) 0,x.1.getD (Int.toNat 2) 0);ae True (gA x.1 (ae ((0:Int)<=1/\1<aR x.1) (ae ((0:Int)<=2/\2<aR x.1) (dE c (bm ((M.val c (0,0)).2≠0) (aq (y5 ((M.val c (0,0)).2,[])) (λy=>mpure (y,x.2.1,()))) (ae (0<=(M.val c (0,0)).1/\(M.val c (0,0)).1<Int.ofNat 4) (mpure (List.getD [[],[115,117,114,101,108,121],[110,101,118,101,114],[112,101,114,104,97,112,115]] (Int.toNat (M.val c (0,0)).1) [],x.2.1,()))))))))
def afX(x:z1'×bH×Unit):M (bd×bH×Unit):=
 letI f:=gB x.1 0;ae True (aq (Ij (x.2.1.1,())) (λy=>letI e:=y.2.2.2.2.2;gA x.1 (bm (f>=aR e.1) (mpure ([110,111],x.2.1,())) (gA x.1 (bU f e.1 (ae ((0:Int)<=1/\1<aR x.1) (bU f e.1 (aq (M2 (((y.1,y.2.1,y.2.2.1,y.2.2.2.2.1),List.set e.1 f.toNat (eZ (bw e.1 f 0) (x.1.getD (Int.toNat 1) 0)),e.2.1,e.2.2.1,e.2.2.2.1,y.2.2.2.1),x.2.1,())) (λy=>mpure (y.1,y.2.1,()))))))))))
def afY(x:bJ×bH×Unit):M (bd×bH×Unit):=
 aq (HL x.1) λy=>bm (y≠0) (mpure ([110,111],x.2.1,())) (ae True (mpure ([111,107],(x.1,x.2.1.2),())))
def afZ(x:z1'×bH×Unit):M (bd×bH×Unit):=
 ae True (aq (Ij (x.2.1.1,())) (λy=>letI c:=y.2.2.2.2.2;gA x.1 (ae ((0:Int)<=1/\1<aR x.1) (ae ((0:Int)<=2/\2<aR x.1) (eB c.2.2.2.1 (aq (M2 (((y.1,y.2.1,y.2.2.1,y.2.2.2.2.1),c.1,c.2.1,c.2.2.1,c.2.2.2.1++[(gB x.1 0,x.1.getD (Int.toNat 1) 0,x.1.getD (Int.toNat 2) 0)],y.2.2.2.1),x.2.1,())) (λy=>mpure (y.1,y.2.1,()))))))))
def af0(x:z1'×bH×Unit):M (bd×bH×Unit):=
 letI c:=aR x.1;ae True (aq (Ij (x.2.1.1,())) (λy=>letI d:=y.2.2.2.2.2;gA x.1 (ae ((0:Int)<=1/\1<c) (ae ((0:Int)<=2/\2<c) (ae ((0:Int)<=3/\3<c) (ae ((0:Int)<=4/\4<=c/\c<=c) (eB d.2.1 (aq (M2 (((y.1,y.2.1,y.2.2.1,y.2.2.2.2.1),d.1,d.2.1++[(gB x.1 0,x.1.getD (Int.toNat 1) 0,x.1.getD (Int.toNat 2) 0,x.1.getD (Int.toNat 3) 0,List.drop (Int.toNat 4) (x.1.take c.toNat))],d.2.2.1,d.2.2.2.1,y.2.2.2.1),x.2.1,())) (λy=>mpure (y.1,y.2.1,()))))))))))
def af1(x:z1'×bH×Unit):M (bd×bH×Unit):=
 letI e:=x.1.getD;letI c:=aR x.1;ae True (aq (Ij (x.2.1.1,())) (λy=>letI d:=y.2.2.2.2.2;gA x.1 (ae ((0:Int)<=1/\1<c) (ae ((0:Int)<=2/\2<c) (ae ((0:Int)<=3/\3<c) (ae ((0:Int)<=4/\4<c) (ae ((0:Int)<=5/\5<=c/\c<=c) (eB d.2.2.1 (aq (M2 (((y.1,y.2.1,y.2.2.1,y.2.2.2.2.1),d.1,d.2.1,d.2.2.1++[(List.drop (Int.toNat 5) (x.1.take c.toNat),(gB x.1 0,e (Int.toNat 1) 0),e (Int.toNat 2) 0,e (Int.toNat 3) 0,e (Int.toNat 4) 0)],d.2.2.2.1,y.2.2.2.1),x.2.1,())) (λy=>mpure (y.1,y.2.1,())))))))))))
def af2(x:z1'×bH×Unit):M (bd×bH×Unit):=
 letI f:=gB x.1 0;letI e:=x.2.1.1.2;letI d:=ax5 e.2.2.1;gA x.1 (ae True (bm (f>=aR e.2.2.1) (mpure ([110,111],x.2.1,())) (ae True (dE d (gA x.1 (gA x.1 (aq (ax6 (f,bf f,M.val d [],())) (λy=>ae True (mpure ([111,107],((x.2.1.1.1,e.1,e.2.1,List.drop y.1.1 (y.2.1.take y.1.2),e.2.2.2),x.2.1.2),()))))))))))
def af3(x:z1'×bH×Unit):M (bd×bH×Unit):=
 letI b:=afA (x.2.1.1,gB x.1 0);ae True (gA x.1 (dE b (aq (y5 ((M.val b ([],0)).2,(M.val b ([],0)).1)) (λy=>mpure (y,x.2.1,())))))
def af4(x:z1'×bH×Unit):M (bd×bH×Unit):=
 aq (ayb (x.1,())) λy=>bQ (λA=>letI c:=A.2;bm (c.1<A.1) (bU c.1 c.2.1 (bU c.1 c.2.1 (be (A.1,bf c.1,List.set c.2.1 c.1.toNat (cE (bw c.2.1 c.1 0) 1),c.2.2.1,())))) (bY (c.2.1,c.2.2.1,()))) (aR y.1,0,y.1,x.2.1,()) λA=>ae True (aq (afC (A.2.1.1,A.1)) (λy=>aq (y5 (y.2,[y.1])) λy=>mpure (y,A.2.1,())))
def af5(x:z1'×bH×Unit):M (bd×bH×Unit):=
 ae True (aq (M4 x.2.1.1) (λy=>aq (y5 (y.2,[y.1])) λy=>mpure (y,x.2.1,())))
def af6(x:z1'×bH×Unit):M (bd×bH×Unit):=
 ae True (aq (M5 x.2.1.1) (λy=>aq (y5 (y.2,[y.1])) λy=>mpure (y,x.2.1,())))
def af7(x:bH×bH):M Bool:=
 letI z:=x.2.1.2.2;letI w:=x.1.1.2.2;aq (ax7 (x.1.2,x.2.2)) λy=>cf (!(!y)) (ax8 (x.1.1.1,x.2.1.1)) false λcn=>cf (!(!y||!cn)) (Ii (x.1.1.2.1,x.2.1.2.1)) false λdZ=>bD (!y||!cn||!dZ||e6 (aR w.1) (aR z.1)||e6 (aR w.2.1) (aR z.2.1)||e6 (aR w.2.2.1) (aR z.2.2.1)||e6 w.2.2.2 z.2.2.2) h' (bQ (λA=>letI cr:=A.2.2.1;letI t:=bw A.2.1.2.2.1 A.1 (0,0,0,0,[]);letI s:=bw cr.2.2.1 A.1 (0,0,0,0,[]);letI o:=e6 t.1 s.1||e6 t.2.1 s.2.1||e6 t.2.2.1 s.2.2.1||e6 t.2.2.2.1 s.2.2.2.1;fw A.1 A.2.1.2.2.1 (bU A.1 cr.2.2.1 (cf (!o) (Ii (t.2.2.2.2,s.2.2.2.2)) false (λy=>bD (o||!y) (cS false) (be (bf A.1,A.2.1,cr,()))))) (bY (A.2.1,cr,()))) (0,x.1.1,x.2.1,()) (λA=>bQ (λA=>letI cT:=A.2.2.1;letI q:=bw A.2.1.2.2.2.1 A.1 ([],(0,0),0,0,0);letI p:=bw cT.2.2.2.1 A.1 ([],(0,0),0,0,0);fw A.1 A.2.1.2.2.2.1 (bU A.1 cT.2.2.2.1 (aq (Ii (q.1,p.1)) (λy=>bD (!y||!(b7 q.2.1.1 p.2.1.1&&b7 q.2.1.2 p.2.1.2)||e6 q.2.2.1 p.2.2.1||e6 q.2.2.2.1 p.2.2.2.1||e6 q.2.2.2.2 p.2.2.2.2) (cS false) (be (bf A.1,A.2.1,cT,()))))) (bY (A.2.1,cT,()))) (0,A.1,A.2.1,()) λA=>bQ (λA=>letI v:=bw A.2.1.2.2.2.2.1 A.1 (0,0,0);letI u:=bw A.2.2.1.2.2.2.2.1 A.1 (0,0,0);fw A.1 A.2.1.2.2.2.2.1 (bU A.1 A.2.2.1.2.2.2.2.1 (bD (!(b7 v.1 u.1&&(b7 v.2.1 u.2.1&&b7 v.2.2 u.2.2))) (cS false) (be (bf A.1,A.2.1,A.2.2.1,())))) (bY ())) (0,A.1,A.2.1,()) λA=>iX))
def af8(x:H.bg×H.bg):M Bool:=
 letI t:=x.2.2.2.2.2.2;letI s:=x.1.2.2.2.2.2;letI q:=e6 (aR x.1.1) (aR x.2.1)||e6 (aR x.1.2.1) (aR x.2.2.1);cf (!q) (Ii (x.1.2.2.1,x.2.2.2.1)) false λy=>bD (q||!y||e6 (aR x.1.2.2.2.1) (aR x.2.2.2.2.1)||!(b7 x.1.2.2.2.2.1 x.2.2.2.2.2.1&&(b7 s.1 t.1&&(b7 s.2.1 t.2.1&&(b7 s.2.2.1 t.2.2.1&&(b7 s.2.2.2.1 t.2.2.2.1&&(b7 s.2.2.2.2.1 t.2.2.2.2.1&&b7 s.2.2.2.2.2 t.2.2.2.2.2))))))) h' (bQ (λA=>letI cr:=A.2.2.1;letI z:=bw A.2.1.1 A.1 (0,0);letI w:=bw cr.1 A.1 (0,0);fw A.1 A.2.1.1 (bU A.1 cr.1 (bD (!(b7 z.1 w.1&&b7 z.2 w.2)) (cS false) (be (bf A.1,A.2.1,cr,())))) (bY (A.2.1,cr,()))) (0,x.1,x.2,()) (λA=>bQ (λA=>letI cT:=A.2.2.1;letI p:=bw A.2.1.2.1 A.1 (0,0,0,0,0,0);letI o:=bw cT.2.1 A.1 (0,0,0,0,0,0);fw A.1 A.2.1.2.1 (bU A.1 cT.2.1 (bD (!(b7 p.1 o.1&&(b7 p.2.1 o.2.1&&(b7 p.2.2.1 o.2.2.1&&(b7 p.2.2.2.1 o.2.2.2.1&&(b7 p.2.2.2.2.1 o.2.2.2.2.1&&b7 p.2.2.2.2.2 o.2.2.2.2.2)))))) (cS false) (be (bf A.1,A.2.1,cT,())))) (bY (A.2.1,cT,()))) (0,A.1,A.2.1,()) λA=>bQ (λA=>letI v:=bw A.2.1.2.2.2.1 A.1 (0,0);letI u:=bw A.2.2.1.2.2.2.1 A.1 (0,0);fw A.1 A.2.1.2.2.2.1 (bU A.1 A.2.2.1.2.2.2.1 (bD (!(b7 v.1 u.1&&b7 v.2 u.2)) (cS false) (be (bf A.1,A.2.1,A.2.2.1,())))) (bY ())) (0,A.1,A.2.1,()) λA=>iX))
def af9(x:z1'×z1'):M Bool:=
 bm (aR x.1≠aR x.2) h' (bQ (λA=>letI c:=A.2.2.1;fw c A.1 (bU c A.2.1 (bm (bw A.1 c 0≠bw A.2.1 c 0) (cS false) (be (A.1,A.2.1,bf c,())))) (bY ())) (x.1,x.2,0,()) (λA=>iX))
def af_(x:b2×b2):M Bool:=
 bD (e6 (aR x.1.1) (aR x.2.1)||e6 (aR x.1.2.1) (aR x.2.2.1)||e6 x.1.2.2.1 x.2.2.2.1||e6 (aR x.1.2.2.2) (aR x.2.2.2.2)) h' (bQ (λA=>letI t1:=A.2.2.1;letI aM:=bw A.2.1.1 A.1 (0,0,0,0);letI i1:=bw t1.1 A.1 (0,0,0,0);fw A.1 A.2.1.1 (bU A.1 t1.1 (bD (!(b7 aM.1 i1.1&&(b7 aM.2.1 i1.2.1&&(b7 aM.2.2.1 i1.2.2.1&&b7 aM.2.2.2 i1.2.2.2)))) (cS false) (be (bf A.1,A.2.1,t1,())))) (bY (A.2.1,t1,()))) (0,x.1,x.2,()) (λA=>bQ (λA=>letI h_:=A.2.2.1;letI E:=bw A.2.1.2.2.2 A.1 (0,0,0,0);letI f1:=bw h_.2.2.2 A.1 (0,0,0,0);fw A.1 A.2.1.2.2.2 (bU A.1 h_.2.2.2 (bD (!(b7 E.1 f1.1&&(b7 E.2.1 f1.2.1&&(b7 E.2.2.1 f1.2.2.1&&b7 E.2.2.2 f1.2.2.2)))) (cS false) (be (bf A.1,A.2.1,h_,())))) (bY (A.2.1,h_,()))) (0,A.1,A.2.1,()) λA=>bQ (λA=>letI s1:=bw A.2.2.1.2.1 A.1 [];letI cq:=A.2.1.2.1;iA A.1 cq (cB (bU A.1 cq (bU A.1 A.2.2.1.2.1 (bm (aR (bw cq A.1 [])≠aR s1) (iM (cS false)) (dA (λA=>letI m1:=A.2.2;letI dt:=m1.2.1;letI fs:=(0<=dt/\dt<aR m1.1)/\True;letI jO:=(0<=dt/\dt<aR A.2.1)/\True;letI d1:=bw A.2.1 dt (0,[],0,0);letI bG:=bw m1.1 dt (0,[],0,0);letI cU:=e6 d1.1 bG.1;letI eA:=Ii (d1.2.1,bG.2.1);letI cT:=(!cU)=true;letI fq:=cT->cT/\True/\True;letI cr:=cU||!(b7 d1.2.2.1 bG.2.2.1&&b7 d1.2.2.2 bG.2.2.2);letI aE:=(!cr)=true;letI mC:=aE->aE/\True/\True;fw dt A.2.1 (bU dt m1.1 (ae (cT->(cT/\cT)/\jO) (ae fq (ae fq (ae (cT->(cT/\cT)/\fs) (ae fq (ae fq (ae (cT->(cT/\cT)/\True/\True) (ae (True/\(cU=false->cT)) (ae (aE->(aE/\aE)/\jO) (ae mC (ae mC (ae (aE->(aE/\aE)/\fs) (ae mC (ae mC (ae (aE->(aE/\aE/\True)/\eA.e3/\True) (ae mC (ae (True/\(cr=false->aE)) (bD (cr||pE eA) (iM (iM (cS false))) (be (A.1,A.2.1,m1.1,bf dt,m1.2.2.1,m1.2.2.2.1,()))))))))))))))))))))) (bY (A.1,m1.2.2.1,m1.2.2.2.1,()))) (A.1,bw cq A.1 [],s1,0,A.2.1,A.2.2.1,()))))) (λA=>be (bf A.1,A.2.1,A.2.2.1,()))) (bY ())) (0,A.1,A.2.1,()) λA=>iX))
def af'(x:bH×List bd):M Bool:=
 aq (afx x.1.1) λy=>cf (!y) (UJ x.1.2) false λcn=>bD (y||cn||dp (aR x.2) 60) iX (bQ (λA=>letI q:=A.2.2.2;letI m:=q.2.2;letI s:=m.2.1.1.2.2.1;iA m.1 s (bU m.1 s (be (A.1,A.2.1,A.2.2.1,q.1,eZ q.2.1 (aR (bw s m.1 (0,0,0,0,[])).2.2.2.2),bf m.1,m.2.1,()))) (bY (A.1,A.2.1,A.2.2.1,q.1,q.2.1,m.2.1,()))) (x.2,aR x.1.1.2.2.2.1,aR x.1.1.2.2.1,aR x.1.1.2.2.2.2.1,0,0,x.1,()) (λA=>bQ (λA=>letI u:=A.1;letI t:=A.2.1;letI n:=A.2.2;letI l:=n.2.2;letI p:=l.2.2.1;letI o:=l.2.1;iA o u (cB (bU o u (bm (aR (bw u o []) > 80) (iM (cS true)) (bU o u (aq (aya (bw u o [])) (λy=>bD (!y.2.2) (be (u,t,n.1,n.2.1,l.1,o,p,())) (bm (y.1=[119,105,115,104]) (be (u,bf t,n.1,n.2.1,l.1,o,p,())) (bm (y.1=[112,105,101,99,101]) (be (u,t,bf n.1,n.2.1,eZ l.1 (cE (aR y.2.1) 4),o,p,())) (bm (y.1=[99,111,109,101,115]) (be (u,t,n.1,bf n.2.1,l.1,o,p,())) (be (u,t,n.1,n.2.1,l.1,o,p,())))))))))) (λA=>letI v:=A.2.2.2;be (A.1,A.2.1,A.2.2.1,v.1,v.2.1,bf v.2.2.1,v.2.2.2.1,()))) (bY (t,n.1,n.2.1,l.1,p,()))) (A.1,A.2.1,A.2.2.1,A.2.2.2.1,A.2.2.2.2.1,0,A.2.2.2.2.2.1,()) λA=>aq (UM A.2.2.2.2.1) λy=>mpure (b7 y 0&&(dp A.1 3||dp A.2.1 4||dp A.2.2.1 3||dp A.2.2.2.1 4))))
def aga(x:bd):M (bd×z1'×Bool):=
 aq (ax9 x) λy=>bQ (λA=>fw A.2.1 A.1 (aq (ax_ (bw A.1 A.2.1 [])) (λy=>bm (y<0) (cS ([],[],false)) (eB A.2.2.1 (be (A.1,bf A.2.1,A.2.2.1++[y],()))))) (bY (A.1,A.2.2.1,()))) (y,1,[],()) λA=>aq (ax' ()) λy=>bQ (λA=>letI q:=A.2.2.2;letI v:=q.2.1;letI u:=(0<=v/\v<aR q.1)/\True;letI t:=decide (bw q.1 v (0:Int)<0);letI o:=decide (aR q.2.2.1>=bw A.2.2.1 v 0);letI s:=o=true;letI p:=(o&&!t)=true;letI w:=p->p/\True/\True;fw v A.2.1 (gA A.1 (bm (bw A.2.1 v []=gB A.1 []) (gA A.1 (bU v A.2.2.1 (ae (s->(s/\s)/\u) (ae (s->s/\True/\True) (ae (s->(s/\True)/\True/\True) (ae (s->True/\True/\s) (ae w (ae (p->(p/\p)/\u) (ae w (ae (p->(p/\p)/\True/\True) (ae (s->(s/\(t=false->p))/\True/\True) (ae (True/\(s->s)) (cS (gB A.1 [],q.2.2.1,o&&(t||decide (aR q.2.2.1<=bw q.1 v 0)))))))))))))))) (be (A.1,A.2.1,A.2.2.1,q.1,bf v,q.2.2.1,())))) (bY ())) (A.1,y.1,y.2.1,y.2.2,0,A.2.1,()) λA=>mpure ([],[],false)
def agb(x:bd):M (List bd):=
 bQ (λA=>letI l:=A.2.1;letI k:=A.2.2.1;letI j:=List.drop l.toNat (A.1.take (bf l).toNat);letI i:=cE (aR k) 1;iA l A.1 (cB (bU l A.1 (bm (Int.ofNat (bw A.1 l 0).1.1.1=32) (eB k (be (A.1,l,k++[[]],()))) (bU i k (ae (0<=l/\l<=bf l/\bf l<=aR A.1) (ae (cb (Add.add (bw k i []).length j.length)) (bU i k (be (A.1,l,List.set k i.toNat (bw k i []++j),())))))))) (λA=>be (A.1,bf A.2.1,A.2.2.1,()))) (bY (k,()))) (x,0,[[]],()) λA=>mpure A.1
def agc(x:bd):M Int:=
 letI m:=dp (aR x) 1;letI j:=b7 (aR x) 0||dp (aR x) 6;ae ((!j&&m)=true->((!j&&m)=true/\True)/\((0:Int)<=0/\0<aR x)/\True) (bD (j||m&&b7 (Int.ofNat (gB x 0).1.1.1) 48) (mpure (-1)) (bQ (λA=>letI l:=A.2.2.1;letI i:=Int.ofNat (bw A.1 l 0).1.1.1;letI k:=(!(fT i 48))=true;fw l A.1 (ae (k->(k/\k)/\(0<=l/\l<aR A.1)/\True) (bD (fT i 48||dp i 57) (cS (-1)) (bU l A.1 (be (A.1,eZ (IntKind.wrap .i64 (10*A.2.1)) (IntKind.wrap .i64 (IntKind.wrap .u8 (i-48))),eZ l 1,()))))) (bY (A.2.1,()))) (x,0,0,()) (λA=>mpure A.1)))
def ayd(x:Unit):M (List bd×z1'×z1'):=
 mpure ([[108,101,110,100],[98,97,99,107],[118,111,105,100],[108,97,115,116,115],[102,101,101],[111,119,101,115],[104,101,108,100],[119,104,101,114,101],[109,105,115,115,105,110,103],[116,114,105,97,108],[102,105,116,115],[115,116,111,99,107],[99,111,109,101,115],[112,105,101,99,101],[119,105,115,104],[100,114,111,112],[99,97,110],[116,97,107,101,115],[109,111,115,116],[101,120,116,114,97]],[5,4,1,1,1,1,1,2,1,4,3,2,3,4,5,1,1,0,0,0],[5,4,1,1,1,1,1,2,1,4,3,2,3,-1,-1,1,1,-1,0,0])
def agd(x:Int):M bd:=
 bm (x<0) (mpure [115,104,111,112]) (ae ((10:Int)≠0) (bQ (λA=>letI b:=IntKind.wrap .i64 (Int.tdiv A.1 10);bm (A.1>=10) (ae ((10:Int)≠0) (ae ((10:Int)≠0) (ae (cb (Add.add (Add.add 0 1) A.2.1.length)) (be (b,[UInt8.ofNat (Int.toNat (IntKind.wrap .u8 (eZ 48 (Int.tmod b 10))))]++A.2.1,()))))) (bY (A.2.1,()))) (x,[UInt8.ofNat (Int.toNat (IntKind.wrap .u8 (eZ 48 (Int.tmod x 10))))],()) (λA=>mpure A.1)))
def age(x:bd×z1'):M bd:=
 bQ (λA=>fw A.2.2.1 A.2.1 (aq (M1 (bw A.2.1 A.2.2.1 0)) (λy=>ae (cb (Add.add (Add.add 0 1) y.length)) (ae (cb (Add.add A.1.length (Add.add y.length 1))) (be (A.1++([32]++y),A.2.1,bf A.2.2.1,()))))) (bY (A.1,()))) (x.1,x.2,0,()) λA=>mpure A.1
def M7{hh:Type}(c0:z3'->M (z3'))(bG:List (List (z17'))->M (List (List (z17'))))(c2:z3'->M (z3'))(c3:List (z17')×Unit->M (List (z17')×Unit))(c4:z1'->M (z1'))(c5:List oV->M (List oV))(ph:List me->M (List me))(rK:z5'->M (z5'))(x:bJ)(fin:bJ->M hh):M hh:=
 ae True (dE (c0 x.1.1) (ae True (dE (bG x.1.2.1) (ae True (dE (c2 x.1.2.2.2) (ae True (ae True (ae True (cB (ae True (dA (λ(A:Int×Int×Int×z1'×List oV×List me×z5'×Int×Int×Int×z3'×List (List (z17'))×z3'×Unit)=>letI aT:=A.2;letI nx:=aT.2.2.2;letI s1:=aT.1.toNat;letI fq:=nx.2.2.2;letI iy:=fq.2.2.2;bm (aT.1<A.1) (cB (ae True (bU aT.1 iy.2.1 (ae True (ae (s1=s1) (aq (c3 (bw iy.2.1 aT.1 [],())) (λy=>ae True (ae (s1=s1) (ae True (ae (s1=s1) (dA (λA=>letI eA:=A.2.2.2.2;letI b4:=eA.2.2.2;letI i1:=b4.2.2.2;letI cU:=i1.2.2.2.2;letI bz:=cU.2.2.1;letI jO:=bw bz eA.1 (0,[],0,0);bm (eA.1<A.2.2.2.1) (ae True (ae (A.1=cU.1.2) (ae True (ae (A.1=cU.1.2) (bU eA.1 bz (dE (c4 jO.2.1) (bU eA.1 bz (be (A.1,A.2.1,A.2.2.1,A.2.2.2.1,bf eA.1,eA.2.1,eA.2.2.1,b4.1,b4.2.1,b4.2.2.1,i1.1,i1.2.1,i1.2.2.1,i1.2.2.2.1,cU.1,cU.2.1,List.set bz eA.1.toNat (jO.1,M.val (c4 jO.2.1) [],jO.2.2),()))))))))) (bY (A.2.1,A.2.2.1,eA.2.1,eA.2.2.1,b4.1,b4.2.1,b4.2.2.1,i1.1,i1.2.1,i1.2.2.1,i1.2.2.2.1,cU.1,cU.2.1,bz,()))) (s1,A.1,aT.1,aR y.1,0,aT.2.1,aT.2.2.1,nx.1,nx.2.1,nx.2.2.1,fq.1,fq.2.1,fq.2.2.1,iy.1,(iy.2.1,s1),iy.2.2.1,y.1,()))))))))))) (λA=>letI f2:=A.2.2.2.2;letI fs:=f2.2.2.2;letI ei:=fs.2.2.2;be (A.1,bf A.2.1,A.2.2.1,A.2.2.2.1,f2.1,f2.2.1,f2.2.2.1,fs.1,fs.2.1,fs.2.2.1,ei.1,List.set ei.2.1.1 ei.2.1.2 ei.2.2.2.1,ei.2.2.1,()))) (bY (aT.2.1,aT.2.2.1,nx.1,nx.2.1,nx.2.2.1,fq.1,fq.2.1,fq.2.2.1,iy.1,iy.2.1,iy.2.2.1,()))) (aR (M.val (bG x.1.2.1) []),0,x.1.2.2.1,x.2.1,x.2.2.1,x.2.2.2.1,x.2.2.2.2.1,x.2.2.2.2.2,0,0,M.val (c0 x.1.1) [],M.val (bG x.1.2.1) [],M.val (c2 x.1.2.2.2) [],()))) (λA=>letI L:=A.2.2;letI cj:=L.2.2;letI gD:=cj.2.2.2;dE (c4 A.2.1) (dE (c5 L.1) (dE (ph L.2.1) (dE (rK cj.1) (bQ (λA=>letI i2:=A.2;letI t1:=i2.2.2.2;letI mC:=t1.2.2.2.2;letI d2:=mC.2.2;letI m1:=bw d2.1 i2.1 (0,0,0,0,[]);bm (i2.1<A.1) (bU i2.1 d2.1 (dE (c4 m1.2.2.2.2) (bU i2.1 d2.1 (be (A.1,bf i2.1,i2.2.1,i2.2.2.1,t1.1,t1.2.1,t1.2.2.1,t1.2.2.2.1,mC.1,mC.2.1,List.set d2.1 i2.1.toNat (m1.1,m1.2.1,m1.2.2.1,m1.2.2.2.1,M.val (c4 m1.2.2.2.2) []),d2.2.1,d2.2.2.1,()))))) (bY (i2.2.1,i2.2.2.1,t1.1,t1.2.1,t1.2.2.1,t1.2.2.2.1,mC.1,mC.2.1,d2.1,d2.2.1,d2.2.2.1,()))) (aR (M.val (c5 L.1) []),0,A.1,cj.2.1,cj.2.2.1,gD.1,gD.2.1,gD.2.2.1,gD.2.2.2.1,M.val (c4 A.2.1) [],M.val (c5 L.1) [],M.val (ph L.2.1) [],M.val (rK cj.1) [],()) (λA=>letI m2:=A.2.2.2;letI v1:=m2.2.2.2;bQ (λA=>letI og:=A.2;letI h_:=og.2.2.2;letI aM:=h_.2.2.2.2;letI fc:=aM.2.2.2;letI cq:=bw fc.1 og.1 ([],(0,0),0,0,0);bm (og.1<A.1) (bU og.1 fc.1 (dE (c4 cq.1) (bU og.1 fc.1 (be (A.1,bf og.1,og.2.1,og.2.2.1,h_.1,h_.2.1,h_.2.2.1,h_.2.2.2.1,aM.1,aM.2.1,aM.2.2.1,List.set fc.1 og.1.toNat (M.val (c4 cq.1) [],cq.2),fc.2.1,()))))) (bY (og.2.1,og.2.2.1,h_.1,h_.2.1,h_.2.2.1,h_.2.2.2.1,aM.1,aM.2.1,aM.2.2.1,fc.1,fc.2.1,()))) (aR v1.2.2.2.1,0,A.1,A.2.1,A.2.2.1,m2.1,m2.2.1,m2.2.2.1,v1.1,v1.2.1,v1.2.2.1,v1.2.2.2.1,v1.2.2.2.2.1,()) λA=>letI mw:=A.2.2.2.2.2;fin ((A.2.2.2.2.1,mw.1,A.1,mw.2.1),mw.2.2.1,mw.2.2.2.1,mw.2.2.2.2.1,mw.2.2.2.2.2.1,A.2.1))))))))))))))))
def lR(s:bJ):M0:=(s.1.1,s.1.2.1,s.1.2.2.1,s.2.2.2.2.2,s.1.2.2.2,s.2.1,s.2.2.1,s.2.2.2.1,s.2.2.2.2.1,())
def aye(x:bJ):M bJ:=M7 c0 bG c2 c3 c4 c5 ph rK x mpure
def ayf(x:bJ×Unit):M M0:=M7 c0 bG c2 c3 c4 c5 ph rK x.1 λs=>mpure (lR s)
end Go.Fer
namespace Go.Fer
variable (aOC:bJ->M Bool) (aOD:Unit->M Bool) (aOE:bJ×Unit->M (at6)) (aOF:bJ×bJ->M Bool) (acM:bJ->M (bJ)) (M4 M5:bJ->M (z12')) (afA:bJ×Int->M (z18')) (aOG:bJ×Int->M (z12')) (afx:bJ->M Bool) (HL Mq:bJ->M Int) (aOH aOI:bJ×Int×Int->M (z12')) (aOJ:bJ×Int->M (z18')) (aOK:z1'×z1'->M Bool) (aOL:bJ×bJ->M Bool) (aud:bJ->M (z12')) (aOM:bJ×Int->M (z12')) (aON:bJ->M (z12')) (agf:bJ->M (z18')) (aOO:z18'->M Bool) (aOP:bJ×z1'->M Int) (aug:bJ×z1'->M Bool) (aOQ:bJ×z1'->M Int) (aOR afC:bJ×z1'->M (z12')) (auh:bJ×z1'->M Bool) (auc:bJ->M Int) (agh:Unit->M (bJ)) (acK:z11'->M Bool) (acL:Unit->M b2)
def agi(x:bJ):M Bool:=
 aq (acK x.1) λy=>if y||dp (aR x.2.1) 40||dp (aR x.2.2.1) 40||dp (aR x.2.2.2.1) 40||dp (aR x.2.2.2.2.1) 40 then iX else bQ (λA=>fw A.1 A.2.1.2.2.1 (bm (aR (bw A.2.1.2.2.1 A.1 (0,0,0,0,[])).2.2.2.2 > 40) (cS true) (be (bf A.1,A.2.1,()))) (bY (A.2.1,()))) (0,x,()) λA=>bQ (λA=>fw A.1 A.2.1.2.2.2.1 (bm (aR (bw A.2.1.2.2.2.1 A.1 ([],(0,0),0,0,0)).1 > 40) (cS true) (be (bf A.1,A.2.1,()))) (bY (A.2.1,()))) (0,A.1,()) λA=>aq (Mq A.1) λy=>bm (y≠0) h' (bQ (λA=>letI e:=A.2.2.1;fw A.2.1 e.2.2.1 (be (eZ A.1 (aR (bw e.2.2.1 A.2.1 (0,0,0,0,[])).2.2.2.2),bf A.2.1,e,())) (bY (A.1,e,()))) (0,0,A.1,()) (λA=>mpure (dp (aR A.2.1.2.2.2.1) 3||dp (aR A.2.1.2.2.1) 4||dp (aR A.2.1.2.2.2.2.1) 3||dp A.1 4)))
def agj(x:Unit):M (bJ):=
 aq (acL ()) λy=>mpure (y,[1,0,0,0],[(1,60,0,0,[0]),(1,60,7,0,[]),(2,65,0,1,[0]),(2,60,0,0,[0,1])],[([1],(55,65),7,3,500),([1,2],(60,60),0,5,400),([2],(60,70),9,8,700),([2],(65,65),0,5,300)],[(4,2,1),(6,3,1)],2)
end Go.Fer
namespace Go.Fer
abbrev bK:V:=.int .i64
abbrev dY:V:=.bool
abbrev ha:V:=.slice bK
abbrev oY:V:=.ad (.ar bK bK)
abbrev mF:V:=.ad (.ar bK (.ar bK oY))
abbrev tq:V:=.ad (.ar bK (.ar ha oY))
abbrev nh:V:=.ad (.slice tq)
abbrev lW:V:=.ad (.ar bK (.ar bK (.ar bK bK)))
abbrev mG:V:=.ad (.ar (.slice mF) (.ar (.slice nh) (.ar bK (.slice lW))))
attribute [simp] vK S8 xC e4 Fz Pz iE kF r2 mc oe cY uG dm kE S7 aJ.pF
abbrev dy:aO:=⟨.ar bK (.ar bK bK),dY,λ_=>True,λx=>decide (x.2.1<=x.1)&&decide (x.1<=x.2.2)⟩
theorem ayg(x):a8 (atK x) (dy.sh x):=bx λ_=>rfl
abbrev r_:aO:=⟨.ar ha bK,dY,λx=>x.1.length<2 ^ 63,λx=>x.1.contains x.2⟩
abbrev UO:Type:=z28'
abbrev BI:Type:=z17'
abbrev pN:Type:=z28'
def iG(w:b2):Prop:=w.1.length<2 ^ 63/\w.2.1.length<2 ^ 63/\w.2.2.2.length<2 ^ 63/\∀ m∈w.2.1,m.length<2 ^ 63/\∀ s∈m,s.2.1.length<2 ^ 63
def iP(w:b2)(n:Int):Bool:=decide (0<=n)&&decide (n<(w.1.length:Int))
def tr(w:b2)(n:Int):Bool:=decide (0<=n)&&decide (n<(w.2.1.length:Int))
def lx(w:b2)(m:Int):List BI:=w.2.1.getD m.toNat []
def kJ(w:b2)(m k:Int):Bool:=tr w m&&(decide (0<=k)&&decide (k<((lx w m).length:Int)))
variable {w:b2}
theorem xR{n:Int}:iP w n=true<->0<=n/\n<(w.1.length:Int):=by simp[iP]
theorem UP{n:Int}:tr w n=true<->0<=n/\n<(w.2.1.length:Int):=by simp[tr]
variable {m:Int}{k:Int}
theorem EA:kJ w m k=true<->(0<=m/\m<(w.2.1.length:Int))/\0<=k/\k<((lx w m).length:Int):=by simp[kJ,tr]
theorem M8(hw:iG w)(m:Int):(lx w m).length<2 ^ 63:=by
 unfold lx;rw[amq];cases h:w.2.1[m.toNat]? with
 | none=>simp
 | some x=>exact (hw.2.2.2 x (aQR h)).1
theorem y6(n m:Int):decide (n<=m - 1)=decide (n<m):=by
 grind
abbrev sc:aO:=⟨.ar mG bK,dY,λx=>iG x.1,λx=>iP x.1 x.2⟩
theorem agk(w:b2)(n:Int)(h:iG w):Td dy.sh (w,n)=mpure (iP w n):=by
 unfold Td aR cE;have ah:=h.1;have hw:=bs (n:=(w.1.length:Int) - 1);simp[aO.sh,dy,hw,iP,y6]
theorem ayh(x):a8 (Td dy.sh x) (sc.sh x):=bx λh=>agk x.1 x.2 h
abbrev EB:aO:=⟨.ar mG bK,dY,λx=>iG x.1,λx=>tr x.1 x.2⟩
theorem ayi(w:b2)(n:Int)(h:iG w):Tg dy.sh (w,n)=mpure (tr w n):=by
 unfold Tg aR cE;have ah:=h.2.1;have hw:=bs (n:=(w.2.1.length:Int) - 1);simp[aO.sh,dy,hw,tr,y6]
theorem ayj(x):a8 (Tg dy.sh x) (EB.sh x):=bx λh=>ayi x.1 x.2 h
abbrev uO:aO:=⟨.ar mG (.ar bK bK),dY,λx=>iG x.1,λx=>kJ x.1 x.2.1 x.2.2⟩
theorem agl(w:b2)(m k:Int)(h:iG w):Mk dy.sh EB.sh (w,m,k)=mpure (kJ w m k):=by
 unfold Mk cf bw aR cE;have ah:=M8 h m;have hw:=bs (n:=((lx w m).length:Int) - 1);unfold lx at hw;simp only[aO.sh,dy,EB,e4,mc,cC,hw,y6,bc h];rw[bc,bc (by simp)]
 ·simp only[kJ,lx];simp
 ·intro hm;exact⟨⟨hm,hm⟩,UP.1 hm,trivial⟩
theorem ayk(x):a8 (Mk dy.sh EB.sh x) (uO.sh x):=bx λh=>agl x.1 x.2.1 x.2.2 h
def y7(s:z12'):Bool:=(decide (0<=s.1)&&decide (s.1<=s.2))&&decide (s.2<=999)
abbrev ry:aO:=⟨oY,dY,λ_=>True,y7⟩
theorem agm(s:z12'):Ti dy.sh s=mpure (y7 s):=by
 unfold Ti hS;simp[aO.sh,dy,y7]
theorem ayl(x):a8 (Ti dy.sh x) (ry.sh x):=bx λ_=>agm x
def vW(l:z1'):Bool:=(List.range (l.length - 1)).all λi=>decide (l.getD i 0<l.getD (i+1) 0)
abbrev xS:aO:=⟨ha,dY,λx=>x.length<2 ^ 63,vW⟩
theorem agn(l:z1')(h:l.length<2 ^ 63):Tf l=mpure (vW l):=by
 unfold Tf fw bw bm bf bQ cS bY be iX bU cE;rw[eH (List.range (l.length - 1)) (λi (_:Unit)=>(l,((i+1:Nat):Int),())) (λi b=>if (decide (l.getD i 0<l.getD (i+1) 0))=true then .aw b else .aV (.aV false)) (λ_=>.aw ()) () ?_ ?_ ?_]
 ·rw[Me];unfold vW;cases (List.range (l.length - 1)).all λi=>decide (l.getD i 0<l.getD (i+1) 0)<;>simp
 ·simp
 ·intro i G b;have d_:i+1<l.length:=by grind
  have hw:=bs (n:=(i:Int)+1+1);have gz:=bs (n:=(i:Int)+1 - 1);have aE:((i:Int)+1).toNat=i+1:=by omega
  have bz:((i:Int)+1 - 1).toNat=i:=by omega
  have cq:(0:Int)<=(i:Int)+1/\(i:Int)+1<(l.length:Int):=by omega
  have c7:(0:Int)<=(i:Int)+1 - 1/\(i:Int)+1 - 1<(l.length:Int):=by omega
  simp only[cC,Int.natCast_add,Int.cast_ofNat_Int,hw,gz,cq,c7,bc,aE,bz,dm,aPJ,amp,if_true,aN,aRj,aQK,Int.natCast_one];generalize l.getD i 0=aI;generalize l.getD (i+1) 0=B;by_cases hc:aI<B
  ·simp[hc,Int.not_le.2 hc]
  ·simp[hc,Int.not_lt.1 hc]
 ·intro b;have:¬(((List.range (l.length - 1)).length:Int)+1<(l.length:Int)):=by grind
  simp[this];omega
theorem aym(x):a8 (Tf x) (xS.sh x):=bx λh=>agn x h
def tt(n:Int):Bool:=decide (0<=n)&&decide (n<=9)
def sd(s:BI):Bool:=s.2.1.all tt&&(tt s.1&&decide ((s.2.1.length:Int)<=4)&&vW s.2.1&&y7 s.2.2)
def uP(s:UO):Bool:=tt s.1&&tt s.2.1&&y7 s.2.2
def v'(w:b2)(t:pN):Bool:=iP w t.1&&kJ w t.2.1 t.2.2.1&&(decide (0<=t.2.2.2)&&decide (t.2.2.2<=1))
def tu(m:List BI):Bool:=!decide ((m.length:Int) > 4)&&m.all sd
def y8(w:b2):Bool:=!(decide ((w.1.length:Int) > 10)||decide ((w.2.1.length:Int) > 6)||!(decide (0<=w.2.2.1)&&decide (w.2.2.1<=99))||decide ((w.2.2.2.length:Int) > 30))
def ni(w:b2):Bool:=y8 w&&w.1.all uP&&w.2.1.all tu&&w.2.2.2.all (v' w)
abbrev wa:aO:=⟨tq,dY,λx=>x.2.1.length<2 ^ 63,sd⟩
theorem ayn(s:BI)(h:s.2.1.length<2 ^ 63):Tj xS.sh dy.sh ry.sh s=mpure (sd s):=by
 unfold Tj hS fw cf bw bf aR bQ cS bY be;rw[eH s.2.1 (λi (_:Unit)=>((i:Int),s,())) (λn b=>if tt n=true then .aw b else .aV (.aV false)) (λ_=>.aw (s,())) () ?_ ?_ ?_]
 ·rw[Me];unfold sd;cases s.2.1.all tt with
  | false=>simp
  | true=>
   simp only[aO.sh,dy,xS,ry,bc h,tt,if_true,aN,cY,e4,mc,cp,cC,h,aQa,aQX];simp
 ·rfl
 ·intro i G b;have hw:=bs (n:=(i:Int)+1);simp[aO.sh,dy,G,hw,tt];grind
 simp
theorem ayo(x):a8 (Tj xS.sh dy.sh ry.sh x) (wa.sh x):=bx λh=>ayn x h
abbrev y9:aO:=⟨mG,dY,iG,ni⟩
theorem ayp(w:b2)(h:iG w):Th sc.sh uO.sh dy.sh ry.sh wa.sh w=mpure (ni w):=by
 have az:=h;obtain⟨E,L,an,a6⟩:=h;unfold Th dp iA fw cf bw cB bD bm bf aR bQ cS iM bY be h' iX bU;simp only[aO.sh,dy,mc,e4,aQa,cp,cC,vK];split
 ·rename_i hc;have:y8 w=false:=by unfold y8;grind
  simp[ni,this]
 ·rename_i hc;have dh:y8 w=true:=by unfold y8;grind
  have aOS:w.2.1.length<=6:=by grind
  rw[eH w.1 (λi (_:Unit)=>((i:Int),w,())) (λn b=>if (!tt n.1||!tt n.2.1||!y7 n.2.2)=true then .aV (.aV false) else .aw b) (λ_=>.aw (w,())) () ?_ ?_ ?_]
  ·rw[m' (q:=uP) _ _ (λt=>by simp only[uP,Bool.not_and])];cases kQ:w.1.all uP with
   | false=>simp[ni,kQ]
   | true=>
    simp only[aN,if_true,cY];rw[eH w.2.1 (λi (_:Unit)=>((i:Int),w,())) (λm b=>if tu m=true then .aw b else .aV (.aV false)) (λ_=>.aw (w,())) () ?_ ?_ ?_]
    ·rw[Me];cases a1:w.2.1.all tu with
     | false=>simp[ni,a1]
     | true=>
      simp only[aN,if_true,cY];rw[eH w.2.2.2 (λi (_:Unit)=>((i:Int),w,())) (λt b=>if (!iP w t.1||!kJ w t.2.1 t.2.2.1||!(decide (0<=t.2.2.2)&&decide (t.2.2.2<=1)))=true then .aV (.aV false) else .aw b) (λ_=>.aw ()) () ?_ ?_ ?_]
      ·rw[m' (q:=v' w) _ _ (λt=>by simp only[v',Bool.not_and])];cases ky:w.2.2.2.all (v' w)<;>simp[ni,kQ,a1,ky,dh]
      ·rfl
      ·intro i G b;have hw:=bs (n:=(i:Int)+1);simp only[cC,dQ G,if_true,ed G,dK G,cp,aO.sh,sc,uO,e4,mc,az,aQa,vK,aN,dm,hw];exact pG (mk:=λ_:Unit=>((i:Int)+1,w,()))
      simp
    ·rfl
    ·intro i G b;have hw:=bs (n:=(i:Int)+1);obtain⟨mY,cS⟩:=a6 w.2.1[i] (amk G);simp only[cC,Int.ofNat_lt,G,aRj,if_true,ed G,Int.natCast_nonneg,aQK,cp];by_cases hlen:(w.2.1[i].length:Int) > 4
     ·simp[hlen,tu]
     ·simp only[hlen,aQj,aml,aPH];rw[eH w.2.1[i] (λk (_:Unit)=>((i:Int),(k:Int),w,())) (λs b=>if (!sd s)=true then .aV (.aV (.aV (.aV false))) else .aw b) (λ_=>.aw ((i:Int),w,())) () ?_ ?_ ?_]
      ·rw[m' (q:=sd) _ _ (λ_=>rfl)];cases UQ:w.2.1[i].all sd<;>simp[tu,UQ,hlen,hw]
      ·rfl
      ·intro k ak b;have nN:=bs (n:=(k:Int)+1);have Ik:=cS w.2.1[i][k] (amk ak);simp only[cC,dQ ak,dQ G,if_true,ed G,ed ak,dK G,dK ak,cp,wa,e4,Ik,bc Ik,aN,dm,nN];exact pG (mk:=λ_:Unit=>((i:Int),(k:Int)+1,w,()))
      simp_all
    simp
  ·rfl
  ·intro i G b;have hw:=bs (n:=(i:Int)+1);simp only[cC,dQ G,if_true,ed G,dK G,cp,aO.sh,ry,e4,mc,aQa,vK,aN,dm,hw,Bool.not_not];exact pG (mk:=λ_:Unit=>((i:Int)+1,w,()))
  simp
theorem ayq(x):a8 (Th sc.sh uO.sh dy.sh ry.sh wa.sh x) (y9.sh x):=bx λh=>ayp x h
abbrev tv:pN:=(0,0,0,0)
def pO(a b:pN):Bool:=decide (a.1=b.1)&&decide (a.2.1=b.2.1)&&decide (a.2.2.1=b.2.2.1)&&decide (a.2.2.2≠b.2.2.2)
def qv(l:List pN):Bool:=(List.range l.length).all λi=>(List.range i).all λk=>!pO (l.getD k tv) (l.getD i tv)
def dH(w:b2):Int:=if ni w=true then (if qv w.2.2.2=true then 0 else 71) else 70
theorem ago{a b:Nat}(h:a<b):((0:Int)<=(a:Int)/\(a:Int)<(b:Int))=True:=dK h
abbrev jV:aO:=⟨mG,bK,iG,dH⟩
theorem ayr(w:b2)(h:iG w):Te y9.sh w=mpure (dH w):=by
 have az:=h;obtain⟨E,L,an,a6⟩:=h;unfold Te b7 iA e6 bw bD bm bf bQ cS iM bY be bU;simp only[aO.sh,e4,bc az];unfold dH;cases hw:ni w with
 | false=>simp
 | true=>
  rw[eH (List.range w.2.2.2.length) (λi (_)=>((i:Int),w,())) (λi b=>if (List.range i).any (λk=>pO (w.2.2.2.getD k tv) (w.2.2.2.getD i tv))=true then .aV (.aV (71)) else .aw b) (λ_=>.aw ()) () ?_ ?_ ?_]
  ·rw[m' (q:=λi=>(List.range i).all λk=>!pO (w.2.2.2.getD k tv) (w.2.2.2.getD i tv)) _ _ (λi=>acb (λk=>by simp) _)];have e:((List.range w.2.2.2.length).all λi=>(List.range i).all λk=>!pO (w.2.2.2.getD k tv) (w.2.2.2.getD i tv))=qv w.2.2.2:=rfl;rw[e];cases qv w.2.2.2<;>simp
  ·rfl
  ·intro i G b;have G:i<w.2.2.2.length:=by grind
   have lX:=bs (n:=i+1);simp only[cC,dQ G,aPJ];rw[eH (List.range i) (λk (_)=>((i:Int),(k:Int),w,())) (λk b=>if pO (w.2.2.2.getD k tv) (w.2.2.2.getD i tv)=true then .aV (.aV (.aV (.aV (71)))) else .aw b) (λ_=>.aw (i,w,())) () ?_ ?_ ?_]
   ·rw[uH];cases (List.range i).any (λk=>pO (w.2.2.2.getD k tv) (w.2.2.2.getD i tv))<;>simp[lX]
   ·rfl
   ·intro k ak b;have ak:k<i:=by grind
    have oj:k<w.2.2.2.length:=by omega
    have nN:=bs (n:=k+1);simp only[dQ ak,aPJ,ago oj,ago G,cp,aN,dm,nN];exact pG (mk:=λ_=>((i:Int),(k:Int)+1,w,()))
   simp
  simp
theorem ays(x):a8 (Te y9.sh x) (jV.sh x):=bx λh=>ayr x h
def js(w:b2)(i:Int):UO:=w.1.getD i.toNat (0,0,0,0)
def y_(w:b2)(m k:Int):BI:=(lx w m).getD k.toNat (0,[],0,0)
variable {i:Int}
theorem ayt(h:iP w i=true):js w i∈w.1:=by
 rw[xR]at h;exact Bn h.1 h.2
theorem UR(h:kJ w m k=true):lx w m∈w.2.1:=by
 rw[EA]at h;exact Bn h.1.1 h.1.2
theorem agp(h:kJ w m k=true):y_ w m k∈lx w m:=by
 rw[EA]at h;exact Bn h.2.1 h.2.2
theorem EC(h:ni w=true):y8 w=true/\(∀ s∈w.1,uP s=true)/\(∀ m∈w.2.1,tu m=true)/\∀ t∈w.2.2.2,v' w t=true:=by
 simp  [ni,aPZ]at h;grind
theorem Il(h:ni w=true):w.1.length<=10/\w.2.1.length<=6/\(0<=w.2.2.1/\w.2.2.1<=99)/\w.2.2.2.length<=30:=by
 have:=(EC h).1;simp[y8]at this;omega
theorem ayu(h:ni w=true)(hm:kJ w m k=true):(lx w m).length<=4:=by
 have:=(EC h).2.2.1 _ (UR hm);simp[tu]at this;omega
theorem ayv(h:ni w=true)(hm:kJ w m k=true):sd (y_ w m k)=true:=by
 have:=(EC h).2.2.1 _ (UR hm);simp only[tu,amm,aPZ]at this;exact this.2 _ (agp hm)
theorem ayw{s:BI}(h:sd s=true):0<=s.2.2.1/\s.2.2.1<=s.2.2.2/\s.2.2.2<=999:=by
 simp  [sd,y7,amp]at h;omega
theorem agq(h:ni w=true)(G:iP w i=true):0<=(js w i).2.2.1/\(js w i).2.2.1<=(js w i).2.2.2/\(js w i).2.2.2<=999:=by
 have:=(EC h).2.1 _ (ayt G);simp  [uP,y7,amp]at this;omega
theorem ayx(h:ni w=true){t:pN}(aH:t∈w.2.2.2):iP w t.1=true/\kJ w t.2.1 t.2.2.1=true:=by
 have:=(EC h).2.2.2 _ aH;simp  [v']at this;grind
def BJ(w:b2)(i n m k:Int):Bool:=
 decide ((js w i).1=(y_ w m k).1)&&(y_ w m k).2.1.contains (js w i).2.1&&(decide ((y_ w m k).2.2.1<=n)&&decide (n<=(y_ w m k).2.2.2+w.2.2.1))
def tw(w:b2):Prop:=iG w/\ni w=true
abbrev Im:aO:=⟨.ar mG (.ar bK (.ar bK (.ar bK bK))),dY,λx=>tw x.1/\iP x.1 x.2.1=true/\kJ x.1 x.2.2.2.1 x.2.2.2.2=true,λx=>BJ x.1 x.2.1 x.2.2.1 x.2.2.2.1 x.2.2.2.2⟩
theorem ayy(w:b2)(i n m k:Int)(hw:tw w)(G:iP w i=true)(hm:kJ w m k=true):acq r_.sh dy.sh (w,i,n,m,k)=mpure (BJ w i n m k):=by
 unfold acq eZ b7 cf bw bU;have cq:=xR.1 G;have c7:=EA.1 hm;have fD:=ayw (ayv hw.2 hm);have P':=(Il hw.2).2.2.1;have Ik:=(hw.1.2.2.2 _ (UR hm)).2 _ (agp hm);have lX:=bs (n:=(y_ w m k).2.2.2+w.2.2.1);simp only[y_,lx]at *
 simp only[aO.sh,mc,e4,cC,cq,c7,aQK,cp,aQa,dm,lX,xC,Ik];rfl
def y'(w:b2)(i n:Int)(t:pN):Bool:=!(decide (t.1=i)&&!decide (BJ w i n t.2.1 t.2.2.1=decide (t.2.2.2=1)))
def US(w:b2)(i n:Int):Bool:=w.2.2.2.all (y' w i n)&&(decide ((js w i).2.2.1<=n)&&decide (n<=(js w i).2.2.2))
def jX(w:b2)(i:Int):z1':=(fM (js w i).2.2.1 (js w i).2.2.2).filter (US w i)
theorem agr(hw:tw w)(G:iP w i=true):(jX w i).length<=1000:=by
 have:=agq hw.2 G;have L:=aQe (US w i) (fM (js w i).2.2.1 (js w i).2.2.2);rw[DS]at L;unfold jX;omega
theorem ayz{i:Nat}(h:i<w.1.length):iP w (i:Int)=true:=by rw[xR];omega
def za(w:b2):Bool:=(List.range w.1.length).all λi=>!decide (((jX w (i:Int)).length:Int)=0)
def fF(w:b2)(ca:Bool):Int:=if dH w≠0 then dH w else if ca=false then 1 else if za w=true then 0 else 3
theorem UT(h:dH w=0):ni w=true:=by
 unfold dH at h;grind
theorem Io{ca:Bool}(h:fF w ca=0):dH w=0/\ca=true/\za w=true:=by
 unfold fF at h;grind
theorem ags{ca:Bool}(az:iG w)(h:fF w ca=0):tw w:=⟨az,UT (Io h).1⟩
theorem ayA(h:za w=true)(G:iP w i=true):0<(jX w i).length:=by
 rw[xR]at G;have:=List.all_eq_true.1 h i.toNat (by grind);grind
def ED(w:b2)(i:Int):z22':=if fF w (iP w i)≠0 then ((0,0),fF w (iP w i)) else (((jX w i).getD 0 0,(jX w i).getD ((jX w i).length - 1) 0),0)
abbrev EE:aO:=⟨.ar mG bK,.ar oY bK,λx=>iG x.1,λx=>ED x.1 x.2⟩
def M9(some many:Int):Int:=if some=many then 1 else if some=0 then 2 else 3
abbrev M_:aO:=⟨.ar bK bK,bK,λ_=>True,λx=>M9 x.1 x.2⟩
theorem agt{ag:Type}{p:ag->Bool}:∀ (l:List ag) (n:Int),l.foldl (λn x=>if p x=true then n+1 else n) n=n+(l.countP p:Int)
 | [],n=>by simp
 | x::l,n=>by
  simp;rw[agt l];grind
def xT(w:b2)(i m k:Int):Int:=M9 ((jX w i).countP λn=>BJ w i n m k:Int) ((jX w i).length:Int)
def tx(w:b2)(i m k:Int):z12':=if fF w (iP w i&&kJ w m k)≠0 then (0,fF w (iP w i&&kJ w m k)) else (xT w i m k,0)
abbrev EF:aO:=⟨.ar mG (.ar bK (.ar bK bK)),.ar bK bK,λx=>iG x.1,λx=>tx x.1 x.2.1 x.2.2.1 x.2.2.2⟩
section
variable {ag:Type}
def Bt(d:ag)(x:List ag×(ag->M Bool)):M Int:=
 aq (dA (λ(A:List ag×(ag->M Bool)×Int×Int×Unit)=>if decide (A.2.2.2.1<A.2.2.1)=true then ae (0<=A.2.2.2.1/\
 A.2.2.2.1<Int.ofNat (List.length A.1)) (aq (A.2.1 (List.getD A.1 (Int.toNat A.2.2.2.1) d)) λy=>if y=true then aq (aq (mpure
 A.2.2.2.1) λr=>mpure (aJ.aV r)) λr=>mpure (aJ.aV r) else mpure (aJ.aw (A.1,A.2.1,A.2.2.1,IntKind.wrap .i64 (Add.add
 A.2.2.2.1 1),()))) else aq (mpure (aJ.aw ())) λr=>mpure (aJ.aV r)) (x.1,x.2,Int.ofNat (List.length x.1),0,())) (aJ.fC λ(A
 : Unit)=>mpure (-1))
def HV(c:List ag×(ag->M Bool)->M Int)(x:List ag×(ag->M Bool)):M Bool:=aq (c x) λy=>mpure (decide (y>=0))
def agu(c:List ag×(ag->M Bool)->M Bool)(bG:ag×Option (ag->M Bool)->M Bool)(x:List ag×(ag->M Bool)):M Bool:=
 aq (c (x.1,λjo=>bG (jo,some x.2))) λy=>mpure !y
def agv(x:ag×Option (ag->M Bool)):M Bool:=aq (Option.getD x.2 (λx=>{ e3:=False,a_:=λx=>False }) x.1) λy=>mpure !y
def jJ(p:ag->Bool):List ag->Int->Int
 | [],_=>-1
 | x::l,i=>if p x=true then i else jJ p l (i+1)
theorem D3(p:ag->Bool):∀ (l:List ag) (i:Int),0<=i->(decide (jJ p l i>=0))=l.any p
 | [],i,_=>by rfl
 | x::l,i,h=>by
  simp only[jJ,aQE];by_cases al:p x=true
  ·grind
  ·have:=D3 p l (i+1) (by omega);grind
theorem D4(p:ag->Bool):∀ (l:List ag) (i:Int),fa (λx (i:Int)=>if p x=true then (.aV (.aV i):aJ Int (aJ Unit Int)) else .aw (i+1)) (λ_=>.aw ()) l i=if l.any p=true then .aV (jJ p l i) else .aw ()
 | [],i=>by rfl
 | x::l,i=>by
  simp only[fa,aQE,jJ];by_cases al:p x=true
  ·grind
  ·have:=D4 p l (i+1);grind
theorem HW{p:ag->Bool}:∀ (l:List ag) (i:Int),¬l.any p=true->jJ p l i=-1
 | [],_,_=>rfl
 | x::l,i,aC=>by
  simp only[aQE,aPU,not_or]at aC;simp only[jJ,aC.1,aml,aPH];exact HW l _ aC.2
theorem TS(d:ag)(l:List ag)(f:ag->M Bool)(h:l.length<2 ^ 63)(ay:∀ y∈l,∃ b,f y=mpure b):Bt d (l,f)=mpure (jJ (λy=>(f y).val false) l 0):=by
 unfold Bt;rw[e2 l (λi (b:Int)=>(l,f,(l.length:Int),b,())) (λy (i:Int)=>if (f y).val false=true then (.aV (.aV i):aJ Int (aJ Unit Int)) else .aw (i+1)) (λ_=>.aw ()) (λi b=>b=(i:Int)) 0 ?_ ?_ ?_ ?_]
 ·rw[D4 (λy=>(f y).val false)];by_cases aY:(l.any λy=>(f y).val false)=true
  ·simp[aY]
  ·have:jJ (λy=>(f y).val false) l 0=-1:=by
    have:∀ (l:List ag) (i:Int),¬(l.any λy=>(f y).val false)=true->jJ (λy=>(f y).val false) l i=-1:=by
     intro l;induction l with
     | nil=>intro i _;rfl
     | cons x l aP=>
      intro i aC;simp only[aQE,aPU,not_or]at aC;simp only[jJ,aC.1,aml,aPH];grind
    grind
   simp[aY,this]
 ·rfl
 ·rfl
 ·intro i G b U;subst U;have hw:=bs (n:=(i:Int)+1);refine⟨?_,λbj ef=>?_⟩
  ·obtain⟨b,U⟩:=ay _ (amk G);simp only[cC,dQ G,if_true,ed G,dK G,cp,U,kF,aN,dm,hw];split<;>rfl
  grind
 simp
end
abbrev kU(e:V):aO:=⟨.ar (.slice e) (.fn e .bool),bK,λx=>x.1.length<2 ^ 63/\∀ y∈x.1,∃ b,x.2 y=mpure b,λx=>jJ (λy=>(x.2 y).val false) x.1 0⟩
theorem ti(e:V)(x):a8 (Bt e.dU x) ((kU e).sh x):=bx λh=>TS e.dU x.1 x.2 h.1 h.2
abbrev h3(e:V):aO:=⟨.ar (.slice e) (.fn e .bool),dY,λx=>x.1.length<2 ^ 63/\∀ y∈x.1,∃ b,x.2 y=mpure b,λx=>x.1.any λy=>(x.2 y).val false⟩
theorem tj(e:V)(x):a8 (HV (kU e).sh x) ((h3 e).sh x):=bx λh=>by
 unfold HV;simp only[aO.sh,kU,e4];rw[bc (by exact h)];exact congrArg mpure (D3 (λy=>(x.2 y).val false) x.1 0 (by omega))
abbrev zb(e:V):aO:=⟨.ar e (.bO (.fn e .bool)),dY,λx=>∃ f,x.2=some f/\∃ b,f x.1=mpure b,λx=>!((x.2.getD λ_=>d') x.1).val false⟩
theorem Ip(e:V)(x):a8 (agv x) ((zb e).sh x):=bx λh=>by
 obtain⟨y,o⟩:=x;obtain⟨f,ay,b,U⟩:=h;change o=some f at ay;subst ay;change f y=mpure b at U;unfold agv;simp_all
abbrev ly(e:V):aO:=⟨.ar (.slice e) (.fn e .bool),dY,λx=>x.1.length<2 ^ 63/\∀ y∈x.1,∃ b,x.2 y=mpure b,λx=>x.1.all λy=>(x.2 y).val false⟩
theorem Iq(e:V)(x):a8 (agu (h3 e).sh (zb e).sh x) ((ly e).sh x):=bx λh=>by
 obtain⟨l,f⟩:=x;obtain⟨E,L⟩:=h;unfold agu;have hc:∀ y∈l,(zb e).sh (y,some f)=mpure (!(f y).val false):=λy ba=>by
  obtain⟨b,U⟩:=L y ba;exact bP ⟨f,rfl,b,U⟩ _
 simp only[aO.sh,h3,e4];rw[bc ⟨E,λy ba=>⟨_,hc y ba⟩⟩];refine congrArg mpure ?_;rw[List.not_any_eq_all_not];simp
end Go.Fer
namespace Go.Fer
variable {ag:Type}
theorem UU{p q:ag->Bool}:∀ {l:List ag},(∀ x∈l,p x=q x)->l.all p=l.all q
 | [],_=>rfl
 | x::l,h=>by
  grind
theorem ayB(x):a8 (at2 x) (dy.sh x):=bx λ_=>rfl
theorem ayC(x):a8 (at3 dy.sh x) (ry.sh x):=bx λ_=>agm x
abbrev BK:aO:=⟨bK,dY,λ_=>True,tt⟩
theorem ayD(x):a8 (acD dy.sh x) (BK.sh x):=bx λ_=>by
 unfold acD;simp only[aO.sh,dy,e4,cp,BK,tt]
theorem ayE(x):a8 (at0 dy.sh x) (sc.sh x):=bx λh=>agk x.1 x.2 h
theorem ayF(x):a8 (acB dy.sh x) (uO.sh x):=bx λh=>by
 obtain⟨w,m,k⟩:=x;change iG w at h;have:=agl w m k h;unfold Mk cf bw aR cE at this;unfold acB cf bw aR cE;simp only[aO.sh,EB,e4,bc h,dy,cp,cC]at this ⊢;have ah:=h.2.1;have hw:=bs (n:=(w.2.1.length:Int) - 1);simp only[hw,y6];exact this
theorem ayG(x):a8 (at1 x) (xS.sh x):=bx λh=>agn x h
theorem ayH(l:z1')(n:Int)(h:l.length<2 ^ 63):Tk (l,n)=mpure (jJ (λy=>decide (n=y)) l 0):=by
 unfold Tk bw bm bf aR bQ cS bY be bU;rw[e2 l (λi (b:Int)=>(l,n,(l.length:Int),b,())) (λy (i:Int)=>if decide (n=y)=true then (.aV (.aV i):aJ Int (aJ Unit Int)) else .aw (i+1)) (λ_=>.aw ()) (λi b=>b=(i:Int)) 0 ?_ ?_ ?_ ?_]
 ·rw[D4 (λy=>decide (n=y))];by_cases aY:(l.any λy=>decide (n=y))=true
  ·simp_all
  ·rw[if_neg aY,HW l 0 aY];simp
 ·rfl
 ·rfl
 ·intro i G b U;subst U;have hw:=bs (n:=(i:Int)+1);refine⟨?_,λbj ef=>?_⟩
  ·simp only[cC,dQ G,if_true,ed G,dK G,cp,aN,dm,hw];split<;>rfl
  grind
 simp
abbrev M':aO:=⟨.ar ha bK,bK,λx=>x.1.length<2 ^ 63,λx=>jJ (λy=>decide (x.2=y)) x.1 0⟩
theorem ayI(x):a8 (Tk x) (M'.sh x):=bx λh=>ayH x.1 x.2 h
theorem ayJ(x):a8 (acs M'.sh x) (r_.sh x):=bx λh=>by
 unfold acs;simp only[aO.sh,M',e4];rw[bc (by exact h),D3 _ _ _ (by omega)];grind
theorem ayK(x):a8 (acC BK.sh ry.sh x) ((⟨mF,dY,λ_=>True,uP⟩:aO).sh x):=bx λ_=>by
 unfold acC cf;simp only[aO.sh,BK,ry,e4,mc,cp,aQa,xC,uP]
abbrev Na:aO:=⟨mF,dY,λ_=>True,uP⟩
theorem ayL(x):a8 (acE xS.sh (ly bK).sh BK.sh ry.sh x) (wa.sh x):=bx λh=>by
 unfold acE hS cf aR;simp only[aO.sh,xS,ry,ly,BK,e4,mc,cp,aQa,iE];rw[bc (by exact λ_=>⟨h,λy _=>⟨_,bP trivial _⟩⟩),bc (by omega)];simp only[xC,cC];refine congrArg mpure ?_;show _=sd x;unfold sd;grind
abbrev EG:aO:=⟨.ar nh (.bO (.fn tq .bool)),dY,λx=>∃ f,x.2=some f/\x.1.length<2 ^ 63/\∀ y∈x.1,∃ b,f y=mpure b,λx=>decide ((x.1.length:Int)<=4)&&x.1.all λy=>((x.2.getD λ_=>d') y).val false⟩
theorem ayM(x):a8 (acF (ly tq).sh x) (EG.sh x):=bx λh=>by
 obtain⟨m,o⟩:=x;obtain⟨f,ay,E,L⟩:=h;change o=some f at ay;subst ay;unfold acF cf aR;simp only[aO.sh,ly,e4,mc,amx];simp_all
abbrev EH:aO:=⟨.ar lW (.bO mG),dY,λx=>∃ w,x.2=some w/\iG w,λx=>v' (x.2.getD ([],[],0,[])) x.1⟩
theorem ayN(x):a8 (acG sc.sh uO.sh dy.sh x) (EH.sh x):=bx λh=>by
 obtain⟨t,o⟩:=x;obtain⟨w,ay,E⟩:=h;change o=some w at ay;subst ay;unfold acG cf;simp only[aO.sh,sc,uO,dy,e4,mc,amx,bc E,E,aQa,cp,xC,EH,v']
theorem ayO(x):a8 (acA dy.sh (ly mF).sh (ly nh).sh (ly lW).sh EG.sh EH.sh Na.sh wa.sh x) (y9.sh x):=bx λh=>by
 have aW:iG x:=h;obtain⟨E,L,an,a6⟩:=(h:iG x)
 unfold acA hS cf aR;have d1:∀ s,Na.sh s=mpure (uP s):=λ_=>rfl;have d2:∀ m∈x.2.1,EG.sh (m,some wa.sh)=mpure (tu m):=λm hm=>by
  refine (bP ⟨_,rfl,(a6 m hm).1,λy ba=>⟨_,bP ((a6 m hm).2 y ba) _⟩⟩ _).trans (congrArg mpure ?_);simp only[EG,amx,tu,aO.sh,iE];grind
 have d3:∀ t,EH.sh (t,some x)=mpure (v' x t):=λt=>bP ⟨_,rfl,aW⟩ _;have cr:(x.1.all λy=>(Na.sh y).val false)=x.1.all uP:=UU λs _=>iE;have b4:(x.2.1.all λy=>(EG.sh (y,some wa.sh)).val false)=x.2.1.all tu:=UU λm hm=>(congrArg (λz:M Bool=>z.val false) (d2 m hm)).trans kF;have eh:(x.2.2.2.all λy=>(EH.sh (y,some x)).val false)=x.2.2.2.all (v' x):=UU λt _=>iE;have aE:∀ y,(ly mF).sh y=eE ((ly mF).pre y) ((ly mF).g y):=λ_=>rfl;have bz:∀ y,(ly nh).sh y=eE ((ly nh).pre y) ((ly nh).g y):=λ_=>rfl;have c_:∀ y,(ly lW).sh y=eE ((ly lW).pre y) ((ly lW).g y):=λ_=>rfl;have bV:∀ y,dy.sh y=mpure (dy.g y):=λ_=>rfl;simp only[aE,bz,c_,bV,e4,mc,oe,aN];rw[bc (by grind),bc (by grind),bc (by exact λ_=>⟨an,λy _=>⟨_,d3 y⟩⟩)];simp only[xC,cC];refine congrArg mpure ?_;show _=ni x;rw[cr,b4,eh];unfold ni y8;grind
def rz(m:z7')(k:z15'):Option Int:=Option.map (λx=>x.2) (List.find? (λp=>decide (k.1=p.1.1)&&(decide (k.2.1=p.1.2.1)&&decide (k.2.2=p.1.2.2))) m)
def xU(m:z4')(k:Int):Option Int:=Option.map (λx=>x.2) (List.find? (λp=>decide (k=p.1)) m)
theorem agw{a b:z15'}:(decide (a.1=b.1)&&(decide (a.2.1=b.2.1)&&decide (a.2.2=b.2.2)))=decide (a=b):=by
 grind
theorem ayP(k):rz [] k=none:=rfl
theorem agx(k:z15')(v:Int)(k':z15'):∀ m,rz (yS m k v) k'=if k'=k then some v else rz m k'
 | []=>by
  show rz [(k,v)] k'=_;by_cases h:k'=k<;>simp[rz,agw]
 | p::m=>by
  have aP:=agx k v k' m;show rz (if (decide (k.1=p.1.1)&&(decide (k.2.1=p.1.2.1)&&decide (k.2.2=p.1.2.2)))=true then (p.1,v)::m else p::yS m k v) k'=_;by_cases h:k=p.1
  ·subst h;by_cases e0:k'=p.1<;>simp[rz,agw,e0]
  ·simp  [rz,List.find?_cons]at aP ⊢;grind
theorem agy(k v k':Int):∀ m,xU (gX m k v) k'=if k'=k then some v else xU m k'
 | []=>by
  show xU [(k,v)] k'=_;by_cases h:k'=k<;>simp[xU]
 | p::m=>by
  have aP:=agy k v k' m;show xU (if decide (k=p.1)=true then (p.1,v)::m else p::gX m k v) k'=_;by_cases h:k=p.1
  ·subst h;by_cases e0:k'=p.1<;>simp[xU,e0]
  ·simp  [xU]at aP ⊢;grind
def se(t:pN):z15':=(t.1,t.2.1,t.2.2.1)
theorem Nb{a b:pN}:pO a b=true<->se a=se b/\a.2.2.2≠b.2.2.2:=by
 simp  [pO,se];omega
theorem agz(l:List pN):qv l=true<->l.Pairwise λa b=>pO a b=false:=by
 unfold qv;rw[List.pairwise_iff_getElem];simp;grind
def Nc(m:z7')(pre:List pN):Prop:=∀ k v,rz m k=some v<->(∃ t∈pre,se t=k/\t.2.2.2=v)
def Ir(m:z7')(t:pN):Bool:=Option.isSome (rz m (se t))&&decide (Option.getD (rz m (se t)) 0≠t.2.2.2)
theorem agA{m pre}(h:Nc m pre)(ai:pre.Pairwise λa b=>pO a b=false)(t:pN):Ir m t=true<->∃ a∈pre,pO a t=true:=by
 unfold Ir;cases ah:rz m (se t) with
 | none=>
  simp only[Option.isSome_none,aRk,aml,false_iff];rintro⟨a,aY,hc⟩;have:=(h (se t) a.2.2.2).2 ⟨a,aY,(Nb.1 hc).1,rfl⟩;grind
 | some v=>
  simp only[aPS,aQX,amx,amp];obtain⟨b,U,ak,af⟩:=(h _ _).1 ah;constructor
  ·intro eM;exact⟨b,U,Nb.2 ⟨ak,by omega⟩⟩
  ·rintro⟨a,aY,hc⟩ rfl;obtain⟨bG,c2⟩:=Nb.1 hc;have:=(h (se t) a.2.2.2).2 ⟨a,aY,bG,rfl⟩;grind
theorem ayQ{m pre}(h:Nc m pre){t:pN}(U:∀ a∈pre,pO a t=false):Nc (yS m (se t) t.2.2.2) (pre++[t]):=by
 intro k v;rw[agx];by_cases ak:k=se t
 ·constructor
  ·grind
  ·rintro⟨a,aY,E,L⟩;rcases List.mem_append.1 aY with aY | aY
   ·have:¬pO a t=true:=by grind
    rw[Nb]at this;grind
   grind
 ·rw[if_neg ak,h];grind
theorem agB:∀ (b8:List pN) (m) (pre:List pN),Nc m pre->(pre.Pairwise λa b=>pO a b=false)->
  fa (λt m=>if Ir m t=true then (.aV (.aV 71):aJ _ (aJ Unit Int)) else .aw (yS m (se t) t.2.2.2)) (λ_=>.aw ()) b8 m=if qv (pre++b8)=true then .aw () else .aV 71
 | [],m,pre,h,ai=>by
  have:=(agz pre).2 ai;simp[fa,this]
 | t::b8,m,pre,h,ai=>by
  simp  [fa];by_cases U:Ir m t=true
  ·obtain⟨a,aY,hc⟩:=(agA h ai t).1 U;have:¬qv (pre++t::b8)=true:=by
    rw[agz];grind
   grind
  ·have aC:∀ a∈pre,pO a t=false:=λa aY=>by
    have:=λhc=>U ((agA h ai t).2 ⟨a,aY,hc⟩);grind
   have Ak:(pre++[t]).Pairwise λa b=>pO a b=false:=by
    grind
   have:=agB b8 _ (pre++[t]) (ayQ h aC) Ak;grind
theorem ayR(w:b2)(h:iG w):Tl y9.sh w=mpure (dH w):=by
 have az:=h;obtain⟨E,L,an,a6⟩:=h;unfold Tl b7 e6 bw bD bm bf aR bQ cS bY be bU;simp only[aO.sh,e4,bc az];unfold dH;cases hw:ni w with
 | false=>simp
 | true=>
  rw[eH w.2.2.2 (λi m=>(w.2.2.2,(w.2.2.2.length:Int),(i:Int),m,())) (λt m=>if Ir m t=true then (.aV (.aV 71)) else .aw (yS m (se t) t.2.2.2)) (λ_=>.aw ()) [] ?_ ?_ ?_]
  ·rw[agB w.2.2.2 [] [] (λk v=>by simp[ayP]) (by simp)];by_cases aH:qv w.2.2.2=true<;>simp[aH]
  ·rfl
  ·intro i G m;have lX:=bs (n:=i+1);simp only[cC,dQ G,ed G,dK G,cp,aN,dm,lX];exact acd (mk:=λm=>(w.2.2.2,(w.2.2.2.length:Int),(i:Int)+1,m,()))
  simp
theorem ayS(x):a8 (Tl y9.sh x) (jV.sh x):=bx λh=>ayR x h
theorem ayT(w:b2)(i n m k:Int)(hw:tw w)(G:iP w i=true)(hm:kJ w m k=true):acI dy.sh r_.sh (w,i,n,m,k)=mpure (BJ w i n m k):=ayy w i n m k hw G hm
theorem ayU(x):a8 (acI dy.sh r_.sh x) (Im.sh x):=bx λh=>ayT x.1 x.2.1 x.2.2.1 x.2.2.2.1 x.2.2.2.2 h.1 h.2.1 h.2.2
abbrev Is:aO:=⟨.ar lW (.ar (.bO bK) (.ar (.bO mG) (.bO bK))),dY,λx=>∃ i w n,x.2=(some i,some w,some n)/\tw w/\iP w i=true/\kJ w x.1.2.1 x.1.2.2.1=true,λx=>y' (x.2.2.1.getD ([],[],0,[])) (x.2.1.getD 0) (x.2.2.2.getD 0) x.1⟩
theorem ayV(x):a8 (acH Im.sh x) (Is.sh x):=bx λh=>by
 obtain⟨t,o⟩:=x;obtain⟨i,w,n,ay,hw,G,hm⟩:=h;subst ay;unfold acH b7 e6 m_;simp  [aO.sh,ne_eq];by_cases aH:t.1=i
 ·have ai:tw w/\iP w i=true/\kJ w t.2.1 t.2.2.1=true:=⟨hw,G,hm⟩
  simp[y',ai]
 ·simp[y',aH]
def sf(w:b2):List (z1'):=(List.range w.1.length).map λ(i:Nat)=>jX w (i:Int)
def mi(w:b2)(ca:Bool):Option xE×Int:=if fF w ca≠0 then (none,fF w ca) else (some (w,sf w),0)
abbrev EI:aO:=⟨.ar mG dY,.ar (.bO (.ad (.ar mG (.slice ha)))) bK,λx=>iG x.1,λx=>mi x.1 x.2⟩
variable {w:b2}
theorem ayW{i:Int}:jX w i=(fM (js w i).2.2.1 (js w i).2.2.2).filter λn=>w.2.2.2.all (y' w i n):=by
 refine aQT λn aC=>?_;rw[vL]at aC;simp[US,aC]
theorem agC{w:b2}:∀ (l:List Nat) (acc:List (z1')),fa (λ(i:Nat) (acc:List (z1'))=>if decide (((jX w (i:Int)).length:Int)=0)=true then (.aV (.aV (none,(3:Int))):aJ _ (aJ (List UO×List (List BI)×Int×List pN×List (z1')×Unit) (Option xE×Int))) else .aw (acc++[jX w (i:Int)])) (λacc=>.aw (w.1,w.2.1,w.2.2.1,w.2.2.2,acc,())) l acc
  =if (l.all λ(i:Nat)=>!decide (((jX w (i:Int)).length:Int)=0))=true then .aw (w.1,w.2.1,w.2.2.1,w.2.2.2,acc++l.map (λ(i:Nat)=>jX w (i:Int)),()) else .aV (none,3)
 | [],acc=>by simp[fa]
 | i::l,acc=>by
  simp only[fa,aQn];by_cases h:((jX w i).length:Int)=0
  ·grind
  ·simp only[h,aQj,aml,aPH,aQX];rw[agC l];simp
theorem ayX(w:b2)(ca:Bool)(h:iG w):To jV.sh (ly lW).sh Is.sh (w,ca)=mpure (mi w ca):=by
 unfold To bw cB bD bm bf aR bQ cS iM bY be eB bU mi fF;simp only[aO.sh,e4,bc h];by_cases hc:dH w=0
 ·have hw:tw w:=⟨h,UT hc⟩
  have ayY:=Il hw.2;simp only[hc,aPH];cases ca with
  | false=>simp
  | true=>
   rw[e2 (List.range w.1.length) (λi acc=>(w.1,(w.1.length:Int),(i:Int),w,w.1,w.2.1,w.2.2.1,w.2.2.2,acc,())) (λi acc=>if decide (((jX w i).length:Int)=0)=true then (.aV (.aV (none,(3)))) else .aw (acc++[jX w i])) (λacc=>.aw (w.1,w.2.1,w.2.2.1,w.2.2.2,acc,())) (λi acc=>acc.length<=i) [] ?_ ?_ ?_ ?_]
   ·rw[agC];have e:((List.range w.1.length).all λi=>!decide (((jX w i).length:Int)=0))=za w:=rfl;rw[e];by_cases aH:za w=true<;>simp[aH,sf]
   ·rfl
   ·simp
   ·intro i G acc UW;have G:i<w.1.length:=by grind
    have mb:=ayz G;have ah:=agq hw.2 mb;have lX:=bs (n:=i+1);have aD:w.1[i]=js w i:=by simp[js,G]
    refine⟨?_,λbj U=>?_⟩
    ·simp only[cC,dQ G,ed G,dK G,aD];rw[e2 (fM (js w i).2.2.1 (js w i).2.2.2) (λk l=>(w.1,(w.1.length:Int),(i:Int),w,(i:Int),js w i,l,(js w i).2.2.1+k,w.1,w.2.1,w.2.2.1,w.2.2.2,acc,())) (λn l=>.aw (if w.2.2.2.all (y' w i n)=true then l++[n] else l)) (λl=>.aw (w.1,(w.1.length),i,w,l,w.1,w.2.1,w.2.2.1,w.2.2.2,acc,())) (λk l=>l.length<=k) [] ?_ ?_ ?_ ?_]
     ·rw[ec,HH];simp only[aN,cY];rw[<-ayW];by_cases bA:((jX w i).length)=0
      ·simp[bA]
      ·have oZ:cb (acc.length+(0+1)):=by unfold cb;omega
       simp_all
     ·simp
     ·simp
     ·intro k ak l Nd;have bQ:(js w i).2.2.1+k<=(js w i).2.2.2:=by rw[DS]at ak;omega
      have Nf:=bs (n:=(js w i).2.2.1+(k+1));have oZ:cb (l.length+(0+1)):=by unfold cb;omega
      refine⟨?_,λbj U=>?_⟩
      ·have kP:∀ t∈w.2.2.2,Is.sh (t,some i,some w,some ((js w i).2.2.1+k))=mpure (y' w i ((js w i).2.2.1+k) t):=λt aH=>bP ⟨_,_,_,rfl,hw,mb,(ayx hw.2 aH).2⟩ _;simp only[bQ,HI];rw[bc (by exact⟨h.2.2.1,λt aH=>⟨_,kP t aH⟩⟩)];by_cases U:w.2.2.2.all (y' w i ((js w i).2.2.1+k))=true
       ·simp  [U,bc oZ,Nf,Int.add_assoc]
       ·simp  [U,Nf,Int.add_assoc]
      grind
     ·have:¬(js w i).2.2.1+((fM (js w i).2.2.1 (js w i).2.2.2).length)<=(js w i).2.2.2:=by rw[DS];omega
      simp  [this,aN]
    grind
   simp
 grind
theorem ayZ(x):a8 (To jV.sh (ly lW).sh Is.sh x) (EI.sh x):=bx λh=>ayX x.1 x.2 h
theorem ay0(x):a8 (acJ x) (M_.sh x):=bx λ_=>by
 unfold acJ bm;simp  [M9];grind
theorem agD(w:b2):(sf w).length=w.1.length:=by simp[sf]
theorem UX{i:Int}(h:iP w i=true):List.getD (sf w) i.toNat []=jX w i:=by
 rw[xR]at h;have:=by omega
 have e:(i.toNat)=i:=by omega
 simp[sf,this,e]
abbrev ay1:V:=.bO (.ad (.ar mG (.slice ha)))
def ay2(o:Option xE)(w:b2):Prop:=o=some (w,sf w)/\tw w
abbrev Ng:aO:=⟨.ar ay1 (.ar bK (.ar bK bK)),bK,λx=>∃ w,ay2 x.1 w/\iP w x.2.1=true/\kJ w x.2.2.1 x.2.2.2=true,λx=>xT ((x.1.getD (([],[],0,[]),[])).1) x.2.1 x.2.2.1 x.2.2.2⟩
theorem ay3(w:b2)(i m k:Int)(hw:tw w)(G:iP w i=true)(hm:kJ w m k=true):Tp Im.sh M_.sh (some (w,sf w),i,m,k)=mpure (xT w i m k):=by
 unfold Tp bw cB bD bm bf aR bY be bU;have oZ:=agr hw G;have cq:0<=i/\i<((sf w).length):=by rw[agD];exact xR.1 G
 simp only[amx,cC,UX G];rw[e2 (jX w i) (λj n=>(some (w,sf w),i,m,k,n,jX w i,((jX w i).length:Int),(j:Int),())) (λx n=>.aw (if BJ w i x m k=true then n+1 else n)) (λn=>.aw (some (w,sf w),i,n,())) (λj n=>0<=n/\n<=(j:Int)) 0 ?_ ?_ ?_ ?_]
 ·rw[ec,agt];simp only[aN,cY,aPS,amx,cp,bc cq,UX G,aO.sh,e4,aRm];rfl
 ·rfl
 ·simp
 ·intro j aK n aC;have ay4:=bs (n:=j+1);have EJ:=bs (n:=n+1);have ai:tw w/\iP w i=true/\kJ w m k=true:=⟨hw,G,hm⟩
  refine⟨?_,λbj U=>?_⟩
  ·simp only[dQ aK,ed aK,dK aK,amx,aO.sh,e4,bc ai,dm,EJ];cases BJ w i (jX w i)[j] m k<;>simp[ay4]
  grind
 simp
theorem ay5(x):a8 (Tp Im.sh M_.sh x) (Ng.sh x):=bx λh=>by
 obtain⟨o,i,m,k⟩:=x;obtain⟨w,⟨ay,hw⟩,G,hm⟩:=h;subst ay;exact ay3 w i m k hw G hm
theorem agE{ca:Bool}(h:fF w ca=0):mi w ca=(some (w,sf w),0):=by simp[mi,h]
theorem agF{ca:Bool}(h:fF w ca≠0):mi w ca=(none,fF w ca):=by simp[mi,h]
theorem ay6(w:b2)(i:Int)(h:iG w):Tm EI.sh sc.sh (w,i)=mpure (ED w i):=by
 unfold Tm bw gB bm aR bU gA dE cE m_ ED;simp only[aO.sh,iE,h];by_cases ak:fF w (iP w i)=0
 ·have hw:=ags h ak;have G:=(Io ak).2.1;have ai:=ayA (Io ak).2.2 G;have oZ:=agr hw G;have lX:=bs (n:=((jX w i).length) - 1);have yP:0<=i/\i<((sf w).length):=by rw[agD];exact xR.1 G
  have c7:(0)<=((jX w i).length:Int) - 1/\((jX w i).length) - 1<((jX w i).length:Int):=by omega
  simp only[agE ak,amx,UX G,bc c7];simp_all
 ·simp[agF ak,ak]
theorem ay7(x):a8 (Tm EI.sh sc.sh x) (EE.sh x):=bx λh=>ay6 x.1 x.2 h
theorem ay8(w:b2)(i m k:Int)(h:iG w):Tn EI.sh sc.sh uO.sh Ng.sh (w,i,m,k)=mpure (tx w i m k):=by
 unfold Tn bm dE m_ tx;simp only[aO.sh,r2,iE,h,cp,aRe,aQK,imp_self];by_cases ak:fF w (iP w i&&kJ w m k)=0
 ·have hw:=ags h ak;have G:=(Io ak).2.1;simp  at G;simp only[agE ak,ak,e4];rw[bc (by exact⟨w,⟨rfl,hw⟩,G.1,G.2⟩)];rfl
 ·simp[agF ak,ak]
theorem ay9(x):a8 (Tn EI.sh sc.sh uO.sh Ng.sh x) (EF.sh x):=bx λh=>ay8 x.1 x.2.1 x.2.2.1 x.2.2.2 h
theorem UY{n:Int}(E:0<=n:=by omega)(L:n<18446744073709551616:=by omega):IntKind.u64.wrap n=n:=by
 show (if (false&&decide (n % 2 ^ 64>=(2 ^ (64 - 1):Int)))=true then n % 2 ^ 64 - 2 ^ 64 else n % 2 ^ 64)=n;grind
theorem agG:∀ (n:Nat) (l:z1'),l.Nodup->(∀ x∈l,0<=x/\x<(n:Int))->l.length<=n
 | 0,l,_,h=>by
  cases l with
  | nil=>simp
  | cons x l=>have:=h x (by simp);omega
 | n+1,l,aC,h=>by
  have L:=agG n (l.erase (n:Int)) (aC.erase _) λx al=>by
   grind
  grind
variable {rho:Type}
theorem ay_{A:Type}{body:A->M (aJ A rho)}{p:rho->Prop}{s0:A}(n:Nat)(I:Nat->A->Prop)(aW:I 0 s0)
  (az:∀ i,i<n->∀ s,I i s->c' (body s) λad=>match ad with | .aw s'=>I (i+1) s' | .aV r=>p r)
  (ay:∀ s,I n s->c' (body s) λad=>match ad with | .aw _=>False | .aV r=>p r):c' (dA body s0) p:=by
 have key:∀ k i s,n - i=k->i<=n->I i s->c' (dA body s) p:=by
  intro k;induction k with
  | zero=>
   intro i s ak G h;have:i=n:=by omega
   subst this;rw[zT,fN];refine (ay s h).mono λy ba=>?_;cases y with
   | aw s'=>grind
   | aV r=>exact dO.2 ba
  | succ k aP=>
   intro i s ak G h;rw[zT,fN];refine (az i (by omega) s h).mono λy ba=>?_;cases y with
   | aw s'=>grind
   | aV r=>exact dO.2 ba
 grind
def UZ(x:z12'):Int:=IntKind.wrap .u64
 (Add.add (IntKind.wrap .u64 (Add.add (IntKind.wrap .u64 (lg .u64 x.1 32*lg .u64 x.2 32)) (lg .u64 (IntKind.wrap .u64 (Add.add (IntKind.wrap
 .u64 (lg .u64 x.1 32*n0 .u64 x.2 4294967295)) (lg .u64 (IntKind.wrap .u64 (n0 .u64 x.1 4294967295*n0 .u64 x.2 4294967295)) 32))) 32)))
 (lg .u64 (IntKind.wrap .u64 (Add.add (n0 .u64 (IntKind.wrap .u64 (Add.add (IntKind.wrap .u64 (lg .u64 x.1 32*n0 .u64 x.2 4294967295)) (lg
 .u64 (IntKind.wrap .u64 (n0 .u64 x.1 4294967295*n0 .u64 x.2 4294967295)) 32))) 4294967295) (IntKind.wrap .u64 (n0 .u64 x.1 4294967295*lg
 .u64 x.2 32)))) 32))
def Nh:Nat->Bool
 | 0=>true
 | n+1=>decide (UZ (1,(n:Int))=0)&&Nh n
theorem agH:∀ (N n:Nat),Nh N=true->n<N->UZ (1,(n:Int))=0
 | 0,n,_,h=>by omega
 | N+1,n,hc,h=>by
  simp only[Nh,amm,amp]at hc;by_cases e:n=N
  ·grind
  ·exact agH N n hc.2 (by omega)
variable {bet:Type}
theorem ay'{f:ag->bet->aJ bet rho}{fin:bet->rho}(I:Nat->bet->Prop)(Q:rho->Prop)(l:List ag)(b:bet)(aW:I 0 b)
  (az:∀ i (h:i<l.length) b,I i b->match f l[i] b with | .aw bj=>I (i+1) bj | .aV r=>Q r) (ay:∀ b,I l.length b->Q (fin b)):Q (fa f fin l b):=by
 have key:∀ (k:Nat) (r:List ag) (b:bet),k<=l.length->r=l.drop k->I k b->Q (fa f fin r b):=by
  intro k r;induction r generalizing k with
  | nil=>
   intro b ak D fk;have:k=l.length:=by have:=congrArg List.length D;grind
   subst this;exact ay b fk
  | cons x r aP=>
   intro b ak D fk;have dv:k<l.length:=by
    grind
   rw[aPM dv]at D;injection D with al D
   have E:=az k dv b fk;rw[<-al]at E;simp only[fa];grind
 grind
def ea(m:z4')(k:Int):Int:=(xU m k).getD 0
theorem aza(m:z4')(k:Int):Option.getD (Option.map (λx=>x.2) (List.find? (λp=>decide (k=p.1)) m)) 0=ea m k:=rfl
theorem EK(k v k':Int)(m:z4'):ea (gX m k v) k'=if k'=k then v else ea m k':=by
 unfold ea;rw[agy];grind
def xV(n:Nat)(m:z4'):Nat:=(List.range n).countP λ(s:Nat)=>decide (ea m (s:Int)=0)
theorem agI{p q:Nat->Bool}{s:Nat}(h:∀ x,x≠s->p x=q x)(ai:p s=true)(bB:q s=false):∀ (l:List Nat),l.Nodup->s∈l->l.countP p=l.countP q+1
 | [],_,az=>by cases az
 | x::l,aC,az=>by
  rw[List.nodup_cons]at aC;rw[List.countP_cons,List.countP_cons];by_cases e:x=s
  ·subst e;have:l.countP p=l.countP q:=List.countP_congr λy ba=>by
    grind
   grind
  ·have:=agI h ai bB l aC.2 (by grind);grind
theorem agJ{n:Nat}{m:z4'}{s v:Int}(aW:0<=s)(aC:s<(n:Int))(hm:ea m s=0)(af:v≠0):xV n m=xV n (gX m s v)+1:=by
 unfold xV;refine agI (s:=s.toNat) (λx al=>?_) ?_ ?_ _ List.nodup_range (by grind)
 ·rw[EK,if_neg (by omega)]
 ·grind
 ·rw[EK,if_pos (by omega)];grind
theorem agK{n:Nat}{a b:z4'}(h:∀ k,0<=ea a k/\ea a k<=ea b k):xV n b<=xV n a:=by
 unfold xV;refine List.countP_mono_left λx _ al=>?_;grind
abbrev oq:=z1'×z4'
def aJ.It{kz:Type}(g:rho->kz):aJ bet rho->aJ bet kz
 | .aw b=>.aw b
 | .aV r=>.aV (g r)
def BL{ag bet rho:Type}(f:ag->bet->aJ bet rho):List ag->bet->aJ bet rho
 | [],b=>.aw b
 | x::l,b=>match f x b with
  | .aw bj=>BL f l bj
  | .aV r=>.aV r
def aJ.fin(n:bet->rho):aJ bet rho->rho
 | .aw b=>n b
 | .aV r=>r
theorem U0{ag bet rho:Type}{f:ag->bet->aJ bet rho}{n:bet->rho}:∀ (l:List ag) (b:bet),fa f n l b=aJ.fin n (BL f l b)
 | [],b=>rfl
 | x::l,b=>by
  simp only[fa,BL];cases f x b with
  | aw bj=>exact U0 l bj
  | aV r=>rfl
theorem agL{ag bet rho kz:Type}{f:ag->bet->aJ bet rho}{g:rho->kz}:∀ (l:List ag) (b:bet),BL (λx b=>aJ.It g (f x b)) l b=aJ.It g (BL f l b)
 | [],b=>rfl
 | x::l,b=>by
  simp only[BL];cases f x b with
  | aw bj=>exact agL l bj
  | aV r=>rfl
def azb(w:b2):Prop:=w.1.length<=2000000/\w.2.1.length<=2000000/\w.2.2.2.length<=2000000/\∀ m∈w.2.1,m.length<=2000000/\∀ s∈m,s.2.1.length<=2000000
def BM(m:List (z17')):Bool:=decide ((m.length:Int) > 20)||m.any λs=>decide ((s.2.1.length:Int) > 20)
def nf(w:b2):Bool:=
 if (decide ((w.1.length:Int) > 40)||decide ((w.2.1.length:Int) > 40)||decide ((w.2.2.2.length:Int) > 60))=true then true
 else if w.2.1.any BM=true then true
 else if dH w≠0 then false
 else if (w.1.any λs=>decide (IntKind.i64.wrap (s.2.2.2 - s.2.2.1)>=50))=true then true
 else decide ((w.1.length:Int) > 6)||decide ((w.2.1.length:Int) > 4)||decide ((w.2.2.2.length:Int) > 10)
abbrev y4:aO:=⟨mG,dY,iG,nf⟩
theorem azc(w:b2)(h:iG w):Tq jV.sh w=mpure (nf w):=by
 unfold Tq dp iA fw bw cB bm bf aR bQ cS iM bY be h' iX bU cE nf;simp only[cC];by_cases E:(decide ((w.1.length:Int) > 40)||decide ((w.2.1.length:Int) > 40)||decide ((w.2.2.2.length:Int) > 60))=true
 ·grind
 ·rw[if_neg E,if_neg E];have ah:=h;obtain⟨cU,cO,hO,lE⟩:=h;rw[eH w.2.1 (λi (_:Unit)=>((i:Int),w,())) (λm u=>if BM m=true then .aV (.aV true) else .aw u) (λ_=>.aw (w,())) () ?_ ?_ ?_]
  ·rw[uH];by_cases L:w.2.1.any BM=true
   ·simp only[L,if_true,aN,uG]
   ·simp only[L,aml,aPH,aN,cY,aO.sh,e4,bc ah];by_cases an:dH w=0
    ·simp only[an,ne_eq,not_true,aQj,aml,aPH];rw[eH w.1 (λi (_:Unit)=>((i:Int),w,())) (λs u=>if decide (IntKind.i64.wrap (s.2.2.2 - s.2.2.1)>=50)=true then .aV (.aV true) else .aw u) (λ_=>.aw (w,())) () ?_ ?_ ?_]
     ·rw[uH];by_cases a6:(w.1.any λs=>decide (IntKind.i64.wrap (s.2.2.2 - s.2.2.1)>=50))=true
      ·simp_all
      ·simp only[a6,aml,aPH,aN,cY]
     ·rfl
     ·intro i G u;have ot:=bs (n:=(i:Int)+1);simp only[cC,dQ G,if_true,dK G,cp,ed G,aN,dm,ot];exact pG (mk:=λ_:Unit=>((i:Int)+1,w,()))
     simp
    grind
  ·rfl
  ·intro i G u;have ot:=bs (n:=(i:Int)+1);have hm:=lE _ (amk G);simp only[cC,dQ G,if_true,dK G,cp,ed G,aN];by_cases bS:decide ((w.2.1[i].length:Int) > 20)=true
   ·have ay:BM w.2.1[i]=true:=by unfold BM;grind
    simp_all
   ·have ay:BM w.2.1[i]=w.2.1[i].any λs=>decide ((s.2.1.length:Int) > 20):=by unfold BM;grind
    rw[if_neg bS];rw[eH w.2.1[i] (λk (_:Unit)=>((i:Int),(k:Int),w,())) (λs u=>if decide ((s.2.1.length:Int) > 20)=true then .aV (.aV (.aV (.aV true))) else .aw u) (λ_=>.aw ((i:Int),w,())) () ?_ ?_ ?_]
    ·rw[uH,ay];by_cases ek:(w.2.1[i].any λs=>decide ((s.2.1.length:Int) > 20))=true
     ·simp_all
     ·simp only[ek,aml,aPH,aN,cY,dm,ot];rfl
    ·rfl
    ·intro k ak u;have nN:=bs (n:=(k:Int)+1);simp only[dK G,cp,ed G,dQ ak,if_true,dK ak,ed ak,aN,dm,nN];exact pG (mk:=λ_:Unit=>((i:Int),(k:Int)+1,w,()))
    simp_all
  simp
theorem azd(x):a8 (Tq jV.sh x) (y4.sh x):=bx λh=>azc x h
def Ni:b2:=([(1,2,300,310),(1,3,305,305),(2,1,50,60),(1,2,320,330)],[[(1,[2,3],300,306),(2,[1],40,58)],[(1,[2],310,326)]],5,[(0,1,0,0)])
abbrev U1:aO:=⟨.dc,mG,λ_=>True,λ_=>Ni⟩
theorem aze(x):a8 (at5 x) (U1.sh x):=bx λ_=>rfl
theorem azf:iG Ni:=by
 refine⟨by decide,by decide,by decide,?_⟩;intro m hm;simp only[Ni,aQO,aQY,or_false]at hm;grind
abbrev pP:V:=.ad (.ar bK (.ar bK (.ar bK (.ar bK ha))))
abbrev pQ:V:=.ad (.ar ha (.ar oY (.ar bK (.ar bK bK))))
abbrev sg:V:=.ad (.ar bK (.ar bK bK))
abbrev nO:V:=.ad (.ar mG (.ar ha (.ar (.slice pP) (.ar (.slice pQ) (.ar (.slice sg) bK)))))
def gI(s:bJ):Prop:=iG s.1/\s.2.1.length<2 ^ 63/\s.2.2.1.length<2 ^ 63/\s.2.2.2.1.length<2 ^ 63/\s.2.2.2.2.1.length<2 ^ 63/\(∀ p∈s.2.2.1,p.2.2.2.2.length<2 ^ 63)/\∀ x∈s.2.2.2.1,x.1.length<2 ^ 63
def cJ(n a7 G:Int):Bool:=decide (a7<=n)&&decide (n<=G)
def mj(n:Int):Bool:=cJ n 0 99
def nj(p:Int->Bool)(l:z1'):Bool:=(List.range l.length).all λi=>p (l.getD i 0)&&!(decide (0<i)&&decide (l.getD i 0<=l.getD (i - 1) 0))
def Nj(w:b2)(m:Int)(n:Int):Bool:=decide (0<=n)&&decide (n<((lx w m).length:Int))
def wb(w:b2)(p:oV):Bool:=mj p.1&&mj p.2.1&&mj p.2.2.1&&tr w p.2.2.2.1&&nj (Nj w p.2.2.2.1) p.2.2.2.2
def uQ(x:me):Bool:=cJ (x.1.length:Int) 1 8&&nj mj x.1&&mj x.2.1.1&&mj x.2.1.2&&decide (x.2.1.1<=x.2.1.2)&&mj x.2.2.1&&mj x.2.2.2.1&&cJ x.2.2.2.2 0 100000
def tz(w:b2)(d:D1):Bool:=mj d.1&&iP w d.2.1&&cJ d.2.2 1 10
def rA(s:bJ):Bool:=decide ((s.2.1.length:Int)=(s.1.1.length:Int))&&(s.2.1.all λn=>cJ n 0 10)&&decide ((s.2.2.1.length:Int)<=8)&&s.2.2.1.all (wb s.1)&&decide ((s.2.2.2.1.length:Int)<=6)&&s.2.2.2.1.all uQ&&decide ((s.2.2.2.2.1.length:Int)<=8)&&s.2.2.2.2.1.all (tz s.1)&&mj s.2.2.2.2.2
def lz(s:bJ):Int:=if dH s.1≠0 then dH s.1 else if rA s=true then 0 else 80
theorem azg(x):a8 (auA x) (dy.sh x):=bx λ_=>rfl
theorem azh(x):a8 (auv x) (dy.sh x):=bx λ_=>rfl
abbrev uR:aO:=⟨bK,dY,λ_=>True,mj⟩
theorem azi(x):a8 (ade dy.sh x) (uR.sh x):=bx λ_=>by
 unfold ade;simp[aO.sh,dy,mj,cJ]
theorem azj(x):a8 (adi dy.sh x) (uR.sh x):=bx λ_=>by
 unfold adi;simp[aO.sh,dy,mj,cJ]
abbrev Nk:aO:=⟨.ar ha (.fn bK .bool),dY,λx=>x.1.length<2 ^ 63/\∀ y∈x.1,∃ b,x.2 y=mpure b,λx=>nj (λy=>(x.2 y).val false) x.1⟩
theorem azk(x):a8 (adf x) (Nk.sh x):=bx λh=>by
 obtain⟨l,f⟩:=x;obtain⟨E,L⟩:=h;change l.length<2 ^ 63 at E;change ∀ y∈l,∃ b,f y=mpure b at L;unfold adf dp bw bm bf aR bQ cS bY be iX bU cE;rw[eH (List.range l.length) (λi (_:Unit)=>(l,f,l,(l.length:Int),(i:Int),())) (λi b=>if (!((f (l.getD i 0)).val false&&!(decide (0<i)&&decide (l.getD i 0<=l.getD (i - 1) 0))))=true then .aV (.aV false) else .aw b) (λ_=>.aw ()) () ?_ ?_ ?_]
 ·rw[m' (q:=λi=>(f (l.getD i 0)).val false&&!(decide (0<i)&&decide (l.getD i 0<=l.getD (i - 1) 0))) _ _ (λ_=>rfl)];show _=mpure (nj (λy=>(f y).val false) l);unfold nj;cases (List.range l.length).all λi=>(f (l.getD i 0)).val false&&!(decide (0<i)&&decide (l.getD i 0<=l.getD (i - 1) 0))<;>simp
 ·rfl
 ·intro i G b;have G:i<l.length:=by grind
  have hw:=bs (n:=(i:Int)+1);have gz:=bs (n:=(i:Int) - 1);have bz:((i:Int) - 1).toNat=i - 1:=by omega
  obtain⟨c,hc⟩:=L _ (amk G);have j7:l.getD i 0=l[i]:=by grind
  have vT:(decide ((i:Int) > 0))=decide (0<i):=by simp
  simp only[cC,dQ G,if_true,aPJ,ed G,dK G,cp,j7,hc,kF,aN,dm,hw,gz,bz,vT];rw[bc (by grind)];cases c<;>cases (decide (0<i)&&decide (l[i]<=l.getD (i - 1) 0))<;>rfl
 simp
abbrev Nl:aO:=⟨.ar ha bK,dY,λx=>x.1.length<2 ^ 63,λx=>nj (λn=>cJ n 0 x.2) x.1⟩
theorem azl(x):a8 (adl x) (Nl.sh x):=bx λh=>by
 obtain⟨l,m⟩:=x;change l.length<2 ^ 63 at h;unfold adl dp fw bw bf aR bQ cS bY be iX cE;rw[eH (List.range l.length) (λi (_:Unit)=>(l,m,(i:Int),())) (λi b=>if (!(cJ (l.getD i 0) 0 m&&!(decide (0<i)&&decide (l.getD i 0<=l.getD (i - 1) 0))))=true then .aV (.aV false) else .aw b) (λ_=>.aw ()) () ?_ ?_ ?_]
 ·rw[m' (q:=λi=>cJ (l.getD i 0) 0 m&&!(decide (0<i)&&decide (l.getD i 0<=l.getD (i - 1) 0))) _ _ (λ_=>rfl)];show _=mpure (nj (λn=>cJ n 0 m) l);unfold nj;cases (List.range l.length).all λi=>cJ (l.getD i 0) 0 m&&!(decide (0<i)&&decide (l.getD i 0<=l.getD (i - 1) 0))<;>simp
 ·rfl
 ·intro i G b;have G:i<l.length:=by grind
  have hw:=bs (n:=(i:Int)+1);have gz:=bs (n:=(i:Int) - 1);have bz:((i:Int) - 1).toNat=i - 1:=by omega
  have j7:l.getD i 0=l[i]:=by grind
  have vT:(decide ((i:Int) > 0))=decide (0<i):=by simp
  simp only[cC,dQ G,if_true,aPJ,ed G,dK G,cp,j7,aN,dm,hw,gz,bz,vT];have yP:0<i->(0:Int)<=(i:Int) - 1/\(i:Int) - 1<(l.length:Int):=by omega
  generalize l.getD (i - 1) 0=B;generalize l[i]=aI;by_cases kQ:aI<0<;>by_cases q3:aI > m<;>by_cases aW:0<i<;>by_cases a1:aI<=B<;>simp_all[cJ,aJ.pF,bc]<;>(grind)<;>(grind)
 simp
theorem U2{p q:Int->Bool}{l:z1'}(h:∀ y∈l,p y=q y):nj p l=nj q l:=by
 grind [nj]
theorem azm(n:Int)(k:Nat):cJ n 0 ((k:Int) - 1)=(decide (0<=n)&&decide (n<(k:Int))):=by
 unfold cJ;grind
abbrev U3:aO:=⟨.ar bK (.ar (.bO mG) (.bO pP)),dY,λx=>∃ w p,x.2=(some w,some p)/\iG w/\tr w p.2.2.2.1=true,λx=>Nj (x.2.1.getD ([],[],0,[])) (x.2.2.getD (0,0,0,0,[])).2.2.2.1 x.1⟩
theorem azn(x):a8 (adg dy.sh x) (U3.sh x):=bx λh=>by
 obtain⟨n,o⟩:=x;obtain⟨w,p,ay,hw,hm⟩:=h;subst ay;unfold adg bw aR bU cE;have r:=UP.1 hm;have ah:=M8 hw p.2.2.2.1;have lX:=bs (n:=((lx w p.2.2.2.1).length) - 1);unfold lx at lX;simp only[aO.sh,amx,cC,r,aQK,cp,lX,e4,y6];rfl
abbrev Iu:aO:=⟨.ar pP (.bO mG),dY,λx=>x.1.2.2.2.2.length<2 ^ 63/\∃ w,x.2=some w/\iG w,λx=>!wb (x.2.getD ([],[],0,[])) x.1⟩
theorem azo(x):a8 (adb dy.sh uR.sh Nk.sh U3.sh x) (Iu.sh x):=bx λh=>by
 obtain⟨p,o⟩:=x;obtain⟨ai,w,ay,hw⟩:=h;unfold adb cf aR cE;have ah:=hw.2.1;have lX:=bs (n:=((w.2.1.length)) - 1);have aE:(decide (0<=p.2.2.2.1)&&decide (p.2.2.2.1<(w.2.1.length)))=tr w p.2.2.2.1:=rfl;simp only[aO.sh,e4,mc,aE];grind [U2,iE,bc,wb,bP]
abbrev Iv:aO:=⟨pQ,dY,λx=>x.1.length<2 ^ 63,λx=>!uQ x⟩
theorem azp(x):a8 (adh dy.sh uR.sh Nk.sh uR.sh x) (Iv.sh x):=bx λh=>by
 unfold adh dp cf aR;have key:(nj (λy=>(eE (uR.pre y) (uR.g y)).val false) x.1)=nj mj x.1:=U2 λy ba=>iE;simp only[aO.sh,e4,mc,vK];grind [bc,uQ,cJ,bP]
abbrev Iw:aO:=⟨.ar sg (.bO mG),dY,λx=>∃ w,x.2=some w/\iG w,λx=>!tz (x.2.getD ([],[],0,[])) x.1⟩
theorem azq(x):a8 (adj dy.sh uR.sh x) (Iw.sh x):=bx λh=>by
 obtain⟨w,ay,hw⟩:=h;unfold adj cf aR cE;have ah:=hw.1;have lX:=bs (n:=((w.1.length)) - 1);simp  [aO.sh,vK];grind [tz,iP,cJ]
abbrev Ix:aO:=⟨bK,dY,λ_=>True,λn=>!cJ n 0 10⟩
theorem azr(x):a8 (adk dy.sh x) (Ix.sh x):=bx λ_=>by
 simp_all[adk,aO.sh,cJ]
theorem Nn{p q:ag->Bool}{l:List ag}(h:∀ x∈l,p x=!q x):l.any p=!l.all q:=by
 grind
abbrev U4:aO:=⟨nO,dY,gI,rA⟩
theorem azs(x):a8 (ac6 uR.sh (h3 bK).sh (h3 pP).sh (h3 pQ).sh (h3 sg).sh Iu.sh Iw.sh Iv.sh Ix.sh x) (U4.sh x):=bx λh=>by
 obtain⟨E,L,an,a6,bS,ek,iQ⟩:=h;unfold ac6 hS cf aR;simp only[aO.sh,cp,e4,mc,aQa];have aM:(x.2.1.any λy=>(eE (Ix.pre y) (Ix.g y)).val false)=!x.2.1.all λn=>cJ n 0 10:=Nn λy _=>iE;have aT:(x.2.2.1.any λy=>(eE (Iu.pre (y,some x.1)) (Iu.g (y,some x.1))).val false)=!x.2.2.1.all (wb x.1):=Nn λy _=>iE;have b5:(x.2.2.2.1.any λy=>(eE (Iv.pre y) (Iv.g y)).val false)=!x.2.2.2.1.all uQ:=Nn λy _=>iE;have hC:(x.2.2.2.2.1.any λy=>(eE (Iw.pre (y,some x.1)) (Iw.g (y,some x.1))).val false)=!x.2.2.2.2.1.all (tz x.1):=Nn λy _=>iE;rw[bc,bc,bc,bc]
 ·congr 1;grind [rA]
 ·grind [bP]
 ·grind [bP]
 ·grind [bP]
 grind [bP]
abbrev si:aO:=⟨nO,bK,gI,lz⟩
theorem azt(x):a8 (acZ jV.sh U4.sh x) (si.sh x):=bx λh=>by
 unfold acZ bm;simp  [aO.sh,bc h.1];grind [lz,bc]
abbrev No:aO:=⟨.ar nO pP,dY,λx=>gI x.1/\x.2.2.2.2.2.length<2 ^ 63,λx=>wb x.1.1 x.2⟩
theorem azu(x):a8 (ac7 dy.sh Nl.sh x) (No.sh x):=bx λh=>by
 obtain⟨s,p⟩:=x;obtain⟨az,ai⟩:=h;change gI s at az;unfold ac7 cf bw bD aR h' bU dE cE m_;have ah:=az.1.2.1;have hp:=M8 az.1 p.2.2.2.1;have lX:=bs (n:=((s.1.2.1.length)) - 1);have Nf:=bs (n:=((lx s.1 p.2.2.2.1).length) - 1);unfold lx at Nf;have aE:(decide (0<=p.2.2.2.1)&&decide (p.2.2.2.1<(s.1.2.1.length)))=tr s.1 p.2.2.2.1:=rfl;simp  [aO.sh,iE];unfold wb;have aeH:nj (λn=>cJ n 0 (((List.getD s.1.2.1 (Int.toNat p.2.2.2.1) []).length) - 1)) p.2.2.2.2=nj (Nj s.1 p.2.2.2.1) p.2.2.2.2:=U2 λy _=>azm y _;grind [bc,mj,cJ]
abbrev U5:aO:=⟨pQ,dY,λx=>x.1.length<2 ^ 63,uQ⟩
theorem azv(x):a8 (ac8 dy.sh Nl.sh x) (U5.sh x):=bx λh=>by
 unfold ac8 hS cf aR;simp  [aO.sh,aQa];rw[bc (by omega)];congr 1;grind [uQ,nj,cJ,mj]
theorem azw(x):a8 (ac0 jV.sh dy.sh No.sh U5.sh x) (si.sh x):=bx λh=>by
 have az:=h;obtain⟨E,L,an,a6,bS,ek,iQ⟩:=h;unfold ac0 dp e6 fw cf bw bD bf aR bQ cS bY be dE cE pE;simp only[aO.sh,e4,bc E];unfold lz;by_cases hc:dH x.1=0
 ·simp only[hc,mc,e4,aQa,cp,cC,vK,decide_not];have e:(!decide ((x.2.1.length)=(x.1.1.length:Int))||decide ((x.2.2.1.length:Int) > 8)||decide ((x.2.2.2.1.length:Int) > 6)||decide ((x.2.2.2.2.1.length:Int) > 8)||!(decide (0<=x.2.2.2.2.2)&&decide (x.2.2.2.2.2<=99)))=!(decide ((x.2.1.length)=(x.1.1.length:Int))&&decide ((x.2.2.1.length:Int)<=8)&&decide ((x.2.2.2.1.length:Int)<=6)&&decide ((x.2.2.2.2.1.length:Int)<=8)&&mj x.2.2.2.2.2):=by
   grind [mj,cJ]
  rw[e];by_cases dh:(decide ((x.2.1.length)=(x.1.1.length:Int))&&decide ((x.2.2.1.length:Int)<=8)&&decide ((x.2.2.2.1.length:Int)<=6)&&decide ((x.2.2.2.2.1.length:Int)<=8)&&mj x.2.2.2.2.2)=true
  ··rw[eH x.2.1 (λi (_)=>((i:Int),x,())) (λn b=>if (!cJ n 0 10)=true then .aV (.aV (80)) else .aw b) (λ_=>.aw (x,())) () ?_ ?_ ?_]
    ·rw[m'   _ _ (λ_=>rfl)];cases kQ:x.2.1.all λn=>cJ n 0 10 with
     | false=>simp[rA,kQ]
     | true=>
      simp only[aN,if_true,cY];rw[eH x.2.2.1 (λi (_)=>((i:Int),x,())) (λp b=>if (!wb x.1 p)=true then .aV (.aV (80)) else .aw b) (λ_=>.aw (x,())) () ?_ ?_ ?_]
      ·rw[m'   _ _ (λ_=>rfl)];cases a1:x.2.2.1.all (wb x.1) with
       | false=>simp[rA,a1]
       | true=>
        simp only[aN,if_true,cY];rw[eH x.2.2.2.1 (λi (_)=>((i:Int),x,())) (λp b=>if (!uQ p)=true then .aV (.aV (80)) else .aw b) (λ_=>.aw (x,())) () ?_ ?_ ?_]
        ·rw[m'   _ _ (λ_=>rfl)];cases ky:x.2.2.2.1.all uQ with
         | false=>simp[rA,ky]
         | true=>
          simp only[aN,if_true,cY];rw[eH x.2.2.2.2.1 (λi (_)=>((i:Int),x,())) (λp b=>if (!tz x.1 p)=true then .aV (.aV (80)) else .aw b) (λ_=>.aw ()) () ?_ ?_ ?_]
          ·rw[m'   _ _ (λ_=>rfl)];cases UQ:x.2.2.2.2.1.all (tz x.1)<;>simp[rA,kQ,a1,ky,UQ,dh]
          ·rfl
          ·intro i G b;have hw:=bs (n:=i+1);have ah:=E.1;have lX:=bs (n:=((x.1.1.length)) - 1);simp only[dQ G,ed G,dK G,cp,dm,hw,lX,y6];have e:(!(decide (0<=(x.2.2.2.2.1[i]).1)&&decide ((x.2.2.2.2.1[i]).1<=99))||!(decide (0<=(x.2.2.2.2.1[i]).2.1)&&decide ((x.2.2.2.2.1[i]).2.1<(x.1.1.length)))||!(decide (1<=(x.2.2.2.2.1[i]).2.2)&&decide ((x.2.2.2.2.1[i]).2.2<=10)))=!tz x.1 x.2.2.2.2.1[i]:=by
            simp_all[tz,mj,iP,cJ]
           rw[e];exact pG (mk:=λ_=>((i:Int)+1,x,()))
          simp
        ·rfl
        ·intro i G b;have hw:=bs (n:=i+1);simp only[dQ G,ed G,dK G,cp,dm,hw,bc (iQ _ (amk G))];exact pG (mk:=λ_=>((i:Int)+1,x,()))
        simp
      ·rfl
      ·intro i G b;have hw:=bs (n:=i+1);simp only[dQ G,ed G,dK G,cp,dm,hw,r2,iE,bc (show No.pre (x,x.2.2.1[i]) from⟨az,ek _ (amk G)⟩)];exact pG (mk:=λ_=>((i:Int)+1,x,()))
      simp
    ·rfl
    ·intro i G b;have hw:=bs (n:=i+1);simp only[dQ G,ed G,dK G,cp,aN,dm,hw];exact pG (mk:=λ_=>((i:Int)+1,x,()))
    simp
  ·grind [rA]
 grind
theorem azx:Nh 201=true:=by decide +kernel
abbrev wc:aO:=⟨.ar (.int .u64) (.int .u64),.ar (.int .u64) (.int .u64),λx=>x.1=1/\0<=x.2/\x.2<=200,λx=>(0,x.2)⟩
theorem azy(x):a8 (acu x) (wc.sh x):=bx λh=>by
 obtain⟨a,b⟩:=x;obtain⟨E,L,an⟩:=h;change a=1 at E;change 0<=b at L;change b<=200 at an;subst E;have aW:=agH 201 b.toNat azx (by omega);rw[Int.toNat_of_nonneg L]at aW;have hw:=UY (n:=1*b);have azz:((0:Int)<=32)=True:=by simp
 unfold acu;simp only[azz,cp];show mpure (UZ (1,b),IntKind.wrap .u64 (1*b))=_;grind
theorem azA(azB)(x):a8 (acr azB wc.sh x) (wc.sh x):=bx λh=>by
 unfold acr;simp only[aO.sh,e4];simp_all
section
variable {ag bet:Type}
theorem azC(a d:ag)(m J:Nat)(E:1<=m)(L:m<J) :
  List.take m (List.replicate m a++List.replicate (J - m) d)++List.take (J - m) (List.take m (List.replicate m a++List.replicate (J - m) d))++
   List.drop (m+(List.take (J - m) (List.take m (List.replicate m a++List.replicate (J - m) d))).length) (List.replicate m a++List.replicate (J - m) d)
  =List.replicate (m+min (J - m) m) a++List.replicate (J - (m+min (J - m) m)) d:=by
 have aE:List.take m (List.replicate m a++List.replicate (J - m) d)=List.replicate m a:=by
  simp
 rw[aE,List.take_replicate,List.replicate_append_replicate,aQt,List.drop_append,aQt];have bz:List.drop (m+min (J - m) m) (List.replicate m a)=[]:=by simp
 grind
def agM(d:ag)(fin:List ag->M bet)(DZ:z12'->M (z12'))(x:List ag)(n:Int):M bet:=
 aq (if decide (n<0)=true then ae False (ae False (mpure (aJ.aw (x,n,())))) else mpure (aJ.aw (x,n,())))
 (aJ.fC λ(A:List ag×Int×Unit)=>aq (DZ (IntKind.wrap .u64 (Int.ofNat (List.length A.1)),IntKind.wrap .u64 A.2.1)) λy
 =>aq (if (decide (y.1 > 0)||decide (y.2 > 9223372036854775807))=true then ae False (ae False (mpure (aJ.aw (A.1,y.2,())))) else
 mpure (aJ.aw (A.1,y.2,()))) (aJ.fC λ(A:List ag×Int×Unit)=>ae (0<=IntKind.wrap .i64 A.2.1/\IntKind.wrap .i64 A.2.1=
 IntKind.wrap .i64 A.2.1/\cb (Int.toNat (IntKind.wrap .i64 A.2.1))) (ae True (aq (dA (λ(A:Int×List ag×Unit)=>if decide (A.1
 < Int.ofNat (List.length A.2.1))=true then ae (0<=A.1/\A.1<=Int.ofNat (List.length A.2.1)/\Int.ofNat (List.length A.2.1)<=Int.ofNat
 (List.length A.2.1)) (ae ((0:Int)<=0/\0<=A.1/\A.1<=Int.ofNat (List.length A.2.1)) (ae True (mpure (aJ.aw (IntKind.wrap .i64
 (Add.add A.1 (Int.ofNat (if Int.toNat (Int.ofNat (List.length A.2.1)) - Int.toNat A.1<=List.length (List.take (Int.toNat A.1) A.2.1) then Int.toNat
 (Int.ofNat (List.length A.2.1)) - Int.toNat A.1 else List.length (List.take (Int.toNat A.1) A.2.1)))),List.take (Int.toNat A.1) A.2.1++List.take
 (Int.toNat (Int.ofNat (List.length A.2.1)) - Int.toNat A.1) (List.take (Int.toNat A.1) A.2.1)++List.drop (Add.add (Int.toNat A.1) (List.length
 (List.take (Int.toNat (Int.ofNat (List.length A.2.1)) - Int.toNat A.1) (List.take (Int.toNat A.1) A.2.1)))) A.2.1,()))))) else aq (mpure
 (aJ.aw (A.2.1,()))) λr=>mpure (aJ.aV r)) (Int.ofNat (if List.length (List.replicate (Int.toNat (IntKind.wrap .i64 A.2.1)) d) - 0<=
 List.length A.1 then List.length (List.replicate (Int.toNat (IntKind.wrap .i64 A.2.1)) d) - 0 else List.length A.1),[]++List.take (List.length
 (List.replicate (Int.toNat (IntKind.wrap .i64 A.2.1)) d) - 0) A.1++List.drop (Add.add 0 (List.length (List.take (List.length (List.replicate
 (Int.toNat (IntKind.wrap .i64 A.2.1)) d) - 0) A.1))) (List.replicate (Int.toNat (IntKind.wrap .i64 A.2.1)) d),())) (aJ.fC λ(A:List ag×
 Unit)=>fin A.1)))))
theorem U6(d a:ag)(R1:List ag->bet)(n:Int)(L:0<=n)(an:n<=200):c' (agM d (λl=>mpure (R1 l)) wc.sh [a] n) λy=>y=R1 (List.replicate n.toNat a):=by
 obtain⟨J,rfl⟩:=Int.eq_ofNat_of_zero_le L;have Gq:decide ((J:Int)<0)=false:=by simp
 have pq:IntKind.u64.wrap (Int.ofNat ([a]:List ag).length)=1:=UY (by simp) (by simp);have azD:=UY (n:=(J:Int));have ot:=bs (n:=(J:Int));have ai:wc.pre (1,(J:Int)):=⟨rfl,L,an⟩
 have azE:decide ((J:Int) > 9223372036854775807)=false:=by grind
 have oZ:cb J:=by unfold cb;omega
 have D:0<=(J:Int)/\True/\cb (Int.toNat (J:Int)):=⟨L,trivial,by grind⟩
 unfold agM;simp only[Gq,aml,aPH,aN,cY,pq,azD,aO.sh,e4];rw[bc (by grind)];simp only[gt_iff_lt,Int.lt_irrefl,aQj,aQA,aml,aPH,aN,cY,ot];have azF:decide ((9223372036854775807:Int)<(J:Int))=false:=azE;simp only[azF,aml,aPH,aN,cY,ot];rw[bc D];simp only[cp,fN,aPV,aQt,Nat.sub_zero,aQk,aQ3,cC,kE,aQG];refine zV (λs=>∃ m:Nat,(1<=m\/J=0)/\m<=J/\s=((m:Int),List.replicate m a++List.replicate (J - m) d,())) (λs=>J - s.1.toNat) ?_ _ ?_
 ·rintro s ⟨m,hm,aOT,rfl⟩;have hlen:(List.replicate m a++List.replicate (J - m) d).length=J:=by grind
  simp only[hlen];by_cases dv:m<J
  ·have gn:0<=(m:Int)/\(m:Int)<=(J:Int)/\(J:Int)<=(J:Int):=by omega
   have c1:(0:Int)<=0/\0<=(m:Int)/\(m:Int)<=(J:Int):=by omega
   have mY:1<=m:=by omega
   have Iy:(List.take m (List.replicate m a++List.replicate (J - m) d)).length=m:=by simp
   simp only[dQ dv,if_true,bc gn,bc c1,cp,aPV,Iy,dm];rw[dO,azC a d m J mY dv];have bm:(if J - m<=m then J - m else m)=min (J - m) m:=by rfl
   rw[bm];have gz:=bs (n:=(m:Int)+((min (J - m) m:Nat):Int));refine⟨⟨m+min (J - m) m,.inl (by omega),by omega,?_⟩,?_⟩
   ·rw[gz];simp
   ·simp only[gz];omega
  ·have:m=J:=by omega
   subst this;simp only[Int.lt_irrefl,aQj,aml,aPH,aN,dO,cY,Nat.sub_self,List.replicate_zero,aPT]
 ·by_cases aOU:J=0
  ·grind
  ·refine⟨1,.inl (amn _),by omega,?_⟩;grind
end
abbrev Np:aO:=⟨.ar ha bK,ha,λx=>x.1=[-1]/\0<=x.2/\x.2<=200,λx=>List.replicate x.2.toNat (-1)⟩
theorem azG(x):a8 (auu wc.sh x) (Np.sh x):=td λh=>by
 obtain⟨l,n⟩:=x;obtain⟨E,L,an⟩:=h;change l=[-1]at E;subst E;exact U6 (0:Int) (-1) (λl=>l) n L an
def zc(x:z1'×z25'):M (z14'):=eE (x.1=[-1]/\0<=x.2.1/\x.2.1<=200) (List.replicate x.2.1.toNat (-1),())
theorem agN(x):a8 (auB wc.sh x) (zc x):=td λh=>by
 obtain⟨l,n,u⟩:=x;obtain⟨E,L,an⟩:=h;change l=[-1]at E;subst E;exact U6 (0:Int) (-1) (λl=>(l,())) n L an
abbrev Nq:V:=.ad (.ar bK bK)
abbrev Nr:aO:=⟨.ar (.slice Nq) bK,.slice Nq,λx=>x.1.length=1/\0<=x.2/\x.2<=200,λx=>List.replicate x.2.toNat (x.1.getD 0 (0,0))⟩
theorem azH(x):a8 (auz wc.sh x) (Nr.sh x):=td λh=>by
 obtain⟨l,n⟩:=x;obtain⟨E,L,an⟩:=h;change l.length=1 at E;obtain⟨a,rfl⟩:=List.length_eq_one_iff.1 E;exact U6 ((0,0):z12') a (λl=>l) n L an
end Go.Fer
namespace Go.Fer
def BN(s:bJ)(n:Int):Bool:=decide (0<=n)&&decide (n<(s.2.2.2.1.length:Int))
def zd(s:bJ)(n:Int):Bool:=decide (0<=n)&&decide (n<(s.2.2.1.length:Int))
variable {s:bJ}
theorem azI{n:Int}:BN s n=true<->0<=n/\n<(s.2.2.2.1.length:Int):=by simp[BN]
theorem U7{n:Int}:zd s n=true<->0<=n/\n<(s.2.2.1.length:Int):=by simp[zd]
abbrev U8:aO:=⟨.ar nO bK,dY,λx=>gI x.1,λx=>BN x.1 x.2⟩
abbrev U9:aO:=⟨.ar nO bK,dY,λx=>gI x.1,λx=>zd x.1 x.2⟩
theorem azJ(x):a8 (ac4 dy.sh x) (U8.sh x):=bx λh=>by
 have ah:=h.2.2.2.1;have hw:=bs (n:=(x.1.2.2.2.1.length:Int) - 1);unfold ac4 aR cE;simp[aO.sh,dy,hw,BN,y6]
theorem azK(x):a8 (ac9 dy.sh x) (U9.sh x):=bx λh=>by
 have ah:=h.2.2.1;have hw:=bs (n:=(x.1.2.2.1.length:Int) - 1);unfold ac9 aR cE;simp[aO.sh,dy,hw,zd,y6]
def we(x:me)(p:oV):Int:=if (!x.1.contains p.1||!cJ p.2.1 x.2.1.1 x.2.1.2)=true then 0 else if p.2.2.1=x.2.2.1 then 1 else if p.2.2.1=0 then 2 else 0
abbrev BO:aO:=⟨.ar pQ pP,bK,λx=>x.1.1.length<2 ^ 63,λx=>we x.1 x.2⟩
theorem azL(x):a8 (ac_ dy.sh r_.sh x) (BO.sh x):=bx λh=>by
 unfold ac_ cf bm;simp only[aO.sh,dy,r_,e4,mc,aQa,cp,vK];rw[bc (by exact h)];show _=mpure (we x.1 x.2);unfold we cJ;grind
def nk(s:bJ)(l:z1')(i:Nat):Bool:=decide (l.getD i 0=-1)||(zd s (l.getD i 0)&&!(l.take i).contains (l.getD i 0))
def uS(s:bJ)(l:z1'):Bool:=((List.range l.length).all (nk s l))&&decide ((l.length:Int)=(s.2.2.2.1.length:Int))
abbrev Ns:aO:=⟨.ar nO ha,dY,λx=>gI x.1/\x.2.length<2 ^ 63,λx=>uS x.1 x.2⟩
theorem azM(x):a8 (ac' U9.sh r_.sh x) (Ns.sh x):=bx λh=>by
 obtain⟨s,l⟩:=x;obtain⟨az,ah⟩:=h;change gI s at az;change l.length<2 ^ 63 at ah;unfold ac' cf bw bm bf aR bQ cS bY be bU;rw[eH (List.range l.length) (λi (_:Unit)=>(l,l,(l.length:Int),(i:Int),s,())) (λi b=>if (!nk s l i)=true then .aV (.aV false) else .aw b) (λ_=>.aw (l,s,())) () ?_ ?_ ?_]
 ·rw[m' (q:=nk s l) _ _ (λ_=>rfl)];show _=mpure (uS s l);unfold uS;cases (List.range l.length).all (nk s l)<;>simp
 ·simp
 ·intro i G b;have G:i<l.length:=by grind
  have hw:=bs (n:=(i:Int)+1);obtain⟨aI,j7⟩:∃ aI,l.getD i 0=aI:=⟨_,rfl⟩
  have b6:nk s l i=(decide (aI=-1)||(zd s aI&&!(l.take i).contains aI)):=by unfold nk;rw[j7]
  simp only[cC,dQ G,if_true,aPJ,dK G,cp,aO.sh,e4,mc,aPV,j7];rw[bc (by grind),bc,bc]
  ·simp only[aN,dm,hw,nk,j7];by_cases E:aI=-1
   ·simp_all
   ·cases L:zd s aI<;>cases an:(l.take i).contains aI<;>simp[E,L,an,aJ.pF]
  ·intro _;show (l.take i).length<2 ^ 63;rw[aQl];omega
  ·intro dh;exact⟨⟨dh,trivial,dh⟩,⟨by omega,by omega,by omega⟩,trivial⟩
 simp
def jL(s:bJ)(ca:Bool):Int:=if lz s≠0 then lz s else if ca=false then 1 else fF s.1 true
theorem Nt(h:lz s=0):dH s.1=0/\rA s=true:=by
 unfold lz at h;grind
theorem BP{ca:Bool}(h:jL s ca=0):lz s=0/\ca=true/\fF s.1 true=0/\za s.1=true:=by
 unfold jL at h;by_cases he:lz s=0
 ·rw[if_neg (by omega)]at h;cases ca with
  | false=>grind
  | true=>
   simp only[aRh,aPH]at h;exact⟨he,rfl,h,(Io h).2.2⟩
 omega
structure nP(s:bJ):Prop where
 iT:gI s
 qA:tw s.1
 Iz:s.2.1.length=s.1.1.length
 U_:∀ n∈s.2.1,0<=n/\n<=10
 IA:s.2.2.1.length<=8
 azN:∀ p∈s.2.2.1,wb s.1 p=true
 wg:s.2.2.2.1.length<=6
 agO:∀ x∈s.2.2.2.1,uQ x=true
 U':s.2.2.2.2.1.length<=8
 agP:∀ d∈s.2.2.2.2.1,tz s.1 d=true
 azO:0<=s.2.2.2.2.2/\s.2.2.2.2.2<=99
theorem BQ(az:gI s)(h:lz s=0):nP s:=by
 obtain⟨E,L⟩:=Nt h;simp only[rA,amm,amp,aPZ,cJ,mj]at L;obtain⟨⟨⟨⟨⟨⟨⟨⟨aM,aT⟩,b5⟩,hC⟩,q4⟩,xm⟩,Bg⟩,Ho⟩,St⟩:=L;exact⟨az,⟨az.1,UT E⟩,by omega,aT,by omega,hC,by omega,xm,by omega,Ho,St⟩
theorem nP.agQ(h:nP s):s.1.1.length<=10:=(Il h.qA.2).1
def Nu(w:b2)(t:z7')(q:z15'):z7':=if xT w q.1 q.2.1 q.2.2=1 then yS t q (IntKind.i64.wrap ((rz t q).getD 0+1)) else t
def agR(w:b2)(i m:Nat)(t:z7'):z7':=(List.range (lx w (m:Int)).length).foldl (λt (k:Nat)=>Nu w t ((i:Int),(m:Int),(k:Int))) t
def agS(w:b2)(i:Nat)(t:z7'):z7':=(List.range w.2.1.length).foldl (λt m=>agR w i m t) t
def xW(w:b2)(n:Nat):z7':=(List.range n).foldl (λt i=>agS w i t) []
def o3(p:z12')(n:Int):z4':=List.replicate n.toNat p
def IB(l:z1'):z4':=(List.range l.length).flatMap λ(i:Nat)=>o3 ((i:Int),0) (l.getD i 0)
def agT(l:List D1):z4':=l.flatMap λd=>o3 (d.2.1,d.1) d.2.2
def Va(s:bJ):z4':=IB s.2.1++agT s.2.2.2.2.1
def eo(s:bJ):fU:=(s,Va s,xW s.1 s.2.1.length)
def BR(s:bJ)(ca:Bool):Option fU×Int:=if jL s ca≠0 then (none,jL s ca) else (some (eo s),0)
theorem Vb{ag bet:Type}(f:ag->List bet):∀ (l:List ag) (b:List bet),l.foldl (λb x=>b++f x) b=b++l.flatMap f
 | [],b=>by simp
 | x::l,b=>by rw[aP3,Vb f l,aQf,aQy]
abbrev azP:V:=.ad (.ar bK (.ar bK bK))
abbrev ze:V:=.bO (.ad (.ar nO (.ar (.slice Nq) (.map azP bK))))
abbrev BS:aO:=⟨.ar nO dY,.ar ze bK,λx=>gI x.1,λx=>BR x.1 x.2⟩
theorem azQ(s:bJ)(ca:Bool)(az:gI s):Tw si.sh EE.sh EF.sh Nr.sh (s,ca)=mpure (BR s ca):=by
 unfold Tw b7 hg bw cB bm bf aR bQ bY pD be bU dE BR jL;simp only[aO.sh,e4,bc az];by_cases he:lz s=0
 ·have af:=BQ az he;simp only[he,ne_eq,not_true,aQj,aml,aPH];cases ca with
  | false=>simp
  | true=>
   simp only[aQm,aml,aPH,aRh];refine Eq.trans (congrArg (λm=>aq m _) (show _=(if fF s.1 true≠0 then mpure (aJ.aV ((none:Option fU),fF s.1 true)) else mpure (aJ.aw (s,([]:z7'),s.1.1,s.1.2.1,s.1.2.2.1,s.1.2.2.2,s.2.1,s.2.2.1,s.2.2.2.1,s.2.2.2.2.1,s.2.2.2.2.2,()))) from ?_)) ?_
   ·by_cases bA:s.2.1.length=0
    ·have aH:fF s.1 true=0:=by
      unfold fF;have aW:s.1.1.length=0:=by rw[<-af.Iz];exact bA
      have:za s.1=true:=by unfold za;grind
      simp[(Nt he).1,this]
     grind
    ·have E:decide (Int.ofNat (List.length s.2.1) > 0)=true:=by grind
     have L:iP s.1 0=true:=by rw[xR];have:=af.Iz;omega
     rw[if_pos E,bc az.1];unfold ED;rw[L];by_cases ak:fF s.1 true=0
     ·simp[ak]
     ·simp[ak]
   by_cases IC:fF s.1 true=0
   ·simp only[IC,ne_eq,not_true,aPH,aN,cY];have aOV:=af.agQ;have fD:=af.Iz;have azR:s.1.2.1.length<=6:=(Il af.qA.2).2.1;rw[eH (List.range s.2.1.length) (λi t=>((s.2.1.length:Int),(i:Int),s,t,s.1.1,s.1.2.1,s.1.2.2.1,s.1.2.2.2,s.2.1,s.2.2.1,s.2.2.2.1,s.2.2.2.2.1,s.2.2.2.2.2,())) (λi t=>.aw (agS s.1 i t)) (λt=>.aw (s,t,s.1.1,s.1.2.1,s.1.2.2.1,s.1.2.2.2,s.2.1,s.2.2.1,s.2.2.2.1,s.2.2.2.2.1,s.2.2.2.2.2,())) [] ?_ ?_ ?_]
    ·rw[ec];simp only[aN,cY];rw[e2 (List.range s.2.1.length) (λi acc=>(s.2.1,(s.2.1.length:Int),(i:Int),s,xW s.1 s.2.1.length,s.1.1,s.1.2.1,s.1.2.2.1,s.1.2.2.2,s.2.1,s.2.2.1,s.2.2.2.1,s.2.2.2.2.1,s.2.2.2.2.2,acc,())) (λi acc=>.aw (acc++o3 ((i:Int),0) (s.2.1.getD i 0))) (λacc=>.aw (s,xW s.1 s.2.1.length,s.1.1,s.1.2.1,s.1.2.2.1,s.1.2.2.2,s.2.1,s.2.2.1,s.2.2.2.1,s.2.2.2.2.1,s.2.2.2.2.2,acc,())) (λi acc=>acc.length<=10*i) [] ?_ ?_ ?_ ?_]
     ·rw[ec,Vb];simp only[aN,cY,aQk];have hr:(IB s.2.1).length<=100:=by
       have:∀ (l:List Nat),(∀ i∈l,i<s.2.1.length)->(l.flatMap λ(i:Nat)=>o3 ((i:Int),0) (s.2.1.getD i 0)).length<=10*l.length:=by
        intro l;induction l with
        | nil=>simp
        | cons i l aP=>
         intro ah;have E:=aP λj aK=>ah j (by grind);have L:=ah i (by simp);have an:=af.U_ _ (amk L);have j7:s.2.1.getD i 0=s.2.1[i]:=by grind
         rw[aQf,aP8,aQ',j7];simp only[o3,aQt];simp only[o3]at E;omega
       have:=this (List.range s.2.1.length) (λi G=>by grind);rw[aQ6]at this;unfold IB;omega
      rw[e2 s.2.2.2.2.1 (λi acc=>(s.2.2.2.2.1,(s.2.2.2.2.1.length:Int),(i:Int),xW s.1 s.2.1.length,s.1.1,s.1.2.1,s.1.2.2.1,s.1.2.2.2,s.2.1,s.2.2.1,s.2.2.2.1,s.2.2.2.2.1,s.2.2.2.2.2,acc,())) (λd acc=>.aw (acc++o3 (d.2.1,d.1) d.2.2)) (λacc=>.aw (xW s.1 s.2.1.length,s.1.1,s.1.2.1,s.1.2.2.1,s.1.2.2.2,s.2.1,s.2.2.1,s.2.2.2.1,s.2.2.2.2.1,s.2.2.2.2.2,acc,())) (λi acc=>acc.length<=100+10*i) (IB s.2.1) ?_ ?_ ?_ ?_]
      ·rw[ec,Vb,aN,cY];rfl
      ·rfl
      ·omega
      ·intro i G acc UW;have b7:=af.U';have lX:=bs (n:=(i:Int)+1);have ax:=af.agP _ (amk G);have R5:1<=s.2.2.2.2.1[i].2.2/\s.2.2.2.2.1[i].2.2<=10:=by
        simp only[tz,cJ,amm,amp]at ax;omega
       have hlen:(o3 (s.2.2.2.2.1[i].2.1,s.2.2.2.2.1[i].1) s.2.2.2.2.1[i].2.2).length<=10:=by simp only[o3,aQt];omega
       have oZ:cb (acc.length+(o3 (s.2.2.2.2.1[i].2.1,s.2.2.2.2.1[i].1) s.2.2.2.2.1[i].2.2).length):=by unfold cb;omega
       refine⟨?_,λbj U=>?_⟩
       ·simp only[cC,dQ G,if_true,ed G,dK G,cp,r2,iE,dm,kE,lX];rw[bc (by grind),bc (by exact oZ)];rfl
       grind
      simp
     ·rfl
     ·simp
     ·intro i G acc UW;have G:i<s.2.1.length:=by grind
      have lX:=bs (n:=(i:Int)+1);have j7:s.2.1.getD i 0=s.2.1[i]:=by grind
      have R5:=af.U_ _ (amk G);have hlen:(o3 ((i:Int),0) s.2.1[i]).length<=10:=by simp only[o3,aQt];omega
      have oZ:cb (acc.length+(o3 ((i:Int),0) s.2.1[i]).length):=by unfold cb;omega
      refine⟨?_,λbj U=>?_⟩
      ·simp only[cC,dQ G,if_true,ed G,dK G,cp,r2,iE,dm,kE,lX,aPJ,j7];rw[bc (by grind),bc (by exact oZ)];rfl
      grind
     simp
    ·simp
    ·intro i G t;have G:i<s.2.1.length:=by grind
     have lX:=bs (n:=(i:Int)+1);simp only[cC,dQ G,if_true,aPJ];rw[eH (List.range s.1.2.1.length) (λm t=>((i:Int),(s.2.1.length:Int),(i:Int),s.1.2.1,(s.1.2.1.length:Int),(m:Int),s,t,s.1.1,s.1.2.1,s.1.2.2.1,s.1.2.2.2,s.2.1,s.2.2.1,s.2.2.2.1,s.2.2.2.2.1,s.2.2.2.2.2,())) (λm t=>.aw (agR s.1 i m t)) (λt=>.aw ((s.2.1.length:Int),(i:Int),s,t,s.1.1,s.1.2.1,s.1.2.2.1,s.1.2.2.2,s.2.1,s.2.2.1,s.2.2.2.1,s.2.2.2.2.1,s.2.2.2.2.2,())) t ?_ ?_ ?_]
     ·rw[ec];simp only[aN,cY,dm,lX];rfl
     ·rfl
     ·intro m hm t;have hm:m<s.1.2.1.length:=by grind
      have Vc:=bs (n:=(m:Int)+1);have azS:s.1.2.1[m]=lx s.1 (m:Int):=by simp[lx,amq,hm]
      simp only[cC,dQ hm,if_true,aPJ,dK hm,cp,ed hm,azS];have Ik:=M8 az.1 (m:Int);rw[eH (List.range (lx s.1 (m:Int)).length) (λk t=>((i:Int),(m:Int),(s.2.1.length:Int),(i:Int),s.1.2.1,(s.1.2.1.length:Int),(m:Int),((lx s.1 (m:Int)).length:Int),(k:Int),s,t,s.1.1,s.1.2.1,s.1.2.2.1,s.1.2.2.2,s.2.1,s.2.2.1,s.2.2.2.1,s.2.2.2.2.1,s.2.2.2.2.2,())) (λk t=>.aw (Nu s.1 t ((i:Int),(m:Int),(k:Int)))) (λt=>.aw ((i:Int),(s.2.1.length:Int),(i:Int),s.1.2.1,(s.1.2.1.length:Int),(m:Int),s,t,s.1.1,s.1.2.1,s.1.2.2.1,s.1.2.2.2,s.2.1,s.2.2.1,s.2.2.2.1,s.2.2.2.2.1,s.2.2.2.2.2,())) t ?_ ?_ ?_]
      ·rw[ec];simp only[aN,cY,dm,Vc];rfl
      ·rfl
      ·intro k ak t;have ak:k<(lx s.1 (m:Int)).length:=by grind
       have nN:=bs (n:=(k:Int)+1);have mb:iP s.1 (i:Int)=true:=by rw[xR];omega
       have Vd:kJ s.1 (m:Int) (k:Int)=true:=by rw[EA];omega
       have ay:tx s.1 (i:Int) (m:Int) (k:Int)=(xT s.1 (i:Int) (m:Int) (k:Int),0):=by simp[tx,mb,Vd,IC]
       simp only[dQ ak,if_true,aPJ];simp only[ay,bc az.1,amp];by_cases E:xT s.1 (i:Int) (m:Int) (k:Int)=1
       ·simp only[E,if_true,aQK,cp,aN,cY,dm,nN,aJ.pF,Nu];rfl
       ·simp only[E,aPH,aN,cY,dm,nN,aJ.pF,Nu];rfl
      simp
     simp
    simp
   ·simp[IC]
 grind
theorem azT(x):a8 (Tw si.sh EE.sh EF.sh Nr.sh x) (BS.sh x):=bx λh=>azQ x.1 x.2 h
variable {p:Int->Bool}{l:z1'}
theorem azU(h:nj p l=true):∀ x∈l,p x=true:=by
 intro x al;obtain⟨i,G,rfl⟩:=List.mem_iff_getElem.1 al;unfold nj at h;simp_all
theorem azV(h:nj p l=true):l.Pairwise (·<·):=by
 unfold nj at h;have key:∀ j i,i<j->j<l.length->l.getD i 0<l.getD j 0:=by
  intro j;induction j<;>grind
 rw[List.pairwise_iff_getElem];grind
theorem Ve(af:nP s){p:oV}(ai:p∈s.2.2.1):tr s.1 p.2.2.2.1=true/\p.2.2.2.2.length<=4/\∀ k∈p.2.2.2.2,kJ s.1 p.2.2.2.1 k=true:=by
 have h:=af.azN p ai;simp  [wb]at h;obtain⟨⟨_,hm⟩,D⟩:=h;have gu:∀ k∈p.2.2.2.2,kJ s.1 p.2.2.2.1 k=true:=λk ak=>by
  have:=azU D k ak;rw[EA];simp  [Nj,amp]at this;exact⟨UP.1 hm,this⟩
 refine⟨hm,?_,gu⟩;have azW:=azV D;have Ge:p.2.2.2.2.Nodup:=azW.imp λh e=>by omega
 cases U:p.2.2.2.2 with
 | nil=>simp
 | cons k l=>
  rw[<-U];have a6:=ayu af.qA.2 (gu k (by grind));have:=agG (lx s.1 p.2.2.2.1).length p.2.2.2.2 Ge λk ak=>by
   have:=EA.1 (gu k ak);omega
  omega
abbrev uT:Type:=z15'
abbrev azX:me:=([],(0,0),0,0,0)
abbrev azY:oV:=(0,0,0,0,[])
abbrev BT:fU:=((([],[],0,[]),[],[],[],[],0),[],[])
def pR(s:bJ)(i:Int):me:=s.2.2.2.1.getD i.toNat azX
def qE(s:bJ)(i:Int):oV:=s.2.2.1.getD i.toNat azY
def zf(s:bJ)(x:me)(p:oV):Option Int:=if we x p=0 then none else if (if we x p=2 then x.2.2.2.1 - s.2.2.2.2.2 else x.2.2.2.1)<0 then none else some (if we x p=2 then x.2.2.2.1 - s.2.2.2.2.2 else x.2.2.2.1)
def pS(s:bJ)(dk:z1')(i:Nat):Option (List uT):=if dk.getD i 0<0 then some [] else (zf s (pR s (i:Int)) (qE s (dk.getD i 0))).map λd=>(qE s (dk.getD i 0)).2.2.2.2.map λk=>((qE s (dk.getD i 0)).2.2.2.1,k,d)
def lY(s:bJ)(dk:z1'):List uT×Bool:=if ((List.range dk.length).all λi=>(pS s dk i).isSome)=true then ((List.range dk.length).flatMap λi=>(pS s dk i).getD [],true) else ([],false)
def pT(s:bJ)(dk:z1'):Prop:=dk.length<=s.2.2.2.1.length/\∀ p∈dk,p<(s.2.2.1.length:Int)
def qF(o:Option fU):bJ:=(o.getD BT).1
def zg(o:Option fU)(s:bJ):Prop:=o=some (eo s)/\nP s
variable {i:Nat}
theorem Vf(h:i<s.2.2.2.1.length):pR s (i:Int)∈s.2.2.2.1:=by
 simp[pR,h]
theorem agU{i:Int}(aW:0<=i)(h:i<(s.2.2.1.length:Int)):qE s i∈s.2.2.1:=Bn aW h
theorem agV(af:nP s){x:me}(al:x∈s.2.2.2.1):(0<=x.2.2.2.1/\x.2.2.2.1<=99)/\(0<=x.2.2.2.2/\x.2.2.2.2<=100000):=by
 have:=af.agO x al;simp  [uQ,mj,cJ,amp]at this;omega
variable {l:List uT}{dk:z1'}
theorem agW(af:nP s)(ai:pT s dk)(G:i<dk.length)(h:pS s dk i=some l):l.length<=4:=by
 unfold pS at h;split at h
 ·grind
 ·rw[aP9]at h;obtain⟨d,_,rfl⟩:=h;rw[aPW];have hm:dk.getD i 0∈dk:=by grind
  exact (Ve af (agU (by omega) (ai.2 _ hm))).2.1
variable {ag:Type}{bet:Type}{rho:Type}
def EL(f:ag->Option (List bet))(r:rho)(x:ag)(b:List bet):aJ (List bet) rho:=if (f x).isSome=true then .aw (b++(f x).getD []) else .aV r
theorem ID{f:ag->Option (List bet)}{r:rho}{x:ag}{b y:List bet}(h:f x=some y):EL f r x b=.aw (b++y):=by simp[EL,h]
theorem Nv{f:ag->Option (List bet)}{r:rho}{x:ag}{b:List bet}(h:f x=none):EL f r x b=.aV r:=by simp[EL,h]
theorem agX{ag bet rho:Type}{f:ag->Option (List bet)}{r:rho}{fin:List bet->rho}:∀ (l:List ag) (b:List bet),fa (EL f r) fin l b=if (l.all λx=>(f x).isSome)=true then fin (b++l.flatMap λx=>(f x).getD []) else r
 | [],b=>by simp[fa]
 | x::l,b=>by
  simp  [fa];cases h:f x with
  | none=>simp[Nv h,h]
  | some y=>
   have:=agX (f:=f) (r:=r) (fin:=fin) l (b++y);simp  [ID h,amx];grind
abbrev Nw:V:=.ad (.ar bK (.ar bK bK))
abbrev Nx:aO:=⟨.ar ze ha,.ar (.slice Nw) dY,λx=>∃ s,zg x.1 s/\pT s x.2,λx=>lY (qF x.1) x.2⟩
theorem azZ(s:bJ)(af:nP s)(dk:z1')(ai:pT s dk):Tx BO.sh (some (eo s),dk)=mpure (lY s dk):=by
 unfold Tx bw cB bm bf aR bQ cS iM bY be eB bU cE;have BU:=af.wg;have aOW:=ai.1;rw[e2 (List.range dk.length) (λi acc=>(some (eo s),dk,(dk.length:Int),(i:Int),acc,())) (EL (pS s dk) (.aV ([],false))) (λacc=>.aw (acc,())) (λi acc=>acc.length<=4*i) [] ?_ ?_ ?_ ?_]
 ·rw[agX];unfold lY;by_cases h:((List.range dk.length).all λi=>(pS s dk i).isSome)=true
  ·simp[h]
  ·simp[h]
 ·rfl
 ·simp
 ·intro i G acc UW;have G:i<dk.length:=by grind
  have BV:i<s.2.2.2.1.length:=by omega
  have lX:=bs (n:=i+1);have Ny:=Vf BV;rw[aPJ];obtain⟨aI,az0⟩:∃ aI,dk.getD i 0=aI:=⟨_,rfl⟩
  have az1:aI∈dk:=by grind
  refine⟨?_,λbj U=>?_⟩
  ·simp only[aPV,az0,amx];by_cases Gq:aI<0
   ·have qg:pS s dk i=some []:=by unfold pS;grind
    rw[ID qg];simp_all
   ·have kQ:=ai.2 aI az1;have az2:=agU   (by omega) kQ;have hr:(eo s).1=s:=rfl;have IE:List.getD s.2.2.2.1 i ([],(0,0),0,0,0)=pR s i:=rfl;have Vg:List.getD s.2.2.1 aI.toNat (0,0,0,0,[])=qE s aI:=rfl;simp only[Gq,hr,aO.sh,e4,IE,Vg];have qg:pS s dk i=(zf s (pR s i) (qE s aI)).map λd=>(qE s aI).2.2.2.2.map λk=>((qE s aI).2.2.2.1,k,d):=by unfold pS;grind
    rw[bc (af.iT.2.2.2.2.2.2 _ Ny)];obtain⟨aOX,_⟩:=agV af Ny;have pA:=af.azO;obtain⟨azR,ho,sW⟩:=Ve af az2;have az3:=bs (n:=(pR s i).2.2.2.1 - s.2.2.2.2.2);generalize pR s i=x at *
    generalize qE s aI=p at *
    by_cases aW:we x p=0
    ·have ax:zf s x p=none:=by unfold zf;grind
     rw[ax]at qg;rw[Nv qg];simp_all
    ·by_cases L:we x p=2;all_goals simp only[aW,L,aRj,aQj,aml,aPH,if_true,aN,cY,az3,Int.reduceEq]
     ·have ax:zf s x p=(if x.2.2.2.1 - s.2.2.2.2.2<0 then none else some (x.2.2.2.1 - s.2.2.2.2.2)):=by unfold zf;grind
      generalize x.2.2.2.1 - s.2.2.2.2.2=d at *
      by_cases xl:d<0
      ·rw[if_pos xl]at ax;rw[ax]at qg;rw[Nv qg];simp_all
      ·rw[if_neg xl]at ax;rw[ax]at qg;rw[ID qg];simp  [xl,aPH];rw[e2 p.2.2.2.2 (λk acc=>(some (eo s),d,dk,(dk.length:Int),(i:Int),p.2.2.2.2,(p.2.2.2.2.length:Int),(k:Int),acc,p,())) (λk acc=>.aw (acc++[(p.2.2.2.1,k,d)])) (λacc=>.aw (some (eo s),dk,dk.length,i,acc,())) (λk BW=>BW.length<=4*i+k) acc ?_ ?_ ?_ ?_]
       ·rw[ec,r4];simp_all
       ·rfl
       ·omega
       ·intro k ak BW az4;have nN:=bs (n:=k+1);have oZ:cb (BW.length+(0+1)):=by unfold cb;omega
        refine⟨?_,λbj U=>?_⟩
        ·simp_all
        grind
       simp
     ·have ax:zf s x p=(if x.2.2.2.1<0 then none else some x.2.2.2.1):=by unfold zf;grind
      generalize x.2.2.2.1=d at *
      by_cases xl:d<0
      ·omega
      ·rw[if_neg xl]at ax;rw[ax]at qg;rw[ID qg];simp  [xl,aPH];rw[e2 p.2.2.2.2 (λk acc=>(some (eo s),d,dk,(dk.length:Int),(i:Int),p.2.2.2.2,(p.2.2.2.2.length:Int),(k:Int),acc,p,())) (λk acc=>.aw (acc++[(p.2.2.2.1,k,d)])) (λacc=>.aw (some (eo s),dk,dk.length,i,acc,())) (λk BW=>BW.length<=4*i+k) acc ?_ ?_ ?_ ?_]
       ·rw[ec,r4];simp_all
       ·rfl
       ·omega
       ·intro k ak BW az4;have nN:=bs (n:=k+1);have oZ:cb (BW.length+(0+1)):=by unfold cb;omega
        refine⟨?_,λbj U=>?_⟩
        ·simp_all
        grind
       simp
  ·cases qg:pS s dk i with
   | none=>rw[Nv qg]at U;grind
   | some y=>
    rw[ID qg]at U;have:=agW af ai G qg;grind
 simp
theorem az5(x):a8 (Tx BO.sh x) (Nx.sh x):=bx λh=>by
 obtain⟨o,dk⟩:=x;obtain⟨s,⟨ay,af⟩,ai⟩:=h;subst ay;exact azZ s af dk ai
def xX(s:bJ)(dk:z1'):Int:=((List.range dk.length).map λ(i:Nat)=>if dk.getD i 0=-1 then 0 else (pR s (i:Int)).2.2.2.2).foldl (·+·) 0
abbrev zh:aO:=⟨.ar ze ha,bK,λx=>∃ s,zg x.1 s/\x.2.length<=s.2.2.2.1.length,λx=>xX (qF x.1) x.2⟩
theorem az6(s:bJ)(af:nP s)(dk:z1')(ai:dk.length<=s.2.2.2.1.length):TB (some (eo s),dk)=mpure (xX s dk):=by
 unfold TB eZ bw cB bm aR bQ bY be bU;have BU:=af.wg;rw[e2 (List.range dk.length) (λi n=>(some (eo s),n,dk,(dk.length:Int),(i:Int),())) (λi n=>.aw (n+if dk.getD i 0=-1 then 0 else (pR s i).2.2.2.2)) (λn=>.aw (n,())) (λi n=>0<=n/\n<=100000*i) 0 ?_ ?_ ?_ ?_]
 ·rw[ec];unfold xX;rw[List.foldl_map,aN,cY]
 ·rfl
 ·simp
 ·intro i G n aC;have G:i<dk.length:=by grind
  have BV:i<s.2.2.2.1.length:=by omega
  have lX:=bs (n:=i+1);obtain⟨_,ra⟩:=agV af (Vf BV);have IE:List.getD s.2.2.2.1 i ([],(0,0),0,0,0)=pR s i:=rfl;have EJ:=bs (n:=n+(pR s i).2.2.2.2);have hr:(eo s).1=s:=rfl;refine⟨?_,λbj U=>?_⟩
  ·by_cases E:dk.getD i 0=-1<;>simp_all
  grind
 simp
theorem az7(x):a8 (TB x) (zh.sh x):=bx λh=>by
 obtain⟨o,dk⟩:=x;obtain⟨s,⟨ay,af⟩,ai⟩:=h;subst ay;exact az6 s af dk ai
theorem IF{l:z1'}{j:Nat}{s:Int}(aK:j<l.length):(l.set j s).getD i 0=if i=j then s else l.getD i 0:=by
 grind
theorem az8{J:Nat}(h:i<J):(List.replicate J (-1:Int)).getD i 0=-1:=by
 grind
def mH(g:z1')(j:Int):Nat:=g.countP λx=>decide (x=j)
theorem agY:∀ {g:z1'} {i:Nat} {x:Int} (j:Int),i<g.length->mH (g.set i x) j+(if g.getD i 0=j then 1 else 0)=mH g j+(if x=j then 1 else 0)
 | [],i,x,j,h=>by grind
 | y::g,0,x,j,h=>by
  unfold mH;grind
 | y::g,i+1,x,j,h=>by
  unfold mH at *
  grind
theorem az9{g:z1'}{j:Int}(G:i<g.length)(h:g.getD i 0=j):0<mH g j:=by
 unfold mH;grind
def qG(gd:Nat->Int->Bool)(rec:Int->oq->Bool×oq)(own:Int)(i:Nat)(ad:oq):aJ oq (Bool×oq):=
 if (decide (ea ad.2 (i:Int) > 0)||!gd i own)=true then .aw ad
 else if decide (ad.1.getD i 0=-1)=true then .aV (true,(ad.1.set i own,gX ad.2 (i:Int) (ea ad.2 (i:Int)+1)))
 else if (rec (ad.1.getD i 0) (ad.1,gX ad.2 (i:Int) (ea ad.2 (i:Int)+1))).1=true then .aV (true,((rec (ad.1.getD i 0) (ad.1,gX ad.2 (i:Int) (ea ad.2 (i:Int)+1))).2.1.set i own,(rec (ad.1.getD i 0) (ad.1,gX ad.2 (i:Int) (ea ad.2 (i:Int)+1))).2.2))
 else .aw (rec (ad.1.getD i 0) (ad.1,gX ad.2 (i:Int) (ea ad.2 (i:Int)+1))).2
def mI(gd:Nat->Int->Bool)(m:Nat):Nat->Int->oq->Bool×oq
 | 0=>λ_ ad=>(false,ad)
 | f+1=>λown ad=>fa (qG gd (mI gd m f) own) (λad=>(false,ad)) (List.range m) ad
def agZ(m J:Nat)(g:z1'):Prop:=∀ i,i<m->g.getD i 0=-1\/(0<=g.getD i 0/\g.getD i 0<(J:Int))
structure BX(m J f:Nat)(ad:oq):Prop where
 len:ad.1.length=m
 ou:agZ m J ad.1
 hl:∀ k,0<=ea ad.2 k/\ea ad.2 k<=1
 cZ:xV m ad.2<f
structure Vh(m J:Nat)(ad r:oq):Prop where
 len:r.1.length=m
 ou:agZ m J r.1
 hl:∀ k,ea ad.2 k<=ea r.2 k/\ea r.2 k<=1
def ag0(gd:Nat->Int->Bool)(m:Nat)(g:z1')(C:Int->Prop):Prop:=∀ j,C j->∀ i,i<m->gd i j=true->g.getD i 0≠-1/\C (g.getD i 0)
def ag1(gd:Nat->Int->Bool)(m:Nat)(g:z1')(s s':z4'):Prop:=∀ i,i<m->ea s (i:Int)=0->1<=ea s' (i:Int)->g.getD i 0≠-1/\∀ k,k<m->gd k (g.getD i 0)=true->1<=ea s' (k:Int)
structure Vi(gd:Nat->Int->Bool)(m:Nat)(own:Int)(ad:oq)(r:Bool×oq):Prop where
 Vj:r.1=false->r.2.1=ad.1/\(∀ i,i<m->gd i own=true->1<=ea r.2.2 (i:Int))/\ag1 gd m ad.1 ad.2 r.2.2
 ag2:r.1=true->(∀ i,i<m->r.2.1.getD i 0=ad.1.getD i 0\/(ea ad.2 (i:Int)=0/\gd i (r.2.1.getD i 0)=true))/\∀ j,j≠-1->mH r.2.1 j=mH ad.1 j+(if j=own then 1 else 0)
 cl:∀ C,ag0 gd m ad.1 C->(C own->r.1=false)/\(r.1=true->∀ i,i<m->r.2.1.getD i 0≠ad.1.getD i 0->∀ c,C c->gd i c=false)
def ag3(gd:Nat->Int->Bool)(m J f:Nat)(rec:Int->oq->Bool×oq):Prop:=∀ own ad,0<=own->own<(J:Int)->BX m J f ad->Vh m J ad (rec own ad).2/\Vi gd m own ad (rec own ad)
variable {m:Nat}{f:Nat}
theorem az_{gd:Nat->Int->Bool}{J:Nat}{rec:Int->oq->Bool×oq}(Ia:ag3 gd m J f rec){own:Int}(ag4:0<=own)(ag5:own<(J:Int)){ad:oq}(aW:BX m J (f+1) ad) :
  Vh m J ad (fa (qG gd rec own) (λad=>(false,ad)) (List.range m) ad).2/\Vi gd m own ad (fa (qG gd rec own) (λad=>(false,ad)) (List.range m) ad):=by
 refine ay' (λk b=>b.1=ad.1/\(∀ q,ea ad.2 q<=ea b.2 q/\ea b.2 q<=1)/\(∀ i,i<k->i<m->gd i own=true->1<=ea b.2 i)/\ag1 gd m ad.1 ad.2 b.2)
  (λr=>Vh m J ad r.2/\Vi gd m own ad r) (List.range m) ad ⟨rfl,λq=>⟨aPP _,(aW.hl q).2⟩,λi G=>by omega,λi _ E L=>by omega⟩ (λi G b U=>?_) λb U=>?_
 ·obtain⟨hw,qC,Nz,l9⟩:=U;have G:i<m:=by grind
  rw[aPJ];have yE:=λq=>aRd (aW.hl q).1 (qC q).1;unfold qG;by_cases hc:(decide (ea b.2 i > 0)||!gd i own)=true
  ·grind
  ·rw[if_neg hc];simp  at hc;obtain⟨bA,aD⟩:=hc;have bA:ea b.2 i=0:=by grind
   have ag6:=by have:=(qC i).1;have:=(aW.hl i).1;omega
   have Az:i<ad.1.length:=by rw[aW.len];omega
   have mY:∀ q,ea b.2 q<=ea (gX b.2 i (ea b.2 i+1)) q/\ea (gX b.2 i (ea b.2 i+1)) q<=1:=λq=>by
    have:=qC q;rw[EK];omega
   have aOY:ea (gX b.2 i (ea b.2 i+1)) i=1:=by rw[EK,if_pos rfl,bA];rfl
   by_cases ay:ad.1.getD i 0=-1
   ·rw[hw,if_pos (by grind)];refine⟨⟨by rw[aQx];exact aW.len,λk ak=>?_,λq=>⟨aRd (qC q).1 (mY q).1,(mY q).2⟩⟩,λh=>(by grind),λ_=>⟨λk ak=>?_,λj aK=>?_⟩,λC ky=>⟨λEM=>?_,λ_ k ak eM c hc=>?_⟩⟩
    ·rw[IF Az];split
     ·omega
     ·exact aW.ou k ak
    ·grind
    ·have:=agY (x:=own) j Az;grind
    ·exact absurd ay (ky own EM i G aD).1
    ·rw[IF Az]at eM;split at eM
     ·rename_i e;subst e;cases IG:gd k c with
      | false=>rfl
      | true=>exact absurd ay (ky c hc k G IG).1
     omega
   ·rw[hw,if_neg (by grind)];have iW:=(aW.ou i G).resolve_left ay;have zi:BX m J f (ad.1,gX b.2 i (ea b.2 i+1)):=by
     refine⟨aW.len,aW.ou,λq=>⟨aRd (yE q) (mY q).1,(mY q).2⟩,?_⟩;have E:=agJ (n:=m)     (v:=ea b.2 i+1) (by omega) (by omega) bA (by omega);have L:=agK (n:=m)     λk=>⟨(aW.hl k).1,(qC k).1⟩
     have an:=aW.cZ;grind
    obtain⟨ai,D⟩:=Ia (ad.1.getD i 0) _ iW.1 iW.2 zi;revert ai D;generalize rec (ad.1.getD i 0) (ad.1,gX b.2 i (ea b.2 i+1))=r;intro ai D;have xd:=λq=>(ai.hl q).1;by_cases bS:r.1=true
    ·rw[if_pos bS];obtain⟨mU,P0⟩:=D.ag2 bS;have eB:i<r.2.1.length:=by rw[ai.len];omega
     have qf:r.2.1.getD i 0=ad.1.getD i 0:=by
      grind
     refine⟨⟨by rw[aQx];exact ai.len,λk ak=>?_,λq=>⟨aRd (qC q).1 (aRd (mY q).1 (xd q)),(ai.hl q).2⟩⟩,λh=>(by grind),λ_=>⟨λk ak=>?_,λj aK=>?_⟩,λC ky=>⟨λEM=>?_,λ_ k ak eM c hc=>?_⟩⟩
     ·rw[IF eB];split
      ·omega
      ·exact ai.ou k ak
     ·rw[IF eB];split
      ·grind
      ·rcases mU k ak with e | ⟨aE,bz⟩
       ·grind
       ·have c:=(aW.hl k).1;grind
     ·have a:=agY (x:=own) j eB;grind
     ·have:=(D.cl C ky).1 (ky own EM i G aD).2;grind
     ·rw[IF eB]at eM;split at eM
      ·rename_i e;subst e;cases IG:gd k c with
       | false=>rfl
       | true=>
        have:=(D.cl C ky).1 (ky c hc k G IG).2;grind
      ·exact (D.cl C ky).2 bS k ak eM c hc
    ·rw[if_neg bS];have GL:r.1=false:=by grind
     obtain⟨Dq,aOZ,az'⟩:=D.Vj GL;refine⟨Dq,λq=>⟨aRd (qC q).1 (aRd (mY q).1 (xd q)),(ai.hl q).2⟩,λk ak Vk LA=>?_,λk Vk bN aE=>?_⟩
     ·grind
     ·by_cases e:k=i
      ·grind
      ·by_cases bz:1<=ea b.2 k
       ·obtain⟨a,c⟩:=l9 k Vk bN bz;grind
       ·refine az' k Vk ?_ aE;rw[EK];grind
 ·obtain⟨hw,qC,Nz,l9⟩:=U;rw[aQ6]at Nz;refine⟨⟨by rw[hw];exact aW.len,by rw[hw];exact aW.ou,qC⟩,λ_=>⟨hw,λi G aD=>Nz i G G aD,l9⟩,λh=>(by grind),λC ky=>⟨λ_=>rfl,λh=>(by grind)⟩⟩
theorem Vl{gd:Nat->Int->Bool}{m J:Nat}:∀ f,ag3 gd m J f (mI gd m f)
 | 0=>λown ad _ _ h=>absurd h.cZ (by omega)
 | f+1=>λown ad aW E h=>az_ (Vl f) aW E h
def wh(gd:Nat->Int->Bool)(m F:Nat)(ad:z18')(j:Nat):z18':=((mI gd m F (j:Int) (ad.1,[])).2.1,if (mI gd m F (j:Int) (ad.1,[])).1=true then ad.2 else ad.2+1)
def EN(gd:Nat->Int->Bool)(m J F:Nat):z18':=(List.range J).foldl (wh gd m F) (List.replicate m (-1),0)
structure IH(gd:Nat->Int->Bool)(m J k:Nat)(ad:z18'):Prop where
 len:ad.1.length=m
 ou:∀ i,i<m->ad.1.getD i 0=-1\/(0<=ad.1.getD i 0/\ad.1.getD i 0<(k:Int)/\gd i (ad.1.getD i 0)=true)
 one:∀ j,0<=j->mH ad.1 j<=1
 num:ad.2=(((List.range k).countP λ(j:Nat)=>decide (mH ad.1 (j:Int)=0):Nat):Int)
 ag7:∃ C,ag0 gd m ad.1 C/\(∀ c,C c->0<=c/\c<(k:Int))/\∀ j:Nat,j<k->mH ad.1 (j:Int)=0->C (j:Int)
theorem ag8{gd:Nat->Int->Bool}{J F k:Nat}(bp:m<F)(ak:k<J){ad:z18'}(h:IH gd m J k ad):IH gd m J (k+1) (wh gd m F ad k):=by
 obtain⟨g,n⟩:=ad;have hu:xV m []<=m:=by
  exact aPL List.countP_le_length (by simp)
 have zi:BX m J F (g,[]):=⟨h.len,λi G=>by have:=h.ou i G;grind,λq=>⟨aPP _,by show (0)<=1;decide⟩,by grind⟩
 obtain⟨ai,D⟩:=Vl F k (g,[]) (by omega) (by omega) zi;unfold wh;revert ai D;generalize mI gd m F k (g,[])=r;intro ai D;have AA:mH g k=0:=by
  unfold mH;rw[List.countP_eq_zero];intro x al;obtain⟨i,G,rfl⟩:=List.mem_iff_getElem.1 al;have:=h.ou i (by rw[<-h.len];omega);grind
 obtain⟨C,ky,aO0,aO1⟩:=h.ag7;by_cases U:r.1=true
 ·obtain⟨mU,P0⟩:=D.ag2 U;have aO2:=(D.cl C ky).2 U;refine⟨ai.len,λi G=>?_,λj aK=>?_,?_,C,λc uw i G BY=>?_,λc uw=>?_,λj aK hu=>?_⟩
  ·show r.2.1.getD i 0=-1\/_;rcases mU i G with e | ⟨aE,bz⟩
   ·rcases h.ou i G with a | a<;>grind
   ·by_cases mY:r.2.1.getD i 0=-1
    ·omega
    ·refine .inr ⟨?_,?_,bz⟩
     ·have:=(ai.ou i G).resolve_left mY;grind
     ·have L:=az9 (by rw[ai.len];omega) rfl;by_cases e:r.2.1.getD i 0=k
      ·grind
      ·have an:0<mH g (r.2.1.getD i 0):=by grind
       unfold mH at an;rw[List.countP_pos_iff]at an;obtain⟨x,al,gm⟩:=an;obtain⟨q,bB,rfl⟩:=List.mem_iff_getElem.1 al;have:=h.ou q (by rw[<-h.len];omega);grind
  ·have L:=h.one j aK;grind
  ·have E:=h.num;rw[aQ2,List.countP_append];have an:mH r.2.1 k=1:=by
    grind
   have a6:(List.range k).countP (λ(j:Nat)=>decide (mH r.2.1 j=0))=(List.range k).countP (λ(j:Nat)=>decide (mH g j=0)):=List.countP_congr λj aK=>by grind
   grind
  ·by_cases e:r.2.1.getD i 0=g.getD i 0
   ·rw[e];exact ky c uw i G BY
   grind
  ·grind
  grind
 ·have GL:r.1=false:=by grind
  obtain⟨hw,Nz,l9⟩:=D.Vj GL;simp  [hw];refine⟨h.len,λi G=>?_,h.one,?_,λc=>C c\/c=k\/∃ i,i<m/\1<=ea r.2.2 i/\c=g.getD i 0,λc uw i G BY=>?_,λc uw=>?_,λj aK hu=>?_⟩
  ·rcases h.ou i G with a | a<;>grind
  ·have E:=h.num;rw[aQ2];grind
  ·have aC:1<=ea r.2.2 i->g.getD i 0≠-1/\(C (g.getD i 0)\/g.getD i 0=k\/∃ q,q<m/\1<=ea r.2.2 q/\g.getD i 0=g.getD q 0):=λaz=>⟨(l9 i G rfl az).1,.inr (.inr ⟨i,G,az,rfl⟩)⟩
   rcases uw with e | e | ⟨q,bB,az,e⟩
   ·exact⟨(ky c e i G BY).1,.inl (ky c e i G BY).2⟩
   ·grind
   ·subst e;exact aC ((l9 q bB rfl az).2 i G BY)
  ·rcases uw with e | e | ⟨q,bB,az,e⟩
   ·grind
   ·omega
   ·have:=(h.ou q bB).resolve_left (l9 q bB rfl az).1;grind
  grind
theorem aAa(gd:Nat->Int->Bool)(m J F:Nat)(bp:m<F):IH gd m J J (EN gd m J F):=by
 unfold EN;have key:∀ k,k<=J->IH gd m J k ((List.range k).foldl (wh gd m F) (List.replicate m (-1),0)):=by
  intro k;induction k with
  | zero=>
   intro _;refine⟨by simp,λi G=>.inl (az8 G),λj aK=>?_,by simp,λ_=>False,λ_ h=>h.elim,λ_ h=>h.elim,λj aK=>by omega⟩;show mH (List.replicate m (-1)) j<=1;have:mH (List.replicate m (-1)) j=0:=by
    unfold mH;grind
   omega
  | succ k aP=>
   intro ak;rw[aQ2,List.foldl_append];exact ag8 bp (by omega) (aP (by omega))
 grind
def wi(t:fU)(sp:z12')(j:uT):Bool:=decide (sp.2<=j.2.2)&&decide ((rz t.2.2 (sp.1,j.1,j.2.1)).getD 0 > 0)
abbrev EO:aO:=⟨.ar ze (.ar Nq Nw),dY,λx=>∃ t,x.1=some t,λx=>wi (x.1.getD BT) x.2.1 x.2.2⟩
theorem aAb(x):a8 (ada x) (EO.sh x):=bx λh=>by
 obtain⟨o,sp,j⟩:=x;obtain⟨t,ay⟩:=h;subst ay;unfold ada b7 dp hS hg;simp;rfl
def II(t:fU)(l:List uT):Bool:=l.all λj=>(List.range t.1.2.1.length).any λ(i:Nat)=>wi t ((i:Int),0) j
abbrev Vm:aO:=⟨.ar ze (.slice Nw),dY,λx=>∃ t,x.1=some t/\t.1.2.1.length<2 ^ 63/\x.2.length<2 ^ 63,λx=>II (x.1.getD BT) x.2⟩
theorem aAc(t:fU)(l:List uT)(E:t.1.2.1.length<2 ^ 63)(L:l.length<2 ^ 63):Ty EO.sh (some t,l)=mpure (II t l):=by
 unfold Ty cf bw cB bm bf aR bQ cS iM bY be iX bU;rw[eH l (λi (_)=>(some t,l,(l.length:Int),(i:Int),())) (λj b=>if (!(List.range t.1.2.1.length).any λi=>wi t (i,0) j)=true then .aV (.aV false) else .aw b) (λ_=>.aw ()) () ?_ ?_ ?_]
 ·rw[m'   _ _ (λ_=>rfl)];unfold II;cases l.all λj=>(List.range t.1.2.1.length).any λi=>wi t (i,0) j<;>simp
 ·rfl
 ·intro i G b;have hw:=bs (n:=i+1);simp only[cC,dQ G,ed G,dK G];rw[eH (List.range t.1.2.1.length) (λk b=>(some t,b,l,(l.length:Int),(i:Int),(t.1.2.1.length:Int),(k:Int),l[i],())) (λk b=>.aw (b||wi t (k,0) l[i])) (λb=>.aw (some t,b,l,l.length,i,())) false ?_ ?_ ?_]
  ·rw[ec];have e:∀ (r:List Nat) (b:Bool),r.foldl (λb (k:Nat)=>b||wi t (k,0) l[i]) b=(b||r.any λk=>wi t (k,0) l[i]):=by
    intro r;induction r<;>grind
   rw[e];cases (List.range t.1.2.1.length).any λk=>wi t (k,0) l[i]<;>simp[hw]
  ·rfl
  ·grind [bs,aO.sh,mc,e4,bc,aJ.pF]
  simp
 simp
theorem aAd(x):a8 (Ty EO.sh x) (Vm.sh x):=bx λh=>by
 grind [aAc]
def jt(t:fU)(l:List uT)(i:Nat)(j:Int):Bool:=wi t (t.2.1.getD i (0,0)) (l.getD j.toNat (0,0,0))
abbrev Vn:=Option fU×List uT×Int×z4'×z1'×Unit
abbrev ag9:=Bool×z4'×z14'
def xY(r:Bool×oq):ag9:=(r.1,r.2.2,r.2.1,())
def Vo(f:Nat)(x:Vn):Prop:=∃ t,x.1=some t/\t.2.1.length<=200/\x.2.1.length<=1000/\0<=x.2.2.1/\x.2.2.1<(x.2.1.length:Int)/\BX t.2.1.length x.2.1.length f (x.2.2.2.2.1,x.2.2.2.1)
def xZ(f:Nat)(x:Vn):M ag9:=eE (Vo f x) (xY (mI (jt (x.1.getD BT) x.2.1) (x.1.getD BT).2.1.length f x.2.2.1 (x.2.2.2.2.1,x.2.2.2.1)))
theorem aAe{t:fU}(hm:t.2.1.length<=200)(ah:l.length<=1000){own:Int}(ag4:0<=own)(ag5:own<(l.length:Int)){ad:oq}(aW:BX t.2.1.length l.length (f+1) ad) :
  TD EO.sh (xZ f) (some t,l,own,ad.2,ad.1,())=mpure (xY (mI (jt t l) t.2.1.length (f+1) own ad)):=by
 have Ia:=Vl (gd:=jt t l) (m:=t.2.1.length) (J:=l.length) f;unfold TD;simp only[cC,aza,amx];rw[e2 (List.range t.2.1.length) (λi b=>(some t,l,own,t.2.1,(t.2.1.length:Int),(i:Int),b.2,b.1,())) (λi b=>aJ.It (λr=>.aV (xY r)) (qG (jt t l) (mI (jt t l) t.2.1.length f) own i b)) (λb=>.aw (b.2,b.1,())) (λi b=>b.1=ad.1/\∀ q,ea ad.2 q<=ea b.2 q/\ea b.2 q<=1) ad ?_ ?_ ?_ ?_]
 ·show _=mpure (xY (fa (qG (jt t l) (mI (jt t l) t.2.1.length f) own) (λad=>(false,ad)) (List.range t.2.1.length) ad));rw[U0,U0,agL];cases BL (qG (jt t l) (mI (jt t l) t.2.1.length f) own) (List.range t.2.1.length) ad<;>(simp;try rfl)
 ·rfl
 ·exact⟨rfl,λq=>⟨aPP _,(aW.hl q).2⟩⟩
 ·intro i G b U;have G:i<t.2.1.length:=by grind
  have ot:=bs (n:=i+1);rw[aPJ];have aAf:b.1.length=t.2.1.length:=by rw[U.1];exact aW.len
  have bD:i<b.1.length:=by omega
  have aAg:0<=own/\own<l.length:=⟨ag4,ag5⟩
  have mU:=U.2 i;have qq:=aW.hl i;simp only[dQ G,dK G,dK bD,aAg,aO.sh,r2,iE,aPV,amx];have cf:wi t (t.2.1.getD i (0,0)) (l.getD own.toNat (0,0,0))=jt t l i own:=rfl;rw[cf];have aAh:(∃ dM,(some t)=some dM)=True:=by simp
  simp only[aAh,aRe,aRs,aQK,cp];by_cases ag_:ea b.2 i > 0
  ·have hu:qG (jt t l) (mI (jt t l) t.2.1.length f) own i b=.aw b:=by grind [qG]
   rw[hu];refine⟨?_,λbj ef=>by cases ef;omega⟩;simp  [ag_,ot,aQa];rfl
  ·by_cases aD:jt t l i own=true
   ·have bA:ea b.2 i=0:=by omega
    have Vc:=bs (n:=ea b.2 i+1);have mY:∀ q,ea b.2 q<=ea (gX b.2 i (ea b.2 i+1)) q/\ea (gX b.2 i (ea b.2 i+1)) q<=1:=λq=>by
     grind [EK]
    by_cases ay:b.1.getD i 0=-1
    ·have hu:qG (jt t l) (mI (jt t l) t.2.1.length f) own i b=.aV (true,(b.1.set i own,gX b.2 i (ea b.2 i+1))):=by
      grind [qG]
     rw[hu];refine⟨?_,λbj ef=>by cases ef⟩;simp only[ag_,aD,ay,aRj,aQj,aQm,aQu,Bool.or_self,aml,aPH,if_true,false_imp_iff,aRh,Bool.true_or,cp,aN,dm,Vc,true_imp_iff];rfl
    ·have aO3:=aW.ou i G;have aK:0<=b.1.getD i 0/\b.1.getD i 0<l.length:=by grind
     have zi:BX t.2.1.length l.length f (b.1,gX b.2 i (ea b.2 i+1)):=by
      refine⟨aAf,?_,λk=>⟨?_,(mY k).2⟩,?_⟩
      ·rw[U.1];exact aW.ou
      ·have:=(mY k).1;have:=U.2 k;have:=(aW.hl k).1;grind
      ·have E:=agJ (n:=t.2.1.length)     (v:=ea b.2 i+1) (by omega) (by omega) bA (by omega);have L:=agK (n:=t.2.1.length)     λk=>⟨(aW.hl k).1,(U.2 k).1⟩
       have an:=aW.cZ;grind
     obtain⟨DF,aAi⟩:=Ia (b.1.getD i 0) (b.1,gX b.2 i (ea b.2 i+1)) aK.1 aK.2 zi;have hQ:Vo f (some t,l,b.1.getD i 0,gX b.2 i (ea b.2 i+1),b.1,()):=⟨t,rfl,hm,ah,aK.1,aK.2,zi⟩
     have DE:xZ f (some t,l,b.1.getD i 0,gX b.2 i (ea b.2 i+1),b.1,())=mpure (xY (mI (jt t l) t.2.1.length f (b.1.getD i 0) (b.1,gX b.2 i (ea b.2 i+1)))):=bP hQ _;have eB:=DF.len;have aO4:=DF.hl;have aO5:=aAi.Vj;have aAj:qG (jt t l) (mI (jt t l) t.2.1.length f) own i b=if (mI (jt t l) t.2.1.length f (b.1.getD i 0) (b.1,gX b.2 i (ea b.2 i+1))).1=true then .aV (true,((mI (jt t l) t.2.1.length f (b.1.getD i 0) (b.1,gX b.2 i (ea b.2 i+1))).2.1.set i own,(mI (jt t l) t.2.1.length f (b.1.getD i 0) (b.1,gX b.2 i (ea b.2 i+1))).2.2)) else .aw (mI (jt t l) t.2.1.length f (b.1.getD i 0) (b.1,gX b.2 i (ea b.2 i+1))).2:=by
      grind [qG]
     rw[aAj];generalize mI (jt t l) t.2.1.length f (b.1.getD i 0) (b.1,gX b.2 i (ea b.2 i+1))=r at *
     obtain⟨ok,g',s'⟩:=r;cases ok with
     | true=>
      simp_all[xY,aJ.It]
     | false=>
      refine⟨?_,λbj ef=>?_⟩
      ·simp_all[xY,aJ.It]
      ·cases ef;grind
   ·have hu:qG (jt t l) (mI (jt t l) t.2.1.length f) own i b=.aw b:=by grind [qG]
    rw[hu];refine⟨?_,λbj ef=>by cases ef;omega⟩;simp  [aD,ot,aQa];rfl
 simp
theorem aAk(f:Nat)(x):a8 (TD EO.sh (xZ f) x) (xZ (f+1) x):=bx λh=>by
 obtain⟨o,l,own,hl,g,u⟩:=x;obtain⟨t,ay,hm,ah,aW,E,zi⟩:=h;subst ay;exact aAe   hm ah aW E zi
theorem aAl(x:Vn):¬(xZ 0 x).e3:=λ⟨_,_,_,_,_,_,h⟩=>absurd h.cZ (by omega)
def zj(t:fU)(l:List uT):Int:=(EN (jt t l) t.2.1.length l.length 201).2
abbrev NA:aO:=⟨.ar ze (.slice Nw),bK,λx=>∃ t,x.1=some t/\t.2.1.length<=200/\x.2.length<=1000,λx=>zj (x.1.getD BT) x.2⟩
theorem aAm(t:fU)(l:List uT)(hm:t.2.1.length<=200)(ah:l.length<=1000):Tz zc (xZ 201) (some t,l)=mpure (zj t l):=by
 unfold Tz cB bm bf aR bQ bY be;unfold zc;simp;rw[bc (by grind)];rw[e2 (List.range l.length) (λi b=>(some t,l,b.2,(l.length:Int),(i:Int),b.1,())) (λi b=>.aw (wh (jt t l) t.2.1.length 201 b i)) (λb=>.aw (b.2,())) (λi b=>IH (jt t l) t.2.1.length l.length i b/\0<=b.2/\b.2<=i) (List.replicate t.2.1.length (-1),0) ?_ ?_ ?_ ?_]
 ·rw[ec,aN];rfl
 ·rfl
 ·refine⟨?_,by simp⟩;have:=aAa (jt t l) t.2.1.length 0 201 (by omega);exact⟨this.len,this.ou,this.one,this.num,this.ag7⟩
 ·intro i G b U;have G:i<l.length:=by grind
  have ot:=bs (n:=i+1);obtain⟨g,n⟩:=b;obtain⟨U,yt,w5⟩:=U;have EJ:=bs (n:=n+1);have hQ:Vo 201 (some t,l,i,[],g,()):=by
   refine⟨t,rfl,hm,ah,Int.natCast_nonneg i,Int.ofNat_lt.2 G,U.len,λk ak=>?_,λk=>by simp[ea,xU],?_⟩
   ·rcases U.ou k ak with h | h<;>grind
   grind [xV,List.countP_le_length]
  have DE:xZ 201 (some t,l,i,[],g,())=mpure (xY (mI (jt t l) t.2.1.length 201 i (g,[]))):=bP hQ _;have aaQ:=ag8 (F:=201) (by omega) G U;refine⟨?_,λbj ef=>?_⟩
  ·simp  [DE,xY];grind [wh]
  grind [wh]
 simp
theorem aAn(x):a8 (Tz zc (xZ 201) x) (NA.sh x):=bx λh=>by
 grind [aAm]
theorem ag'(af:nP s):(Va s).length<=200:=by
 have E:∀ (l:List Nat),(∀ i∈l,i<s.2.1.length)->(l.flatMap λ(i:Nat)=>o3 (i,0) (s.2.1.getD i 0)).length<=10*l.length:=by
  intro l;induction l with
  | nil=>simp
  | cons i l aP=>
   intro ah;have L:=ah i (by simp);have an:=af.U_ _ (amk L);grind [o3]
 have L:∀ (l:List D1),(∀ d∈l,tz s.1 d=true)->(l.flatMap λd=>o3 (d.2.1,d.1) d.2.2).length<=10*l.length:=by
  intro l;induction l with
  | nil=>simp
  | cons d l aP=>
   intro ah;have an:=ah d (by simp);grind [tz,cJ,o3]
 have b:=L s.2.2.2.2.1 af.agP;have c:=af.agQ;have d:=af.U';have e:=af.Iz;grind [Va,IB,agT]
theorem Vp(af:nP s)(ai:pT s dk):(lY s dk).1.length<=24:=by
 unfold lY;split
 ·have:∀ (l:List Nat),(∀ i∈l,i<dk.length)->(l.flatMap λi=>(pS s dk i).getD []).length<=4*l.length:=by
   intro l;induction l with
   | nil=>simp
   | cons i l aP=>
    intro ah;have E:=aP λj aK=>ah j (by grind);rw[aQf,aP8,aQ'];have:((pS s dk i).getD []).length<=4:=by
     cases h:pS s dk i with
     | none=>simp
     | some y=>grind [agW]
    omega
  have:=ai.1;have:=af.wg;grind
 simp
def o4(s:bJ)(dk:z1'):Bool:=(lY s dk).2&&decide (zj (eo s) (lY s dk).1=0)
abbrev BZ:aO:=⟨.ar ze ha,dY,λx=>∃ s,zg x.1 s/\pT s x.2,λx=>o4 (qF x.1) x.2⟩
theorem aAo(x):a8 (ac5 Nx.sh NA.sh x) (BZ.sh x):=bx λh=>by
 obtain⟨o,dk⟩:=x;obtain⟨s,⟨ay,af⟩,ai⟩:=h;subst ay;unfold ac5 b7 cf;simp only[aO.sh,e4,mc];rw[bc (by exact⟨s,⟨rfl,af⟩,ai⟩),bc (by exact λ_=>⟨eo s,rfl,ag' af,aPL (Vp af ai) (by omega)⟩)];show mpure ((lY s dk).2&&decide ((if (lY s dk).2=true then zj (eo s) (lY s dk).1 else 0)=0))=mpure (o4 s dk);grind [o4]
def B0(s:bJ)(first:z1')(p:Nat):Bool:=!(first.contains (p:Int)||decide (we (pR s (first.length:Int)) (qE s (p:Int))=0))
def kX(s:bJ)(e:Int):Nat->z1'->List (z1')
 | 0,first=>[first]
 | n+1,first=>((List.range s.2.2.1.length).flatMap λp=>if B0 s first p=true then kX s e n (first++[(p:Int)]) else [])++(if e=0 then [] else kX s e n (first++[-1]))
abbrev aha:Type:=Nat×(List (z1')->Prop)×List (z1')×Bool
abbrev Vq:Type:=Option fU×z1'×Int×Nat×aha×Unit
abbrev ahb:Type:=Bool×aha×Unit
structure Vr(f:Nat)(x:Vq)(s:bJ)(n:Nat)(a b:List (z1')):Prop where
 aO6:zg x.1 s
 len:x.2.1.length+n=s.2.2.2.1.length
 cZ:n<f
 aO7:x.2.2.2.2.1.1=x.2.2.2.1
 fC:x.2.2.2.2.1.2.2.2=false
 seq:x.2.2.2.2.1.2.1=λT=>T=a++kX s x.2.2.1 n x.2.1++b
 pos:x.2.2.2.2.1.2.2.1=a
def aAp(x:Vq)(y:ahb):Prop:=y.2.1.1=x.2.2.2.1/\y.2.1.2.1=x.2.2.2.2.1.2.1/\(y.1=true->y.2.1.2.2.2=false/\y.2.1.2.2.1=x.2.2.2.2.1.2.2.1++kX (qF x.1) x.2.2.1 ((qF x.1).2.2.2.1.length - x.2.1.length) x.2.1)/\(y.1=false->y.2.1.2.2.2=true)
def uU(f:Nat)(x:Vq):M ahb:=⟨∃ s n a b,Vr f x s n a b,aAp x⟩
def ov(s:bJ)(e:Int)(n:Nat)(first:z1')(k:Nat):List (z1'):=(List.range k).flatMap λp=>if B0 s first p=true then kX s e n (first++[(p:Int)]) else []
theorem NB(s:bJ)(e:Int)(n:Nat)(first:z1')(k:Nat):ov s e n first (k+1)=ov s e n first k++(if B0 s first k=true then kX s e n (first++[(k:Int)]) else []):=by
 unfold ov;rw[aQ2,List.flatMap_append];simp
theorem aAq(s:bJ)(e:Int)(n:Nat)(first:z1'){k:Nat}(h:k<=m):∃ t,ov s e n first m=ov s e n first k++t:=by
 induction m with
 | zero=>simp_all
 | succ m aP=>
  by_cases ak:k=m+1
  ·simp_all
  ·obtain⟨t,aH⟩:=aP (by omega);rw[NB,aH,aQy];simp
theorem aAr(af:nP s){first:z1'}{e:Int}{l:Nat}{ab:List (z1')->Prop}{n:Nat}(hlen:first.length+n=s.2.2.2.1.length)(ay:n<f+1){a b:List (z1')}(kn:ab=λT=>T=a++kX s e n first++b) :
  c' (TE BO.sh (uU f) r_.sh (some (eo s),first,e,l,(l,ab,a,false),())) λy=>y.2.1.1=l/\y.2.1.2.1=ab/\(y.1=true->y.2.1.2.2.2=false/\y.2.1.2.2.1=a++kX s e n first)/\(y.1=false->y.2.1.2.2.2=true):=by
 have hr:(eo s).1=s:=rfl;have BU:=af.wg;have ahc:=af.IA;unfold TE b7 bw cB bD bm bf aR cS iM bY be bU dE m_ pE;simp only[aPS,amx,cp,cC,hr];cases n with
 | zero=>
  have ax:decide ((first.length:Int)=(s.2.2.2.1.length:Int))=true:=by grind
  have aD:∃ T,ab (a++first::T):=⟨b,by rw[kn];show _=_;simp[kX]⟩
  simp only[ax,if_true,aRs,aQK];rw[bc aD,fN];refine⟨⟨true,trivial⟩,λy _=>dO.2 ?_⟩;refine⟨rfl,rfl,λh=>?_,λh=>?_⟩
  ·change y=true at h;subst h;exact⟨rfl,rfl⟩
  grind
 | succ n=>
  have ax:decide ((first.length:Int)=(s.2.2.2.1.length:Int))=false:=by grind
  simp only[ax,aml,aPH,fN];obtain⟨z,bA⟩:∃ z,kX s e (n+1) first=ov s e n first s.2.2.1.length++z:=⟨_,rfl⟩
  refine ay_ s.2.2.1.length (λk q=>q=(some (eo s),first,e,l,(first.length:Int),s.2.2.1,(s.2.2.1.length:Int),(k:Int),(l,ab,a++ov s e n first k,false),())) ?_ ?_ ?_
  ·show _=_;simp[ov]
  ·rintro k ak q rfl;have nN:=bs (n:=(k:Int)+1);have gU:first.length<2 ^ 63:=by omega
   have BV:first.length<s.2.2.2.1.length:=by omega
   have Ny:=Vf BV;have IE:List.getD s.2.2.2.1 first.length ([],(0,0),0,0,0)=pR s (first.length:Int):=rfl
   have Vg:s.2.2.1[k]=qE s (k:Int):=by simp[qE,amq,ak]
   have mb:BO.pre (pR s (first.length:Int),qE s (k:Int)):=af.iT.2.2.2.2.2.2 _ Ny;have aAs:(first.length<2 ^ 63)=True:=by grind
   simp only[dQ ak,if_true,dK ak,ed ak,cp,aO.sh,r2,iE,aAs,hr,aPV,dK BV,IE,Vg,aRe,aRs,aQK,imp_self,aQa];have aAt:((pR s (first.length:Int)).1.length<2 ^ 63)=True:=by grind
   have aAu:List.getD s.2.2.1 k (0,0,0,0,[])=qE s (k:Int):=rfl;have eM:first.contains (k:Int)=false->(!first.contains (k:Int))=true:=λh=>by grind
   have iW:((0:Int)<=0/\0<=(first.length:Int)/\(first.length:Int)<=(first.length:Int))=True:=by simp
   have mx:List.take first.length first=first:=aQc
   have oZ:(0<Add.add 0 1/\cb (Add.add first.length (Add.add 0 1))):=⟨by decide,by show cb (first.length+1);unfold cb;omega⟩
   have kQ:(first.contains (k:Int)||decide (we (pR s (first.length:Int)) (qE s (k:Int))=0))=!B0 s first k:=by unfold B0;simp
   have ps:first.contains (k:Int)=first.contains (k:Int):=rfl
   simp only[aPS,amx,hr,dK BV,IE,aAu,aAt,aRe,aRs,aQK,imp_self,aQa,cp,bc eM,kQ,iW,mx];rw[bc (by omega)];obtain⟨t,aH⟩:=aAq s e n first (show k+1<=s.2.2.1.length by omega)
   cases aC:B0 s first k with
   | false=>
    simp only[aQu,if_true,aN,cY,dO,dm,nN];show _=_;rw[NB,aC];simp
   | true=>
    rw[NB,aC,if_pos rfl]at aH;simp only[aQm,aml,aPH,fN];have yv:Vr f (some (eo s),first++[(k:Int)],e,l,(l,ab,a++ov s e n first k,false),()) s n (a++ov s e n first k) (t++z++b):=by
     refine⟨⟨rfl,af⟩,by grind,by omega,rfl,rfl,?_,rfl⟩;grind
    refine⟨⟨s,n,_,_,yv⟩,λy ba=>?_⟩;obtain⟨nx,⟨ahd,ahe,Vs,bq⟩,aAv⟩:=y;obtain⟨cU,cO,hO,lE⟩:=ba;change ahd=l at cU;change ahe=ab at cO;subst cU;subst cO;cases nx with
    | false=>
     have a6:bq=true:=lE rfl;subst a6;simp only[aQu,if_true,aN,dO,uG];simp
    | true=>
     obtain⟨bS,ek⟩:=hO rfl;change bq=false at bS;change Vs=(a++ov s e n first k)++kX s e (s.2.2.2.1.length - (first++[(k:Int)]).length) (first++[(k:Int)]) at ek;have yE:s.2.2.2.1.length - (first++[(k:Int)]).length=n:=by grind
     rw[yE]at ek;subst bS;subst ek;simp only[aQm,aml,aPH,aN,dO,cY,dm,nN];show _=_;rw[NB,aC,if_pos rfl];simp
  ·rintro q rfl;have mx:List.take first.length first=first:=aQc
   have iW:((0:Int)<=0/\0<=(first.length:Int)/\(first.length:Int)=(first.length:Int)/\(first.length:Int)<=(first.length:Int))=True:=by simp
   have oZ:(0<Add.add 0 1/\cb (Add.add first.length (Add.add 0 1))):=⟨by decide,by show cb (first.length+1);unfold cb;omega⟩
   simp only[Int.lt_irrefl,aQj,aml,aPH,aN,dO,cY,iW,mx,aPV,aRe];by_cases he:e=0
   ·have CY:kX s e (n+1) first=ov s e n first s.2.2.1.length:=by
     show ov s e n first s.2.2.1.length++(if e=0 then [] else kX s e n (first++[-1]))=_
     grind
    simp only[he,aRj,aQm,aml,aPH,false_imp_iff,cp,Bool.true_or,dO,aRh,aQK,aQa];grind
   ·have CY:kX s e (n+1) first=ov s e n first s.2.2.1.length++kX s e n (first++[-1]):=by
     show ov s e n first s.2.2.1.length++(if e=0 then [] else kX s e n (first++[-1]))=_
     grind
    simp only[he,aQj,aQu,if_true,true_imp_iff,cp,aQA,aQK,aQa];rw[bc (by simp),bc (by omega)];have yv:Vr f (some (eo s),first++[-1],e,l,(l,ab,a++ov s e n first s.2.2.1.length,false),()) s n (a++ov s e n first s.2.2.1.length) b:=by
     refine⟨⟨rfl,af⟩,by grind,by omega,rfl,rfl,?_,rfl⟩;grind
    rw[fN];refine⟨⟨s,n,_,_,yv⟩,λy ba=>dO.2 ?_⟩;obtain⟨nx,⟨ahd,ahe,Vs,bq⟩,aAv⟩:=y;obtain⟨cU,cO,hO,lE⟩:=ba;refine⟨cU,cO,λh=>?_,lE⟩;obtain⟨bS,ek⟩:=hO h;change Vs=(a++ov s e n first s.2.2.1.length)++kX s e (s.2.2.2.1.length - (first++[(-1:Int)]).length) (first++[-1]) at ek;grind
theorem aAw(f:Nat)(x):a8 (TE BO.sh (uU f) r_.sh x) (uU (f+1) x):=λh=>by
 obtain⟨o,first,e,l,⟨et,ab,p,ad⟩,u⟩:=x;obtain⟨s,n,a,b,ai⟩:=h;obtain⟨⟨ay,af⟩,E,L,an,a6,bS,ek⟩:=ai;change o=_ at ay;change et=l at an;change ad=false at a6;change p=a at ek;change ab=_ at bS;change first.length+n=_ at E
 change _ at bS;subst ay;subst an;subst a6;subst ek;have yE:(qF (some (eo s))).2.2.2.1.length - first.length=n:=by show s.2.2.2.1.length - first.length=n;omega
 refine c'.mono (aAr af E L bS) λy ba=>⟨ba.1,ba.2.1,λh=>?_,ba.2.2.2⟩
 obtain⟨aM,aT⟩:=ba.2.2.1 h;refine⟨aM,?_⟩;rw[aT];show _=p++kX (qF (some (eo s))) e ((qF (some (eo s))).2.2.2.1.length - first.length) first
 rw[yE];rfl
theorem aAx(x):¬(uU 0 x).e3:=λ⟨s,n,a,b,h⟩=>by have:=h.cZ;omega
def nl(e:Int)(s:bJ):List (z1'):=kX s e s.2.2.2.1.length []
def B1(o:Option fU):Prop:=∃ s,zg o s
def NC(o:Option fU):List (z1'):=nl 1 (qF o)
def Vt(o:Option fU):List (z1'):=nl 0 (qF o)
theorem aAy(s:bJ)(af:nP s)(l:Nat):c' (Mt (uU 10) (some (eo s),l,(l,(λT=>T=nl 1 s),[],false),())) λy=>y.1.1=l/\y.1.2.1=(λT=>T=nl 1 s)/\(y.1.2.2.2=false->y.1.2.2.1=nl 1 s):=by
 unfold Mt;rw[fN];have BU:=af.wg;refine⟨⟨s,s.2.2.2.1.length,[],[],⟨rfl,af⟩,by simp,by omega,rfl,rfl,by show (λT=>T=nl 1 s)=_;simp[nl],rfl⟩,λy ba=>dO.2 ?_⟩;obtain⟨cU,cO,hO,lE⟩:=ba;refine⟨cU,cO,λh=>?_⟩;cases E:y.1 with
 | false=>grind
 | true=>
  obtain⟨_,an⟩:=hO E;show y.2.1.2.2.1=_;rw[an];rfl
theorem aAz(s:bJ)(af:nP s)(l:Nat):c' (Mu (uU 10) (some (eo s),l,(l,(λT=>T=nl 0 s),[],false),())) λy=>y.1.1=l/\y.1.2.1=(λT=>T=nl 0 s)/\(y.1.2.2.2=false->y.1.2.2.1=nl 0 s):=by
 unfold Mu;rw[fN];have BU:=af.wg;refine⟨⟨s,s.2.2.2.1.length,[],[],⟨rfl,af⟩,by simp,by omega,rfl,rfl,by show (λT=>T=nl 0 s)=_;simp[nl],rfl⟩,λy ba=>dO.2 ?_⟩;obtain⟨cU,cO,hO,lE⟩:=ba;refine⟨cU,cO,λh=>?_⟩;cases E:y.1 with
 | false=>grind
 | true=>
  obtain⟨_,an⟩:=hO E;show y.2.1.2.2.1=_;rw[an];rfl
theorem Vu{A ag:Type}{body:A->ag->M (dS×A)}(g:A->ag->A)(I:A->Prop):∀ (l:List ag) (s:A),I s->(∀ x∈l,∀ s,I s->body s x=mpure (dS.normal,g s x)/\I (g s x))->kl body l s=mpure (dS.normal,l.foldl g s)
 | [],s,_,_=>rfl
 | x::l,s,fk,h=>by
  obtain⟨E,L⟩:=h x (by simp) s fk;unfold kl;rw[E,aN];exact Vu g I l (g s x) L λy ba=>h y (amr _ ba)
theorem Vv{s:bJ}{e:Int}:∀ {n:Nat} {first y:z1'},y∈kX s e n first->y.length=first.length+n/\∀ p∈y,p∈first\/p=-1\/(0<=p/\p<(s.2.2.1.length:Int))
 | 0,first,y,h=>by
  simp  [kX]at h;grind
 | n+1,first,y,h=>by
  simp only[kX,List.mem_append,aRr]at h;rcases h with⟨p,ai,h⟩ | h
  ·split at h
   ·obtain⟨E,L⟩:=Vv h;grind
   grind
  ·split at h
   ·grind
   ·obtain⟨E,L⟩:=Vv h;grind
theorem ND{e:Int}{y:z1'}(h:y∈nl e s):y.length=s.2.2.2.1.length/\pT s y:=by
 obtain⟨E,L⟩:=Vv h;have E:y.length=s.2.2.2.1.length:=by grind
 refine⟨E,by omega,λp ai=>?_⟩;grind
theorem aAA(s:bJ):pT s (List.replicate s.2.2.2.1.length (-1)):=⟨by simp,λp ai=>by grind⟩
def sj(s:bJ)(b y:z1'):z1':=if (decide (xX s y > xX s b)&&o4 s y)=true then y else b
def wj(s:bJ):z1':=(nl 1 s).foldl (sj s) (List.replicate s.2.2.2.1.length (-1))
theorem ahf{s:bJ}:∀ (l:List (z1')) (b:z1'),(∀ y∈l,y.length=s.2.2.2.1.length/\pT s y)->(b.length=s.2.2.2.1.length/\pT s b)->((l.foldl (sj s) b).length=s.2.2.2.1.length/\pT s (l.foldl (sj s) b))
 | [],b,_,U=>U
 | y::l,b,ah,U=>by
  refine ahf l _ (λz bA=>ah z (amr _ bA)) ?_;unfold sj;grind
theorem Vw(s:bJ):(wj s).length=s.2.2.2.1.length/\pT s (wj s):=ahf _ _ (λ_ h=>ND h) ⟨by simp,aAA s⟩
abbrev NF:aO:=⟨ze,ha,λo=>∃ s,zg o s,λo=>wj (qF o)⟩
theorem aAB(s:bJ)(af:nP s):TA Np.sh BZ.sh zh.sh B1 NC (some (eo s))=mpure (wj s):=by
 unfold TA aR dE m_ vJ;have BU:=af.wg;have hr:(eo s).1=s:=rfl;have hQ:B1 (some (eo s)):=⟨s,rfl,af⟩
 have Vx:NC (some (eo s))=nl 1 s:=rfl;simp only[aPS,amx,cp,cC,hr,aO.sh,e4,Vx];rw[bc (by grind),bc hQ];simp only[aPV];rw[Vu (λb y=>(some (eo s),sj s b.2.1 y,())) (λb=>b.1=some (eo s)/\b.2.1.length=s.2.2.2.1.length) (nl 1 s) (some (eo s),List.replicate s.2.2.2.1.length (-1),()) ⟨rfl,by simp⟩ ?_]
 ·have ay:∀ (l:List (z1')) (b:z1'),l.foldl (λb y=>(some (eo s),sj s b.2.1 y,())) (some (eo s),b,())=(some (eo s),l.foldl (sj s) b,()):=by
   intro l;induction l<;>grind
  rw[ay,aN];rfl
 ·intro y ba b U;obtain⟨cT,fc,aAC⟩:=b;obtain⟨oa,w6⟩:=U;subst oa;obtain⟨A8,xo⟩:=ND ba;have fs:zh.pre (some (eo s),y):=⟨s,⟨rfl,af⟩,by grind⟩
  have fQ:zh.pre (some (eo s),fc):=⟨s,⟨rfl,af⟩,by grind⟩
  have mu:BZ.pre (some (eo s),y):=⟨s,⟨rfl,af⟩,xo⟩
  refine⟨?_,rfl,?_⟩
  ·simp only[r2,iE,bc fs,bc fQ,aRe,aQK,sj];have cU:∀ c,(c->c/\(∃ pU,zg (some (eo s)) pU/\pT pU y)):=λc h=>⟨h,mu⟩
   rw[bc (cU _)];have aE:qF (some (eo s))=s:=rfl;simp only[aE];cases hc:(decide (xX s y > xX s fc)&&o4 s y)<;>simp
  ·unfold sj;grind
theorem aAD(x):a8 (TA Np.sh BZ.sh zh.sh B1 NC x) (NF.sh x):=bx λh=>by
 obtain⟨s,ay,af⟩:=h;subst ay;exact aAB s af
theorem IJ{ca:Bool}(h:jL s ca=0):BR s ca=(some (eo s),0):=by simp[BR,h]
theorem IK{ca:Bool}(h:jL s ca≠0):BR s ca=(none,jL s ca):=by simp[BR,h]
def tA(s:bJ):z18':=if jL s true≠0 then ([],jL s true) else (wj s,0)
abbrev IL:aO:=⟨nO,.ar ha bK,gI,tA⟩
theorem aAE(x):a8 (ac1 BS.sh NF.sh x) (IL.sh x):=bx λh=>by
 unfold ac1 bm;show _=mpure (tA x);unfold tA;simp only[aO.sh,e4];rw[bc (by omega)];by_cases ak:jL x true=0
 ·have af:=BQ h (BP ak).1;simp only[IJ ak,ak,aPH];rw[bc (by exact⟨x,rfl,af⟩)];rfl
 ·simp[IK ak,ak]
def rB(s:bJ)(ca:Bool):z12':=if jL s ca≠0 then (0,jL s ca) else (xX s (wj s),0)
abbrev Vy:aO:=⟨.ar nO dY,.ar bK bK,λx=>gI x.1,λx=>rB x.1 x.2⟩
theorem aAF(x):a8 (ac3 BS.sh NF.sh zh.sh x) (Vy.sh x):=bx λh=>by
 unfold ac3 bm;show _=mpure (rB x.1 x.2);unfold rB;simp only[aO.sh,e4];rw[bc (by omega)];by_cases ak:jL x.1 x.2=0
 ·have af:=BQ h (BP ak).1;simp only[IJ ak,ak,aPH];rw[bc (by exact⟨x.1,rfl,af⟩),bc (by exact⟨x.1,⟨rfl,af⟩,aRc (Vw x.1).1⟩)];rfl
 ·simp[IK ak,ak]
abbrev EP:aO:=⟨nO,.ar bK bK,gI,λs=>rB s true⟩
theorem aAG(x):a8 (acW Vy.sh x) (EP.sh x):=bx λh=>by
 unfold acW;simp  [aO.sh];simp_all
def zk(s:bJ)(n:Int)(y:z1'):Int:=if (!(lY s y).2||!II (eo s) (lY s y).1)=true then n else if (decide (n=-1)||decide (zj (eo s) (lY s y).1<n))=true then zj (eo s) (lY s y).1 else n
def IM(s:bJ):Int:=(nl 0 s).foldl (zk s) (-1)
def kY(s:bJ):z12':=if jL s true≠0 then (0,jL s true) else if IM s=-1 then (0,3) else (IM s,0)
abbrev B2:aO:=⟨nO,.ar bK bK,gI,kY⟩
theorem aAH(x):a8 (acX BS.sh B1 Vt Nx.sh Vm.sh NA.sh x) (B2.sh x):=bx λh=>by
 unfold acX fT cf bD bm;show _=mpure (kY x);unfold kY;simp only[aO.sh,e4];rw[bc (by omega)];by_cases ak:jL x true=0
 ·have af:=BQ h (BP ak).1;have hQ:B1 (some (eo x)):=⟨x,rfl,af⟩
  have Vx:Vt (some (eo x))=nl 0 x:=rfl;simp only[IJ ak,Vx];rw[bc hQ];rw[Vu (λb y=>(some (eo x),zk x b.2.1 y,())) (λb=>b.1=some (eo x)) (nl 0 x) (some (eo x),-1,()) rfl ?_]
  ·have ay:∀ (l:List (z1')) (b:Int),l.foldl (λb y=>(some (eo x),zk x b.2.1 y,())) (some (eo x),b,())=(some (eo x),l.foldl (zk x) b,()):=by
    intro l;induction l<;>grind
   rw[ay,aN];show (if decide (IM x=-1)=true then mpure ((0),(3)) else mpure (IM x,0))=_;grind
  ·intro y ba b U;obtain⟨cT,fc,aAC⟩:=b;subst U;obtain⟨A8,xo⟩:=ND ba;have Hg:=Vp af xo;have fs:∃ pU,zg (some (eo x)) pU/\pT pU y:=⟨x,⟨rfl,af⟩,xo⟩
   have fD:=h.2.1;have fQ:∃ t,some (eo x)=some t/\t.1.2.1.length<2 ^ 63/\(lY x y).1.length<2 ^ 63:=⟨_,rfl,fD,by omega⟩
   have mu:∃ t,some (eo x)=some t/\t.2.1.length<=200/\(lY x y).1.length<=1000:=⟨_,rfl,ag' af,by omega⟩
   have aE:qF (some (eo x))=x:=rfl;have bz:Option.getD (some (eo x)) BT=eo x:=rfl;simp only[aE,bz];rw[bc fs];simp only[fQ,aQa,cp];rw[bc (by omega)];unfold zk;cases E:(lY x y).2
   ·simp
   ·cases L:II (eo x) (lY x y).1
    ·simp
    ·cases an:(decide (fc=-1)||decide (zj (eo x) (lY x y).1<fc))<;>simp
 ·simp[IK ak,ak]
def sk(s:bJ)(w p:Int):z1':=(List.replicate s.2.2.2.1.length (-1)).set w.toNat p
def ahg(s:bJ)(w:Int):z1':=((List.range s.2.2.1.length).filter λ(p:Nat)=>o4 s (sk s w (p:Int))).map λ(p:Nat)=>(p:Int)
def x0(s:bJ)(w:Int):z18':=if jL s (BN s w)≠0 then ([],jL s (BN s w)) else (ahg s w,0)
abbrev NG:aO:=⟨.ar nO bK,.ar ha bK,λx=>gI x.1,λx=>x0 x.1 x.2⟩
theorem ahh{ag bet:Type}{p:ag->Bool}{g:ag->bet}:∀ (l:List ag) (b:List bet),l.foldl (λb x=>if p x=true then b++[g x] else b) b=b++(l.filter p).map g
 | [],b=>by simp
 | x::l,b=>by
  simp;rw[ahh l];grind
theorem aAI{w:Int}{p:Nat}(ai:p<s.2.2.1.length):pT s (sk s w (p:Int)):=by
 refine⟨by simp[sk],λq bB=>?_⟩;unfold sk at bB;grind
theorem aAJ(x):a8 (acY BS.sh U8.sh zc BZ.sh x) (NG.sh x):=bx λh=>by
 obtain⟨s,w⟩:=x;change gI s at h;unfold acY cB bD bm bf aR bQ bY be eB bU dE m_;show _=mpure (x0 s w);unfold x0;simp only[aO.sh,r2,iE];rw[bc (by omega),bc (by omega)];by_cases ak:jL s (BN s w)=0
 ·have af:=BQ h (BP ak).1;have hw:=azI.1 (BP ak).2.1;have BU:=af.wg;have ahc:=af.IA;simp only[IJ ak,ak,aPH];unfold zc;simp only[e4,cC];rw[bc (by grind)];rw[e2 (List.range s.2.2.1.length) (λi b=>(w,some (eo s),(s.2.2.1.length:Int),(i:Int),b.1,b.2,())) (λp b=>.aw (if o4 s (sk s w p)=true then b.1++[(p:Int)] else b.1,sk s w p)) (λb=>.aw (b.1,())) (λi b=>b.1.length<=i/\∀ p,b.2.set w.toNat p=sk s w p) ([],List.replicate s.2.2.2.1.length (-1)) ?_ ?_ ?_ ?_]
  ·rw[ec];have ay:∀ (l:List Nat) (b:z1'×z1'),(l.foldl (λb (p:Nat)=>(if o4 s (sk s w p)=true then b.1++[(p:Int)] else b.1,sk s w p)) b).1=l.foldl (λb (p:Nat)=>if o4 s (sk s w p)=true then b++[(p:Int)] else b) b.1:=by
    intro l;induction l<;>grind
   rw[ay,ahh,aN];rfl
  ·rfl
  ·exact⟨amn _,λp=>rfl⟩
  ·intro i G b U;have G:i<s.2.2.1.length:=by grind
   have ot:=bs (n:=i+1);obtain⟨cT,fc⟩:=b;obtain⟨oa,w6⟩:=U;change cT.length<=i at oa;have oZ:cb (cT.length+(0+1)):=by unfold cb;omega
   have hlen:=by
    have:=congrArg List.length (w6 0);simpa [sk]using this
   have yJ:0<=w/\w<fc.length:=by omega
   refine⟨?_,λbj ef=>?_⟩
   ·simp only[dQ G,yJ,aQK,cp,w6];rw[bc (by exact⟨s,⟨rfl,af⟩,aAI G⟩)];have aE:qF (some (eo s))=s:=rfl;simp  [aE,bc oZ];cases o4 s (sk s w i)<;>simp[ot]
   ·cases ef;refine⟨?_,λp=>?_⟩
    ·grind
    ·unfold sk;simp
  simp
 ·simp[IK ak,ak]
def zl(s:bJ)(dk:z1'):z12':=if jL s (uS s dk)≠0 then (0,jL s (uS s dk)) else if (!o4 s dk)=true then (0,3) else (xX s dk,0)
abbrev NH:aO:=⟨.ar nO ha,.ar bK bK,λx=>gI x.1/\x.2.length<2 ^ 63,λx=>zl x.1 x.2⟩
theorem aAK(h:uS s dk=true):dk.length=s.2.2.2.1.length/\pT s dk:=by
 unfold uS at h;simp  at h;obtain⟨E,L⟩:=h;refine⟨by omega,by omega,λp ai=>?_⟩;obtain⟨i,G,rfl⟩:=List.mem_iff_getElem.1 ai;have:=E i G;have j7:dk.getD i 0=dk[i]:=by grind
 unfold nk at this;simp only[aPU,amp,amm,U7]at this;omega
theorem aAL(x):a8 (ac2 BS.sh BZ.sh Ns.sh zh.sh x) (NH.sh x):=bx λh=>by
 obtain⟨s,dk⟩:=x;obtain⟨az,ah⟩:=h;unfold ac2 bm dE m_;show _=mpure (zl s dk);unfold zl;simp only[aO.sh,r2,iE];have ai:Ns.pre (s,dk):=⟨az,ah⟩
 rw[bc (by omega),bc (by omega)];by_cases ak:jL s (uS s dk)=0
 ·have af:=BQ az (BP ak).1;obtain⟨C9,xd⟩:=aAK (BP ak).2.1;simp only[IJ ak,ak,ne_eq,not_true,aQj,e4];rw[bc (by exact⟨s,⟨rfl,af⟩,xd⟩)];have aE:qF (some (eo s))=s:=rfl;simp only[aE];cases ay:o4 s dk with
  | false=>simp
  | true=>
   simp only[aQm,aml,aPH];rw[bc (by exact⟨s,⟨rfl,af⟩,aRc C9⟩)]
 ·simp[IK ak,ak]
def IN(s:bJ):Prop:=azb s.1/\s.2.1.length<=2000000/\s.2.2.1.length<=2000000/\s.2.2.2.1.length<=2000000/\s.2.2.2.2.1.length<=2000000/\(∀ p∈s.2.2.1,p.2.2.2.2.length<=2000000)/\∀ x∈s.2.2.2.1,x.1.length<=2000000
theorem aAM(af:nP s):IN s:=by
 have ayY:=Il af.qA.2;refine⟨⟨by omega,by omega,by omega,λm hm=>?_⟩,by have:=af.Iz;omega,by have:=af.IA;omega,by have:=af.wg;omega,by have:=af.U';omega,λp ai=>by have:=(Ve af ai).2.1;omega,λx al=>?_⟩
 ·have mU:=(EC af.qA.2).2.2.1 m hm;simp only[tu,amm,aPO,aPX,aPZ]at mU;refine⟨by omega,λs' vg=>?_⟩;have:=mU.2 s' vg;simp only[sd,amm,amp]at this;omega
 ·have:=af.agO x al;simp only[uQ,cJ,amm,amp]at this;omega
def ahi(s:bJ):Int:=(s.2.2.1.map λp=>(p.2.2.2.2.length:Int)).foldl (·+·) 0
def uV(s:bJ):Bool:=
 if (nf s.1||decide ((s.2.1.length:Int) > 40)||decide ((s.2.2.1.length:Int) > 40)||decide ((s.2.2.2.1.length:Int) > 40)||decide ((s.2.2.2.2.1.length:Int) > 40))=true then true
 else if (s.2.2.1.any λp=>decide ((p.2.2.2.2.length:Int) > 40))=true then true
 else if (s.2.2.2.1.any λx=>decide ((x.1.length:Int) > 40))=true then true
 else if lz s≠0 then false
 else decide ((s.2.2.2.1.length:Int) > 3)||decide ((s.2.2.1.length:Int) > 4)||decide ((s.2.2.2.2.1.length:Int) > 3)||decide (ahi s > 4)
abbrev NI:aO:=⟨nO,dY,gI,uV⟩
theorem aAN(x):a8 (agi si.sh y4.sh x) (NI.sh x):=bx λh=>by
 change gI x at h;unfold agi eZ dp fw bw bm bf aR bQ cS bY be h' iX;show _=mpure (uV x);unfold uV;simp only[aO.sh,e4,cC];rw[bc (by exact h.1)];obtain⟨dt,ei,j2,g4,q2,xn,g7⟩:=id h;by_cases E:(nf x.1||decide ((x.2.1.length:Int) > 40)||decide ((x.2.2.1.length:Int) > 40)||decide ((x.2.2.2.1.length:Int) > 40)||decide ((x.2.2.2.2.1.length:Int) > 40))=true
 ·grind
 ·rw[if_neg E,if_neg E];simp only[aPU,amp,not_or]at E;rw[eH x.2.2.1 (λi (_:Unit)=>((i:Int),x,())) (λp u=>if decide ((p.2.2.2.2.length:Int) > 40)=true then .aV (.aV true) else .aw u) (λ_=>.aw (x,())) () ?_ ?_ ?_]
  ·rw[uH (p:=λp:oV=>decide ((p.2.2.2.2.length:Int) > 40))];by_cases L:(x.2.2.1.any λp=>decide ((p.2.2.2.2.length:Int) > 40))=true
   ·simp only[L,if_true,aN,uG]
   ·simp only[L,aml,aPH,aN,cY];rw[eH x.2.2.2.1 (λi (_:Unit)=>((i:Int),x,())) (λp u=>if decide ((p.1.length:Int) > 40)=true then .aV (.aV true) else .aw u) (λ_=>.aw (x,())) () ?_ ?_ ?_]
    ·rw[uH (p:=λp:me=>decide ((p.1.length:Int) > 40))];by_cases an:(x.2.2.2.1.any λx=>decide ((x.1.length:Int) > 40))=true
     ·simp only[an,if_true,aN,uG]
     ·simp only[an,aml,aPH,aN,cY];rw[bc (by exact h)];by_cases he:lz x=0
      ·simp only[he,ne_eq,not_true,aQj,aml,aPH];have U:∀ p∈x.2.2.1,p.2.2.2.2.length<=40:=λp ai=>by
        grind
       rw[e2 x.2.2.1 (λi (n:Int)=>(n,(i:Int),x,())) (λp n=>.aw (n+(p.2.2.2.2.length:Int))) (λn=>.aw (n,x,())) (λi n=>0<=n/\n<=40*i) 0 ?_ ?_ ?_ ?_]
       ·rw[ec,aN,cY];unfold ahi;rw[List.foldl_map]
       ·rfl
       ·simp
       ·intro i G n aC;have ot:=bs (n:=(i:Int)+1);have aO8:=U _ (amk G);have EJ:=bs (n:=n+(x.2.2.1[i].2.2.2.2.length:Int));refine⟨?_,λbj ef=>?_⟩
        ·simp only[dQ G,if_true,dK G,cp,ed G,dm,ot,EJ];rfl
        grind
       simp
      grind
    ·rfl
    ·intro i G u;have ot:=bs (n:=(i:Int)+1);simp only[dQ G,if_true,dK G,cp,ed G,aN,dm,ot];exact pG (mk:=λ_:Unit=>((i:Int)+1,x,()))
    simp
  ·rfl
  ·intro i G u;have ot:=bs (n:=(i:Int)+1);simp only[dQ G,if_true,dK G,cp,ed G,aN,dm,ot];exact pG (mk:=λ_:Unit=>((i:Int)+1,x,()))
  simp
def ER:bJ:=(Ni,[1,0,0,0],[(1,60,0,0,[0]),(1,60,7,0,[]),(2,65,0,1,[0]),(2,60,0,0,[0,1])],[([1],(55,65),7,3,500),([1,2],(60,60),0,5,400),([2],(60,70),9,8,700),([2],(65,65),0,5,300)],[(4,2,1),(6,3,1)],2)
abbrev NJ:aO:=⟨.dc,nO,λ_=>True,λ_=>ER⟩
theorem aAO(x):a8 (agj U1.sh x) (NJ.sh x):=bx λ_=>by
 unfold agj;simp only[aO.sh,e4,cp];rfl
theorem aAP:gI ER:=by
 refine⟨azf,by decide,by decide,by decide,by decide,?_,?_⟩
 ·intro p ai;simp only[ER,aQO,aQY,or_false]at ai;grind
 ·intro x al;simp only[ER,aQO,aQY,or_false]at al;grind
end Go.Fer
namespace Go.Fer.H
variable (axP:bg->M Bool) (axQ:Unit->M Bool) (afq:bg->M bg) (UJ:bg->M Bool) (axS:bg×bg->M Bool) (UK aO9:bg×List bI×z1'->M (bg×Int)) (aO_:bg×bg×Int×Int×Int×Int×Int->M Bool) (Br:bg->M Int) (TK:List bI->M (List bI×Bool)) (aAQ:List (List bI)->M (List bI)) (aAR:z26'->M (z14')) (TL:z14'->M (z14')) (aAS:z14'->M ((z21')×z14')) (ahj:z4'->M (z4')) (HS:bg->M Int) (auL:List bI->M (List bI)) (auP:z18'->M Bool) (adn:bI×Int×Int×Int×Int×Int×Int->M Bool) (UG:bg×Int×Int->M (z18')) (axR:z1'×z1'->M Bool) (UH UI:bg×Int->M (z22')) (aAT:z25'->M (List bI×Unit)) (aAU:z25'->M (z14'))
def ahk(x:bg×List bI×z1'):M (bg×Int):=
 letI c:=ahj x.1.1;letI b:=ahj x.1.2.2.2.1;aq (Br x.1) λy=>bm (y≠0) (mpure (([],[],[],[],0,0,0,0,0,0,0),y)) (aq (Br (x.1.1,x.2.1,x.2.2,x.1.2.2.2)) (λy=>bm (y≠0) (mpure (([],[],[],[],0,0,0,0,0,0,0),y)) (aq (aAQ [x.1.2.1,x.2.1]) (λy=>aq (TK y) λy=>bD (!y.2) (mpure (([],[],[],[],0,0,0,0,0,0,0),91)) (aq (aAR ([x.1.2.2.1,x.2.2],())) (λcn=>aq (TL (cn.1,())) λdZ=>aq (aAS (dZ.1,())) λie=>bD (dp (aR y.1) 12||dp (Int.ofNat (ie.1.2-ie.1.1)) 12) (mpure (([],[],[],[],0,0,0,0,0,0,0),90)) (dE c (dE b (mpure ((M.val c [],y.1,List.drop ie.1.1 (ie.2.1.take ie.1.2),M.val b [],x.1.2.2.2.2),0))))))))))
def ahl(x:List (List bI)):M (List bI):=
 bQ (λA=>letI g:=A.2.2;letI i:=g.2.2.1;letI f:=eZ A.2.1 (aR (bw g.1 i []));bm (i<g.2.1) (cB (bU i g.1 (bm (f<0) (ae False (ae False (be (A.1,f,g.1,g.2.1,i,())))) (be (A.1,f,g.1,g.2.1,i,())))) (λA=>be (A.1,A.2.1,A.2.2.1,A.2.2.2.1,bf A.2.2.2.2.1,()))) (bY (A.1,A.2.1,()))) (x,0,x,aR x,0,()) λA=>aq (aAT (A.2.1,())) λy=>bQ (λA=>letI h:=A.2.2;bm (h.1<A.2.1) (bU h.1 A.1 (ae (cb (Add.add h.2.1.length (bw A.1 h.1 []).length)) (be (A.1,A.2.1,bf h.1,h.2.1++bw A.1 h.1 [],())))) (bY (h.2.1,()))) (A.1,aR A.1,0,y.1,()) λA=>mpure A.1
def ahm(x:z26'):M (z14'):=
 bQ (λA=>letI g:=A.2.2;letI i:=g.2.2.1;letI f:=eZ A.2.1 (aR (bw g.1 i []));bm (i<g.2.1) (cB (bU i g.1 (bm (f<0) (ae False (ae False (be (A.1,f,g.1,g.2.1,i,())))) (be (A.1,f,g.1,g.2.1,i,())))) (λA=>be (A.1,A.2.1,A.2.2.1,A.2.2.2.1,bf A.2.2.2.2.1,()))) (bY (A.1,A.2.1,()))) (x.1,0,x.1,aR x.1,0,()) λA=>aq (aAU (A.2.1,())) λy=>bQ (λA=>letI h:=A.2.2;bm (h.1<A.2.1) (bU h.1 A.1 (ae (cb (Add.add h.2.1.length (bw A.1 h.1 []).length)) (be (A.1,A.2.1,bf h.1,h.2.1++bw A.1 h.1 [],())))) (bY (h.2.1,()))) (A.1,aR A.1,0,y.1,()) λA=>mpure (A.1,())
def aAV(x:z14'):M ((z21')×z14'):=
 bm (aR x.1<2) (mpure ((0,x.1.length),x.1,())) (bQ (λA=>letI w:=A.1;letI p:=A.2.1;letI u:=aR p;bm (w<u) (cB (bU w p (bU (cE w 1) p (bm (bw p w 0=bw p (cE w 1) 0) (ae (0<=w/\w<=u/\u<=u) (bQ (λA=>letI v:=A.2.1;letI o:=A.2.2;letI y:=cE o.1 1;letI q:=o.2.1.getD (Add.add v.1 o.1.toNat) 0;letI n:=Int.ofNat (v.2-v.1);bm (o.1<n) (cB (ae (0<=o.1/\o.1<n) (ae (0<=y/\y<n) (bm (q≠o.2.1.getD (Add.add v.1 y.toNat) 0) (ae (0<=o.1/\o.1<n) (bU A.1 o.2.1 (be (bf A.1,v,o.1,List.set o.2.1 A.1.toNat q,())))) (be (A.1,v,o.1,o.2.1,()))))) (λA=>be (A.1,A.2.1,bf A.2.2.1,A.2.2.2.1,()))) (bY (A.1,o.2.1,()))) (w,(w.toNat,u.toNat),1,p,()) (λA=>letI t:=A.1.toNat;letI s:=aR A.2.1;letI m:=A.2.1.take t++List.replicate (s.toNat-t) 0++A.2.1.drop (Add.add t (List.replicate (s.toNat-t) (0:Int)).length);ae (0<=A.1/\A.1<=s/\s<=s) (ae True (ae ((0:Int)<=0/\0<=A.1/\A.1<=aR m) (iM (cS ((Int.toNat 0,t),m,())))))))) (be (w,p,()))))) (λA=>be (bf A.1,A.2.1,()))) (bY (p,()))) (1,x.1,()) (λA=>mpure ((0,A.1.length),A.1,())))
end Go.Fer.H
namespace Go.Fer.H
def NK(x:z25'):M (z14'):=eE (0<=x.1/\x.1<60000) ([],())
def NL(x:z25'):M (List bI×Unit):=eE (0<=x.1/\x.1<60000) ([],())
section
variable {ag hh:Type}
def NM(g:z25'->M (List ag×Unit))(x:List (List ag))(k:List ag->M hh):M hh:=
 aq (dA (λ(A:List (List ag)×Int×List (List ag)×Int×Int×Unit)=>if decide (A.2.2.2.2.1<A.2.2.2.1)=true then aq (ae (0<=A.2.2.2.2.1/\
 A.2.2.2.2.1<Int.ofNat (List.length A.2.2.1)) (if decide (IntKind.wrap .i64 (Add.add A.2.1 (Int.ofNat (List.length (List.getD A.2.2.1 (Int.toNat A.2.2.2.2.1) [])))) <
 0)=true then ae False (ae False (mpure (aJ.aw (A.1,IntKind.wrap .i64 (Add.add A.2.1 (Int.ofNat (List.length (List.getD A.2.2.1 (Int.toNat A.2.2.2.2.1)
 [])))),A.2.2.1,A.2.2.2.1,A.2.2.2.2.1,())))) else mpure (aJ.aw (A.1,IntKind.wrap .i64 (Add.add A.2.1 (Int.ofNat (List.length (List.getD A.2.2.1 (Int.toNat
 A.2.2.2.2.1) [])))),A.2.2.1,A.2.2.2.1,A.2.2.2.2.1,())))) (aJ.fC λ(A:List (List ag)×Int×List (List ag)×Int×Int×Unit)=>mpure (aJ.aw (A.1,A.2.1,A.2.2.1,A.2.2.2.1,IntKind.wrap .i64 (Add.add A.2.2.2.2.1 1),()))) else aq (mpure (aJ.aw (A.1,A.2.1,()))) λr=>mpure (aJ.aV r)) (x,0,x,Int.ofNat
 (List.length x),0,())) (aJ.fC λ(A:List (List ag)×Int×Unit)=>aq (g (A.2.1,())) λy=>aq (dA (λ(A:List (List ag)×Int×Int×List ag×
 Unit)=>if decide (A.2.2.1<A.2.1)=true then ae (0<=A.2.2.1/\A.2.2.1<Int.ofNat (List.length A.1)) (ae (cb (Add.add (List.length A.2.2.2.1) (List.length
 (List.getD A.1 (Int.toNat A.2.2.1) [])))) (mpure (aJ.aw (A.1,A.2.1,IntKind.wrap .i64 (Add.add A.2.2.1 1),A.2.2.2.1++List.getD A.1 (Int.toNat A.2.2.1) [],())))) else aq (mpure (aJ.aw (A.2.2.2.1,()))) λr=>mpure (aJ.aV r)) (A.1,Int.ofNat (List.length A.1),0,y.1,())) (aJ.fC λ(A:List ag×Unit)
 =>k A.1))
theorem ahn:∀ (l:List (List ag)) (b:List ag),l.foldl (λb x=>b++x) b=b++l.flatten
 | [],b=>by simp
 | x::l,b=>by simp[ahn l]
theorem aho(g:z25'->M (List ag×Unit))(aD:∀ n,0<=n->n<60000->g (n,())=mpure ([],()))(x:List (List ag))(k:List ag->M hh)(E:x.length<=2)(L:∀ l∈x,l.length<=40):NM g x k=k x.flatten:=by
 unfold NM;rw[e2 x (λi n=>(x,n,x,(x.length:Int),(i:Int),())) (λl n=>.aw (n+(l.length:Int))) (λn=>.aw (x,n,())) (λi n=>0<=n/\n<=40*i) 0 ?_ ?_ ?_ ?_]
 ·rw[ec,aN,cY];have az:∀ (l:List (List ag)) (n:Int),0<=n->(∀ y∈l,y.length<=40)->0<=l.foldl (λn y=>n+(y.length:Int)) n/\l.foldl (λn y=>n+(y.length:Int)) n<=n+40*l.length:=by
   intro l;induction l<;>grind
  obtain⟨cT,fc⟩:=az x 0 (aPP _) L;rw[aD _ cT (by omega),aN];rw[e2 x (λi b=>(x,(x.length:Int),(i:Int),b,())) (λl b=>.aw (b++l)) (λb=>.aw (b,())) (λi b=>b.length<=40*i) [] ?_ ?_ ?_ ?_]
  ·simp_all[ec,ahn]
  ·rfl
  ·simp
  ·intro i G b U;have hw:=bs (n:=i+1);refine⟨?_,λbj ef=>?_⟩
   ·simp only[cC,dQ G,ed G,dK G,cp,dm,hw];rw[bc (i' (by grind))];rfl
   grind
  simp
 ·rfl
 ·omega
 ·intro i G n aC;have hw:=bs (n:=i+1);have ah:=L _ (amk G);have gz:=bs (n:=n+(x[i].length));have ax:decide (n+(x[i].length)<0)=false:=by grind
  refine⟨?_,λbj ef=>?_⟩
  ·simp only[cC,dQ G,ed G,dK G,cp,dm,hw,gz,ax,aml,aPH,aN,cY];rfl
  grind
 simp
end
abbrev NN:aO:=⟨.slice (.slice iY),.slice iY,λx=>x.length<=2/\∀ l∈x,l.length<=40,λx=>x.flatten⟩
theorem aAW(x):a8 (ahl NL x) (NN.sh x):=bx λh=>
 (show ahl NL x=NM NL x mpure from rfl).trans (aho _ (λn a b=>bP ⟨a,b⟩ _) x _ h.1 h.2)
def NO(x:z26'):M (z14'):=eE (x.1.length<=2/\∀ l∈x.1,l.length<=40) (x.1.flatten,())
theorem aAX(x):a8 (ahm NK x) (NO x):=bx λh=>
 (show ahm NK x=NM NK x.1 (λl=>mpure (l,())) from rfl).trans (aho _ (λn a b=>bP ⟨a,b⟩ _) x.1 _ h.1 h.2)
def rC(l:z1')(j:Nat):Bool:=decide (j=0)||decide (l.getD j 0≠l.getD (j - 1) 0)
def hf(l:z1')(p:Nat):z1':=((List.range p).filter (rC l)).map λj=>l.getD j 0
theorem Vz(l:z1')(p:Nat):hf l (p+1)=hf l p++if rC l p=true then [l.getD p 0] else []:=by
 grind [hf,List.range_succ]
theorem aAY(l:z1')(p:Nat):(hf l p).length<=p:=by
 unfold hf;grind
variable {R:Type}
def IP:Int×(z21')×z20'->M (aJ (Int×(z21')×z20') (aJ (z20') R)):=
 (λ(A:Int×(z21')×z20')=>if decide (A.2.2.1<Int.ofNat (A.2.1.2 - A.2.1.1))=true then aq (ae (0<=A.2.2.1/\A.2.2.1<Int.ofNat
 (A.2.1.2 - A.2.1.1)) (ae (0<=IntKind.wrap .i64 (A.2.2.1 - 1)/\IntKind.wrap .i64 (A.2.2.1 - 1)<Int.ofNat (A.2.1.2 - A.2.1.1)) (if decide (List.getD A.2.2.2.1
 (Add.add A.2.1.1 (Int.toNat A.2.2.1)) 0≠List.getD A.2.2.2.1 (Add.add A.2.1.1 (Int.toNat (IntKind.wrap .i64 (A.2.2.1 - 1)))) 0)=true then ae (0<=A.2.2.1/\A.2.2.1
 < Int.ofNat (A.2.1.2 - A.2.1.1)) (ae (0<=A.1/\A.1<Int.ofNat (List.length A.2.2.2.1)) (mpure (aJ.aw (IntKind.wrap .i64 (Add.add A.1 1),A.2.1,A.2.2.1,List.set A.2.2.2.1 (Int.toNat A.1) (List.getD A.2.2.2.1 (Add.add A.2.1.1 (Int.toNat A.2.2.1)) 0),())))) else mpure (aJ.aw (A.1,A.2.1,A.2.2.1,A.2.2.2.1,())))))
 (aJ.fC λ(A:Int×(z21')×z20')=>mpure (aJ.aw (A.1,A.2.1,IntKind.wrap .i64 (Add.add A.2.2.1 1),A.2.2.2.1,()))) else aq
 (mpure (aJ.aw (A.1,A.2.2.2.1,()))) λr=>mpure (aJ.aV r))
def zm:z20'->M (aJ (z20') (aJ (z14') ((z21')×z14'))):=
 (λ(A:z20')=>if decide (A.1<Int.ofNat (List.length A.2.1))=true then aq (ae (0<=A.1/\A.1<Int.ofNat (List.length A.2.1)) (ae (0<=
 IntKind.wrap .i64 (A.1 - 1)/\IntKind.wrap .i64 (A.1 - 1)<Int.ofNat (List.length A.2.1)) (if decide (List.getD A.2.1 (Int.toNat A.1) 0=List.getD A.2.1 (Int.toNat
 (IntKind.wrap .i64 (A.1 - 1))) 0)=true then ae (0<=A.1/\A.1<=Int.ofNat (List.length A.2.1)/\Int.ofNat (List.length A.2.1)<=Int.ofNat (List.length A.2.1))
 (aq (dA IP (A.1,(Int.toNat A.1,Int.toNat (Int.ofNat (List.length A.2.1))),1,A.2.1,())) (aJ.fC λ(A:z20')=>ae (0<=A.1/\A.1<=
 Int.ofNat (List.length A.2.1)/\Int.ofNat (List.length A.2.1)<=Int.ofNat (List.length A.2.1)) (ae True (ae ((0:Int)<=0/\0<=A.1/\A.1<=Int.ofNat (List.length
 (List.take (Int.toNat A.1) A.2.1++List.replicate (Int.toNat (Int.ofNat (List.length A.2.1)) - Int.toNat A.1) 0++List.drop (Add.add (Int.toNat A.1) (List.length
 (List.replicate (Int.toNat (Int.ofNat (List.length A.2.1)) - Int.toNat A.1) (0:Int)))) A.2.1))) (aq (aq (aq (mpure ((Int.toNat 0,Int.toNat A.1),List.take
 (Int.toNat A.1) A.2.1++List.replicate (Int.toNat (Int.ofNat (List.length A.2.1)) - Int.toNat A.1) 0++List.drop (Add.add (Int.toNat A.1) (List.length (List.replicate
 (Int.toNat (Int.ofNat (List.length A.2.1)) - Int.toNat A.1) (0:Int)))) A.2.1,())) λr=>mpure (aJ.aV r)) λr=>mpure (aJ.aV r)) λr=>mpure (aJ.aV
 r)))))) else mpure (aJ.aw (A.1,A.2.1,()))))) (aJ.fC λ(A:z20')=>mpure (aJ.aw (IntKind.wrap .i64 (Add.add A.1 1),A.2.1,()))) else
 aq (mpure (aJ.aw (A.2.1,()))) λr=>mpure (aJ.aV r))
structure B3(l:z1')(p:Nat)(m:z1'):Prop where
 len:m.length=l.length
 Kk:m.take (hf l p).length=hf l p
 lt:(hf l p).length<p
 b8:∀ j,p<=j+1->m.getD j 0=l.getD j 0
theorem aAZ{ag:Type}{l:List ag}{i j:Nat}{v d:ag}(h:i<l.length):(l.set i v).getD j d=if j=i then v else l.getD j d:=by
 grind
variable {l:z1'}
theorem B3.step{m:z1'}{p:Nat}(h:B3 l p m)(ai:p<l.length):B3 l (p+1) (if rC l p=true then m.set (hf l p).length (l.getD p 0) else m):=by
 have E:=h.lt;have L:=h.len;have hc:=Vz l p;by_cases ak:rC l p=true
 ·rw[if_pos ak]at hc ⊢;refine⟨by grind,?_,?_,λj aK=>?_⟩
  ·rw[hc,aP8,aQ3];have aH:=h.Kk;generalize hf l p=c at aH E;apply aQ5;grind
  ·grind
  ·rw[aAZ (by omega),if_neg (by omega)];exact h.b8 j (by omega)
 ·rw[if_neg ak,aPT]at hc;rw[if_neg ak];refine⟨L,by rw[hc];exact h.Kk,by grind,λj aK=>h.b8 j (by omega)⟩
theorem aA0{m:z1'}{k p:Nat}(ah:l.length<60000)(ak:k<p)(AA:0<k)(h:B3 l p m)(ai:p<l.length) :
  IP (R:=R) (((hf l p).length:Nat),(k,l.length),((p - k:Nat):Int),m,())=mpure (.aw (((hf l (p+1)).length:Nat),(k,l.length),((p+1 - k:Nat):Int),(if rC l p=true then m.set (hf l p).length (l.getD p 0) else m),())):=by
 have E:=h.lt;have L:=h.len;have hc:=Vz l p;have cj:=bs (n:=((p - k:Nat)) - 1);have dN:IntKind.wrap .i64 (((p - k:Nat))+1)=((p+1 - k:Nat)):=(bs).trans (by omega);have hF:=bs (n:=(((hf l p).length))+1);have d1:decide (((p - k))<((l.length - k)))=true:=by grind
 have c7:(0)<=((p - k:Nat):Int) - 1/\((p - k:Nat)) - 1<((l.length - k:Nat):Int):=by omega
 have fL:(0)<=(((hf l p).length))/\(((hf l p).length))<m.length:=by omega
 have aE:k+(((p - k):Int)).toNat=p:=by omega
 have bz:k+(((p - k):Int) - 1).toNat=p - 1:=by omega
 have dt:=h.b8 p (by omega);have ei:=h.b8 (p - 1) (by omega);have Qa:rC l p=decide (l.getD p 0≠l.getD (p - 1) 0):=by
  grind [rC]
 unfold IP;by_cases aO':rC l p=true<;>simp_all
theorem aA1{k:Nat}(ah:l.length<60000)(AA:0<k):∀ (n p:Nat) (m:z1'),l.length - p=n->p<=l.length->k<p->B3 l p m->
  ∃ dw,B3 l l.length dw/\dA (IP (R:=R)) (((hf l p).length:Nat),(k,l.length),((p - k:Nat):Int),m,())=mpure (.aw (((hf l l.length).length:Nat),dw,())):=by
 intro n;induction n with
 | zero=>
  intro p m aC ai ak h;have:p=l.length:=by omega
  subst this;refine⟨m,h,u7 ?_⟩;simp_all[IP]
 | succ n aP=>
  intro p m aC ai ak h;have ai:p<l.length:=by omega
  obtain⟨dw,E,L⟩:=aP (p+1) _ (by omega) ai (by omega) (h.step ai);grind [CD,aA0]
def zn(l:z1'):(z21')×z14':=((0,(hf l l.length).length),hf l l.length++List.replicate (l.length - (hf l l.length).length) 0,())
theorem aA2(ah:l.length<60000):∀ (n p:Nat),l.length - p=n->p<=l.length->0<p->hf l p=l.take p->
  aq (dA zm ((p:Int),l,())) (aJ.fC λ(A:z14')=>mpure ((0,List.length A.1),A.1,()))=mpure (zn l):=by
 intro n;induction n with
 | zero=>
  intro p aC ai aW hc;have:p=l.length:=by omega
  subst this;have U:zm (l.length,l,())=mpure (.aV (.aw (l,()))):=by
   simp_all[zm]
  rw[u7 U];simp_all[zn]
 | succ n aP=>
  intro p aC ai aW hc;have ai:p<l.length:=by omega
  have cj:=bs (n:=p - 1);have dN:=bs (n:=p+1);have c7:(0)<=(p:Int) - 1/\p - 1<(l.length:Int):=by omega
  have Qa:rC l p=decide (l.getD p 0≠l.getD (p - 1) 0):=by
   unfold rC;rw[show decide (p=0)=false by grind,aQA]
  have qX:=Vz l p;by_cases ak:rC l p=true
  ·have U:zm (p,l,())=mpure (.aw (((p+1)),l,())):=by
    simp_all[zm]
   rw[CD U];refine aP (p+1) (by omega) ai (by omega) ?_;simp_all
  ·have heq:l.getD p 0=l.getD (p - 1) 0:=by grind
   have fk:B3 l (p+1) l:=⟨rfl,by grind,by grind,λ_ _=>rfl⟩
   obtain⟨dw,E,L⟩:=aA1   ah aW (l.length - (p+1)) (p+1) l rfl ai (by omega) fk;rw[show (hf l (p+1)).length=p by grind,show p+1 - p=1 from by omega]at L;have kP:=aAY l l.length;have uN:=E.len;have mx:=E.Kk;have fL:(0)<=((hf l l.length).length:Int)/\((hf l l.length).length)<=(dw.length:Int):=by omega
   have hP:List.take (hf l l.length).length dw++List.replicate (dw.length - (hf l l.length).length) 0++List.drop ((hf l l.length).length+(List.replicate (dw.length - (hf l l.length).length) (0:Int)).length) dw=hf l l.length++List.replicate (l.length - (hf l l.length).length) 0:=by
    simp_all
   have U:zm (p,l,())=mpure (.aV (.aV (zn l))):=by
    unfold zm;simp only[cC,dQ ai,dK ai,cp,cj,c7,aQK,aPV,heq];rw[bc (by omega)];erw [L];simp only[aN,cY,aPV,kE,hP];rw[bc ⟨fL.1,fL.2,aPP _⟩,bc ⟨aPP _,fL.1,by grind⟩];simp;rfl
   rw[u7 U,aN,uG]
def NP(x:z14'):M ((z21')×z14'):=eE (x.1.length<60000) (zn x.1)
theorem aA3(x):a8 (aAV x) (NP x):=bx λh=>by
 obtain⟨l,u⟩:=x;change l.length<60000 at h;show (if decide (Int.ofNat l.length<2)=true then mpure ((0,l.length),l,()) else aq (dA zm (1,l,())) (aJ.fC λA=>mpure ((0,List.length A.1),A.1,())))=mpure (zn l);have qd:∀ l,l.length<2->hf l l.length=l:=λl ah=>by
  match l,ah with
  | [],_=>rfl
  | [a],_=>rfl
 by_cases L:l.length<2
 ·have ax:decide (Int.ofNat l.length<2)=true:=by grind
  simp_all[zn]
 ·have ax:¬decide (Int.ofNat l.length<2)=true:=by grind
  rw[if_neg ax];refine aA2 h (l.length - 1) 1 rfl (by omega) (by omega) ?_;match l,L with
  | a::l,_=>rfl
  | [],L=>grind
end Go.Fer.H
namespace Go.Fer.H
variable {l:z1'}
theorem aA4:∀ j,j<l.length->l.getD j 0∈hf l l.length:=by
 intro j;induction j with
 | zero=>
  intro h;exact List.mem_map.2 ⟨0,List.mem_filter.2 ⟨by grind,by rfl⟩,rfl⟩
 | succ j aP=>
  grind [rC,hf]
theorem aA5{x:Int}:x∈hf l l.length<->x∈l:=by
 constructor
 ·grind [hf]
 ·intro h;obtain⟨j,aK,rfl⟩:=List.mem_iff_getElem.1 h;rw[<-xJ   aK];exact aA4 j aK
theorem aA6(h:l.Pairwise (·<=·)):(hf l l.length).Pairwise (·<·):=by
 unfold hf;rw[aQ7];have D:((List.range l.length).filter (rC l)).Pairwise (·<·):=aQ8 _ aQJ;refine List.Pairwise.imp_of_mem ?_ D;intro i j G aK AF;have eM:l.getD j 0≠l.getD (j - 1) 0:=by
  grind [rC]
 have az:=List.pairwise_iff_getElem.1 h;grind
def wk(a b:z1'):z1':=(fM 0 99).filter λid=>a.contains id||b.contains id
theorem ahp(a b:Int):(fM a b).Pairwise (·<·):=by
 grind [fM,List.pairwise_lt_range]
theorem aA7{a b:z1'}(aY:a.Pairwise (·<·))(U:b.Pairwise (·<·))(h:∀ x,x∈a<->x∈b):a=b:=by
 have aA8:a.Nodup:=aY.imp λh=>by omega
 have oT:b.Nodup:=U.imp λh=>by omega
 have ai:=(aQL aA8 oT).2 h;rw[<-D7 (aY.imp λh=>by omega) (List.Perm.refl a)];exact D7 (U.imp λh=>by omega) ai
theorem aA9{a b:z1'}(aY:∀ x∈a,cJ x 0 99=true)(U:∀ x∈b,cJ x 0 99=true):hf (hb jq (a++b)) (hb jq (a++b)).length=wk a b:=by
 refine aA7 (aA6 (TZ _)) (aQ8 _ (ahp 0 99)) λx=>?_;grind [aA5,aep,wk,vL,uK]
abbrev NQ:bg:=([],[],[],[],0,0,0,0,0,0,0)
def qH(c:bg)(more:List bI)(ju:z1'):bg:=(c.1,more,ju,c.2.2.2)
def qI(c:bg)(more:List bI)(ju:z1'):bg×Int:=
 if dH c≠0 then (NQ,dH c) else if dH (qH c more ju)≠0 then (NQ,dH (qH c more ju)) else
 if nc (c.2.1++more)=true then (NQ,91) else
 if (decide (Int.ofNat (iN (c.2.1++more)).length > 12)||decide (Int.ofNat (wk c.2.2.1 ju).length > 12))=true then (NQ,90) else (qH c (iN (c.2.1++more)) (wk c.2.2.1 ju),0)
abbrev ES:aO:=⟨.ar lv (.ar (.slice iY) ha),.ar lv bK,λx=>lD x.1/\x.2.1.length<2 ^ 63/\x.2.2.length<2 ^ 63,λx=>qI x.1 x.2.1 x.2.2⟩
abbrev IQ:aO:=⟨.slice oY,.slice oY,λx=>x.length<65536,λx=>x⟩
theorem aA_(x):a8 (adX x) (IQ.sh x):=td λh=>by
 unfold adX bD iW;rw[fN];refine⟨⟨false,by simp⟩,λb U=>?_⟩;change b=true->x=[]at U;grind [dO,h5,i']
structure ahq(c:bg):Prop where
 eA:c.1.length<=3
 eG:c.2.1.length<=12
 lk:c.2.2.1.length<=12
 n4:c.2.2.2.1.length<=4
 ids:∀ s∈c.2.1,cJ s.1 0 99=true
 ju:∀ n∈c.2.2.1,cJ n 0 99=true
 cl:nc c.2.1=false
theorem NR{c:bg}(h:dH c=0):ahq c:=by
 unfold dH at h;by_cases hc:lS c=true
 ·have kP:nc c.2.1=false:=by
   grind
  have G:=MJ hc;unfold lS vS at hc;simp  at hc;obtain⟨⟨⟨⟨⟨bA,_⟩,_⟩,L⟩,an⟩,_⟩:=hc;exact⟨by omega,by omega,by omega,by omega,G.2,an,kP⟩
 grind
theorem aA'{a b:List bI}(aY:a.length<=12)(U:b.length<=12)(E:∀ s∈a,cJ s.1 0 99=true)(L:∀ s∈b,cJ s.1 0 99=true):By (a++b):=
 ⟨by grind,λs az=>(List.mem_append.1 az).elim (E s) (L s)⟩
theorem aBa(x):a8 (ahk jV.sh Eg.sh NN.sh NO D8 NP IQ.sh x) (ES.sh x):=bx λh=>by
 obtain⟨c,more,ju⟩:=x;obtain⟨E,L,an⟩:=h;have pr:lD (qH c more ju):=⟨E.1,L,an,E.2.2.2⟩
 unfold ahk dp bD bm aR dE;show _=mpure (qI c more ju);unfold qI;rw[show jV.sh (c,more,ju).1=mpure (dH c) from bP E _,aN];by_cases aE:dH c=0
 ·have dt:=NR aE;rw[show jV.sh ((c,more,ju).1.1,(c,more,ju).2.1,(c,more,ju).2.2,(c,more,ju).1.2.2.2)=mpure (dH (qH c more ju)) from bP pr _,aN];by_cases bz:dH (qH c more ju)=0
  ·have ei:=NR bz;have eG:more.length<=12:=ei.eG;have lk:ju.length<=12:=ei.lk;have fQ:=dt.eG;have mu:=dt.lk;have G:=aA' dt.eG ei.eG dt.ids ei.ids;rw[if_neg (by grind),if_neg (by grind),if_neg (by omega),if_neg (by omega)];rw[show NN.sh [(c,more,ju).1.2.1,(c,more,ju).2.1]=mpure (c.2.1++more) from (bP ⟨by simp,by grind⟩ _).trans (congrArg mpure (by simp)),aN];rw[show Eg.sh (c.2.1++more)=mpure (if nc (c.2.1++more)=true then ([],false) else (iN (c.2.1++more),true)) from bP G _,aN];cases hc:nc (c.2.1++more) with
   | true=>simp
   | false=>
    rw[show NO ([c.2.2.1,ju],())=mpure (c.2.2.1++ju,()) from (bP ⟨by simp,by grind⟩ _).trans (congrArg mpure (by simp)),aN];rw[show D8 ((c.2.2.1++ju,()))=mpure (hb jq (c.2.2.1++ju),()) from bP (by grind) _,aN];rw[show NP ((hb jq (c.2.2.1++ju),()))=mpure (zn (hb jq (c.2.2.1++ju))) from bP (by grind [MD]) _];have j8:=aA9 dt.ju ei.ju;unfold zn;rw[show (hf (hb jq (c.2.2.1++ju)) (hb jq (c.2.2.1++ju)).length)=wk c.2.2.1 ju from j8];rw[show IQ.sh c.1=mpure c.1 from bP (by have:=dt.eA;omega) _,show IQ.sh c.2.2.2.1=mpure c.2.2.2.1 from bP (by have:=dt.n4;omega) _];simp;split<;>rfl
  grind
 grind
end Go.Fer.H
namespace Go.Fer.W
abbrev zo:V:=.slice .str
abbrev x1:V:=.ad (.ar nO H.lv)
def dq:bd->List bd
 | []=>[[]]
 | c::s=>if c=32 then []::dq s else match dq s with
  | []=>[[c]]
  | w::l=>(c::w)::l
theorem B4:∀ (s:bd),1<=(dq s).length/\(dq s).length<=s.length+1
 | []=>by simp[dq]
 | c::s=>by
  have:=B4 s;grind [dq]
theorem ahr:∀ (s:bd) {w:bd},w∈dq s->w.length<=s.length
 | [],w,h=>by grind [dq]
 | c::s,w,h=>by
  have aP:=@ahr s;grind [dq]
def ig:bd->Int->Int
 | [],n=>n
 | c::s,n=>if (decide ((c.toNat:Int)<48)||decide ((c.toNat:Int) > 57))=true then -1 else ig s (10*n+((c.toNat:Int) - 48))
def gg(s:bd):Int:=if (decide (s.length=0)||decide (s.length > 6)||decide (s.length > 1)&&decide ((s.getD 0 0).toNat=48))=true then -1 else ig s 0
theorem VA:∀ (s:bd) (n:Int) (k:Nat),0<=n->n<10 ^ k->ig s n<10 ^ (k+s.length)/\-1<=ig s n
 | [],n,k,aW,E=>by simp[ig];omega
 | c::s,n,k,aW,E=>by
  unfold ig;have ai:(0:Int)<10 ^ (k+(c::s).length):=Int.pow_pos (by decide);split
  ·omega
  ·rename_i hc;simp  at hc;have:=VA s (10*n+(c.toNat - 48)) (k+1) (by omega) (by omega);grind
theorem aBb(s:bd):-1<=gg s/\gg s<=999999:=by
 unfold gg;split
 ·omega
 ·rename_i h;simp  at h;have:=VA s 0 0 (by decide) (by decide);have L:(10:Int) ^ (0+s.length)<=10 ^ 6:=by
   have:=aQS (n:=10) (by decide) (show 0+s.length<=6 by omega);grind
  omega
def wm(s:bd):Int:=match Go.Lib.atoiAll s with
 | .ok v=>v
 | .range=>Go.Lib.atoiSat s
 | _=>0
def uo(s:bd):z27':=(wm s,decide (0<=gg s))
def IS(l:List bd):Option (z1'):=if l.all (λw=>decide (0<=gg w))=true then some (l.map gg) else none
def sn(n:Int):bd:=Go.Lib.itoa (IntKind.wrap .i64 n)
theorem VB(n:Int):(sn n).length<=21:=by
 have:=sK .i64 n;exact Go.Lib.itoa_length_le _ this.1 this.2
abbrev NS:bd:=[111,107]
abbrev ET:bd:=[110,111]
abbrev ahs:bd:=[110,111,110,101]
abbrev VC:bd:=[115,104,111,112]
abbrev aBc:bd:=[108,105,97,114]
abbrev aBd:bd:=[63]
def tB(l:z1'):bd:=if l=[] then ahs else Go.Lib.join (l.map sn) [32]
def ow(e:Int)(l:z1'):bd:=if e=0 then tB l else if e=3 then ahs else ET
def B5(x:z22'):bd:=ow x.2 [x.1.1,x.1.2]
abbrev bW(l:z1')(i:Nat):Int:=l.getD i 0
def wo(d:bH)(m:List H.bI)(v:z1'):bd×bH:=if (H.qI d.2 m v).2≠0 then (ET,d) else (NS,(d.1,(H.qI d.2 m v).1))
def so(d:bH)(s:bJ):bd×bH:=if lz s≠0 then (ET,d) else (NS,(s,d.2))
def VD(d:bH)(l:z1'):bd×bH:=wo d [(bW l 0,bW l 1,bW l 2,1,bW l 3,bW l 4)] []
def VE(d:bH)(l:z1'):bd×bH:=wo d [(bW l 0,bW l 1,bW l 2,2,bW l 3,0)] []
def VF(d:bH)(l:z1'):bd×bH:=wo d [] l
def VG(d:bH)(l:z1'):bd×bH:=(B5 (H.Ub d.2 (bW l 0)),d)
def VH(d:bH)(l:z1'):bd×bH:=(B5 (H.Uc d.2 (bW l 0)),d)
def VI(d:bH)(l:z1'):bd×bH:=(B5 (H.MS d.2 (bW l 0)),d)
def VJ(d:bH)(l:z1'):bd×bH:=(B5 (H.MU d.2 (bW l 0)),d)
def VK(r:z18'):bd:=if (decide (r.2≠0)||decide (r.1.getD 0 0>=0))=true then ow r.2 r.1 else if r.1.length=1 then VC else VC++[32]++tB (r.1.drop 1)
def VL(d:bH)(l:z1'):bd×bH:=(VK (H.vZ d.2 (bW l 0) (bW l 1)),d)
def VM(r:z1'×z18'):bd:=if r.2.2≠0 then ow r.2.2 [] else tB r.1++[32,47,32]++tB r.2.1
def VN(d:bH)(l:z1'):bd×bH:=(VM (H.v7 d.2 (bW l 0)),d)
def sq(w:b2)(t:z28'):b2:=(w.1,w.2.1,w.2.2.1,w.2.2.2++[t])
def B6(d:bH)(l:z1'):bd×bH:=
 if dH (sq d.1.1 (bW l 0,bW l 1,bW l 2,bW l 3))≠0 then (ET,d) else if (ED (sq d.1.1 (bW l 0,bW l 1,bW l 2,bW l 3)) (bW l 0)).2≠0 then (aBc,d)
 else (NS,((sq d.1.1 (bW l 0,bW l 1,bW l 2,bW l 3),d.1.2),d.2))
def xW(r:z12'):bd:=if r.2≠0 then ow r.2 [] else List.getD [[],[115,117,114,101,108,121],[110,101,118,101,114],[112,101,114,104,97,112,115]] r.1.toNat []
def VO(d:bH)(l:z1'):bd×bH:=(xW (tx d.1.1 (bW l 0) (bW l 1) (bW l 2)),d)
def IT(d:bH)(l:z1'):bd×bH:=if bW l 0>=(d.1.2.1.length:Int) then (ET,d) else so d (d.1.1,d.1.2.1.set (bW l 0).toNat (d.1.2.1.getD (bW l 0).toNat 0+bW l 1),d.1.2.2)
def VP(d:bH)(l:z1'):bd×bH:=so d (d.1.1,d.1.2.1,d.1.2.2.1,d.1.2.2.2.1,d.1.2.2.2.2.1++[(bW l 0,bW l 1,bW l 2)],d.1.2.2.2.2.2)
def VQ(d:bH)(l:z1'):bd×bH:=so d (d.1.1,d.1.2.1,d.1.2.2.1++[(bW l 0,bW l 1,bW l 2,bW l 3,l.drop 4)],d.1.2.2.2)
def VR(d:bH)(l:z1'):bd×bH:=so d (d.1.1,d.1.2.1,d.1.2.2.1,d.1.2.2.2.1++[(l.drop 5,(bW l 0,bW l 1),bW l 2,bW l 3,bW l 4)],d.1.2.2.2.2)
def IU(d:bH)(l:z1'):bd×bH:=if bW l 0>=(d.1.2.2.2.1.length:Int) then (ET,d) else (NS,((d.1.1,d.1.2.1,d.1.2.2.1,d.1.2.2.2.1.eraseIdx (bW l 0).toNat,d.1.2.2.2.2),d.2))
def VS(d:bH)(l:z1'):bd×bH:=(ow (x0 d.1 (bW l 0)).2 (x0 d.1 (bW l 0)).1,d)
def IV(d:bH)(l:z1'):bd×bH:=(ow (zl d.1 (l.map (· - 1))).2 [(zl d.1 (l.map (· - 1))).1],d)
def IW(d:bH)(_:z1'):bd×bH:=(ow (rB d.1 true).2 [(rB d.1 true).1],d)
def IX(d:bH)(_:z1'):bd×bH:=(ow (kY d.1).2 [(kY d.1).1],d)
def B7:Nat->bH->z1'->bd×bH
 | 0=>VD | 1=>VE | 2=>VF | 3=>VG | 4=>VH | 5=>VI | 6=>VJ | 7=>VL | 8=>VN | 9=>B6
 | 10=>VO | 11=>IT | 12=>VP | 13=>VQ | 14=>VR | 15=>IU | 16=>VS | 17=>IV | 18=>IW | _=>IX
def nm:List (bd×Int×Bool):=[([108,101,110,100],5,false),([98,97,99,107],4,false),([118,111,105,100],1,false),([108,97,115,116,115],1,false),([102,101,101],1,false),([111,119,101,115],1,false),([104,101,108,100],1,false),([119,104,101,114,101],2,false),([109,105,115,115,105,110,103],1,false),([116,114,105,97,108],4,false),([102,105,116,115],3,false),([115,116,111,99,107],2,false),([99,111,109,101,115],3,false),([112,105,101,99,101],4,true),([119,105,115,104],5,true),([100,114,111,112],1,false),([99,97,110],1,false),([116,97,107,101,115],0,true),([109,111,115,116],0,false),([101,120,116,114,97],0,false)]
def qJ(w:bd):List (bd×Int×Bool)->Nat->Option (Int×Bool×Nat)
 | [],_=>none
 | p::l,i=>if w=p.1 then some (p.2.1,p.2.2,i) else qJ w l (i+1)
def IY(s:bd):Option (Nat×z1'):=
 match qJ ((dq s).getD 0 []) nm 0 with
 | none=>none
 | some (k,m,j)=>if (decide (((dq s).length:Int) - 1<k)||decide (((dq s).length:Int) - 1 > k)&&!m)=true then none else (IS ((dq s).drop 1)).map λl=>(j,l)
def o5(d:bH)(s:bd):bd×bH:=match IY s with
 | none=>(aBd,d)
 | some (j,l)=>B7 j d l
def tC:bH->List bd->List bd×bH
 | d,[]=>([],d)
 | d,s::l=>((o5 d s).1::(tC (o5 d s).2 l).1,(tC (o5 d s).2 l).2)
def o6(d:bH):Int:=if (decide (lz d.1≠0)||decide (H.dH d.2≠0))=true then 120 else 0
def mi(d:bH):bH:=(d.1,(H.qI d.2 [] []).1)
abbrev VT:bH:=((([],[],0,[]),[],[],[],[],0),[],[],[],[],0,0,0,0,0,0,0)
def B8(d:bH)(l:List bd):List bd×bH×Int:=
 if o6 d≠0 then ([],VT,o6 d) else if l.length > 40 then ([],VT,2) else ((tC (mi d) l).1,(tC (mi d) l).2,0)
structure fV(d:bH):Prop where
 iT:gI d.1
 wq:lz d.1=0
 B9:H.dH d.2=0
 EU:H.mh d.2.1<=60
variable {d:bH}
theorem fV.val(h:fV d):nP d.1:=BQ h.iT h.wq
theorem fV.aBe(h:fV d):o6 d=0:=by simp[o6,h.wq,h.B9]
theorem fV.aBf(h:fV d):H.ahq d.2:=H.NR h.B9
theorem fV.jK{d:bH}(h:fV d):H.jK d.2:=by
 have:=h.aBf;exact⟨⟨by have:=this.eA;omega,by have:=this.eG;omega,by have:=this.lk;omega,by have:=this.n4;omega⟩,λ_=>h.EU⟩
theorem fV.lD{d:bH}(h:fV d):H.lD d.2:=h.jK.iT
structure ja(k:Nat)(l:z1'):Prop where
 VU:k<=l.length
 NT:l.length<=10000
 num:∀ n∈l,0<=n/\n<=999999
theorem ja.bW{k:Nat}{l:z1'}(h:ja k l)(i:Nat):0<=bW l i/\bW l i<=999999:=by
 rcases aQF i l.length with G | G
 ·have:=h.num l[i] (by simp);grind
 grind
end Go.Fer.W
namespace Go.Fer.W
open H (i')
abbrev NU:aO:=⟨.int .i64,.str,λ_=>True,sn⟩
abbrev IZ:aO:=⟨.ar zo .str,.str,λx=>x.1.length<=60000/\(∀ w∈x.1,w.length<=21)/\x.2.length=1,λx=>Go.Lib.join x.1 x.2⟩
theorem aht:∀ (l:List bd) (s:bd) (n:Nat),(∀ w∈l,w.length<=n)->(Go.Lib.join l s).length<=l.length*(n+s.length)
 | [],s,n,h=>by simp[Go.Lib.join_nil]
 | x::r,s,n,h=>by
  rw[Go.Lib.join_cons];have aH:∀ (r:List bd),(∀ w∈r,w.length<=n)->(Go.Lib.joinTail s r).length<=r.length*(n+s.length):=by
   intro r;induction r with
   | nil=>simp[Go.Lib.joinTail]
   | cons y r aP=>
    grind [Go.Lib.joinTail,Nat.succ_mul]
  grind [Nat.succ_mul]
theorem VV(l:z1'):(tB l).length<=l.length*22+4:=by
 unfold tB;split
 ·simp
 ·have:=aht (l.map sn) [32] 21 λw hw=>by
   grind [VB]
  grind
abbrev B_:aO:=⟨ha,.str,λx=>x.length<=60000,tB⟩
theorem aBg(x):a8 (afP NU.sh IZ.sh x) (B_.sh x):=bx λh=>by
 unfold afP bw bm bf aR bQ bY be eB bU;show _=mpure (tB x);unfold tB;by_cases al:x=[]
 ·grind
 ·have ah:x.length≠0:=by grind
  rw[if_neg (by grind),if_neg al];rw[e2 x (λi o=>(x,(x.length:Int),(i:Int),o,())) (λn o=>.aw (o++[sn n])) (λo=>.aw (o,())) (λi o=>o.length=i) [] ?_ rfl ?_ ?_]
  ·rw[ec,r4,aQk,aN,cY];rw[show IZ.sh (x.map sn,[32])=mpure (Go.Lib.join (x.map sn) [32]) from bP ⟨by grind,λw hw=>by
    grind [VB],rfl⟩ _,aN]
  ·rfl
  ·intro i G o au;have hw:=bs (n:=i+1);refine⟨?_,λbj ef=>?_⟩
   ·simp only[cC,dQ G,ed G,dK G,cp,dm,hw];rw[show NU.sh x[i]=mpure (sn x[i]) from rfl,aN,bc (i' (by grind))];rfl
   grind
  simp
abbrev tD:aO:=⟨.ar (.int .i64) ha,.str,λx=>x.2.length<=60000,λx=>ow x.1 x.2⟩
theorem aBh(x):a8 (afO B_.sh x) (tD.sh x):=bx λh=>by
 unfold afO bm;show _=mpure (ow x.1 x.2);unfold ow;rw[show B_.sh x.2=mpure (tB x.2) from bP h _,aN];grind
abbrev B':aO:=⟨.ar oY (.int .i64),.str,λ_=>True,B5⟩
theorem aBi(x):a8 (afN tD.sh x) (B'.sh x):=bx λ_=>by
 unfold afN;rw[show tD.sh (x.2,[x.1.1,x.1.2])=mpure (B5 x) from bP (show 2<=60000 by decide) _,aN]
variable {l:z1'}
theorem Ca{e:Int}(h:l.length<=60000):tD.sh (e,l)=mpure (ow e l):=bP h _
theorem VW(h:l.length<=60000):B_.sh l=mpure (tB l):=bP h _
theorem NV(x:z22'):B'.sh x=mpure (B5 x):=rfl
def gL(k:Nat)(g:bH->z1'->bd×bH)(x:z1'×bH×Unit):M (bd×bH×Unit):=eE (fV x.2.1/\ja k x.1) ((g x.2.1 x.1).1,(g x.2.1 x.1).2,())
theorem zp:Int.toNat 0=0:=rfl
theorem ahu:Int.toNat 1=1:=rfl
theorem aBj:Int.toNat 2=2:=rfl
theorem Cb:Int.toNat 5=5:=rfl
variable {ag:Type}
theorem pV{k:Nat}(h:ja k l)(m:M ag)(i:Int)(G:0<=i/\i<(k:Int)):ae (0<=i/\i<Int.ofNat l.length) m=m:=
 bc ⟨G.1,by have:=h.VU;grind⟩ m
def EV(x:List H.bI×z1'×bH×Unit):M (bd×bH×Unit):=eE (fV x.2.2.1/\x.1.length<2 ^ 63/\x.2.1.length<2 ^ 63) ((wo x.2.2.1 x.1 x.2.1).1,(wo x.2.2.1 x.1 x.2.1).2,())
theorem aBk(x):a8 (afJ H.ES.sh x) (EV x):=bx λh=>by
 obtain⟨m,v,d,⟨⟩⟩:=x;obtain⟨ax,E,L⟩:=h;unfold afJ bm;rw[show H.ES.sh (d.2,m,v)=mpure (H.qI d.2 m v) from bP ⟨ax.lD,E,L⟩ _];unfold wo;by_cases e:(H.qI d.2 m v).2=0<;>simp[e]
variable {d:bH}
theorem VX(ax:fV d)(m:List H.bI)(v:z1')(E:m.length<2 ^ 63)(L:v.length<2 ^ 63):EV (m,v,d,())=mpure ((wo d m v).1,(wo d m v).2,()):=bP ⟨ax,E,L⟩ _
theorem aBl(x):a8 (afI EV x) (gL 5 VD x):=bx λh=>by
 obtain⟨ax,ah⟩:=h;unfold afI gB aR gA;simp (disch:=decide) only [pV ah];rw[VX ax _ _ (by simp) (by simp),aN];rfl
theorem aBm(x):a8 (afK EV x) (gL 4 VE x):=bx λh=>by
 obtain⟨ax,ah⟩:=h;unfold afK gB aR gA;simp (disch:=decide) only [pV ah];rw[VX ax _ _ (by simp) (by simp),aN];rfl
theorem Uj(x):a8 (afL EV x) (gL 1 VF x):=bx λh=>by
 obtain⟨l,d,⟨⟩⟩:=x;obtain⟨ax,ah⟩:fV d/\ja _ l:=h;unfold afL;rw[VX ax _ _ (by simp) (show l.length<2 ^ 63 by have:=ah.NT;omega),aN];rfl
theorem aBn(x):a8 (afM H.MQ.sh B'.sh x) (gL 1 VG x):=bx λh=>by
 obtain⟨l,d,⟨⟩⟩:=x;obtain⟨ax,ah⟩:=h;unfold afM gB gA dE;simp (disch:=decide) only [pV ah,zp];rw[show H.MQ.sh (d.2,bW l 0)=mpure _ from bP ax.jK _];simp  [NV];rfl
theorem aBo(x):a8 (afQ H.MR.sh B'.sh x) (gL 1 VH x):=bx λh=>by
 obtain⟨l,d,⟨⟩⟩:=x;obtain⟨ax,ah⟩:=h;unfold afQ gB gA dE;simp (disch:=decide) only [pV ah,zp];rw[show H.MR.sh (d.2,bW l 0)=mpure _ from bP ax.jK _];simp  [NV];rfl
theorem aBp(x):a8 (afR H.MT.sh B'.sh x) (gL 1 VI x):=bx λh=>by
 obtain⟨l,d,⟨⟩⟩:=x;obtain⟨ax,ah⟩:=h;unfold afR gB gA dE;simp (disch:=decide) only [pV ah,zp];rw[show H.MT.sh (d.2,bW l 0)=mpure _ from bP ax.jK _];simp  [NV];rfl
theorem aBq(x):a8 (afS H.MV.sh B'.sh x) (gL 1 VJ x):=bx λh=>by
 obtain⟨l,d,⟨⟩⟩:=x;obtain⟨ax,ah⟩:=h;unfold afS gB gA dE;simp (disch:=decide) only [pV ah,zp];rw[show H.MV.sh (d.2,bW l 0)=mpure _ from bP ax.jK _];simp  [NV];rfl
theorem aBr(c:H.bg)(u t:Int):(H.vZ c u t).1.length<=101:=aPL (aQe ..) (by decide)
theorem aBs{c:H.bg}{u t:Int}(h:(H.vZ c u t).2=0):0<(H.vZ c u t).1.length:=by
 unfold H.vZ at h ⊢;rcases H.Eu c (H.y0 u t) with⟨E,_⟩ | ⟨E,L,an,a6⟩
 ·omega
 ·have aD:=H.ru L;have b6:(0<=u/\u<=9)/\0<=t/\t<=9999:=by
   grind [H.y0,H.uK]
  have eM:H.dI c≠[]:=by
   grind [H.fF]
  obtain⟨w,T,aU⟩:=List.exists_cons_of_ne_nil eM;have hw:H.kI c w=true:=H.y3 (by grind);have ak:=H.afp aD hw b6.1 t;have U:-1<=H.o2 c w u t/\H.o2 c w u t<=99:=by
   rcases H.UD c w u t with h | ⟨s,az,h⟩
   ·omega
   ·obtain⟨e,he,rfl⟩:=List.mem_map.1 az;have:=H.UA aD (List.mem_filter.1 he).1;omega
  refine List.length_pos_of_mem   (List.mem_filter.2 ⟨vL.2 U,?_⟩);grind [H.Ud]
theorem aBt(x):a8 (afT H.MW.sh tD.sh B_.sh x) (gL 2 VL x):=bx λh=>by
 obtain⟨l,d,⟨⟩⟩:=x;obtain⟨ax,ah⟩:=h;unfold afT e6 gB bm aR gA dE;simp (disch:=decide) only [pV ah,Cb];have E:=aBr d.2 (bW l 0) (bW l 1);have L:=aBs (c:=d.2) (u:=bW l 0) (t:=bW l 1);have hc:H.MW.sh (d.2,bW l 0,bW l 1)=mpure (H.vZ d.2 (bW l 0) (bW l 1)):=bP ax.jK _;show _=mpure (VK (H.vZ d.2 (bW l 0) (bW l 1)),d,());grind [tK,kF,bc,Ca,aN,VK,VW,VV,i']
theorem aBu(c:H.bg)(t:Int):(H.v7 c t).1.length<=10/\(H.v7 c t).2.1.length<=10:=by
 unfold H.v7;split
 ·simp
 ·exact⟨aPL (aQe ..) (by decide),aPL (aQe ..) (by decide)⟩
theorem aBv(x):a8 (afU H.MX.sh tD.sh B_.sh x) (gL 1 VN x):=bx λh=>by
 obtain⟨l,d,⟨⟩⟩:=x;obtain⟨ax,ah⟩:=h;unfold afU gB bm gA dE;simp (disch:=decide) only [pV ah,zp];have E:=aBu d.2 (bW l 0);have hc:H.MX.sh (d.2,bW l 0)=mpure (H.v7 d.2 (bW l 0)):=bP ax.jK _;simp only[hc];show _=mpure (VM (H.v7 d.2 (bW l 0)),d,());generalize H.v7 d.2 (bW l 0)=r at *
 simp;rw[Ca (by simp),VW (by omega),VW (by omega)];have fq:=VV r.1;have gD:=VV r.2.1;unfold VM;by_cases e:r.2.2=0
 ·simp;grind [bc,i']
 simp_all
theorem aBw(w:b2)(i m k:Int):0<=xT w i m k/\xT w i m k<4:=by
 grind [xT,M9]
theorem aBx(x):a8 (afW EF.sh tD.sh x) (gL 3 VO x):=bx λh=>by
 obtain⟨l,d,⟨⟩⟩:=x;obtain⟨ax,ah⟩:=h;unfold afW gB bm aR gA dE;simp (disch:=decide) only [pV ah,zp,ahu,aBj];have hc:EF.sh (d.1.1,bW l 0,bW l 1,bW l 2)=mpure (tx d.1.1 (bW l 0) (bW l 1) (bW l 2)):=bP ax.iT.1 _;simp only[hc];show _=mpure (xW (tx d.1.1 (bW l 0) (bW l 1) (bW l 2)),d,());have E:0<=(tx d.1.1 (bW l 0) (bW l 1) (bW l 2)).1/\(tx d.1.1 (bW l 0) (bW l 1) (bW l 2)).1<4:=by
  have:=aBw d.1.1 (bW l 0) (bW l 1) (bW l 2);grind [tx]
 generalize tx d.1.1 (bW l 0) (bW l 1) (bW l 2)=r at *
 simp;rw[Ca (by simp),bc ⟨E.1,E.2⟩];unfold xW;by_cases e:r.2=0<;>simp[e]
variable {s:bJ}
theorem aBy(h:nP s)(w:Int):(x0 s w).1.length<=2000:=by
 have:=h.IA;grind [x0,ahg]
theorem aBz(x):a8 (af3 NG.sh tD.sh x) (gL 1 VS x):=bx λh=>by
 obtain⟨l,d,⟨⟩⟩:=x;obtain⟨ax,ah⟩:fV d/\ja _ l:=h;unfold af3 gB gA dE;simp (disch:=decide) only [pV ah,zp];rw[show NG.sh (d.1,bW l 0)=mpure (x0 d.1 (bW l 0)) from bP ax.iT _];have:=aBy ax.val (bW l 0);simp only[tK,kF,cp];rw[Ca (show (x0 d.1 (bW l 0)).1.length<=60000 by omega),aN];rfl
def NW(x:z14'):M (z14'):=eE (x.1.length<=3000000) x
theorem aBA(x):a8 (af4 NH.sh NW tD.sh x) (gL 0 IV x):=bx λh=>by
 obtain⟨l,d,⟨⟩⟩:=x;obtain⟨ax,ah⟩:fV d/\ja _ l:=h;have hm:=ah.NT;unfold af4 bw bm bf aR bQ bY be bU cE;rw[show NW (l,())=mpure (l,()) from bP (by grind) _,aN];rw[e2 l (λi o=>((l.length:Int),(i:Int),o++l.drop i,d,())) (λn o=>.aw (o++[n - 1])) (λo=>.aw (o,d,())) (λi o=>o.length=i) [] ?_ rfl ?_ ?_]
 ·rw[ec,r4,aQk,aN,cY,cp];rw[show NH.sh (d.1,l.map (· - 1))=mpure (zl d.1 (l.map (· - 1))) from bP ⟨ax.iT,by grind⟩ _,aN,Ca (by simp),aN];rfl
 ·simp
 ·intro i G o au;have hw:=bs (n:=i+1);have aC:=ah.num l[i] (by simp);have gz:=bs (n:=l[i] - 1);subst au;have dv:o.length<(o++l.drop o.length).length:=by grind
  have az:(o++l.drop o.length).set o.length (l[o.length] - 1)=o++[l[o.length] - 1]++l.drop (o.length+1):=by
   grind [List.drop_eq_getElem_cons]
  refine⟨?_,λbj ef=>?_⟩
  ·simp only[cC,dK dv,hw];simp_all
  grind
 simp
theorem aBB(x):a8 (af5 EP.sh tD.sh x) (gL 0 IW x):=bx λh=>by
 obtain⟨l,d,⟨⟩⟩:=x;obtain⟨ax,ah⟩:=h;unfold af5;rw[cp,show EP.sh d.1=mpure (rB d.1 true) from bP ax.iT _,aN,Ca (by simp),aN];rfl
theorem aBC(x):a8 (af6 B2.sh tD.sh x) (gL 0 IX x):=bx λh=>by
 obtain⟨l,d,⟨⟩⟩:=x;obtain⟨ax,ah⟩:=h;unfold af6;rw[cp,show B2.sh d.1=mpure (kY d.1) from bP ax.iT _,aN,Ca (by simp),aN];rfl
def VY(x:List ag×Unit):M (List ag×Unit):=aq (mN λ(b:Bool)=>b=true->x.1=[]) λ(y:Bool)=>if y=true then mpure ([],()) else ae (cb (Add.add 0 (List.length x.1))) (mpure ([]++x.1,()))
abbrev hJ(t:V):aO:=⟨.slice t,.slice t,λx=>x.length<=3000000,λx=>x⟩
def tE(x:List ag×Unit):M (List ag×Unit):=eE (x.1.length<=3000000) x
theorem zq(x:List ag×Unit):a8 (VY x) (tE x):=td λh=>by
 unfold VY;rw[fN];refine⟨⟨false,by simp⟩,λb U=>?_⟩;change b=true->x.1=[]at U;grind [dO,h5,cb]
theorem aBD(x:z14'):a8 (VY x) (NW x):=zq x
def ahv(z:ag)(x:Int×Int×List ag×Unit):M ((z21')×List ag×Unit):=
 ae (0<=x.1/\x.1<=x.2.1/\x.2.1<=Int.ofNat (List.length x.2.2.1)/\Int.ofNat (List.length x.2.2.1)<=Int.ofNat (List.length x.2.2.1)) (if decide
 (x.1=x.2.1)=true then mpure ((0,List.length x.2.2.1),x.2.2.1,()) else ae ((0:Int)<=0/\0<=x.1/\x.1<=Int.ofNat (List.length x.2.2.1))
 (ae (0<=x.2.1/\x.2.1<=Int.ofNat (List.length x.2.2.1)/\Int.ofNat (List.length x.2.2.1)<=Int.ofNat (List.length x.2.2.1)) (ae (Add.add
 (Int.toNat x.1) (List.length (List.drop (Int.toNat x.2.1) (List.take (Int.toNat (Int.ofNat (List.length x.2.2.1))) x.2.2.1)))<=List.length x.2.2.1)
 (ae (0<=Int.ofNat (Add.add (Int.toNat x.1) (List.length (List.drop (Int.toNat x.2.1) (List.take (Int.toNat (Int.ofNat (List.length x.2.2.1)))
 x.2.2.1))) - Int.toNat 0)/\Int.ofNat (Add.add (Int.toNat x.1) (List.length (List.drop (Int.toNat x.2.1) (List.take (Int.toNat (Int.ofNat (List.length
 x.2.2.1))) x.2.2.1))) - Int.toNat 0)<=Int.ofNat (List.length x.2.2.1)/\Int.ofNat (List.length x.2.2.1)<=Int.ofNat (List.length (List.take
 (Int.toNat x.1) x.2.2.1++List.drop (Int.toNat x.2.1) (List.take (Int.toNat (Int.ofNat (List.length x.2.2.1))) x.2.2.1)++List.drop (Add.add
 (Int.toNat x.1) (List.length (List.drop (Int.toNat x.2.1) (List.take (Int.toNat (Int.ofNat (List.length x.2.2.1))) x.2.2.1)))) x.2.2.1) - Int.toNat
 0)) (ae True (mpure ((Int.toNat 0,Add.add (Int.toNat x.1) (List.length (List.drop (Int.toNat x.2.1) (List.take (Int.toNat (Int.ofNat (List.length
 x.2.2.1))) x.2.2.1)))),List.take (Add.add (Int.toNat 0) (Int.toNat (Int.ofNat (Add.add (Int.toNat x.1) (List.length (List.drop (Int.toNat x.2.1)
 (List.take (Int.toNat (Int.ofNat (List.length x.2.2.1))) x.2.2.1))) - Int.toNat 0)))) (List.take (Int.toNat x.1) x.2.2.1++List.drop (Int.toNat
 x.2.1) (List.take (Int.toNat (Int.ofNat (List.length x.2.2.1))) x.2.2.1)++List.drop (Add.add (Int.toNat x.1) (List.length (List.drop (Int.toNat
 x.2.1) (List.take (Int.toNat (Int.ofNat (List.length x.2.2.1))) x.2.2.1)))) x.2.2.1)++List.replicate (Add.add (Int.toNat 0) (Int.toNat (Int.ofNat
 (List.length x.2.2.1))) - Add.add (Int.toNat 0) (Int.toNat (Int.ofNat (Add.add (Int.toNat x.1) (List.length (List.drop (Int.toNat x.2.1) (List.take
 (Int.toNat (Int.ofNat (List.length x.2.2.1))) x.2.2.1))) - Int.toNat 0)))) z++List.drop (Add.add (Add.add (Int.toNat 0) (Int.toNat (Int.ofNat
 (Add.add (Int.toNat x.1) (List.length (List.drop (Int.toNat x.2.1) (List.take (Int.toNat (Int.ofNat (List.length x.2.2.1))) x.2.2.1))) - Int.toNat
 0)))) (List.length (List.replicate (Add.add (Int.toNat 0) (Int.toNat (Int.ofNat (List.length x.2.2.1))) - Add.add (Int.toNat 0) (Int.toNat (Int.ofNat
 (Add.add (Int.toNat x.1) (List.length (List.drop (Int.toNat x.2.1) (List.take (Int.toNat (Int.ofNat (List.length x.2.2.1))) x.2.2.1))) - Int.toNat
 0)))) z))) (List.take (Int.toNat x.1) x.2.2.1++List.drop (Int.toNat x.2.1) (List.take (Int.toNat (Int.ofNat (List.length x.2.2.1))) x.2.2.1)++
 List.drop (Add.add (Int.toNat x.1) (List.length (List.drop (Int.toNat x.2.1) (List.take (Int.toNat (Int.ofNat (List.length x.2.2.1))) x.2.2.1))))
 x.2.2.1),())))))))
def NX(z:ag)(x:Int×Int×List ag×Unit):M ((z21')×List ag×Unit):=eE (0<=x.1/\x.2.1=x.1+1/\x.1<(x.2.2.1.length:Int)/\x.2.2.1.length<=3000000) ((0,x.2.2.1.length - 1),x.2.2.1.eraseIdx x.1.toNat++[z],())
theorem aBE(z:ag)(x):a8 (ahv z x) (NX z x):=bx λh=>by
 obtain⟨i,j,l,⟨⟩⟩:=x;obtain⟨aW,E,L,an⟩:0<=i/\j=i+1/\i<l.length/\l.length<=3000000:=h;subst E;obtain⟨n,rfl⟩:∃ n:Nat,i=n:=⟨i.toNat,by omega⟩
 have aE:((n:Int)+1).toNat=n+1:=by omega
 unfold ahv;simp only[cC,aPV,aE,aQc,kE,List.length_drop];have bz:n+(l.length - (n+1))=l.length - 1:=by omega
 have c_:(l.take n++l.drop (n+1)++l.drop (l.length - 1))=l.eraseIdx n++l.drop (l.length - 1):=by grind
 have bV:(l.eraseIdx n).length=l.length - 1:=by grind
 have ey:l.length - (l.length - 1)=1:=by omega
 rw[bc (by omega),if_neg (by grind),bc (by omega),bc (by omega),bc (by omega)];rw[bz,bc (by grind),cp];grind
def zr(x:bJ×Unit):M M0:=eE (IN x.1) (lR x.1)
theorem NY{x:z1'}(h:x.length<=2000000):H.vP.sh x=mpure x:=bP (by omega) _
theorem Cc{t:V}{x:(V.slice t).aj}(h:List.length x<=2000000):(hJ t).sh x=mpure x:=bP (by omega) _
theorem ahw{hh:Type}(h:IN s)(fin:bJ->M hh):M7 (hJ mF).sh (hJ nh).sh (hJ lW).sh tE H.vP.sh (hJ pP).sh (hJ pQ).sh (hJ sg).sh s fin=fin s:=by
 obtain⟨⟨cj,dN,hF,H5⟩,L,an,a6,bS,ek,iQ⟩:=h;obtain⟨⟨sp,mk,cut,aS⟩,ad,nn,o7,wu,lI⟩:=s;change mk.length<=2000000 at dN;change nn.length<=2000000 at an;change o7.length<=2000000 at a6;have aM:(hJ mF).sh sp=mpure sp:=Cc cj;have aT:(hJ nh).sh mk=mpure mk:=Cc dN;have b5:(hJ lW).sh aS=mpure aS:=Cc hF;have hC:=NY L;have q4:(hJ pP).sh nn=mpure nn:=Cc an;have xm:(hJ pQ).sh o7=mpure o7:=Cc a6;have Bg:(hJ sg).sh wu=mpure wu:=Cc bS;unfold M7 bw cB bm bf aR bQ bY be bU dE;simp only[aM,aT,b5,kF,cp];rw[eH mk (λi (_)=>((mk.length:Int),(i:Int),cut,ad,nn,o7,wu,lI,0,0,sp,mk,aS,())) (λp b=>.aw b) (λ_=>.aw (cut,ad,nn,o7,wu,lI,0,0,sp,mk,aS,())) () ?_ ?_ ?_]
 ·rw[ec,aN];simp  [hC,q4,xm,Bg,cp];rw[eH nn (λi (_)=>((nn.length:Int),(i:Int),cut,lI,0,0,sp,mk,aS,ad,nn,o7,wu,())) (λp b=>.aw b) (λ_=>.aw (cut,lI,0,0,sp,mk,aS,ad,nn,o7,wu,())) () ?_ ?_ ?_]
  ·rw[ec,aN,cY];rw[eH o7 (λi (_)=>((o7.length:Int),(i:Int),cut,lI,0,0,sp,mk,aS,ad,nn,o7,wu,())) (λp b=>.aw b) (λ_=>.aw (cut,lI,0,0,sp,mk,aS,ad,nn,o7,wu,())) () ?_ ?_ ?_]
   ·simp_all[ec]
   ·rfl
   ·intro i G b;have hw:=bs (n:=i+1);have hc:=NY (iQ _ (amk G));have ua:o7.set i (o7[i].1,o7[i].2)=o7:=List.set_getElem_self G;simp_all
   simp
  ·rfl
  ·intro i G b;have hw:=bs (n:=i+1);have hc:=NY (ek _ (amk G));have ua:nn.set i (nn[i].1,nn[i].2.1,nn[i].2.2.1,nn[i].2.2.2.1,nn[i].2.2.2.2)=nn:=List.set_getElem_self G;simp_all
  simp
 ·rfl
 ·intro i G b;have hw:=bs (n:=i+1);obtain⟨hm,az⟩:=H5 _ (amk G);have hc:tE (mk[i],())=mpure (mk[i],()):=bP (by grind) _;simp only[ed G,hc,aN];rw[eH mk[i] (λj (_)=>(i,(mk.length:Int),(i:Int),(mk[i].length:Int),(j:Int),cut,ad,nn,o7,wu,lI,0,0,sp,(mk,i),aS,mk[i],())) (λp b=>.aw b) (λ_=>.aw (mk.length,i,cut,ad,nn,o7,wu,lI,0,0,sp,(mk,i),aS,mk[i],())) () ?_ ?_ ?_]
  ·simp_all[ec]
  ·rfl
  ·intro j aK b;have hw:=bs (n:=j+1);have hc:=NY (az _ (amk aK));have ua:mk[i].set j (mk[i][j].1,mk[i][j].2.1,mk[i][j].2.2)=mk[i]:=List.set_getElem_self aK;simp_all
  simp
 simp
theorem aBF(x):a8 (ayf (hJ mF).sh (hJ nh).sh (hJ lW).sh tE H.vP.sh (hJ pP).sh (hJ pQ).sh (hJ sg).sh x) (zr x):=bx λh=>ahw h _
abbrev NZ:aO:=⟨nO,nO,IN,λs=>s⟩
theorem aBG(x):a8 (aye (hJ mF).sh (hJ nh).sh (hJ lW).sh tE H.vP.sh (hJ pP).sh (hJ pQ).sh (hJ sg).sh x) (NZ.sh x):=bx λh=>ahw h _
def zt(x:bJ×bH×Unit):M (bd×bH×Unit):=eE (fV x.2.1/\gI x.1) ((so x.2.1 x.1).1,(so x.2.1 x.1).2,())
theorem aBH(x):a8 (afY si.sh x) (zt x):=bx λh=>by
 obtain⟨s,d,⟨⟩⟩:=x;obtain⟨ax,az⟩:=h;unfold afY bm;rw[show si.sh s=mpure (lz s) from bP az _];unfold so;by_cases e:lz s=0<;>simp[e]
theorem aBI(ax:fV d)(az:gI s):zt (s,d,())=mpure ((so d s).1,(so d s).2,()):=bP ⟨ax,az⟩ _
theorem N0(ax:fV d)(s:bJ)(az:gI s):aq (zt (s,d,())) (λy=>mpure (y.1,y.2.1,()))=mpure ((so d s).1,(so d s).2,()):=by grind [aBI,aN]
theorem fV.copy(h:fV d):IN d.1:=aAM h.val
theorem I0(h:fV d):zr (d.1,())=mpure (lR d.1):=bP h.copy _
theorem aBJ(x):a8 (afV EE.sh zr jV.sh x) (gL 4 B6 x):=bx λh=>by
 obtain⟨l,d,⟨⟩⟩:=x;obtain⟨ax,ah⟩:=h;have hc:=ax.copy;have az:iG (sq d.1.1 (bW l 0,bW l 1,bW l 2,bW l 3)):=⟨ax.iT.1.1,ax.iT.1.2.1,by have:=hc.1.2.2.1;grind [sq],ax.iT.1.2.2.2⟩
 unfold afV gB bm aR eB gA dE;rw[I0 ax,aN];simp (disch:=decide) only [pV ah,cp,Cb];rw[bc (by have:=hc.1.2.2.1;grind [cb,lR])];show aq (jV.sh (sq d.1.1 (bW l 0,bW l 1,bW l 2,bW l 3))) _=mpure ((B6 d l).1,(B6 d l).2,());rw[show jV.sh (sq d.1.1 (bW l 0,bW l 1,bW l 2,bW l 3))=mpure (dH (sq d.1.1 (bW l 0,bW l 1,bW l 2,bW l 3))) from bP az _,aN];have hlen:EE.sh (sq d.1.1 (bW l 0,bW l 1,bW l 2,bW l 3),bW l 0)=mpure (ED (sq d.1.1 (bW l 0,bW l 1,bW l 2,bW l 3)) (bW l 0)):=bP az _;grind [lR,sq,tK,kF,cp,B6]
theorem aBK(x):a8 (afX zr zt x) (gL 2 IT x):=bx λh=>by
 obtain⟨l,d,⟨⟩⟩:=x;obtain⟨ax,ah⟩:fV d/\ja _ l:=h;unfold afX eZ bw gB bm aR bU gA;rw[cp,I0 ax,aN];simp (disch:=decide) only [pV ah,zp,ahu,Cb];unfold IT;have aW:=ah.bW 0;have E:=ah.bW 1;by_cases e:bW l 0>=(d.1.2.1.length)
 ·grind [lR]
 ·rw[if_neg (by grind [lR]),if_neg e];have aC:(bW l 0).toNat<d.1.2.1.length:=by omega
  rw[bc ⟨aW.1,by show bW l 0<(d.1.2.1.length);omega⟩,bc ⟨aW.1,by show bW l 0<(d.1.2.1.length);omega⟩];have af:∀ n∈d.1.2.1,0<=n/\n<=10:=λn aC=>by
   have jR:=ax.wq;grind [lz,rA,cJ]
  have U:=af _ (amk aC);have aD:d.1.2.1.getD (bW l 0).toNat 0=d.1.2.1[(bW l 0).toNat]:=by grind
  have hw:=bs (n:=d.1.2.1.getD (bW l 0).toNat 0+bW l 1);have gz:IntKind.wrap .i64 (Add.add ((lR d.1).2.2.2.2.2.1.getD (bW l 0).toNat 0) (bW l 1))=d.1.2.1.getD (bW l 0).toNat 0+bW l 1:=hw;rw[gz];exact N0 ax (d.1.1,d.1.2.1.set (bW l 0).toNat (d.1.2.1.getD (bW l 0).toNat 0+bW l 1),d.1.2.2) ⟨ax.iT.1,by rw[aQx];exact ax.iT.2.1,ax.iT.2.2⟩
theorem aBL(x):a8 (afZ zr zt x) (gL 3 VP x):=bx λh=>by
 obtain⟨l,d,⟨⟩⟩:=x;obtain⟨ax,ah⟩:=h;have hc:=ax.copy;have bS:=hc.2.2.2.2.1;obtain⟨s1,s2,fh,mZ,mJ,wv,wx⟩:=ax.iT;unfold afZ gB aR eB gA;rw[cp,I0 ax,aN];simp (disch:=decide) only [pV ah,Cb];rw[bc (by grind [cb,lR])];exact N0 ax (d.1.1,d.1.2.1,d.1.2.2.1,d.1.2.2.2.1,d.1.2.2.2.2.1++[(bW l 0,bW l 1,bW l 2)],d.1.2.2.2.2.2) ⟨s1,s2,fh,mZ,by grind,wv,wx⟩
theorem aBM(x):a8 (af0 zr zt x) (gL 4 VQ x):=bx λh=>by
 obtain⟨l,d,⟨⟩⟩:=x;obtain⟨ax,ah⟩:=h;have hc:=ax.copy;have bS:=hc.2.2.1;have hm:=ah.NT;have hle:=ah.VU;obtain⟨s1,s2,fh,mZ,mJ,wv,wx⟩:=ax.iT;unfold af0 gB aR eB gA;rw[cp,I0 ax,aN];simp (disch:=decide) only [pV ah,Cb];rw[bc ⟨by decide,by grind,aPP _⟩,bc (by grind [cb,lR])];simp;exact N0 ax (d.1.1,d.1.2.1,d.1.2.2.1++[(bW l 0,bW l 1,bW l 2,bW l 3,l.drop 4)],d.1.2.2.2) ⟨s1,s2,by grind,mZ,mJ,λp ai=>by
  grind,wx⟩
theorem aBN(x):a8 (af1 zr zt x) (gL 5 VR x):=bx λh=>by
 obtain⟨l,d,⟨⟩⟩:=x;obtain⟨ax,ah⟩:=h;have hc:=ax.copy;have bS:=hc.2.2.2.1;have hm:=ah.NT;have hle:=ah.VU;obtain⟨s1,s2,fh,mZ,mJ,wv,wx⟩:=ax.iT;unfold af1 gB aR eB gA;rw[cp,I0 ax,aN];simp (disch:=decide) only [pV ah,Cb];rw[bc ⟨by decide,by grind,aPP _⟩,bc (by grind [cb,lR])];simp;exact N0 ax (d.1.1,d.1.2.1,d.1.2.2.1,d.1.2.2.2.1++[(l.drop 5,(bW l 0,bW l 1),bW l 2,bW l 3,bW l 4)],d.1.2.2.2.2) ⟨s1,s2,fh,by grind,mJ,wv,λp ai=>by
  grind⟩
abbrev VZ:me:=([],(0,0),0,0,0)
theorem aBO(x):a8 (af2 (hJ pQ).sh (NX VZ) x) (gL 1 IU x):=bx λh=>by
 obtain⟨ax,ah⟩:=h;have hc:=ax.copy.2.2.2.1;have aW:=ah.bW 0;unfold af2 gB bm bf aR gA dE;simp (disch:=decide) only [pV ah,Cb];grind [IU,Cc,bs,tK,kF,cp,NX,bP,aN]
theorem ahx{c:H.bg}{m:List H.bI}{v:z1'}(h:(H.qI c m v).2=0):H.dH c=0/\H.dH (H.qI c m v).1=0/\(H.qI c m v).1=H.qH c (H.iN (c.2.1++m)) (H.wk c.2.2.1 v):=by
 unfold H.qI at h ⊢;split at h
 ·omega
 split at h
 ·omega
 split at h
 ·omega
 split at h
 ·omega
 rename_i cr b4 eh gi;rw[if_neg cr,if_neg b4,if_neg eh,if_neg gi];have cT:H.dH c=0:=by omega
 refine⟨cT,?_,rfl⟩;have dt:H.lS c=true:=by grind [H.dH]
 have ei:H.lS (H.qH c m v)=true:=by grind [H.dH]
 have aC:H.nc (H.iN (c.2.1++m))=false:=by
  rw[H.Ef];have:=(H.Ef (c.2.1++m)).1 (by grind);exact λa aY b U=>this a (H.H2 aY) b (H.H2 U)
 have pA:H.lS (H.qH c (H.iN (c.2.1++m)) (H.wk c.2.2.1 v))=true:=by
  unfold H.lS H.vS at dt ei ⊢;simp only[amm,aPZ,aPO,aQo,H.qH]at dt ei ⊢;obtain⟨⟨⟨⟨⟨⟨⟨⟨iy,z2⟩,z3⟩,z4⟩,z5⟩,aM⟩,aT⟩,b5⟩,hC⟩:=dt;simp only[aPU,not_or,Bool.not_eq_true]at gi;refine⟨⟨⟨⟨⟨⟨⟨⟨iy,gi.1⟩,gi.2⟩,z4⟩,z5⟩,aM⟩,λs az=>?_⟩,λn aC=>?_⟩,hC⟩
  ·rcases List.mem_append.1 (H.H2 az) with h | h<;>grind
  ·have:=(List.mem_filter.1 aC).2;grind
 unfold H.dH;rw[if_pos pA,if_neg (by show ¬H.nc (H.iN (c.2.1++m))=true;grind)]
theorem V0(ax:fV d)(m:List H.bI)(v:z1'):fV (wo d m v).2:=by
 unfold wo;split
 ·omega
 ·obtain⟨E,L,an⟩:=ahx (c:=d.2) (m:=m) (v:=v) (by omega);exact⟨ax.iT,ax.wq,L,by rw[an];exact ax.EU⟩
theorem N1(ax:fV d)(az:gI s):fV (so d s).2:=by
 unfold so;split
 ·omega
 ·exact⟨az,by grind,ax.B9,ax.EU⟩
theorem aBP(ax:fV d)(ah:l.length<=10000)(j:Nat):fV (B7 j d l).2:=by
 have hc:=ax.copy;obtain⟨s1,s2,fh,mZ,mJ,wv,wx⟩:=ax.iT;obtain⟨bG,c2,c3,c4,c5,ph,rK⟩:=ax.copy;unfold B7;split<;>try exact ax
 ·exact V0 ax _ _
 ·exact V0 ax _ _
 ·exact V0 ax _ _
 ·unfold B6;split
  ·omega
  split
  ·omega
  refine⟨⟨⟨s1.1,s1.2.1,by have:=hc.1.2.2.1;grind [sq],s1.2.2.2⟩,s2,fh,mZ,mJ,wv,wx⟩,?_,ax.B9,ax.EU⟩;have az:=ax.wq;unfold lz at az ⊢;have:rA (sq d.1.1 (bW l 0,bW l 1,bW l 2,bW l 3),d.1.2)=rA d.1:=rfl;grind
 ·unfold IT;split
  ·omega
  ·exact N1 ax ⟨s1,by grind,fh,mZ,mJ,wv,wx⟩
 ·exact N1 ax ⟨s1,s2,fh,mZ,by grind,wv,wx⟩
 ·exact N1 ax ⟨s1,s2,by grind,mZ,mJ,λp ai=>by
   grind,wx⟩
 ·exact N1 ax ⟨s1,s2,fh,by grind,mJ,wv,λp ai=>by
   grind⟩
 ·unfold IU;split
  ·omega
  ·refine⟨⟨s1,s2,fh,by grind,mJ,wv,λp ai=>wx p (List.mem_of_mem_eraseIdx ai)⟩,?_,ax.B9,ax.EU⟩;have az:=ax.wq;grind [lz,rA,List.mem_of_mem_eraseIdx]
end Go.Fer.W
