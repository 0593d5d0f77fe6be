/- Part 6 of the proof of FilesSeason: shallow programs of Go functions, and what they compute. No condition. -/
import Derived.Test.YtjjgkigajpocoaaGreatDoorFilesSeasonE
import Derived.Lib.AtoiAll
import Derived.Lib.ItoaLen
import Derived.Lib.Join
noncomputable section
set_option linter.unusedVariables false
set_option linter.unusedSimpArgs false
namespace Go.Fer
abbrev bn:Type:=List UInt8
abbrev bG:Type:=bO×H.bd
abbrev MS:Type:=z3'×List (List (Int×z1'×Int×Int))×Int×Int×z3'×z1'×List oY×List mg×List DY×Unit
abbrev Ex:Type:=Int×Bool×Option Nat
abbrev nb(l:List (bn×Ex))(a:bn)(b:Ex):List (bn×Ex):=oL (k:=.str) (v:=.ad (.au (.int .i64) (.au .bool .eW))) l a b
variable (axX:bG->M Int) (axY:bG×Unit->M (bG×Unit)) (axZ:Unit->M (List (bn×Int×Bool×Option Nat))) (ax0:List (bn×Int×Bool×Option Nat)×bn×bG×Unit->M (bn×bG×Unit)) (HN:bO->M Int) (Bt:H.bd->M Int) (UJ:H.bd×List (Int×Int×Int×Int×Int×Int)×z1'->M (H.bd×Int)) (ax1:bO->M bO) (ax2:bn×bn->M (List bn)) (ax3:bn->M (z28')) (ax4:Nat->z1'×bG×Unit->M (bn×bG×Unit)) (UK:List (Int×Int×Int×Int×Int×Int)×z1'×bG×Unit->M (bn×bG×Unit)) (ax5:Int->M bn) (ax6:List bn×bn->M bn) (ax7:List mg->M (List mg)) (ax8:Int×Int×List mg×Unit->M ((z24')×List mg×Unit)) (ax9:H.bd×H.bd->M Bool) (ax_:bZ×bZ->M Bool) (Ig:z1'×z1'->M Bool) (ax':bn->M (List bn)) (aya:bn->M Int) (ayb:Unit->M (List bn×z1'×z1')) (afy:bG×List bn->M Bool) (aOe:Int->M bn) (acQ:bO->M bO) (afs:H.bd->M H.bd) (UL:bG->M Int) (afz:bO->M Bool) (UI:H.bd->M Bool) (Tb:z11'->M Int) (aOf:Unit->M Bool) (aOg:bn×z1'->M bn) (aOh:bG->M bG) (MT:bG×List bn->M (List bn×bG×Int)) (aOi:List bn×Int->M Bool) (afA:bG×bG->M Bool) (aOj:H.bd->M (List bn)) (HQ:H.bd->M Int) (aOk:H.bd×H.bd×Int×Int×Int×Int->M Bool) (Mg:bZ×Int×Int×Int->M (z12')) (Mf:bZ×Int->M (z17')) (Ih:bO×Unit->M (MS)) (DX:z11'->M Int) (MU:bO×bG×Unit->M (bn×bG×Unit)) (aOl:bG×List bn×Int->M Bool) (aOm:Unit->M Bool) (aOn:List bn×List bn->M Bool) (aOo:bn->M bn) (ayc:bn->M (bn×z1'×Bool)) (aOp:bn->M Bool) (aOq:bn×z1'->M bn) (aft UG UH afu:H.bd×Int->M (z17')) (MV:z17'->M bn) (UF:H.bd×Int×Int->M (z19')) (aOr:z1'×z1'->M Bool) (afv:H.bd×Int->M (z1'×z19')) (afB:bO×Int->M (z19')) (afC afD:bO->M (z12')) (aOs:Unit->M bG) (Mi:bO->M Int) (afE:bO×z1'->M (z12')) (ayd:z14'->M (z14')) (y_:Int×z1'->M bn) (MW:z1'->M bn) (aOt:z19'->M bn) (aOu:z17'->M bn) (aOv:z1'->M bn) (c0:z3'->M (z3')) (bE:List (List (z18'))->M (List (List (z18')))) (c2:z3'->M (z3')) (c3:z32'->M (z32')) (c4:z1'->M (z1')) (c5:List oY->M (List oY)) (pk:List mg->M (List mg)) (rC:z6'->M (z6'))
def afF(x:bG):M Int:=
 aq (Mi x.1) λy=>b_ (!(eH y 0)) (HQ x.2) 0 λcg=>if eH y 0||eH cg 0 then mpure 120 else mpure 0
def afG(x:bG×List bn):M (List bn×bG×Int):=
 aq (axX x.1) λy=>bo (y≠0) (mpure ([],((([],[],0,[]),[],[],[],[],0),[],[],[],[],0,0,0,0,0,0,0),y)) (bo (aQ x.2 > 40) (mpure ([],((([],[],0,[]),[],[],[],[],0),[],[],[],[],0,0,0,0,0,0,0),2)) (aq (axY (x.1,())) (λy=>aq (axZ ()) λcg=>bK (λ(A:List (bn×Int×Bool×Option Nat)×List bn×Int×Int×List bn×Int×Int×Int×Int×Int×Int×Int×Int×Int×bG×Unit)=>letI f:=A.2.2.2;letI e:=f.2.2.2.2;letI g:=e.2.2.2.2;bo (f.1<A.2.2.1) (bS f.1 A.2.1 (aq (ax0 (A.1,bz A.2.1 f.1 [],g.2.2.2.1,())) (λy=>eD f.2.1 (bc (A.1,A.2.1,A.2.2.1,a8 f.1,f.2.1++[y.1],f.2.2.1,f.2.2.2.1,e.1,e.2.1,e.2.2.1,e.2.2.2.1,g.1,g.2.1,g.2.2.1,y.2.1,()))))) (bY (f.2.1,f.2.2.1,f.2.2.2.1,e.1,e.2.1,e.2.2.1,e.2.2.2.1,g.1,g.2.1,g.2.2.1,g.2.2.2.1,()))) (cg,x.2,aQ x.2,0,[],0,0,0,0,0,0,0,0,0,y.1,()) λA=>ag True (mpure (A.1,A.2.2.2.2.2.2.2.2.2.2.1,0)))))
def afH(x:bG):M Int:=
 aq (HN x.1) λy=>b_ (!(eH y 0)) (Bt x.2) 0 λcg=>if eH y 0||eH cg 0 then mpure 120 else mpure 0
def afI(x:bG×Unit):M (bG×Unit):=
 letI a:=ax1 x.1.1;aq (UJ (x.1.2,[],[])) λy=>dB a (mpure ((M.val a (([],[],0,[]),[],[],[],[],0),y.1),()))
def aye(x:Unit):M (List (bn×Int×Bool×Option Nat)):=
 mpure (nb (nb (nb (nb (nb (nb (nb (nb (nb (nb (nb (nb (nb (nb (nb (nb (nb (nb (nb (nb [] [108,101,110,100] (5,false,some 87)) [98,97,99,107] (4,false,some 88)) [118,111,105,100] (1,false,some 89)) [108,97,115,116,115] (1,false,some 90)) [102,101,101] (1,false,some 91)) [111,119,101,115] (1,false,some 92)) [104,101,108,100] (1,false,some 93)) [119,104,101,114,101] (2,false,some 94)) [109,105,115,115,105,110,103] (1,false,some 95)) [116,114,105,97,108] (4,false,some 96)) [102,105,116,115] (3,false,some 97)) [115,116,111,99,107] (2,false,some 98)) [99,111,109,101,115] (3,false,some 99)) [112,105,101,99,101] (4,true,some 100)) [119,105,115,104] (5,true,some 101)) [100,114,111,112] (1,false,some 102)) [99,97,110] (1,false,some 103)) [116,97,107,101,115] (0,true,some 104)) [109,111,115,116] (0,false,some 105)) [101,120,116,114,97] (0,false,some 106))
def afJ(x:List (bn×Int×Bool×Option Nat)×bn×bG×Unit):M (bn×bG×Unit):=
 aq (ax2 (x.2.1,[32])) λy=>letI j:=aQ y;letI i:=gz y [];letI g:=List.drop (Int.toNat 1) (y.take j.toNat);gy y (bg (!(hi (λp=>b3 i p.1) x.1).isSome||decide (cD j 1<((hi (λp=>b3 i p.1) x.1).getD (0,false,none)).1)||c' (cD j 1) ((hi (λp=>b3 i p.1) x.1).getD (0,false,none)).1&&!((hi (λp=>b3 i p.1) x.1).getD (0,false,none)).2.1) (mpure ([63],x.2.2.1,())) (cm (ag ((0:Int)<=1/\1<=j/\j<=j) (dG (λA=>letI h:=A.2.2;bo (h.1<A.2.1) (bS h.1 A.1 (aq (ax3 (bz A.1 h.1 [])) (λy=>bg (!y.2) (cS ([63],h.2.2.2.1,())) (eD h.2.2.1 (bc (A.1,A.2.1,a8 h.1,h.2.1,h.2.2.1++[y.1],h.2.2.2.1,())))))) (bY (h.2.1,h.2.2.1,h.2.2.2.1,()))) (g,aQ g,0,(hi (λp=>b3 i p.1) x.1).getD (0,false,none),[],x.2.2.1,()))) (λA=>aq (ag (∃ (k:Nat),List.Mem k [87,88,89,90,91,92,93,94,95,96,97,98,99,100,101,102,103,104,105,106]/\A.1.2.2=some k) (ax4 (A.1.2.2.getD 0) (A.2.1,A.2.2.1,()))) λy=>mpure (y.1,y.2.1,()))))
def afK(x:z1'×bG×Unit):M (bn×bG×Unit):=
 letI c:=x.1.getD;letI b:=aQ x.1;gy x.1 (ag ((0:Int)<=1/\1<b) (ag ((0:Int)<=2/\2<b) (ag ((0:Int)<=3/\3<b) (ag ((0:Int)<=4/\4<b) (aq (UK ([(gz x.1 0,c (Int.toNat 1) 0,c (Int.toNat 2) 0,1,c (Int.toNat 3) 0,c (Int.toNat 4) 0)],[],x.2.1,())) (λy=>mpure (y.1,y.2.1,())))))))
def afL(x:List (Int×Int×Int×Int×Int×Int)×z1'×bG×Unit):M (bn×bG×Unit):=
 ag True (aq (UJ (x.2.2.1.2,x.1,x.2.1)) (λy=>bo (y.2≠0) (mpure ([110,111],x.2.2.1,())) (ag True (mpure ([111,107],(x.2.2.1.1,y.1),())))))
def afM(x:z1'×bG×Unit):M (bn×bG×Unit):=
 gy x.1 (ag ((0:Int)<=1/\1<aQ x.1) (ag ((0:Int)<=2/\2<aQ x.1) (ag ((0:Int)<=3/\3<aQ x.1) (aq (UK ([(gz x.1 0,x.1.getD (Int.toNat 1) 0,x.1.getD (Int.toNat 2) 0,2,x.1.getD (Int.toNat 3) 0,0)],[],x.2.1,())) (λy=>mpure (y.1,y.2.1,()))))))
def afN(x:z1'×bG×Unit):M (bn×bG×Unit):=
 aq (UK ([],x.1,x.2.1,())) λy=>mpure (y.1,y.2.1,())
def afO(x:z1'×bG×Unit):M (bn×bG×Unit):=
 letI c:=aft (x.2.1.2,gz x.1 0);letI b:=MV (M.val c ((0,0),0));ag True (gy x.1 (dB c (dB b (mpure (M.val b [],x.2.1,())))))
def afP(x:z17'):M bn:=
 aq (y_ (x.2,[x.1.1,x.1.2])) λy=>mpure y
def afQ(x:Int×z1'):M bn:=
 bo (x.1=0) (aq (MW x.2) (λy=>mpure y)) (bo (x.1=3) (mpure [110,111,110,101]) (mpure [110,111]))
def afR(x:z1'):M bn:=
 bo (aQ x=0) (mpure [110,111,110,101]) (bK (λA=>letI c:=A.2.2;bo (c.1<A.2.1) (bS c.1 A.1 (aq (ax5 (bz A.1 c.1 0)) (λy=>eD c.2.1 (bc (A.1,A.2.1,a8 c.1,c.2.1++[y],()))))) (bY (c.2.1,()))) (x,aQ x,0,[],()) (λA=>aq (ax6 (A.1,[32])) λy=>mpure y))
def afS(x:z1'×bG×Unit):M (bn×bG×Unit):=
 letI c:=UG (x.2.1.2,gz x.1 0);letI b:=MV (M.val c ((0,0),0));ag True (gy x.1 (dB c (dB b (mpure (M.val b [],x.2.1,())))))
def afT(x:z1'×bG×Unit):M (bn×bG×Unit):=
 letI c:=UH (x.2.1.2,gz x.1 0);letI b:=MV (M.val c ((0,0),0));ag True (gy x.1 (dB c (dB b (mpure (M.val b [],x.2.1,())))))
def afU(x:z1'×bG×Unit):M (bn×bG×Unit):=
 letI c:=afu (x.2.1.2,gz x.1 0);letI b:=MV (M.val c ((0,0),0));ag True (gy x.1 (dB c (dB b (mpure (M.val b [],x.2.1,())))))
def afV(x:z1'×bG×Unit):M (bn×bG×Unit):=
 letI d:=UF (x.2.1.2,gz x.1 0,x.1.getD (Int.toNat 1) 0);letI c:=M.val d ([],0);letI f:=(!(eH c.2 0))=true;letI e:=aQ c.1;ag True (gy x.1 (ag ((0:Int)<=1/\1<aQ x.1) (dB d (ag (f->(f/\True)/\((0:Int)<=0/\0<e)/\True) (if eH c.2 0||decide (gz c.1 (0:Int)>=0) then aq (y_ (c.2,c.1)) λy=>mpure (y,x.2.1,()) else bo (e=1) (mpure ([115,104,111,112],x.2.1,())) (ag ((0:Int)<=1/\1<=e/\e<=e) (aq (MW ((List.take (Int.toNat e) c.1).drop (Int.toNat 1))) (λy=>ag (cb (Add.add (Add.add (Add.add (Add.add (Add.add (Add.add 0 1) 1) 1) 1) 1) y.length)) (mpure ([115,104,111,112,32]++y,x.2.1,()))))))))))
def afW(x:z1'×bG×Unit):M (bn×bG×Unit):=
 letI c:=afv (x.2.1.2,gz x.1 0);letI b:=M.val c ([],[],0);ag True (gy x.1 (dB c (bo (b.2.2≠0) (aq (y_ (b.2.2,[])) (λy=>mpure (y,x.2.1,()))) (aq (MW b.1) (λy=>ag (cb (Add.add y.length (Add.add (Add.add (Add.add 0 1) 1) 1))) (aq (MW b.2.1) (λcg=>ag (cb (Add.add (y++[32,47,32]).length cg.length)) (mpure (y++[32,47,32]++cg,x.2.1,())))))))))
def afX(x:z1'×bG×Unit):M (bn×bG×Unit):=
 ag True (aq (Ih (x.2.1.1,())) (λy=>letI f:=y.2.2.2.2;letI e:=(y.1,y.2.1,y.2.2.1,f.1++[(gz x.1 0,x.1.getD (Int.toNat 1) 0,x.1.getD (Int.toNat 2) 0,x.1.getD (Int.toNat 3) 0)]);letI g:=Mf (e,gz x.1 0);ag True (gy x.1 (ag ((0:Int)<=1/\1<aQ x.1) (ag ((0:Int)<=2/\2<aQ x.1) (ag ((0:Int)<=3/\3<aQ x.1) (eD f.1 (ag True (ag True (aq (DX e) (λcg=>bo (cg≠0) (mpure ([110,111],x.2.1,())) (ag True (gy x.1 (dB g (bo ((M.val g ((0,0),0)).2≠0) (mpure ([108,105,97,114],x.2.1,())) (ag True (mpure ([111,107],((e,f.2.1,f.2.2.1,f.2.2.2.1,f.2.2.2.2.1,y.2.2.2.1),x.2.1.2),()))))))))))))))))))
def afY(x:z1'×bG×Unit):M (bn×bG×Unit):=
 letI c:=Mg (x.2.1.1.1,gz x.1 0,x.1.getD (Int.toNat 1) 0,x.1.getD (Int.toNat 2) 0);ag True (gy x.1 (ag ((0:Int)<=1/\1<aQ x.1) (ag ((0:Int)<=2/\2<aQ x.1) (dB c (bo ((M.val c (0,0)).2≠0) (aq (y_ ((M.val c (0,0)).2,[])) (λy=>mpure (y,x.2.1,()))) (ag (0<=(M.val c (0,0)).1/\(M.val c (0,0)).1<Int.ofNat 4) (mpure (List.getD [[],[115,117,114,101,108,121],[110,101,118,101,114],[112,101,114,104,97,112,115]] (Int.toNat (M.val c (0,0)).1) [],x.2.1,()))))))))
def afZ(x:z1'×bG×Unit):M (bn×bG×Unit):=
 letI f:=gz x.1 0;ag True (aq (Ih (x.2.1.1,())) (λy=>letI e:=y.2.2.2.2.2;gy x.1 (bo (f>=aQ e.1) (mpure ([110,111],x.2.1,())) (gy x.1 (bS f e.1 (ag ((0:Int)<=1/\1<aQ x.1) (bS f e.1 (aq (MU (((y.1,y.2.1,y.2.2.1,y.2.2.2.2.1),List.set e.1 f.toNat (e0 (bz e.1 f 0) (x.1.getD (Int.toNat 1) 0)),e.2.1,e.2.2.1,e.2.2.2.1,y.2.2.2.1),x.2.1,())) (λy=>mpure (y.1,y.2.1,()))))))))))
def af0(x:bO×bG×Unit):M (bn×bG×Unit):=
 aq (HN x.1) λy=>bo (y≠0) (mpure ([110,111],x.2.1,())) (ag True (mpure ([111,107],(x.1,x.2.1.2),())))
def af1(x:z1'×bG×Unit):M (bn×bG×Unit):=
 ag True (aq (Ih (x.2.1.1,())) (λy=>letI c:=y.2.2.2.2.2;gy x.1 (ag ((0:Int)<=1/\1<aQ x.1) (ag ((0:Int)<=2/\2<aQ x.1) (eD c.2.2.2.1 (aq (MU (((y.1,y.2.1,y.2.2.1,y.2.2.2.2.1),c.1,c.2.1,c.2.2.1,c.2.2.2.1++[(gz x.1 0,x.1.getD (Int.toNat 1) 0,x.1.getD (Int.toNat 2) 0)],y.2.2.2.1),x.2.1,())) (λy=>mpure (y.1,y.2.1,()))))))))
def af2(x:z1'×bG×Unit):M (bn×bG×Unit):=
 letI c:=aQ x.1;ag True (aq (Ih (x.2.1.1,())) (λy=>letI d:=y.2.2.2.2.2;gy x.1 (ag ((0:Int)<=1/\1<c) (ag ((0:Int)<=2/\2<c) (ag ((0:Int)<=3/\3<c) (ag ((0:Int)<=4/\4<=c/\c<=c) (eD d.2.1 (aq (MU (((y.1,y.2.1,y.2.2.1,y.2.2.2.2.1),d.1,d.2.1++[(gz x.1 0,x.1.getD (Int.toNat 1) 0,x.1.getD (Int.toNat 2) 0,x.1.getD (Int.toNat 3) 0,List.drop (Int.toNat 4) (x.1.take c.toNat))],d.2.2.1,d.2.2.2.1,y.2.2.2.1),x.2.1,())) (λy=>mpure (y.1,y.2.1,()))))))))))
def af3(x:z1'×bG×Unit):M (bn×bG×Unit):=
 letI e:=x.1.getD;letI c:=aQ x.1;ag True (aq (Ih (x.2.1.1,())) (λy=>letI d:=y.2.2.2.2.2;gy x.1 (ag ((0:Int)<=1/\1<c) (ag ((0:Int)<=2/\2<c) (ag ((0:Int)<=3/\3<c) (ag ((0:Int)<=4/\4<c) (ag ((0:Int)<=5/\5<=c/\c<=c) (eD d.2.2.1 (aq (MU (((y.1,y.2.1,y.2.2.1,y.2.2.2.2.1),d.1,d.2.1,d.2.2.1++[(List.drop (Int.toNat 5) (x.1.take c.toNat),(gz x.1 0,e (Int.toNat 1) 0),e (Int.toNat 2) 0,e (Int.toNat 3) 0,e (Int.toNat 4) 0)],d.2.2.2.1,y.2.2.2.1),x.2.1,())) (λy=>mpure (y.1,y.2.1,())))))))))))
def af4(x:z1'×bG×Unit):M (bn×bG×Unit):=
 letI f:=gz x.1 0;letI e:=x.2.1.1.2;letI d:=ax7 e.2.2.1;gy x.1 (ag True (bo (f>=aQ e.2.2.1) (mpure ([110,111],x.2.1,())) (ag True (dB d (gy x.1 (gy x.1 (aq (ax8 (f,a8 f,M.val d [],())) (λy=>ag True (mpure ([111,107],((x.2.1.1.1,e.1,e.2.1,List.drop y.1.1 (y.2.1.take y.1.2),e.2.2.2),x.2.1.2),()))))))))))
def af5(x:z1'×bG×Unit):M (bn×bG×Unit):=
 letI b:=afB (x.2.1.1,gz x.1 0);ag True (gy x.1 (dB b (aq (y_ ((M.val b ([],0)).2,(M.val b ([],0)).1)) (λy=>mpure (y,x.2.1,())))))
def af6(x:z1'×bG×Unit):M (bn×bG×Unit):=
 aq (ayd (x.1,())) λy=>bK (λA=>letI c:=A.2;bo (c.1<A.1) (bS c.1 c.2.1 (bS c.1 c.2.1 (bc (A.1,a8 c.1,List.set c.2.1 c.1.toNat (cD (bz c.2.1 c.1 0) 1),c.2.2.1,())))) (bY (c.2.1,c.2.2.1,()))) (aQ y.1,0,y.1,x.2.1,()) λA=>ag True (aq (afE (A.2.1.1,A.1)) (λy=>aq (y_ (y.2,[y.1])) λy=>mpure (y,A.2.1,())))
def af7(x:z1'×bG×Unit):M (bn×bG×Unit):=
 ag True (aq (afC x.2.1.1) (λy=>aq (y_ (y.2,[y.1])) λy=>mpure (y,x.2.1,())))
def af8(x:z1'×bG×Unit):M (bn×bG×Unit):=
 ag True (aq (afD x.2.1.1) (λy=>aq (y_ (y.2,[y.1])) λy=>mpure (y,x.2.1,())))
def af9(x:bG×bG):M Bool:=
 letI z:=x.2.1.2.2;letI w:=x.1.1.2.2;aq (ax9 (x.1.2,x.2.2)) λy=>b_ (!(!y)) (ax_ (x.1.1.1,x.2.1.1)) false λcg=>b_ (!(!y||!cg)) (Ig (x.1.1.2.1,x.2.1.2.1)) false λei=>bg (!y||!cg||!ei||eH (aQ w.1) (aQ z.1)||eH (aQ w.2.1) (aQ z.2.1)||eH (aQ w.2.2.1) (aQ z.2.2.1)||eH w.2.2.2 z.2.2.2) gp (bK (λA=>letI cw:=A.2.2.1;letI t:=bz A.2.1.2.2.1 A.1 (0,0,0,0,[]);letI s:=bz cw.2.2.1 A.1 (0,0,0,0,[]);letI o:=eH t.1 s.1||eH t.2.1 s.2.1||eH t.2.2.1 s.2.2.1||eH t.2.2.2.1 s.2.2.2.1;fO A.1 A.2.1.2.2.1 (bS A.1 cw.2.2.1 (b_ (!o) (Ig (t.2.2.2.2,s.2.2.2.2)) false (λy=>bg (o||!y) (cS false) (bc (a8 A.1,A.2.1,cw,()))))) (bY (A.2.1,cw,()))) (0,x.1.1,x.2.1,()) (λA=>bK (λA=>letI cY:=A.2.2.1;letI q:=bz A.2.1.2.2.2.1 A.1 ([],(0,0),0,0,0);letI p:=bz cY.2.2.2.1 A.1 ([],(0,0),0,0,0);fO A.1 A.2.1.2.2.2.1 (bS A.1 cY.2.2.2.1 (aq (Ig (q.1,p.1)) (λy=>bg (!y||!(b3 q.2.1.1 p.2.1.1&&b3 q.2.1.2 p.2.1.2)||eH q.2.2.1 p.2.2.1||eH q.2.2.2.1 p.2.2.2.1||eH q.2.2.2.2 p.2.2.2.2) (cS false) (bc (a8 A.1,A.2.1,cY,()))))) (bY (A.2.1,cY,()))) (0,A.1,A.2.1,()) λA=>bK (λA=>letI v:=bz A.2.1.2.2.2.2.1 A.1 (0,0,0);letI u:=bz A.2.2.1.2.2.2.2.1 A.1 (0,0,0);fO A.1 A.2.1.2.2.2.2.1 (bS A.1 A.2.2.1.2.2.2.2.1 (bg (!(b3 v.1 u.1&&(b3 v.2.1 u.2.1&&b3 v.2.2 u.2.2))) (cS false) (bc (a8 A.1,A.2.1,A.2.2.1,())))) (bY ())) (0,A.1,A.2.1,()) λA=>h0))
def af_(x:H.bd×H.bd):M Bool:=
 letI t:=x.2.2.2.2.2.2;letI s:=x.1.2.2.2.2.2;letI q:=eH (aQ x.1.1) (aQ x.2.1)||eH (aQ x.1.2.1) (aQ x.2.2.1);b_ (!q) (Ig (x.1.2.2.1,x.2.2.2.1)) false λy=>bg (q||!y||eH (aQ x.1.2.2.2.1) (aQ x.2.2.2.2.1)||!(b3 x.1.2.2.2.2.1 x.2.2.2.2.2.1&&(b3 s.1 t.1&&(b3 s.2.1 t.2.1&&(b3 s.2.2.1 t.2.2.1&&(b3 s.2.2.2.1 t.2.2.2.1&&(b3 s.2.2.2.2.1 t.2.2.2.2.1&&b3 s.2.2.2.2.2 t.2.2.2.2.2))))))) gp (bK (λA=>letI cw:=A.2.2.1;letI z:=bz A.2.1.1 A.1 (0,0);letI w:=bz cw.1 A.1 (0,0);fO A.1 A.2.1.1 (bS A.1 cw.1 (bg (!(b3 z.1 w.1&&b3 z.2 w.2)) (cS false) (bc (a8 A.1,A.2.1,cw,())))) (bY (A.2.1,cw,()))) (0,x.1,x.2,()) (λA=>bK (λA=>letI cY:=A.2.2.1;letI p:=bz A.2.1.2.1 A.1 (0,0,0,0,0,0);letI o:=bz cY.2.1 A.1 (0,0,0,0,0,0);fO A.1 A.2.1.2.1 (bS A.1 cY.2.1 (bg (!(b3 p.1 o.1&&(b3 p.2.1 o.2.1&&(b3 p.2.2.1 o.2.2.1&&(b3 p.2.2.2.1 o.2.2.2.1&&(b3 p.2.2.2.2.1 o.2.2.2.2.1&&b3 p.2.2.2.2.2 o.2.2.2.2.2)))))) (cS false) (bc (a8 A.1,A.2.1,cY,())))) (bY (A.2.1,cY,()))) (0,A.1,A.2.1,()) λA=>bK (λA=>letI v:=bz A.2.1.2.2.2.1 A.1 (0,0);letI u:=bz A.2.2.1.2.2.2.1 A.1 (0,0);fO A.1 A.2.1.2.2.2.1 (bS A.1 A.2.2.1.2.2.2.1 (bg (!(b3 v.1 u.1&&b3 v.2 u.2)) (cS false) (bc (a8 A.1,A.2.1,A.2.2.1,())))) (bY ())) (0,A.1,A.2.1,()) λA=>h0))
def af'(x:z1'×z1'):M Bool:=
 bo (aQ x.1≠aQ x.2) gp (bK (λA=>letI c:=A.2.2.1;fO c A.1 (bS c A.2.1 (bo (bz A.1 c 0≠bz A.2.1 c 0) (cS false) (bc (A.1,A.2.1,a8 c,())))) (bY ())) (x.1,x.2,0,()) (λA=>h0))
def aga(x:bZ×bZ):M Bool:=
 bg (eH (aQ x.1.1) (aQ x.2.1)||eH (aQ x.1.2.1) (aQ x.2.2.1)||eH x.1.2.2.1 x.2.2.2.1||eH (aQ x.1.2.2.2) (aQ x.2.2.2.2)) gp (bK (λA=>letI t1:=A.2.2.1;letI aM:=bz A.2.1.1 A.1 (0,0,0,0);letI i1:=bz t1.1 A.1 (0,0,0,0);fO A.1 A.2.1.1 (bS A.1 t1.1 (bg (!(b3 aM.1 i1.1&&(b3 aM.2.1 i1.2.1&&(b3 aM.2.2.1 i1.2.2.1&&b3 aM.2.2.2 i1.2.2.2)))) (cS false) (bc (a8 A.1,A.2.1,t1,())))) (bY (A.2.1,t1,()))) (0,x.1,x.2,()) (λA=>bK (λA=>letI h':=A.2.2.1;letI E:=bz A.2.1.2.2.2 A.1 (0,0,0,0);letI f1:=bz h'.2.2.2 A.1 (0,0,0,0);fO A.1 A.2.1.2.2.2 (bS A.1 h'.2.2.2 (bg (!(b3 E.1 f1.1&&(b3 E.2.1 f1.2.1&&(b3 E.2.2.1 f1.2.2.1&&b3 E.2.2.2 f1.2.2.2)))) (cS false) (bc (a8 A.1,A.2.1,h',())))) (bY (A.2.1,h',()))) (0,A.1,A.2.1,()) λA=>bK (λA=>letI s1:=bz A.2.2.1.2.1 A.1 [];letI ck:=A.2.1.2.1;iA A.1 ck (cm (bS A.1 ck (bS A.1 A.2.2.1.2.1 (bo (aQ (bz ck A.1 [])≠aQ s1) (iO (cS false)) (dG (λA=>letI m1:=A.2.2;letI dx:=m1.2.1;letI e8:=(0<=dx/\dx<aQ m1.1)/\True;letI jQ:=(0<=dx/\dx<aQ A.2.1)/\True;letI d1:=bz A.2.1 dx (0,[],0,0);letI bE:=bz m1.1 dx (0,[],0,0);letI cO:=eH d1.1 bE.1;letI eB:=Ig (d1.2.1,bE.2.1);letI cY:=(!cO)=true;letI fx:=cY->cY/\True/\True;letI cw:=cO||!(b3 d1.2.2.1 bE.2.2.1&&b3 d1.2.2.2 bE.2.2.2);letI aB:=(!cw)=true;letI mC:=aB->aB/\True/\True;fO dx A.2.1 (bS dx m1.1 (ag (cY->(cY/\cY)/\jQ) (ag fx (ag fx (ag (cY->(cY/\cY)/\e8) (ag fx (ag fx (ag (cY->(cY/\cY)/\True/\True) (ag (True/\(cO=false->cY)) (ag (aB->(aB/\aB)/\jQ) (ag mC (ag mC (ag (aB->(aB/\aB)/\e8) (ag mC (ag mC (ag (aB->(aB/\aB/\True)/\eB.fm/\True) (ag mC (ag (True/\(cw=false->aB)) (bg (cw||pE eB) (iO (iO (cS false))) (bc (A.1,A.2.1,m1.1,a8 dx,m1.2.2.1,m1.2.2.2.1,()))))))))))))))))))))) (bY (A.1,m1.2.2.1,m1.2.2.2.1,()))) (A.1,bz ck A.1 [],s1,0,A.2.1,A.2.2.1,()))))) (λA=>bc (a8 A.1,A.2.1,A.2.2.1,()))) (bY ())) (0,A.1,A.2.1,()) λA=>h0))
def agb(x:bG×List bn):M Bool:=
 aq (afz x.1.1) λy=>b_ (!y) (UI x.1.2) false λcg=>bg (y||cg||c' (aQ x.2) 60) h0 (bK (λA=>letI q:=A.2.2.2;letI m:=q.2.2;letI s:=m.2.1.1.2.2.1;iA m.1 s (bS m.1 s (bc (A.1,A.2.1,A.2.2.1,q.1,e0 q.2.1 (aQ (bz s m.1 (0,0,0,0,[])).2.2.2.2),a8 m.1,m.2.1,()))) (bY (A.1,A.2.1,A.2.2.1,q.1,q.2.1,m.2.1,()))) (x.2,aQ x.1.1.2.2.2.1,aQ x.1.1.2.2.1,aQ x.1.1.2.2.2.2.1,0,0,x.1,()) (λA=>bK (λA=>letI u:=A.1;letI t:=A.2.1;letI n:=A.2.2;letI l:=n.2.2;letI p:=l.2.2.1;letI o:=l.2.1;iA o u (cm (bS o u (bo (aQ (bz u o []) > 80) (iO (cS true)) (bS o u (aq (ayc (bz u o [])) (λy=>bg (!y.2.2) (bc (u,t,n.1,n.2.1,l.1,o,p,())) (bo (y.1=[119,105,115,104]) (bc (u,a8 t,n.1,n.2.1,l.1,o,p,())) (bo (y.1=[112,105,101,99,101]) (bc (u,t,a8 n.1,n.2.1,e0 l.1 (cD (aQ y.2.1) 4),o,p,())) (bo (y.1=[99,111,109,101,115]) (bc (u,t,n.1,a8 n.2.1,l.1,o,p,())) (bc (u,t,n.1,n.2.1,l.1,o,p,())))))))))) (λA=>letI v:=A.2.2.2;bc (A.1,A.2.1,A.2.2.1,v.1,v.2.1,a8 v.2.2.1,v.2.2.2.1,()))) (bY (t,n.1,n.2.1,l.1,p,()))) (A.1,A.2.1,A.2.2.1,A.2.2.2.1,A.2.2.2.2.1,0,A.2.2.2.2.2.1,()) λA=>aq (UL A.2.2.2.2.1) λy=>mpure (b3 y 0&&(c' A.1 3||c' A.2.1 4||c' A.2.2.1 3||c' A.2.2.2.1 4))))
def agc(x:bn):M (bn×z1'×Bool):=
 aq (ax' x) λy=>bK (λA=>fO A.2.1 A.1 (aq (aya (bz A.1 A.2.1 [])) (λy=>bo (y<0) (cS ([],[],false)) (eD A.2.2.1 (bc (A.1,a8 A.2.1,A.2.2.1++[y],()))))) (bY (A.1,A.2.2.1,()))) (y,1,[],()) λA=>aq (ayb ()) λy=>bK (λA=>letI q:=A.2.2.2;letI v:=q.2.1;letI u:=(0<=v/\v<aQ q.1)/\True;letI t:=decide (bz q.1 v (0:Int)<0);letI o:=decide (aQ q.2.2.1>=bz A.2.2.1 v 0);letI s:=o=true;letI p:=(o&&!t)=true;letI w:=p->p/\True/\True;fO v A.2.1 (gy A.1 (bo (bz A.2.1 v []=gz A.1 []) (gy A.1 (bS v A.2.2.1 (ag (s->(s/\s)/\u) (ag (s->s/\True/\True) (ag (s->(s/\True)/\True/\True) (ag (s->True/\True/\s) (ag w (ag (p->(p/\p)/\u) (ag w (ag (p->(p/\p)/\True/\True) (ag (s->(s/\(t=false->p))/\True/\True) (ag (True/\(s->s)) (cS (gz A.1 [],q.2.2.1,o&&(t||decide (aQ q.2.2.1<=bz q.1 v 0)))))))))))))))) (bc (A.1,A.2.1,A.2.2.1,q.1,a8 v,q.2.2.1,())))) (bY ())) (A.1,y.1,y.2.1,y.2.2,0,A.2.1,()) λA=>mpure ([],[],false)
def agd(x:bn):M (List bn):=
 bK (λA=>letI l:=A.2.1;letI k:=A.2.2.1;letI j:=List.drop l.toNat (A.1.take (a8 l).toNat);letI i:=cD (aQ k) 1;iA l A.1 (cm (bS l A.1 (bo (Int.ofNat (bz A.1 l 0).1.1.1=32) (eD k (bc (A.1,l,k++[[]],()))) (bS i k (ag (0<=l/\l<=a8 l/\a8 l<=aQ A.1) (ag (cb (Add.add (bz k i []).length j.length)) (bS i k (bc (A.1,l,List.set k i.toNat (bz k i []++j),())))))))) (λA=>bc (A.1,a8 A.2.1,A.2.2.1,()))) (bY (k,()))) (x,0,[[]],()) λA=>mpure A.1
def age(x:bn):M Int:=
 letI m:=c' (aQ x) 1;letI j:=b3 (aQ x) 0||c' (aQ x) 6;ag ((!j&&m)=true->((!j&&m)=true/\True)/\((0:Int)<=0/\0<aQ x)/\True) (bg (j||m&&b3 (Int.ofNat (gz x 0).1.1.1) 48) (mpure (-1)) (bK (λA=>letI l:=A.2.2.1;letI i:=Int.ofNat (bz A.1 l 0).1.1.1;letI k:=(!(eV i 48))=true;fO l A.1 (ag (k->(k/\k)/\(0<=l/\l<aQ A.1)/\True) (bg (eV i 48||c' i 57) (cS (-1)) (bS l A.1 (bc (A.1,e0 (IntKind.wrap .i64 (10*A.2.1)) (IntKind.wrap .i64 (IntKind.wrap .u8 (i-48))),e0 l 1,()))))) (bY (A.2.1,()))) (x,0,0,()) (λA=>mpure A.1)))
def ayf(x:Unit):M (List bn×z1'×z1'):=
 mpure ([[108,101,110,100],[98,97,99,107],[118,111,105,100],[108,97,115,116,115],[102,101,101],[111,119,101,115],[104,101,108,100],[119,104,101,114,101],[109,105,115,115,105,110,103],[116,114,105,97,108],[102,105,116,115],[115,116,111,99,107],[99,111,109,101,115],[112,105,101,99,101],[119,105,115,104],[100,114,111,112],[99,97,110],[116,97,107,101,115],[109,111,115,116],[101,120,116,114,97]],[5,4,1,1,1,1,1,2,1,4,3,2,3,4,5,1,1,0,0,0],[5,4,1,1,1,1,1,2,1,4,3,2,3,-1,-1,1,1,-1,0,0])
def MX{hj:Type}(c0:z3'->M (z3'))(bE:List (List (z18'))->M (List (List (z18'))))(c2:z3'->M (z3'))(c3:z32'->M (z32'))(c4:z1'->M (z1'))(c5:List oY->M (List oY))(pk:List mg->M (List mg))(rC:z6'->M (z6'))(x:bO)(fin:bO->M hj):M hj:=
 ag True (dB (c0 x.1.1) (ag True (dB (bE x.1.2.1) (ag True (dB (c2 x.1.2.2.2) (ag True (ag True (ag True (cm (ag True (dG (λ(A:Int×Int×Int×z1'×List oY×List mg×z6'×Int×Int×Int×z3'×List (List (Int×z1'×Int×Int))×z3'×Unit)=>letI aS:=A.2;letI nt:=aS.2.2.2;letI s1:=aS.1.toNat;letI fx:=nt.2.2.2;letI iy:=fx.2.2.2;bo (aS.1<A.1) (cm (ag True (bS aS.1 iy.2.1 (ag True (ag (s1=s1) (aq (c3 (bz iy.2.1 aS.1 [],())) (λy=>ag True (ag (s1=s1) (ag True (ag (s1=s1) (dG (λA=>letI eB:=A.2.2.2.2;letI b2:=eB.2.2.2;letI i1:=b2.2.2.2;letI cO:=i1.2.2.2.2;letI bt:=cO.2.2.1;letI jQ:=bz bt eB.1 (0,[],0,0);bo (eB.1<A.2.2.2.1) (ag True (ag (A.1=cO.1.2) (ag True (ag (A.1=cO.1.2) (bS eB.1 bt (dB (c4 jQ.2.1) (bS eB.1 bt (bc (A.1,A.2.1,A.2.2.1,A.2.2.2.1,a8 eB.1,eB.2.1,eB.2.2.1,b2.1,b2.2.1,b2.2.2.1,i1.1,i1.2.1,i1.2.2.1,i1.2.2.2.1,cO.1,cO.2.1,List.set bt eB.1.toNat (jQ.1,M.val (c4 jQ.2.1) [],jQ.2.2),()))))))))) (bY (A.2.1,A.2.2.1,eB.2.1,eB.2.2.1,b2.1,b2.2.1,b2.2.2.1,i1.1,i1.2.1,i1.2.2.1,i1.2.2.2.1,cO.1,cO.2.1,bt,()))) (s1,A.1,aS.1,aQ y.1,0,aS.2.1,aS.2.2.1,nt.1,nt.2.1,nt.2.2.1,fx.1,fx.2.1,fx.2.2.1,iy.1,(iy.2.1,s1),iy.2.2.1,y.1,()))))))))))) (λA=>letI f2:=A.2.2.2.2;letI e8:=f2.2.2.2;letI ec:=e8.2.2.2;bc (A.1,a8 A.2.1,A.2.2.1,A.2.2.2.1,f2.1,f2.2.1,f2.2.2.1,e8.1,e8.2.1,e8.2.2.1,ec.1,List.set ec.2.1.1 ec.2.1.2 ec.2.2.2.1,ec.2.2.1,()))) (bY (aS.2.1,aS.2.2.1,nt.1,nt.2.1,nt.2.2.1,fx.1,fx.2.1,fx.2.2.1,iy.1,iy.2.1,iy.2.2.1,()))) (aQ (M.val (bE x.1.2.1) []),0,x.1.2.2.1,x.2.1,x.2.2.1,x.2.2.2.1,x.2.2.2.2.1,x.2.2.2.2.2,0,0,M.val (c0 x.1.1) [],M.val (bE x.1.2.1) [],M.val (c2 x.1.2.2.2) [],()))) (λA=>letI L:=A.2.2;letI cf:=L.2.2;letI gB:=cf.2.2.2;dB (c4 A.2.1) (dB (c5 L.1) (dB (pk L.2.1) (dB (rC cf.1) (bK (λA=>letI i2:=A.2;letI t1:=i2.2.2.2;letI mC:=t1.2.2.2.2;letI d2:=mC.2.2;letI m1:=bz d2.1 i2.1 (0,0,0,0,[]);bo (i2.1<A.1) (bS i2.1 d2.1 (dB (c4 m1.2.2.2.2) (bS i2.1 d2.1 (bc (A.1,a8 i2.1,i2.2.1,i2.2.2.1,t1.1,t1.2.1,t1.2.2.1,t1.2.2.2.1,mC.1,mC.2.1,List.set d2.1 i2.1.toNat (m1.1,m1.2.1,m1.2.2.1,m1.2.2.2.1,M.val (c4 m1.2.2.2.2) []),d2.2.1,d2.2.2.1,()))))) (bY (i2.2.1,i2.2.2.1,t1.1,t1.2.1,t1.2.2.1,t1.2.2.2.1,mC.1,mC.2.1,d2.1,d2.2.1,d2.2.2.1,()))) (aQ (M.val (c5 L.1) []),0,A.1,cf.2.1,cf.2.2.1,gB.1,gB.2.1,gB.2.2.1,gB.2.2.2.1,M.val (c4 A.2.1) [],M.val (c5 L.1) [],M.val (pk L.2.1) [],M.val (rC cf.1) [],()) (λA=>letI m2:=A.2.2.2;letI v1:=m2.2.2.2;bK (λA=>letI oh:=A.2;letI h':=oh.2.2.2;letI aM:=h'.2.2.2.2;letI fe:=aM.2.2.2;letI ck:=bz fe.1 oh.1 ([],(0,0),0,0,0);bo (oh.1<A.1) (bS oh.1 fe.1 (dB (c4 ck.1) (bS oh.1 fe.1 (bc (A.1,a8 oh.1,oh.2.1,oh.2.2.1,h'.1,h'.2.1,h'.2.2.1,h'.2.2.2.1,aM.1,aM.2.1,aM.2.2.1,List.set fe.1 oh.1.toNat (M.val (c4 ck.1) [],ck.2),fe.2.1,()))))) (bY (oh.2.1,oh.2.2.1,h'.1,h'.2.1,h'.2.2.1,h'.2.2.2.1,aM.1,aM.2.1,aM.2.2.1,fe.1,fe.2.1,()))) (aQ v1.2.2.2.1,0,A.1,A.2.1,A.2.2.1,m2.1,m2.2.1,m2.2.2.1,v1.1,v1.2.1,v1.2.2.1,v1.2.2.2.1,v1.2.2.2.2.1,()) λA=>letI mw:=A.2.2.2.2.2;fin ((A.2.2.2.2.1,mw.1,A.1,mw.2.1),mw.2.2.1,mw.2.2.2.1,mw.2.2.2.2.1,mw.2.2.2.2.2.1,A.2.1))))))))))))))))
def lN(s:bO):MS:=(s.1.1,s.1.2.1,s.1.2.2.1,s.2.2.2.2.2,s.1.2.2.2,s.2.1,s.2.2.1,s.2.2.2.1,s.2.2.2.2.1,())
def ayg(x:bO):M bO:=MX c0 bE c2 c3 c4 c5 pk rC x mpure
def ayh(x:bO×Unit):M MS:=MX c0 bE c2 c3 c4 c5 pk rC x.1 λs=>mpure (lN s)
end Go.Fer
namespace Go.Fer
variable (aOw:bO->M Bool) (aOx:Unit->M Bool) (aOy:bO×Unit->M (at6)) (aOz:bO×bO->M Bool) (acQ:bO->M (bO)) (afC afD:bO->M (z12')) (afB:bO×Int->M (z19')) (aOA:bO×Int->M (z12')) (afz:bO->M Bool) (HN Mi:bO->M Int) (aOB aOC:bO×Int×Int->M (z12')) (aOD:bO×Int->M (z19')) (aOE:z1'×z1'->M Bool) (aOF:bO×bO->M Bool) (aud:bO->M (z12')) (aOG:bO×Int->M (z12')) (aOH:bO->M (z12')) (aOI:bO->M (z19')) (aOJ:z19'->M Bool) (aOK:bO×z1'->M Int) (aug:bO×z1'->M Bool) (aOL:bO×z1'->M Int) (aOM afE:bO×z1'->M (z12')) (auh:bO×z1'->M Bool) (auc:bO->M Int) (aON:Unit->M (bO)) (acP:z11'->M Bool) (at5:Unit->M bZ)
def agf(x:bO):M Bool:=
 aq (acP x.1) λy=>if y||c' (aQ x.2.1) 40||c' (aQ x.2.2.1) 40||c' (aQ x.2.2.2.1) 40||c' (aQ x.2.2.2.2.1) 40 then h0 else bK (λA=>fO A.1 A.2.1.2.2.1 (bo (aQ (bz A.2.1.2.2.1 A.1 (0,0,0,0,[])).2.2.2.2 > 40) (cS true) (bc (a8 A.1,A.2.1,()))) (bY (A.2.1,()))) (0,x,()) λA=>bK (λA=>fO A.1 A.2.1.2.2.2.1 (bo (aQ (bz A.2.1.2.2.2.1 A.1 ([],(0,0),0,0,0)).1 > 40) (cS true) (bc (a8 A.1,A.2.1,()))) (bY (A.2.1,()))) (0,A.1,()) λA=>aq (Mi A.1) λy=>bo (y≠0) gp (bK (λA=>letI e:=A.2.2.1;fO A.2.1 e.2.2.1 (bc (e0 A.1 (aQ (bz e.2.2.1 A.2.1 (0,0,0,0,[])).2.2.2.2),a8 A.2.1,e,())) (bY (A.1,e,()))) (0,0,A.1,()) (λA=>mpure (c' (aQ A.2.1.2.2.2.1) 3||c' (aQ A.2.1.2.2.1) 4||c' (aQ A.2.1.2.2.2.2.1) 3||c' A.1 4)))
end Go.Fer
namespace Go.Fer
abbrev bH:V:=.int .i64
abbrev dY:V:=.bool
abbrev hK:V:=.slice bH
abbrev o0:V:=.ad (.au bH bH)
abbrev mF:V:=.ad (.au bH (.au bH o0))
abbrev tm:V:=.ad (.au bH (.au hK o0))
abbrev nc:V:=.ad (.slice tm)
abbrev lT:V:=.ad (.au bH (.au bH (.au bH bH)))
abbrev nd:V:=.ad (.au (.slice mF) (.au (.slice nc) (.au bH (.slice lT))))
attribute [simp] vH S6 xw ff Fz Pu iE kp rV me lK cK uD dd kV S5 aF.pF
abbrev dv:aN:=⟨.au bH (.au bH bH),dY,λ_=>True,λx=>decide (x.2.1<=x.1)&&decide (x.1<=x.2.2)⟩
theorem ayi(x):a6 (atK x) (dv.sh x):=bx λ_=>rfl
abbrev r3:aN:=⟨.au hK bH,dY,λx=>x.1.length<2 ^ 63,λx=>x.1.contains x.2⟩
abbrev UM:Type:=z30'
abbrev BJ:Type:=z18'
abbrev pM:Type:=z30'
def iR(w:bZ):Prop:=w.1.length<2 ^ 63/\w.2.1.length<2 ^ 63/\w.2.2.2.length<2 ^ 63/\∀ m∈w.2.1,m.length<2 ^ 63/\∀ s∈m,s.2.1.length<2 ^ 63
def iS(w:bZ)(n:Int):Bool:=decide (0<=n)&&decide (n<(w.1.length:Int))
def tn(w:bZ)(n:Int):Bool:=decide (0<=n)&&decide (n<(w.2.1.length:Int))
def lr(w:bZ)(m:Int):List BJ:=w.2.1.getD m.toNat []
def kN(w:bZ)(m k:Int):Bool:=tn w m&&(decide (0<=k)&&decide (k<((lr w m).length:Int)))
variable {w:bZ}
theorem xL{n:Int}:iS w n=true<->0<=n/\n<(w.1.length:Int):=by simp[iS]
theorem UN{n:Int}:tn w n=true<->0<=n/\n<(w.2.1.length:Int):=by simp[tn]
variable {m:Int}{k:Int}
theorem Ey:kN w m k=true<->(0<=m/\m<(w.2.1.length:Int))/\0<=k/\k<((lr w m).length:Int):=by simp[kN,tn]
theorem MY(hw:iR w)(m:Int):(lr w m).length<2 ^ 63:=by
 unfold lr;rw[amp];cases h:w.2.1[m.toNat]? with
 | none=>simp
 | some x=>exact (hw.2.2.2 x (aQx h)).1
theorem y'(n m:Int):decide (n<=m - 1)=decide (n<m):=by
 grind
abbrev r7:aN:=⟨.au nd bH,dY,λx=>iR x.1,λx=>iS x.1 x.2⟩
theorem agh(w:bZ)(n:Int)(h:iR w):Tc dv.sh (w,n)=mpure (iS w n):=by
 unfold Tc aQ cD;have ah:=h.1;have hw:=bp (n:=(w.1.length:Int) - 1);simp[aN.sh,dv,hw,iS,y']
theorem ayj(x):a6 (Tc dv.sh x) (r7.sh x):=bx λh=>agh x.1 x.2 h
abbrev Ez:aN:=⟨.au nd bH,dY,λx=>iR x.1,λx=>tn x.1 x.2⟩
theorem ayk(w:bZ)(n:Int)(h:iR w):Tf dv.sh (w,n)=mpure (tn w n):=by
 unfold Tf aQ cD;have ah:=h.2.1;have hw:=bp (n:=(w.2.1.length:Int) - 1);simp[aN.sh,dv,hw,tn,y']
theorem ayl(x):a6 (Tf dv.sh x) (Ez.sh x):=bx λh=>ayk x.1 x.2 h
abbrev uK:aN:=⟨.au nd (.au bH bH),dY,λx=>iR x.1,λx=>kN x.1 x.2.1 x.2.2⟩
theorem agi(w:bZ)(m k:Int)(h:iR w):Mb dv.sh Ez.sh (w,m,k)=mpure (kN w m k):=by
 unfold Mb b_ bz aQ cD;have ah:=MY h m;have hw:=bp (n:=((lr w m).length:Int) - 1);unfold lr at hw;simp only[aN.sh,dv,Ez,ff,me,ct,hw,y',bb h];rw[bb,bb (by simp)]
 ·simp only[kN,lr];simp
 ·intro hm;exact⟨⟨hm,hm⟩,UN.1 hm,trivial⟩
theorem aym(x):a6 (Mb dv.sh Ez.sh x) (uK.sh x):=bx λh=>agi x.1 x.2.1 x.2.2 h
def za(s:z12'):Bool:=(decide (0<=s.1)&&decide (s.1<=s.2))&&decide (s.2<=999)
abbrev rl:aN:=⟨o0,dY,λ_=>True,za⟩
theorem agj(s:z12'):Th dv.sh s=mpure (za s):=by
 unfold Th ht;simp[aN.sh,dv,za]
theorem ayn(x):a6 (Th dv.sh x) (rl.sh x):=bx λ_=>agj x
def vT(l:z1'):Bool:=(List.range (l.length - 1)).all λi=>decide (l.getD i 0<l.getD (i+1) 0)
abbrev xM:aN:=⟨hK,dY,λx=>x.length<2 ^ 63,vT⟩
theorem agk(l:z1')(h:l.length<2 ^ 63):Te l=mpure (vT l):=by
 unfold Te fO bz bo a8 bK cS bY bc h0 bS cD;rw[ev (List.range (l.length - 1)) (λi (_:Unit)=>(l,((i+1:Nat):Int),())) (λi b=>if (decide (l.getD i 0<l.getD (i+1) 0))=true then .next b else .done (.done false)) (λ_=>.next ()) () ?_ ?_ ?_]
 ·rw[L7];unfold vT;cases (List.range (l.length - 1)).all λi=>decide (l.getD i 0<l.getD (i+1) 0)<;>simp
 ·simp
 ·intro i G b;have dR:i+1<l.length:=by grind
  have hw:=bp (n:=(i:Int)+1+1);have gF:=bp (n:=(i:Int)+1 - 1);have aB:((i:Int)+1).toNat=i+1:=by omega
  have bt:((i:Int)+1 - 1).toNat=i:=by omega
  have ck:(0:Int)<=(i:Int)+1/\(i:Int)+1<(l.length:Int):=by omega
  have c8:(0:Int)<=(i:Int)+1 - 1/\(i:Int)+1 - 1<(l.length:Int):=by omega
  simp only[ct,Int.natCast_add,Int.cast_ofNat_Int,hw,gF,ck,c8,bb,aB,bt,dd,aPC,amq,if_true,aK,aRd,aQJ,Int.natCast_one];generalize l.getD i 0=aI;generalize l.getD (i+1) 0=B;by_cases hc:aI<B
  ·simp[hc,Int.not_le.2 hc]
  ·simp[hc,Int.not_lt.1 hc]
 ·intro b;have:¬(((List.range (l.length - 1)).length:Int)+1<(l.length:Int)):=by grind
  simp[this];omega
theorem ayo(x):a6 (Te x) (xM.sh x):=bx λh=>agk x h
def tp(n:Int):Bool:=decide (0<=n)&&decide (n<=9)
def r8(s:BJ):Bool:=s.2.1.all tp&&(tp s.1&&decide ((s.2.1.length:Int)<=4)&&vT s.2.1&&za s.2.2)
def uL(s:UM):Bool:=tp s.1&&tp s.2.1&&za s.2.2
def v7(w:bZ)(t:pM):Bool:=iS w t.1&&kN w t.2.1 t.2.2.1&&(decide (0<=t.2.2.2)&&decide (t.2.2.2<=1))
def tq(m:List BJ):Bool:=!decide ((m.length:Int) > 4)&&m.all r8
def zb(w:bZ):Bool:=!(decide ((w.1.length:Int) > 10)||decide ((w.2.1.length:Int) > 6)||!(decide (0<=w.2.2.1)&&decide (w.2.2.1<=99))||decide ((w.2.2.2.length:Int) > 30))
def nf(w:bZ):Bool:=zb w&&w.1.all uL&&w.2.1.all tq&&w.2.2.2.all (v7 w)
abbrev v8:aN:=⟨tm,dY,λx=>x.2.1.length<2 ^ 63,r8⟩
theorem ayp(s:BJ)(h:s.2.1.length<2 ^ 63):Ti xM.sh dv.sh rl.sh s=mpure (r8 s):=by
 unfold Ti ht fO b_ bz a8 aQ bK cS bY bc;rw[ev s.2.1 (λi (_:Unit)=>((i:Int),s,())) (λn b=>if tp n=true then .next b else .done (.done false)) (λ_=>.next (s,())) () ?_ ?_ ?_]
 ·rw[L7];unfold r8;cases s.2.1.all tp with
  | false=>simp
  | true=>
   simp only[aN.sh,dv,xM,rl,bb h,tp,if_true,aK,cK,ff,me,cj,ct,h,aP8,aQP];simp
 ·rfl
 ·intro i G b;have hw:=bp (n:=(i:Int)+1);simp[aN.sh,dv,G,hw,tp];grind
 simp
theorem ayq(x):a6 (Ti xM.sh dv.sh rl.sh x) (v8.sh x):=bx λh=>ayp x h
abbrev zc:aN:=⟨nd,dY,iR,nf⟩
theorem ayr(w:bZ)(h:iR w):Tg r7.sh uK.sh dv.sh rl.sh v8.sh w=mpure (nf w):=by
 have ay:=h;obtain⟨E,L,ak,aZ⟩:=h;unfold Tg c' iA fO b_ bz cm bg bo a8 aQ bK cS iO bY bc gp h0 bS;simp only[aN.sh,dv,me,ff,aP8,cj,ct,vH];split
 ·rename_i hc;have:zb w=false:=by unfold zb;grind
  simp[nf,this]
 ·rename_i hc;have df:zb w=true:=by unfold zb;grind
  have aOO:w.2.1.length<=6:=by grind
  rw[ev w.1 (λi (_:Unit)=>((i:Int),w,())) (λn b=>if (!tp n.1||!tp n.2.1||!za n.2.2)=true then .done (.done false) else .next b) (λ_=>.next (w,())) () ?_ ?_ ?_]
  ·rw[mf (q:=uL) _ _ (λt=>by simp only[uL,Bool.not_and])];cases kS:w.1.all uL with
   | false=>simp[nf,kS]
   | true=>
    simp only[aK,if_true,cK];rw[ev w.2.1 (λi (_:Unit)=>((i:Int),w,())) (λm b=>if tq m=true then .next b else .done (.done false)) (λ_=>.next (w,())) () ?_ ?_ ?_]
    ·rw[L7];cases aX:w.2.1.all tq with
     | false=>simp[nf,aX]
     | true=>
      simp only[aK,if_true,cK];rw[ev w.2.2.2 (λi (_:Unit)=>((i:Int),w,())) (λt b=>if (!iS w t.1||!kN w t.2.1 t.2.2.1||!(decide (0<=t.2.2.2)&&decide (t.2.2.2<=1)))=true then .done (.done false) else .next b) (λ_=>.next ()) () ?_ ?_ ?_]
      ·rw[mf (q:=v7 w) _ _ (λt=>by simp only[v7,Bool.not_and])];cases kC:w.2.2.2.all (v7 w)<;>simp[nf,kS,aX,kC,df]
      ·rfl
      ·intro i G b;have hw:=bp (n:=(i:Int)+1);simp only[ct,dP G,if_true,d_ G,dt G,cj,aN.sh,r7,uK,ff,me,ay,aP8,vH,aK,dd,hw];exact pG (mk:=λ_:Unit=>((i:Int)+1,w,()))
      simp
    ·rfl
    ·intro i G b;have hw:=bp (n:=(i:Int)+1);obtain⟨mY,cS⟩:=aZ w.2.1[i] (amm G);simp only[ct,Int.ofNat_lt,G,aRd,if_true,d_ G,Int.natCast_nonneg,aQJ,cj];by_cases hlen:(w.2.1[i].length:Int) > 4
     ·simp[hlen,tq]
     ·simp only[hlen,aQe,aml,aPA];rw[ev w.2.1[i] (λk (_:Unit)=>((i:Int),(k:Int),w,())) (λs b=>if (!r8 s)=true then .done (.done (.done (.done false))) else .next b) (λ_=>.next ((i:Int),w,())) () ?_ ?_ ?_]
      ·rw[mf (q:=r8) _ _ (λ_=>rfl)];cases UO:w.2.1[i].all r8<;>simp[tq,UO,hlen,hw]
      ·rfl
      ·intro k an b;have lS:=bp (n:=(k:Int)+1);have Ii:=cS w.2.1[i][k] (amm an);simp only[ct,dP an,dP G,if_true,d_ G,d_ an,dt G,dt an,cj,v8,ff,Ii,bb Ii,aK,dd,lS];exact pG (mk:=λ_:Unit=>((i:Int),(k:Int)+1,w,()))
      simp_all
    simp
  ·rfl
  ·intro i G b;have hw:=bp (n:=(i:Int)+1);simp only[ct,dP G,if_true,d_ G,dt G,cj,aN.sh,rl,ff,me,aP8,vH,aK,dd,hw,Bool.not_not];exact pG (mk:=λ_:Unit=>((i:Int)+1,w,()))
  simp
theorem ays(x):a6 (Tg r7.sh uK.sh dv.sh rl.sh v8.sh x) (zc.sh x):=bx λh=>ayr x h
abbrev tr:pM:=(0,0,0,0)
def pN(a b:pM):Bool:=decide (a.1=b.1)&&decide (a.2.1=b.2.1)&&decide (a.2.2.1=b.2.2.1)&&decide (a.2.2.2≠b.2.2.2)
def qq(l:List pM):Bool:=(List.range l.length).all λi=>(List.range i).all λk=>!pN (l.getD k tr) (l.getD i tr)
def dJ(w:bZ):Int:=if nf w=true then (if qq w.2.2.2=true then 0 else 71) else 70
theorem agl{a b:Nat}(h:a<b):((0:Int)<=(a:Int)/\(a:Int)<(b:Int))=True:=dt h
abbrev jX:aN:=⟨nd,bH,iR,dJ⟩
theorem ayt(w:bZ)(h:iR w):Td zc.sh w=mpure (dJ w):=by
 have ay:=h;obtain⟨E,L,ak,aZ⟩:=h;unfold Td b3 iA eH bz bg bo a8 bK cS iO bY bc bS;simp only[aN.sh,ff,bb ay];unfold dJ;cases hw:nf w with
 | false=>simp
 | true=>
  rw[ev (List.range w.2.2.2.length) (λi (_)=>((i:Int),w,())) (λi b=>if (List.range i).any (λk=>pN (w.2.2.2.getD k tr) (w.2.2.2.getD i tr))=true then .done (.done (71)) else .next b) (λ_=>.next ()) () ?_ ?_ ?_]
  ·rw[mf (q:=λi=>(List.range i).all λk=>!pN (w.2.2.2.getD k tr) (w.2.2.2.getD i tr)) _ _ (λi=>S7 (λk=>by simp) _)];have e:((List.range w.2.2.2.length).all λi=>(List.range i).all λk=>!pN (w.2.2.2.getD k tr) (w.2.2.2.getD i tr))=qq w.2.2.2:=rfl;rw[e];cases qq w.2.2.2<;>simp
  ·rfl
  ·intro i G b;have G:i<w.2.2.2.length:=by grind
   have lU:=bp (n:=i+1);simp only[ct,dP G,aPC];rw[ev (List.range i) (λk (_)=>((i:Int),(k:Int),w,())) (λk b=>if pN (w.2.2.2.getD k tr) (w.2.2.2.getD i tr)=true then .done (.done (.done (.done (71)))) else .next b) (λ_=>.next (i,w,())) () ?_ ?_ ?_]
   ·rw[s_];cases (List.range i).any (λk=>pN (w.2.2.2.getD k tr) (w.2.2.2.getD i tr))<;>simp[lU]
   ·rfl
   ·intro k an b;have an:k<i:=by grind
    have o1:k<w.2.2.2.length:=by omega
    have lS:=bp (n:=k+1);simp only[dP an,aPC,agl o1,agl G,cj,aK,dd,lS];exact pG (mk:=λ_=>((i:Int),(k:Int)+1,w,()))
   simp
  simp
theorem ayu(x):a6 (Td zc.sh x) (jX.sh x):=bx λh=>ayt x h
def js(w:bZ)(i:Int):UM:=w.1.getD i.toNat (0,0,0,0)
def zd(w:bZ)(m k:Int):BJ:=(lr w m).getD k.toNat (0,[],0,0)
variable {i:Int}
theorem ayv(h:iS w i=true):js w i∈w.1:=by
 rw[xL]at h;exact Bo h.1 h.2
theorem UP(h:kN w m k=true):lr w m∈w.2.1:=by
 rw[Ey]at h;exact Bo h.1.1 h.1.2
theorem agm(h:kN w m k=true):zd w m k∈lr w m:=by
 rw[Ey]at h;exact Bo h.2.1 h.2.2
theorem EA(h:nf w=true):zb w=true/\(∀ s∈w.1,uL s=true)/\(∀ m∈w.2.1,tq m=true)/\∀ t∈w.2.2.2,v7 w t=true:=by
 simp  [nf,aP4]at h;grind
theorem Ij(h:nf w=true):w.1.length<=10/\w.2.1.length<=6/\(0<=w.2.2.1/\w.2.2.1<=99)/\w.2.2.2.length<=30:=by
 have:=(EA h).1;simp[zb]at this;omega
theorem ayw(h:nf w=true)(hm:kN w m k=true):(lr w m).length<=4:=by
 have:=(EA h).2.2.1 _ (UP hm);simp[tq]at this;omega
theorem ayx(h:nf w=true)(hm:kN w m k=true):r8 (zd w m k)=true:=by
 have:=(EA h).2.2.1 _ (UP hm);simp only[tq,amn,aP4]at this;exact this.2 _ (agm hm)
theorem ayy{s:BJ}(h:r8 s=true):0<=s.2.2.1/\s.2.2.1<=s.2.2.2/\s.2.2.2<=999:=by
 simp  [r8,za,amq]at h;omega
theorem agn(h:nf w=true)(G:iS w i=true):0<=(js w i).2.2.1/\(js w i).2.2.1<=(js w i).2.2.2/\(js w i).2.2.2<=999:=by
 have:=(EA h).2.1 _ (ayv G);simp  [uL,za,amq]at this;omega
theorem ayz(h:nf w=true){t:pM}(aG:t∈w.2.2.2):iS w t.1=true/\kN w t.2.1 t.2.2.1=true:=by
 have:=(EA h).2.2.2 _ aG;simp  [v7]at this;grind
def BK(w:bZ)(i n m k:Int):Bool:=
 decide ((js w i).1=(zd w m k).1)&&(zd w m k).2.1.contains (js w i).2.1&&(decide ((zd w m k).2.2.1<=n)&&decide (n<=(zd w m k).2.2.2+w.2.2.1))
def tt(w:bZ):Prop:=iR w/\nf w=true
abbrev Ik:aN:=⟨.au nd (.au bH (.au bH (.au bH bH))),dY,λx=>tt x.1/\iS x.1 x.2.1=true/\kN x.1 x.2.2.2.1 x.2.2.2.2=true,λx=>BK x.1 x.2.1 x.2.2.1 x.2.2.2.1 x.2.2.2.2⟩
theorem ayA(w:bZ)(i n m k:Int)(hw:tt w)(G:iS w i=true)(hm:kN w m k=true):acw r3.sh dv.sh (w,i,n,m,k)=mpure (BK w i n m k):=by
 unfold acw e0 b3 b_ bz bS;have ck:=xL.1 G;have c8:=Ey.1 hm;have fH:=ayy (ayx hw.2 hm);have P7:=(Ij hw.2).2.2.1;have Ii:=(hw.1.2.2.2 _ (UP hm)).2 _ (agm hm);have lU:=bp (n:=(zd w m k).2.2.2+w.2.2.1);simp only[zd,lr]at *
 simp only[aN.sh,me,ff,ct,ck,c8,aQJ,cj,aP8,dd,lU,xw,Ii];rfl
def ze(w:bZ)(i n:Int)(t:pM):Bool:=!(decide (t.1=i)&&!decide (BK w i n t.2.1 t.2.2.1=decide (t.2.2.2=1)))
def UQ(w:bZ)(i n:Int):Bool:=w.2.2.2.all (ze w i n)&&(decide ((js w i).2.2.1<=n)&&decide (n<=(js w i).2.2.2))
def jZ(w:bZ)(i:Int):z1':=(fP (js w i).2.2.1 (js w i).2.2.2).filter (UQ w i)
theorem ago(hw:tt w)(G:iS w i=true):(jZ w i).length<=1000:=by
 have:=agn hw.2 G;have L:=aP0 (UQ w i) (fP (js w i).2.2.1 (js w i).2.2.2);rw[DP]at L;unfold jZ;omega
theorem ayB{i:Nat}(h:i<w.1.length):iS w (i:Int)=true:=by rw[xL];omega
def zf(w:bZ):Bool:=(List.range w.1.length).all λi=>!decide (((jZ w (i:Int)).length:Int)=0)
def fQ(w:bZ)(cB:Bool):Int:=if dJ w≠0 then dJ w else if cB=false then 1 else if zf w=true then 0 else 3
theorem UR(h:dJ w=0):nf w=true:=by
 unfold dJ at h;grind
theorem Il{cB:Bool}(h:fQ w cB=0):dJ w=0/\cB=true/\zf w=true:=by
 unfold fQ at h;grind
theorem agp{cB:Bool}(ay:iR w)(h:fQ w cB=0):tt w:=⟨ay,UR (Il h).1⟩
theorem ayC(h:zf w=true)(G:iS w i=true):0<(jZ w i).length:=by
 rw[xL]at G;have:=List.all_eq_true.1 h i.toNat (by grind);grind
def EB(w:bZ)(i:Int):z17':=if fQ w (iS w i)≠0 then ((0,0),fQ w (iS w i)) else (((jZ w i).getD 0 0,(jZ w i).getD ((jZ w i).length - 1) 0),0)
abbrev EC:aN:=⟨.au nd bH,.au o0 bH,λx=>iR x.1,λx=>EB x.1 x.2⟩
def MZ(some many:Int):Int:=if some=many then 1 else if some=0 then 2 else 3
abbrev M0:aN:=⟨.au bH bH,bH,λ_=>True,λx=>MZ x.1 x.2⟩
theorem agq{af:Type}{p:af->Bool}:∀ (l:List af) (n:Int),l.foldl (λn x=>if p x=true then n+1 else n) n=n+(l.countP p:Int)
 | [],n=>by simp
 | x::l,n=>by
  simp;rw[agq l];grind
def xN(w:bZ)(i m k:Int):Int:=MZ ((jZ w i).countP λn=>BK w i n m k:Int) ((jZ w i).length:Int)
def tu(w:bZ)(i m k:Int):z12':=if fQ w (iS w i&&kN w m k)≠0 then (0,fQ w (iS w i&&kN w m k)) else (xN w i m k,0)
abbrev ED:aN:=⟨.au nd (.au bH (.au bH bH)),.au bH bH,λx=>iR x.1,λx=>tu x.1 x.2.1 x.2.2.1 x.2.2.2⟩
section
variable {af:Type}
def Bv(d:af)(x:List af×(af->M Bool)):M Int:=
 aq (dG (λ(A:List af×(af->M Bool)×Int×Int×Unit)=>if decide (A.2.2.2.1<A.2.2.1)=true then ag (0<=A.2.2.2.1/\
 A.2.2.2.1<Int.ofNat (List.length A.1)) (aq (A.2.1 (List.getD A.1 (Int.toNat A.2.2.2.1) d)) λy=>if y=true then aq (aq (mpure
 A.2.2.2.1) λr=>mpure (aF.done r)) λr=>mpure (aF.done r) else mpure (aF.next (A.1,A.2.1,A.2.2.1,IntKind.wrap .i64 (Add.add
 A.2.2.2.1 1),()))) else aq (mpure (aF.next ())) λr=>mpure (aF.done r)) (x.1,x.2,Int.ofNat (List.length x.1),0,())) (aF.gb λ(A
 : Unit)=>mpure (-1))
def HT(c:List af×(af->M Bool)->M Int)(x:List af×(af->M Bool)):M Bool:=aq (c x) λy=>mpure (decide (y>=0))
def agr(c:List af×(af->M Bool)->M Bool)(bE:af×Option (af->M Bool)->M Bool)(x:List af×(af->M Bool)):M Bool:=
 aq (c (x.1,λjo=>bE (jo,some x.2))) λy=>mpure !y
def ags(x:af×Option (af->M Bool)):M Bool:=aq (Option.getD x.2 (λx=>{ fm:=False,a7:=λx=>False }) x.1) λy=>mpure !y
def jK(p:af->Bool):List af->Int->Int
 | [],_=>-1
 | x::l,i=>if p x=true then i else jK p l (i+1)
theorem D0(p:af->Bool):∀ (l:List af) (i:Int),0<=i->(decide (jK p l i>=0))=l.any p
 | [],i,_=>by rfl
 | x::l,i,h=>by
  simp only[jK,aQC];by_cases ao:p x=true
  ·grind
  ·have:=D0 p l (i+1) (by omega);grind
theorem D1(p:af->Bool):∀ (l:List af) (i:Int),fb (λx (i:Int)=>if p x=true then (.done (.done i):aF Int (aF Unit Int)) else .next (i+1)) (λ_=>.next ()) l i=if l.any p=true then .done (jK p l i) else .next ()
 | [],i=>by rfl
 | x::l,i=>by
  simp only[fb,aQC,jK];by_cases ao:p x=true
  ·grind
  ·have:=D1 p l (i+1);grind
theorem HU{p:af->Bool}:∀ (l:List af) (i:Int),¬l.any p=true->jK p l i=-1
 | [],_,_=>rfl
 | x::l,i,aA=>by
  simp only[aQC,aPO,not_or]at aA;simp only[jK,aA.1,aml,aPA];exact HU l _ aA.2
theorem TR(d:af)(l:List af)(f:af->M Bool)(h:l.length<2 ^ 63)(ax:∀ y∈l,∃ b,f y=mpure b):Bv d (l,f)=mpure (jK (λy=>(f y).val false) l 0):=by
 unfold Bv;rw[e6 l (λi (b:Int)=>(l,f,(l.length:Int),b,())) (λy (i:Int)=>if (f y).val false=true then (.done (.done i):aF Int (aF Unit Int)) else .next (i+1)) (λ_=>.next ()) (λi b=>b=(i:Int)) 0 ?_ ?_ ?_ ?_]
 ·rw[D1 (λy=>(f y).val false)];by_cases aW:(l.any λy=>(f y).val false)=true
  ·simp[aW]
  ·have:jK (λy=>(f y).val false) l 0=-1:=by
    have:∀ (l:List af) (i:Int),¬(l.any λy=>(f y).val false)=true->jK (λy=>(f y).val false) l i=-1:=by
     intro l;induction l with
     | nil=>intro i _;rfl
     | cons x l aO=>
      intro i aA;simp only[aQC,aPO,not_or]at aA;simp only[jK,aA.1,aml,aPA];grind
    grind
   simp[aW,this]
 ·rfl
 ·rfl
 ·intro i G b U;subst U;have hw:=bp (n:=(i:Int)+1);refine⟨?_,λbf eg=>?_⟩
  ·obtain⟨b,U⟩:=ax _ (amm G);simp only[ct,dP G,if_true,d_ G,dt G,cj,U,kp,aK,dd,hw];split<;>rfl
  grind
 simp
end
abbrev kY(e:V):aN:=⟨.au (.slice e) (.fn e .bool),bH,λx=>x.1.length<2 ^ 63/\∀ y∈x.1,∃ b,x.2 y=mpure b,λx=>jK (λy=>(x.2 y).val false) x.1 0⟩
theorem tf(e:V)(x):a6 (Bv e.dU x) ((kY e).sh x):=bx λh=>TR e.dU x.1 x.2 h.1 h.2
abbrev h4(e:V):aN:=⟨.au (.slice e) (.fn e .bool),dY,λx=>x.1.length<2 ^ 63/\∀ y∈x.1,∃ b,x.2 y=mpure b,λx=>x.1.any λy=>(x.2 y).val false⟩
theorem tg(e:V)(x):a6 (HT (kY e).sh x) ((h4 e).sh x):=bx λh=>by
 unfold HT;simp only[aN.sh,kY,ff];rw[bb (by exact h)];exact congrArg mpure (D0 (λy=>(x.2 y).val false) x.1 0 (by omega))
abbrev zg(e:V):aN:=⟨.au e (.bM (.fn e .bool)),dY,λx=>∃ f,x.2=some f/\∃ b,f x.1=mpure b,λx=>!((x.2.getD λ_=>dZ) x.1).val false⟩
theorem Im(e:V)(x):a6 (ags x) ((zg e).sh x):=bx λh=>by
 obtain⟨y,o⟩:=x;obtain⟨f,ax,b,U⟩:=h;change o=some f at ax;subst ax;change f y=mpure b at U;unfold ags;simp_all
abbrev ls(e:V):aN:=⟨.au (.slice e) (.fn e .bool),dY,λx=>x.1.length<2 ^ 63/\∀ y∈x.1,∃ b,x.2 y=mpure b,λx=>x.1.all λy=>(x.2 y).val false⟩
theorem Io(e:V)(x):a6 (agr (h4 e).sh (zg e).sh x) ((ls e).sh x):=bx λh=>by
 obtain⟨l,f⟩:=x;obtain⟨E,L⟩:=h;unfold agr;have hc:∀ y∈l,(zg e).sh (y,some f)=mpure (!(f y).val false):=λy a_=>by
  obtain⟨b,U⟩:=L y a_;exact bN ⟨f,rfl,b,U⟩ _
 simp only[aN.sh,h4,ff];rw[bb ⟨E,λy a_=>⟨_,hc y a_⟩⟩];refine congrArg mpure ?_;rw[List.not_any_eq_all_not];simp
end Go.Fer
namespace Go.Fer
variable {af:Type}
theorem US{p q:af->Bool}:∀ {l:List af},(∀ x∈l,p x=q x)->l.all p=l.all q
 | [],_=>rfl
 | x::l,h=>by
  grind
theorem ayD(x):a6 (at2 x) (dv.sh x):=bx λ_=>rfl
theorem ayE(x):a6 (at3 dv.sh x) (rl.sh x):=bx λ_=>agj x
abbrev BL:aN:=⟨bH,dY,λ_=>True,tp⟩
theorem ayF(x):a6 (acI dv.sh x) (BL.sh x):=bx λ_=>by
 unfold acI;simp only[aN.sh,dv,ff,cj,BL,tp]
theorem ayG(x):a6 (at0 dv.sh x) (r7.sh x):=bx λh=>agh x.1 x.2 h
theorem ayH(x):a6 (acG dv.sh x) (uK.sh x):=bx λh=>by
 obtain⟨w,m,k⟩:=x;change iR w at h;have:=agi w m k h;unfold Mb b_ bz aQ cD at this;unfold acG b_ bz aQ cD;simp only[aN.sh,Ez,ff,bb h,dv,cj,ct]at this ⊢;have ah:=h.2.1;have hw:=bp (n:=(w.2.1.length:Int) - 1);simp only[hw,y'];exact this
theorem ayI(x):a6 (at1 x) (xM.sh x):=bx λh=>agk x h
theorem ayJ(l:z1')(n:Int)(h:l.length<2 ^ 63):Tj (l,n)=mpure (jK (λy=>decide (n=y)) l 0):=by
 unfold Tj bz bo a8 aQ bK cS bY bc bS;rw[e6 l (λi (b:Int)=>(l,n,(l.length:Int),b,())) (λy (i:Int)=>if decide (n=y)=true then (.done (.done i):aF Int (aF Unit Int)) else .next (i+1)) (λ_=>.next ()) (λi b=>b=(i:Int)) 0 ?_ ?_ ?_ ?_]
 ·rw[D1 (λy=>decide (n=y))];by_cases aW:(l.any λy=>decide (n=y))=true
  ·simp_all
  ·rw[if_neg aW,HU l 0 aW];simp
 ·rfl
 ·rfl
 ·intro i G b U;subst U;have hw:=bp (n:=(i:Int)+1);refine⟨?_,λbf eg=>?_⟩
  ·simp only[ct,dP G,if_true,d_ G,dt G,cj,aK,dd,hw];split<;>rfl
  grind
 simp
abbrev M1:aN:=⟨.au hK bH,bH,λx=>x.1.length<2 ^ 63,λx=>jK (λy=>decide (x.2=y)) x.1 0⟩
theorem ayK(x):a6 (Tj x) (M1.sh x):=bx λh=>ayJ x.1 x.2 h
theorem ayL(x):a6 (acy M1.sh x) (r3.sh x):=bx λh=>by
 unfold acy;simp only[aN.sh,M1,ff];rw[bb (by exact h),D0 _ _ _ (by omega)];grind
theorem ayM(x):a6 (acH BL.sh rl.sh x) ((⟨mF,dY,λ_=>True,uL⟩:aN).sh x):=bx λ_=>by
 unfold acH b_;simp only[aN.sh,BL,rl,ff,me,cj,aP8,xw,uL]
abbrev M2:aN:=⟨mF,dY,λ_=>True,uL⟩
theorem ayN(x):a6 (acJ xM.sh (ls bH).sh BL.sh rl.sh x) (v8.sh x):=bx λh=>by
 unfold acJ ht b_ aQ;simp only[aN.sh,xM,rl,ls,BL,ff,me,cj,aP8,iE];rw[bb (by exact λ_=>⟨h,λy _=>⟨_,bN trivial _⟩⟩),bb (by omega)];simp only[xw,ct];refine congrArg mpure ?_;show _=r8 x;unfold r8;grind
abbrev EE:aN:=⟨.au nc (.bM (.fn tm .bool)),dY,λx=>∃ f,x.2=some f/\x.1.length<2 ^ 63/\∀ y∈x.1,∃ b,f y=mpure b,λx=>decide ((x.1.length:Int)<=4)&&x.1.all λy=>((x.2.getD λ_=>dZ) y).val false⟩
theorem ayO(x):a6 (acK (ls tm).sh x) (EE.sh x):=bx λh=>by
 obtain⟨m,o⟩:=x;obtain⟨f,ax,E,L⟩:=h;change o=some f at ax;subst ax;unfold acK b_ aQ;simp only[aN.sh,ls,ff,me,amx];simp_all
abbrev EF:aN:=⟨.au lT (.bM nd),dY,λx=>∃ w,x.2=some w/\iR w,λx=>v7 (x.2.getD ([],[],0,[])) x.1⟩
theorem ayP(x):a6 (acL r7.sh uK.sh dv.sh x) (EF.sh x):=bx λh=>by
 obtain⟨t,o⟩:=x;obtain⟨w,ax,E⟩:=h;change o=some w at ax;subst ax;unfold acL b_;simp only[aN.sh,r7,uK,dv,ff,me,amx,bb E,E,aP8,cj,xw,EF,v7]
theorem ayQ(x):a6 (acF dv.sh (ls mF).sh (ls nc).sh (ls lT).sh EE.sh EF.sh M2.sh v8.sh x) (zc.sh x):=bx λh=>by
 have aV:iR x:=h;obtain⟨E,L,ak,aZ⟩:=(h:iR x)
 unfold acF ht b_ aQ;have d1:∀ s,M2.sh s=mpure (uL s):=λ_=>rfl;have d2:∀ m∈x.2.1,EE.sh (m,some v8.sh)=mpure (tq m):=λm hm=>by
  refine (bN ⟨_,rfl,(aZ m hm).1,λy a_=>⟨_,bN ((aZ m hm).2 y a_) _⟩⟩ _).trans (congrArg mpure ?_);simp only[EE,amx,tq,aN.sh,iE];grind
 have d3:∀ t,EF.sh (t,some x)=mpure (v7 x t):=λt=>bN ⟨_,rfl,aV⟩ _;have cw:(x.1.all λy=>(M2.sh y).val false)=x.1.all uL:=US λs _=>iE;have b2:(x.2.1.all λy=>(EE.sh (y,some v8.sh)).val false)=x.2.1.all tq:=US λm hm=>(congrArg (λz:M Bool=>z.val false) (d2 m hm)).trans kp;have ef:(x.2.2.2.all λy=>(EF.sh (y,some x)).val false)=x.2.2.2.all (v7 x):=US λt _=>iE;have aB:∀ y,(ls mF).sh y=eF ((ls mF).pre y) ((ls mF).g y):=λ_=>rfl;have bt:∀ y,(ls nc).sh y=eF ((ls nc).pre y) ((ls nc).g y):=λ_=>rfl;have cT:∀ y,(ls lT).sh y=eF ((ls lT).pre y) ((ls lT).g y):=λ_=>rfl;have bW:∀ y,dv.sh y=mpure (dv.g y):=λ_=>rfl;simp only[aB,bt,cT,bW,ff,me,lK,aK];rw[bb (by grind),bb (by grind),bb (by exact λ_=>⟨ak,λy _=>⟨_,d3 y⟩⟩)];simp only[xw,ct];refine congrArg mpure ?_;show _=nf x;rw[cw,b2,ef];unfold nf zb;grind
def rm(m:z7')(k:z16'):Option Int:=Option.map (λx=>x.2) (List.find? (λp=>decide (k.1=p.1.1)&&(decide (k.2.1=p.1.2.1)&&decide (k.2.2=p.1.2.2))) m)
def xO(m:z4')(k:Int):Option Int:=Option.map (λx=>x.2) (List.find? (λp=>decide (k=p.1)) m)
theorem agt{a b:z16'}:(decide (a.1=b.1)&&(decide (a.2.1=b.2.1)&&decide (a.2.2=b.2.2)))=decide (a=b):=by
 grind
theorem ayR(k):rm [] k=none:=rfl
theorem agu(k:z16')(v:Int)(k':z16'):∀ m,rm (yW m k v) k'=if k'=k then some v else rm m k'
 | []=>by
  show rm [(k,v)] k'=_;by_cases h:k'=k<;>simp[rm,agt]
 | p::m=>by
  have aO:=agu k v k' m;show rm (if (decide (k.1=p.1.1)&&(decide (k.2.1=p.1.2.1)&&decide (k.2.2=p.1.2.2)))=true then (p.1,v)::m else p::yW m k v) k'=_;by_cases h:k=p.1
  ·subst h;by_cases eX:k'=p.1<;>simp[rm,agt,eX]
  ·simp  [rm,List.find?_cons]at aO ⊢;grind
theorem agv(k v k':Int):∀ m,xO (g_ m k v) k'=if k'=k then some v else xO m k'
 | []=>by
  show xO [(k,v)] k'=_;by_cases h:k'=k<;>simp[xO]
 | p::m=>by
  have aO:=agv k v k' m;show xO (if decide (k=p.1)=true then (p.1,v)::m else p::g_ m k v) k'=_;by_cases h:k=p.1
  ·subst h;by_cases eX:k'=p.1<;>simp[xO,eX]
  ·simp  [xO]at aO ⊢;grind
def r9(t:pM):z16':=(t.1,t.2.1,t.2.2.1)
theorem M3{a b:pM}:pN a b=true<->r9 a=r9 b/\a.2.2.2≠b.2.2.2:=by
 simp  [pN,r9];omega
theorem agw(l:List pM):qq l=true<->l.Pairwise λa b=>pN a b=false:=by
 unfold qq;rw[List.pairwise_iff_getElem];simp;grind
def M4(m:z7')(pre:List pM):Prop:=∀ k v,rm m k=some v<->(∃ t∈pre,r9 t=k/\t.2.2.2=v)
def Ip(m:z7')(t:pM):Bool:=Option.isSome (rm m (r9 t))&&decide (Option.getD (rm m (r9 t)) 0≠t.2.2.2)
theorem agx{m pre}(h:M4 m pre)(aj:pre.Pairwise λa b=>pN a b=false)(t:pM):Ip m t=true<->∃ a∈pre,pN a t=true:=by
 unfold Ip;cases ah:rm m (r9 t) with
 | none=>
  simp only[Option.isSome_none,aRg,aml,false_iff];rintro⟨a,aW,hc⟩;have:=(h (r9 t) a.2.2.2).2 ⟨a,aW,(M3.1 hc).1,rfl⟩;grind
 | some v=>
  simp only[aPP,aQP,amx,amq];obtain⟨b,U,an,ae⟩:=(h _ _).1 ah;constructor
  ·intro eM;exact⟨b,U,M3.2 ⟨an,by omega⟩⟩
  ·rintro⟨a,aW,hc⟩ rfl;obtain⟨bE,c2⟩:=M3.1 hc;have:=(h (r9 t) a.2.2.2).2 ⟨a,aW,bE,rfl⟩;grind
theorem ayS{m pre}(h:M4 m pre){t:pM}(U:∀ a∈pre,pN a t=false):M4 (yW m (r9 t) t.2.2.2) (pre++[t]):=by
 intro k v;rw[agu];by_cases an:k=r9 t
 ·constructor
  ·grind
  ·rintro⟨a,aW,E,L⟩;rcases List.mem_append.1 aW with aW | aW
   ·have:¬pN a t=true:=by grind
    rw[M3]at this;grind
   grind
 ·rw[if_neg an,h];grind
theorem agy:∀ (b6:List pM) (m) (pre:List pM),M4 m pre->(pre.Pairwise λa b=>pN a b=false)->
  fb (λt m=>if Ip m t=true then (.done (.done 71):aF _ (aF Unit Int)) else .next (yW m (r9 t) t.2.2.2)) (λ_=>.next ()) b6 m=if qq (pre++b6)=true then .next () else .done 71
 | [],m,pre,h,aj=>by
  have:=(agw pre).2 aj;simp[fb,this]
 | t::b6,m,pre,h,aj=>by
  simp  [fb];by_cases U:Ip m t=true
  ·obtain⟨a,aW,hc⟩:=(agx h aj t).1 U;have:¬qq (pre++t::b6)=true:=by
    rw[agw];grind
   grind
  ·have aA:∀ a∈pre,pN a t=false:=λa aW=>by
    have:=λhc=>U ((agx h aj t).2 ⟨a,aW,hc⟩);grind
   have Al:(pre++[t]).Pairwise λa b=>pN a b=false:=by
    grind
   have:=agy b6 _ (pre++[t]) (ayS h aA) Al;grind
theorem ayT(w:bZ)(h:iR w):Tk zc.sh w=mpure (dJ w):=by
 have ay:=h;obtain⟨E,L,ak,aZ⟩:=h;unfold Tk b3 eH bz bg bo a8 aQ bK cS bY bc bS;simp only[aN.sh,ff,bb ay];unfold dJ;cases hw:nf w with
 | false=>simp
 | true=>
  rw[ev w.2.2.2 (λi m=>(w.2.2.2,(w.2.2.2.length:Int),(i:Int),m,())) (λt m=>if Ip m t=true then (.done (.done 71)) else .next (yW m (r9 t) t.2.2.2)) (λ_=>.next ()) [] ?_ ?_ ?_]
  ·rw[agy w.2.2.2 [] [] (λk v=>by simp[ayR]) (by simp)];by_cases aG:qq w.2.2.2=true<;>simp[aG]
  ·rfl
  ·intro i G m;have lU:=bp (n:=i+1);simp only[ct,dP G,d_ G,dt G,cj,aK,dd,lU];exact aci (mk:=λm=>(w.2.2.2,(w.2.2.2.length:Int),(i:Int)+1,m,()))
  simp
theorem ayU(x):a6 (Tk zc.sh x) (jX.sh x):=bx λh=>ayT x h
theorem ayV(w:bZ)(i n m k:Int)(hw:tt w)(G:iS w i=true)(hm:kN w m k=true):acN dv.sh r3.sh (w,i,n,m,k)=mpure (BK w i n m k):=ayA w i n m k hw G hm
theorem ayW(x):a6 (acN dv.sh r3.sh x) (Ik.sh x):=bx λh=>ayV x.1 x.2.1 x.2.2.1 x.2.2.2.1 x.2.2.2.2 h.1 h.2.1 h.2.2
abbrev Iq:aN:=⟨.au lT (.au (.bM bH) (.au (.bM nd) (.bM bH))),dY,λx=>∃ i w n,x.2=(some i,some w,some n)/\tt w/\iS w i=true/\kN w x.1.2.1 x.1.2.2.1=true,λx=>ze (x.2.2.1.getD ([],[],0,[])) (x.2.1.getD 0) (x.2.2.2.getD 0) x.1⟩
theorem ayX(x):a6 (acM Ik.sh x) (Iq.sh x):=bx λh=>by
 obtain⟨t,o⟩:=x;obtain⟨i,w,n,ax,hw,G,hm⟩:=h;subst ax;unfold acM b3 eH mZ;simp  [aN.sh,ne_eq];by_cases aG:t.1=i
 ·have aj:tt w/\iS w i=true/\kN w t.2.1 t.2.2.1=true:=⟨hw,G,hm⟩
  simp[ze,aj]
 ·simp[ze,aG]
def r_(w:bZ):List (z1'):=(List.range w.1.length).map λ(i:Nat)=>jZ w (i:Int)
def nI(w:bZ)(cB:Bool):Option xy×Int:=if fQ w cB≠0 then (none,fQ w cB) else (some (w,r_ w),0)
abbrev EG:aN:=⟨.au nd dY,.au (.bM (.ad (.au nd (.slice hK)))) bH,λx=>iR x.1,λx=>nI x.1 x.2⟩
variable {w:bZ}
theorem ayY{i:Int}:jZ w i=(fP (js w i).2.2.1 (js w i).2.2.2).filter λn=>w.2.2.2.all (ze w i n):=by
 refine aQf λn aA=>?_;rw[vI]at aA;simp[UQ,aA]
theorem agz{w:bZ}:∀ (l:List Nat) (acc:List (z1')),fb (λ(i:Nat) (acc:List (z1'))=>if decide (((jZ w (i:Int)).length:Int)=0)=true then (.done (.done (none,(3:Int))):aF _ (aF (List UM×List (List BJ)×Int×List pM×List (z1')×Unit) (Option xy×Int))) else .next (acc++[jZ w (i:Int)])) (λacc=>.next (w.1,w.2.1,w.2.2.1,w.2.2.2,acc,())) l acc
  =if (l.all λ(i:Nat)=>!decide (((jZ w (i:Int)).length:Int)=0))=true then .next (w.1,w.2.1,w.2.2.1,w.2.2.2,acc++l.map (λ(i:Nat)=>jZ w (i:Int)),()) else .done (none,3)
 | [],acc=>by simp[fb]
 | i::l,acc=>by
  simp only[fb,aQq];by_cases h:((jZ w i).length:Int)=0
  ·grind
  ·simp only[h,aQe,aml,aPA,aQP];rw[agz l];simp
theorem ayZ(w:bZ)(cB:Bool)(h:iR w):Tn jX.sh (ls lT).sh Iq.sh (w,cB)=mpure (nI w cB):=by
 unfold Tn bz cm bg bo a8 aQ bK cS iO bY bc eD bS nI fQ;simp only[aN.sh,ff,bb h];by_cases hc:dJ w=0
 ·have hw:tt w:=⟨h,UR hc⟩
  have ay0:=Ij hw.2;simp only[hc,aPA];cases cB with
  | false=>simp
  | true=>
   rw[e6 (List.range w.1.length) (λi acc=>(w.1,(w.1.length:Int),(i:Int),w,w.1,w.2.1,w.2.2.1,w.2.2.2,acc,())) (λi acc=>if decide (((jZ w i).length:Int)=0)=true then (.done (.done (none,(3)))) else .next (acc++[jZ w i])) (λacc=>.next (w.1,w.2.1,w.2.2.1,w.2.2.2,acc,())) (λi acc=>acc.length<=i) [] ?_ ?_ ?_ ?_]
   ·rw[agz];have e:((List.range w.1.length).all λi=>!decide (((jZ w i).length:Int)=0))=zf w:=rfl;rw[e];by_cases aG:zf w=true<;>simp[aG,r_]
   ·rfl
   ·simp
   ·intro i G acc UT;have G:i<w.1.length:=by grind
    have mc:=ayB G;have ah:=agn hw.2 mc;have lU:=bp (n:=i+1);have aD:w.1[i]=js w i:=by simp[js,G]
    refine⟨?_,λbf U=>?_⟩
    ·simp only[ct,dP G,d_ G,dt G,aD];rw[e6 (fP (js w i).2.2.1 (js w i).2.2.2) (λk l=>(w.1,(w.1.length:Int),(i:Int),w,(i:Int),js w i,l,(js w i).2.2.1+k,w.1,w.2.1,w.2.2.1,w.2.2.2,acc,())) (λn l=>.next (if w.2.2.2.all (ze w i n)=true then l++[n] else l)) (λl=>.next (w.1,(w.1.length),i,w,l,w.1,w.2.1,w.2.2.1,w.2.2.2,acc,())) (λk l=>l.length<=k) [] ?_ ?_ ?_ ?_]
     ·rw[ee,HK];simp only[aK,cK];rw[<-ayY];by_cases bA:((jZ w i).length)=0
      ·simp[bA]
      ·have n8:cb (acc.length+(0+1)):=by unfold cb;omega
       simp_all
     ·simp
     ·simp
     ·intro k an l M5;have bK:(js w i).2.2.1+k<=(js w i).2.2.2:=by rw[DP]at an;omega
      have M6:=bp (n:=(js w i).2.2.1+(k+1));have n8:cb (l.length+(0+1)):=by unfold cb;omega
      refine⟨?_,λbf U=>?_⟩
      ·have kA:∀ t∈w.2.2.2,Iq.sh (t,some i,some w,some ((js w i).2.2.1+k))=mpure (ze w i ((js w i).2.2.1+k) t):=λt aG=>bN ⟨_,_,_,rfl,hw,mc,(ayz hw.2 aG).2⟩ _;simp only[bK,HL];rw[bb (by exact⟨h.2.2.1,λt aG=>⟨_,kA t aG⟩⟩)];by_cases U:w.2.2.2.all (ze w i ((js w i).2.2.1+k))=true
       ·simp  [U,bb n8,M6,Int.add_assoc]
       ·simp  [U,M6,Int.add_assoc]
      grind
     ·have:¬(js w i).2.2.1+((fP (js w i).2.2.1 (js w i).2.2.2).length)<=(js w i).2.2.2:=by rw[DP];omega
      simp  [this,aK]
    grind
   simp
 grind
theorem ay1(x):a6 (Tn jX.sh (ls lT).sh Iq.sh x) (EG.sh x):=bx λh=>ayZ x.1 x.2 h
theorem ay2(x):a6 (acO x) (M0.sh x):=bx λ_=>by
 unfold acO bo;simp  [MZ];grind
theorem agA(w:bZ):(r_ w).length=w.1.length:=by simp[r_]
theorem UU{i:Int}(h:iS w i=true):List.getD (r_ w) i.toNat []=jZ w i:=by
 rw[xL]at h;have:=by omega
 have e:(i.toNat)=i:=by omega
 simp[r_,this,e]
abbrev ay3:V:=.bM (.ad (.au nd (.slice hK)))
def ay4(o:Option xy)(w:bZ):Prop:=o=some (w,r_ w)/\tt w
abbrev M7:aN:=⟨.au ay3 (.au bH (.au bH bH)),bH,λx=>∃ w,ay4 x.1 w/\iS w x.2.1=true/\kN w x.2.2.1 x.2.2.2=true,λx=>xN ((x.1.getD (([],[],0,[]),[])).1) x.2.1 x.2.2.1 x.2.2.2⟩
theorem ay5(w:bZ)(i m k:Int)(hw:tt w)(G:iS w i=true)(hm:kN w m k=true):To Ik.sh M0.sh (some (w,r_ w),i,m,k)=mpure (xN w i m k):=by
 unfold To bz cm bg bo a8 aQ bY bc bS;have n8:=ago hw G;have ck:0<=i/\i<((r_ w).length):=by rw[agA];exact xL.1 G
 simp only[amx,ct,UU G];rw[e6 (jZ w i) (λj n=>(some (w,r_ w),i,m,k,n,jZ w i,((jZ w i).length:Int),(j:Int),())) (λx n=>.next (if BK w i x m k=true then n+1 else n)) (λn=>.next (some (w,r_ w),i,n,())) (λj n=>0<=n/\n<=(j:Int)) 0 ?_ ?_ ?_ ?_]
 ·rw[ee,agq];simp only[aK,cK,aPP,amx,cj,bb ck,UU G,aN.sh,ff,aRj];rfl
 ·rfl
 ·simp
 ·intro j aJ n aA;have ay6:=bp (n:=j+1);have zh:=bp (n:=n+1);have aj:tt w/\iS w i=true/\kN w m k=true:=⟨hw,G,hm⟩
  refine⟨?_,λbf U=>?_⟩
  ·simp only[dP aJ,d_ aJ,dt aJ,amx,aN.sh,ff,bb aj,dd,zh];cases BK w i (jZ w i)[j] m k<;>simp[ay6]
  grind
 simp
theorem ay7(x):a6 (To Ik.sh M0.sh x) (M7.sh x):=bx λh=>by
 obtain⟨o,i,m,k⟩:=x;obtain⟨w,⟨ax,hw⟩,G,hm⟩:=h;subst ax;exact ay5 w i m k hw G hm
theorem agB{cB:Bool}(h:fQ w cB=0):nI w cB=(some (w,r_ w),0):=by simp[nI,h]
theorem agC{cB:Bool}(h:fQ w cB≠0):nI w cB=(none,fQ w cB):=by simp[nI,h]
theorem ay8(w:bZ)(i:Int)(h:iR w):Tl EG.sh r7.sh (w,i)=mpure (EB w i):=by
 unfold Tl bz gz bo aQ bS gy dB cD mZ EB;simp only[aN.sh,iE,h];by_cases an:fQ w (iS w i)=0
 ·have hw:=agp h an;have G:=(Il an).2.1;have aj:=ayC (Il an).2.2 G;have n8:=ago hw G;have lU:=bp (n:=((jZ w i).length) - 1);have yT:0<=i/\i<((r_ w).length):=by rw[agA];exact xL.1 G
  have c8:(0)<=((jZ w i).length:Int) - 1/\((jZ w i).length) - 1<((jZ w i).length:Int):=by omega
  simp only[agB an,amx,UU G,bb c8];simp_all
 ·simp[agC an,an]
theorem ay9(x):a6 (Tl EG.sh r7.sh x) (EC.sh x):=bx λh=>ay8 x.1 x.2 h
theorem ay_(w:bZ)(i m k:Int)(h:iR w):Tm EG.sh r7.sh uK.sh M7.sh (w,i,m,k)=mpure (tu w i m k):=by
 unfold Tm bo dB mZ tu;simp only[aN.sh,rV,iE,h,cj,aQ7,aQJ,imp_self];by_cases an:fQ w (iS w i&&kN w m k)=0
 ·have hw:=agp h an;have G:=(Il an).2.1;simp  at G;simp only[agB an,an,ff];rw[bb (by exact⟨w,⟨rfl,hw⟩,G.1,G.2⟩)];rfl
 ·simp[agC an,an]
theorem ay'(x):a6 (Tm EG.sh r7.sh uK.sh M7.sh x) (ED.sh x):=bx λh=>ay_ x.1 x.2.1 x.2.2.1 x.2.2.2 h
theorem UW{n:Int}(E:0<=n:=by omega)(L:n<18446744073709551616:=by omega):IntKind.u64.wrap n=n:=by
 show (if (false&&decide (n % 2 ^ 64>=(2 ^ (64 - 1):Int)))=true then n % 2 ^ 64 - 2 ^ 64 else n % 2 ^ 64)=n;grind
theorem agD:∀ (n:Nat) (l:z1'),l.Nodup->(∀ x∈l,0<=x/\x<(n:Int))->l.length<=n
 | 0,l,_,h=>by
  cases l with
  | nil=>simp
  | cons x l=>have:=h x (by simp);omega
 | n+1,l,aA,h=>by
  have L:=agD n (l.erase (n:Int)) (aA.erase _) λx ao=>by
   grind
  grind
variable {rho:Type}
theorem aza{A:Type}{body:A->M (aF A rho)}{p:rho->Prop}{s0:A}(n:Nat)(I:Nat->A->Prop)(aV:I 0 s0)
  (ay:∀ i,i<n->∀ s,I i s->c6 (body s) λad=>match ad with | .next s'=>I (i+1) s' | .done r=>p r)
  (ax:∀ s,I n s->c6 (body s) λad=>match ad with | .next _=>False | .done r=>p r):c6 (dG body s0) p:=by
 have key:∀ k i s,n - i=k->i<=n->I i s->c6 (dG body s) p:=by
  intro k;induction k with
  | zero=>
   intro i s an G h;have:i=n:=by omega
   subst this;rw[zW,fD];refine (ax s h).mono λy a_=>?_;cases y with
   | next s'=>grind
   | done r=>exact dF.2 a_
  | succ k aO=>
   intro i s an G h;rw[zW,fD];refine (ay i (by omega) s h).mono λy a_=>?_;cases y with
   | next s'=>grind
   | done r=>exact dF.2 a_
 grind
def UX(x:z12'):Int:=IntKind.wrap .u64
 (Add.add (IntKind.wrap .u64 (Add.add (IntKind.wrap .u64 (la .u64 x.1 32*la .u64 x.2 32)) (la .u64 (IntKind.wrap .u64 (Add.add (IntKind.wrap
 .u64 (la .u64 x.1 32*nY .u64 x.2 4294967295)) (la .u64 (IntKind.wrap .u64 (nY .u64 x.1 4294967295*nY .u64 x.2 4294967295)) 32))) 32)))
 (la .u64 (IntKind.wrap .u64 (Add.add (nY .u64 (IntKind.wrap .u64 (Add.add (IntKind.wrap .u64 (la .u64 x.1 32*nY .u64 x.2 4294967295)) (la
 .u64 (IntKind.wrap .u64 (nY .u64 x.1 4294967295*nY .u64 x.2 4294967295)) 32))) 4294967295) (IntKind.wrap .u64 (nY .u64 x.1 4294967295*la
 .u64 x.2 32)))) 32))
def M8:Nat->Bool
 | 0=>true
 | n+1=>decide (UX (1,(n:Int))=0)&&M8 n
theorem agE:∀ (N n:Nat),M8 N=true->n<N->UX (1,(n:Int))=0
 | 0,n,_,h=>by omega
 | N+1,n,hc,h=>by
  simp only[M8,amn,amq]at hc;by_cases e:n=N
  ·grind
  ·exact agE N n hc.2 (by omega)
variable {bet:Type}
theorem azb{f:af->bet->aF bet rho}{fin:bet->rho}(I:Nat->bet->Prop)(Q:rho->Prop)(l:List af)(b:bet)(aV:I 0 b)
  (ay:∀ i (h:i<l.length) b,I i b->match f l[i] b with | .next bf=>I (i+1) bf | .done r=>Q r) (ax:∀ b,I l.length b->Q (fin b)):Q (fb f fin l b):=by
 have key:∀ (k:Nat) (r:List af) (b:bet),k<=l.length->r=l.drop k->I k b->Q (fb f fin r b):=by
  intro k r;induction r generalizing k with
  | nil=>
   intro b an D fw;have:k=l.length:=by have:=congrArg List.length D;grind
   subst this;exact ax b fw
  | cons x r aO=>
   intro b an D fw;have dk:k<l.length:=by
    grind
   rw[aPE dk]at D;injection D with ao D
   have E:=ay k dk b fw;rw[<-ao]at E;simp only[fb];grind
 grind
def d'(m:z4')(k:Int):Int:=(xO m k).getD 0
theorem azc(m:z4')(k:Int):Option.getD (Option.map (λx=>x.2) (List.find? (λp=>decide (k=p.1)) m)) 0=d' m k:=rfl
theorem EH(k v k':Int)(m:z4'):d' (g_ m k v) k'=if k'=k then v else d' m k':=by
 unfold d';rw[agv];grind
def xP(n:Nat)(m:z4'):Nat:=(List.range n).countP λ(s:Nat)=>decide (d' m (s:Int)=0)
theorem agF{p q:Nat->Bool}{s:Nat}(h:∀ x,x≠s->p x=q x)(aj:p s=true)(bq:q s=false):∀ (l:List Nat),l.Nodup->s∈l->l.countP p=l.countP q+1
 | [],_,ay=>by cases ay
 | x::l,aA,ay=>by
  rw[aQ0]at aA;rw[List.countP_cons,List.countP_cons];by_cases e:x=s
  ·subst e;have:l.countP p=l.countP q:=List.countP_congr λy a_=>by
    grind
   grind
  ·have:=agF h aj bq l aA.2 (by grind);grind
theorem agG{n:Nat}{m:z4'}{s v:Int}(aV:0<=s)(aA:s<(n:Int))(hm:d' m s=0)(ae:v≠0):xP n m=xP n (g_ m s v)+1:=by
 unfold xP;refine agF (s:=s.toNat) (λx ao=>?_) ?_ ?_ _ List.nodup_range (by grind)
 ·rw[EH,if_neg (by omega)]
 ·grind
 ·rw[EH,if_pos (by omega)];grind
theorem agH{n:Nat}{a b:z4'}(h:∀ k,0<=d' a k/\d' a k<=d' b k):xP n b<=xP n a:=by
 unfold xP;refine List.countP_mono_left λx _ ao=>?_;grind
abbrev ou:=z1'×z4'
def aF.Ir{kD:Type}(g:rho->kD):aF bet rho->aF bet kD
 | .next b=>.next b
 | .done r=>.done (g r)
def BM{af bet rho:Type}(f:af->bet->aF bet rho):List af->bet->aF bet rho
 | [],b=>.next b
 | x::l,b=>match f x b with
  | .next bf=>BM f l bf
  | .done r=>.done r
def aF.fin(n:bet->rho):aF bet rho->rho
 | .next b=>n b
 | .done r=>r
theorem UY{af bet rho:Type}{f:af->bet->aF bet rho}{n:bet->rho}:∀ (l:List af) (b:bet),fb f n l b=aF.fin n (BM f l b)
 | [],b=>rfl
 | x::l,b=>by
  simp only[fb,BM];cases f x b with
  | next bf=>exact UY l bf
  | done r=>rfl
theorem agI{af bet rho kD:Type}{f:af->bet->aF bet rho}{g:rho->kD}:∀ (l:List af) (b:bet),BM (λx b=>aF.Ir g (f x b)) l b=aF.Ir g (BM f l b)
 | [],b=>rfl
 | x::l,b=>by
  simp only[BM];cases f x b with
  | next bf=>exact agI l bf
  | done r=>rfl
def azd(w:bZ):Prop:=w.1.length<=2000000/\w.2.1.length<=2000000/\w.2.2.2.length<=2000000/\∀ m∈w.2.1,m.length<=2000000/\∀ s∈m,s.2.1.length<=2000000
def BN(m:List (z18')):Bool:=decide ((m.length:Int) > 20)||m.any λs=>decide ((s.2.1.length:Int) > 20)
def ot(w:bZ):Bool:=
 if (decide ((w.1.length:Int) > 40)||decide ((w.2.1.length:Int) > 40)||decide ((w.2.2.2.length:Int) > 60))=true then true
 else if w.2.1.any BN=true then true
 else if dJ w≠0 then false
 else if (w.1.any λs=>decide (IntKind.i64.wrap (s.2.2.2 - s.2.2.1)>=50))=true then true
 else decide ((w.1.length:Int) > 6)||decide ((w.2.1.length:Int) > 4)||decide ((w.2.2.2.length:Int) > 10)
abbrev y9:aN:=⟨nd,dY,iR,ot⟩
theorem aze(w:bZ)(h:iR w):Tp jX.sh w=mpure (ot w):=by
 unfold Tp c' iA fO bz cm bo a8 aQ bK cS iO bY bc gp h0 bS cD ot;simp only[ct];by_cases E:(decide ((w.1.length:Int) > 40)||decide ((w.2.1.length:Int) > 40)||decide ((w.2.2.2.length:Int) > 60))=true
 ·grind
 ·rw[if_neg E,if_neg E];have ah:=h;obtain⟨cO,cJ,gT,ly⟩:=h;rw[ev w.2.1 (λi (_:Unit)=>((i:Int),w,())) (λm u=>if BN m=true then .done (.done true) else .next u) (λ_=>.next (w,())) () ?_ ?_ ?_]
  ·rw[s_];by_cases L:w.2.1.any BN=true
   ·simp only[L,if_true,aK,uD]
   ·simp only[L,aml,aPA,aK,cK,aN.sh,ff,bb ah];by_cases ak:dJ w=0
    ·simp only[ak,ne_eq,not_true,aQe,aml,aPA];rw[ev w.1 (λi (_:Unit)=>((i:Int),w,())) (λs u=>if decide (IntKind.i64.wrap (s.2.2.2 - s.2.2.1)>=50)=true then .done (.done true) else .next u) (λ_=>.next (w,())) () ?_ ?_ ?_]
     ·rw[s_];by_cases aZ:(w.1.any λs=>decide (IntKind.i64.wrap (s.2.2.2 - s.2.2.1)>=50))=true
      ·simp_all
      ·simp only[aZ,aml,aPA,aK,cK]
     ·rfl
     ·intro i G u;have ov:=bp (n:=(i:Int)+1);simp only[ct,dP G,if_true,dt G,cj,d_ G,aK,dd,ov];exact pG (mk:=λ_:Unit=>((i:Int)+1,w,()))
     simp
    grind
  ·rfl
  ·intro i G u;have ov:=bp (n:=(i:Int)+1);have hm:=ly _ (amm G);simp only[ct,dP G,if_true,dt G,cj,d_ G,aK];by_cases bP:decide ((w.2.1[i].length:Int) > 20)=true
   ·have ax:BN w.2.1[i]=true:=by unfold BN;grind
    simp_all
   ·have ax:BN w.2.1[i]=w.2.1[i].any λs=>decide ((s.2.1.length:Int) > 20):=by unfold BN;grind
    rw[if_neg bP];rw[ev w.2.1[i] (λk (_:Unit)=>((i:Int),(k:Int),w,())) (λs u=>if decide ((s.2.1.length:Int) > 20)=true then .done (.done (.done (.done true))) else .next u) (λ_=>.next ((i:Int),w,())) () ?_ ?_ ?_]
    ·rw[s_,ax];by_cases ej:(w.2.1[i].any λs=>decide ((s.2.1.length:Int) > 20))=true
     ·simp_all
     ·simp only[ej,aml,aPA,aK,cK,dd,ov];rfl
    ·rfl
    ·intro k an u;have lS:=bp (n:=(k:Int)+1);simp only[dt G,cj,d_ G,dP an,if_true,dt an,d_ an,aK,dd,lS];exact pG (mk:=λ_:Unit=>((i:Int),(k:Int)+1,w,()))
    simp_all
  simp
theorem azf(x):a6 (Tp jX.sh x) (y9.sh x):=bx λh=>aze x h
abbrev pO:V:=.ad (.au bH (.au bH (.au bH (.au bH hK))))
abbrev pP:V:=.ad (.au hK (.au o0 (.au bH (.au bH bH))))
abbrev r':V:=.ad (.au bH (.au bH bH))
abbrev o6:V:=.ad (.au nd (.au hK (.au (.slice pO) (.au (.slice pP) (.au (.slice r') bH)))))
def ij(s:bO):Prop:=iR s.1/\s.2.1.length<2 ^ 63/\s.2.2.1.length<2 ^ 63/\s.2.2.2.1.length<2 ^ 63/\s.2.2.2.2.1.length<2 ^ 63/\(∀ p∈s.2.2.1,p.2.2.2.2.length<2 ^ 63)/\∀ x∈s.2.2.2.1,x.1.length<2 ^ 63
def cH(n a1 G:Int):Bool:=decide (a1<=n)&&decide (n<=G)
def mm(n:Int):Bool:=cH n 0 99
def ng(p:Int->Bool)(l:z1'):Bool:=(List.range l.length).all λi=>p (l.getD i 0)&&!(decide (0<i)&&decide (l.getD i 0<=l.getD (i - 1) 0))
def M9(w:bZ)(m:Int)(n:Int):Bool:=decide (0<=n)&&decide (n<((lr w m).length:Int))
def v_(w:bZ)(p:oY):Bool:=mm p.1&&mm p.2.1&&mm p.2.2.1&&tn w p.2.2.2.1&&ng (M9 w p.2.2.2.1) p.2.2.2.2
def uM(x:mg):Bool:=cH (x.1.length:Int) 1 8&&ng mm x.1&&mm x.2.1.1&&mm x.2.1.2&&decide (x.2.1.1<=x.2.1.2)&&mm x.2.2.1&&mm x.2.2.2.1&&cH x.2.2.2.2 0 100000
def tv(w:bZ)(d:DY):Bool:=mm d.1&&iS w d.2.1&&cH d.2.2 1 10
def rn(s:bO):Bool:=decide ((s.2.1.length:Int)=(s.1.1.length:Int))&&(s.2.1.all λn=>cH n 0 10)&&decide ((s.2.2.1.length:Int)<=8)&&s.2.2.1.all (v_ s.1)&&decide ((s.2.2.2.1.length:Int)<=6)&&s.2.2.2.1.all uM&&decide ((s.2.2.2.2.1.length:Int)<=8)&&s.2.2.2.2.1.all (tv s.1)&&mm s.2.2.2.2.2
def lV(s:bO):Int:=if dJ s.1≠0 then dJ s.1 else if rn s=true then 0 else 80
theorem azg(x):a6 (auB x) (dv.sh x):=bx λ_=>rfl
theorem azh(x):a6 (auw x) (dv.sh x):=bx λ_=>rfl
abbrev uN:aN:=⟨bH,dY,λ_=>True,mm⟩
theorem azi(x):a6 (adg dv.sh x) (uN.sh x):=bx λ_=>by
 unfold adg;simp[aN.sh,dv,mm,cH]
theorem azj(x):a6 (adk dv.sh x) (uN.sh x):=bx λ_=>by
 unfold adk;simp[aN.sh,dv,mm,cH]
abbrev M_:aN:=⟨.au hK (.fn bH .bool),dY,λx=>x.1.length<2 ^ 63/\∀ y∈x.1,∃ b,x.2 y=mpure b,λx=>ng (λy=>(x.2 y).val false) x.1⟩
theorem azk(x):a6 (adh x) (M_.sh x):=bx λh=>by
 obtain⟨l,f⟩:=x;obtain⟨E,L⟩:=h;change l.length<2 ^ 63 at E;change ∀ y∈l,∃ b,f y=mpure b at L;unfold adh c' bz bo a8 aQ bK cS bY bc h0 bS cD;rw[ev (List.range l.length) (λi (_:Unit)=>(l,f,l,(l.length:Int),(i:Int),())) (λi b=>if (!((f (l.getD i 0)).val false&&!(decide (0<i)&&decide (l.getD i 0<=l.getD (i - 1) 0))))=true then .done (.done false) else .next b) (λ_=>.next ()) () ?_ ?_ ?_]
 ·rw[mf (q:=λi=>(f (l.getD i 0)).val false&&!(decide (0<i)&&decide (l.getD i 0<=l.getD (i - 1) 0))) _ _ (λ_=>rfl)];show _=mpure (ng (λy=>(f y).val false) l);unfold ng;cases (List.range l.length).all λi=>(f (l.getD i 0)).val false&&!(decide (0<i)&&decide (l.getD i 0<=l.getD (i - 1) 0))<;>simp
 ·rfl
 ·intro i G b;have G:i<l.length:=by grind
  have hw:=bp (n:=(i:Int)+1);have gF:=bp (n:=(i:Int) - 1);have bt:((i:Int) - 1).toNat=i - 1:=by omega
  obtain⟨c,hc⟩:=L _ (amm G);have j8:l.getD i 0=l[i]:=by grind
  have vQ:(decide ((i:Int) > 0))=decide (0<i):=by simp
  simp only[ct,dP G,if_true,aPC,d_ G,dt G,cj,j8,hc,kp,aK,dd,hw,gF,bt,vQ];rw[bb (by grind)];cases c<;>cases (decide (0<i)&&decide (l[i]<=l.getD (i - 1) 0))<;>rfl
 simp
abbrev M':aN:=⟨.au hK bH,dY,λx=>x.1.length<2 ^ 63,λx=>ng (λn=>cH n 0 x.2) x.1⟩
theorem azl(x):a6 (adn x) (M'.sh x):=bx λh=>by
 obtain⟨l,m⟩:=x;change l.length<2 ^ 63 at h;unfold adn c' fO bz a8 aQ bK cS bY bc h0 cD;rw[ev (List.range l.length) (λi (_:Unit)=>(l,m,(i:Int),())) (λi b=>if (!(cH (l.getD i 0) 0 m&&!(decide (0<i)&&decide (l.getD i 0<=l.getD (i - 1) 0))))=true then .done (.done false) else .next b) (λ_=>.next ()) () ?_ ?_ ?_]
 ·rw[mf (q:=λi=>cH (l.getD i 0) 0 m&&!(decide (0<i)&&decide (l.getD i 0<=l.getD (i - 1) 0))) _ _ (λ_=>rfl)];show _=mpure (ng (λn=>cH n 0 m) l);unfold ng;cases (List.range l.length).all λi=>cH (l.getD i 0) 0 m&&!(decide (0<i)&&decide (l.getD i 0<=l.getD (i - 1) 0))<;>simp
 ·rfl
 ·intro i G b;have G:i<l.length:=by grind
  have hw:=bp (n:=(i:Int)+1);have gF:=bp (n:=(i:Int) - 1);have bt:((i:Int) - 1).toNat=i - 1:=by omega
  have j8:l.getD i 0=l[i]:=by grind
  have vQ:(decide ((i:Int) > 0))=decide (0<i):=by simp
  simp only[ct,dP G,if_true,aPC,d_ G,dt G,cj,j8,aK,dd,hw,gF,bt,vQ];have yT:0<i->(0:Int)<=(i:Int) - 1/\(i:Int) - 1<(l.length:Int):=by omega
  generalize l.getD (i - 1) 0=B;generalize l[i]=aI;by_cases kS:aI<0<;>by_cases qU:aI > m<;>by_cases aV:0<i<;>by_cases aX:aI<=B<;>simp_all[cH,aF.pF,bb]<;>(grind)<;>(grind)
 simp
theorem UZ{p q:Int->Bool}{l:z1'}(h:∀ y∈l,p y=q y):ng p l=ng q l:=by
 grind [ng]
theorem azm(n:Int)(k:Nat):cH n 0 ((k:Int) - 1)=(decide (0<=n)&&decide (n<(k:Int))):=by
 unfold cH;grind
abbrev U0:aN:=⟨.au bH (.au (.bM nd) (.bM pO)),dY,λx=>∃ w p,x.2=(some w,some p)/\iR w/\tn w p.2.2.2.1=true,λx=>M9 (x.2.1.getD ([],[],0,[])) (x.2.2.getD (0,0,0,0,[])).2.2.2.1 x.1⟩
theorem azn(x):a6 (adi dv.sh x) (U0.sh x):=bx λh=>by
 obtain⟨n,o⟩:=x;obtain⟨w,p,ax,hw,hm⟩:=h;subst ax;unfold adi bz aQ bS cD;have r:=UN.1 hm;have ah:=MY hw p.2.2.2.1;have lU:=bp (n:=((lr w p.2.2.2.1).length) - 1);unfold lr at lU;simp only[aN.sh,amx,ct,r,aQJ,cj,lU,ff,y'];rfl
abbrev Is:aN:=⟨.au pO (.bM nd),dY,λx=>x.1.2.2.2.2.length<2 ^ 63/\∃ w,x.2=some w/\iR w,λx=>!v_ (x.2.getD ([],[],0,[])) x.1⟩
theorem azo(x):a6 (adf dv.sh uN.sh M_.sh U0.sh x) (Is.sh x):=bx λh=>by
 obtain⟨p,o⟩:=x;obtain⟨aj,w,ax,hw⟩:=h;unfold adf b_ aQ cD;have ah:=hw.2.1;have lU:=bp (n:=((w.2.1.length)) - 1);have aB:(decide (0<=p.2.2.2.1)&&decide (p.2.2.2.1<(w.2.1.length)))=tn w p.2.2.2.1:=rfl;simp only[aN.sh,ff,me,aB];grind [UZ,iE,bb,v_,bN]
abbrev It:aN:=⟨pP,dY,λx=>x.1.length<2 ^ 63,λx=>!uM x⟩
theorem azp(x):a6 (adj dv.sh uN.sh M_.sh uN.sh x) (It.sh x):=bx λh=>by
 unfold adj c' b_ aQ;have key:(ng (λy=>(eF (uN.pre y) (uN.g y)).val false) x.1)=ng mm x.1:=UZ λy a_=>iE;simp only[aN.sh,ff,me,vH];grind [bb,uM,cH,bN]
abbrev Iu:aN:=⟨.au r' (.bM nd),dY,λx=>∃ w,x.2=some w/\iR w,λx=>!tv (x.2.getD ([],[],0,[])) x.1⟩
theorem azq(x):a6 (adl dv.sh uN.sh x) (Iu.sh x):=bx λh=>by
 obtain⟨w,ax,hw⟩:=h;unfold adl b_ aQ cD;have ah:=hw.1;have lU:=bp (n:=((w.1.length)) - 1);simp  [aN.sh,vH];grind [tv,iS,cH]
abbrev Iv:aN:=⟨bH,dY,λ_=>True,λn=>!cH n 0 10⟩
theorem azr(x):a6 (adm dv.sh x) (Iv.sh x):=bx λ_=>by
 simp_all[adm,aN.sh,cH]
theorem Na{p q:af->Bool}{l:List af}(h:∀ x∈l,p x=!q x):l.any p=!l.all q:=by
 grind
abbrev U1:aN:=⟨o6,dY,ij,rn⟩
theorem azs(x):a6 (ac8 uN.sh (h4 bH).sh (h4 pO).sh (h4 pP).sh (h4 r').sh Is.sh Iu.sh It.sh Iv.sh x) (U1.sh x):=bx λh=>by
 obtain⟨E,L,ak,aZ,bP,ej,iW⟩:=h;unfold ac8 ht b_ aQ;simp only[aN.sh,cj,ff,me,aP8];have aM:(x.2.1.any λy=>(eF (Iv.pre y) (Iv.g y)).val false)=!x.2.1.all λn=>cH n 0 10:=Na λy _=>iE;have aS:(x.2.2.1.any λy=>(eF (Is.pre (y,some x.1)) (Is.g (y,some x.1))).val false)=!x.2.2.1.all (v_ x.1):=Na λy _=>iE;have b4:(x.2.2.2.1.any λy=>(eF (It.pre y) (It.g y)).val false)=!x.2.2.2.1.all uM:=Na λy _=>iE;have hZ:(x.2.2.2.2.1.any λy=>(eF (Iu.pre (y,some x.1)) (Iu.g (y,some x.1))).val false)=!x.2.2.2.2.1.all (tv x.1):=Na λy _=>iE;rw[bb,bb,bb,bb]
 ·congr 1;grind [rn]
 ·grind [bN]
 ·grind [bN]
 ·grind [bN]
 grind [bN]
abbrev sa:aN:=⟨o6,bH,ij,lV⟩
theorem azt(x):a6 (ac2 jX.sh U1.sh x) (sa.sh x):=bx λh=>by
 unfold ac2 bo;simp  [aN.sh,bb h.1];grind [lV,bb]
abbrev Nb:aN:=⟨.au o6 pO,dY,λx=>ij x.1/\x.2.2.2.2.2.length<2 ^ 63,λx=>v_ x.1.1 x.2⟩
theorem azu(x):a6 (ac9 dv.sh M'.sh x) (Nb.sh x):=bx λh=>by
 obtain⟨s,p⟩:=x;obtain⟨ay,aj⟩:=h;change ij s at ay;unfold ac9 b_ bz bg aQ gp bS dB cD mZ;have ah:=ay.1.2.1;have hp:=MY ay.1 p.2.2.2.1;have lU:=bp (n:=((s.1.2.1.length)) - 1);have M6:=bp (n:=((lr s.1 p.2.2.2.1).length) - 1);unfold lr at M6;have aB:(decide (0<=p.2.2.2.1)&&decide (p.2.2.2.1<(s.1.2.1.length)))=tn s.1 p.2.2.2.1:=rfl;simp  [aN.sh,iE];unfold v_;have aeJ:ng (λn=>cH n 0 (((List.getD s.1.2.1 (Int.toNat p.2.2.2.1) []).length) - 1)) p.2.2.2.2=ng (M9 s.1 p.2.2.2.1) p.2.2.2.2:=UZ λy _=>azm y _;grind [bb,mm,cH]
abbrev U2:aN:=⟨pP,dY,λx=>x.1.length<2 ^ 63,uM⟩
theorem azv(x):a6 (ac_ dv.sh M'.sh x) (U2.sh x):=bx λh=>by
 unfold ac_ ht b_ aQ;simp  [aN.sh,aP8];rw[bb (by omega)];congr 1;grind [uM,ng,cH,mm]
theorem azw(x):a6 (ac3 jX.sh dv.sh Nb.sh U2.sh x) (sa.sh x):=bx λh=>by
 have ay:=h;obtain⟨E,L,ak,aZ,bP,ej,iW⟩:=h;unfold ac3 c' eH fO b_ bz bg a8 aQ bK cS bY bc dB cD pE;simp only[aN.sh,ff,bb E];unfold lV;by_cases hc:dJ x.1=0
 ·simp only[hc,me,ff,aP8,cj,ct,vH,decide_not];have e:(!decide ((x.2.1.length)=(x.1.1.length:Int))||decide ((x.2.2.1.length:Int) > 8)||decide ((x.2.2.2.1.length:Int) > 6)||decide ((x.2.2.2.2.1.length:Int) > 8)||!(decide (0<=x.2.2.2.2.2)&&decide (x.2.2.2.2.2<=99)))=!(decide ((x.2.1.length)=(x.1.1.length:Int))&&decide ((x.2.2.1.length:Int)<=8)&&decide ((x.2.2.2.1.length:Int)<=6)&&decide ((x.2.2.2.2.1.length:Int)<=8)&&mm x.2.2.2.2.2):=by
   grind [mm,cH]
  rw[e];by_cases df:(decide ((x.2.1.length)=(x.1.1.length:Int))&&decide ((x.2.2.1.length:Int)<=8)&&decide ((x.2.2.2.1.length:Int)<=6)&&decide ((x.2.2.2.2.1.length:Int)<=8)&&mm x.2.2.2.2.2)=true
  ··rw[ev x.2.1 (λi (_)=>((i:Int),x,())) (λn b=>if (!cH n 0 10)=true then .done (.done (80)) else .next b) (λ_=>.next (x,())) () ?_ ?_ ?_]
    ·rw[mf   _ _ (λ_=>rfl)];cases kS:x.2.1.all λn=>cH n 0 10 with
     | false=>simp[rn,kS]
     | true=>
      simp only[aK,if_true,cK];rw[ev x.2.2.1 (λi (_)=>((i:Int),x,())) (λp b=>if (!v_ x.1 p)=true then .done (.done (80)) else .next b) (λ_=>.next (x,())) () ?_ ?_ ?_]
      ·rw[mf   _ _ (λ_=>rfl)];cases aX:x.2.2.1.all (v_ x.1) with
       | false=>simp[rn,aX]
       | true=>
        simp only[aK,if_true,cK];rw[ev x.2.2.2.1 (λi (_)=>((i:Int),x,())) (λp b=>if (!uM p)=true then .done (.done (80)) else .next b) (λ_=>.next (x,())) () ?_ ?_ ?_]
        ·rw[mf   _ _ (λ_=>rfl)];cases kC:x.2.2.2.1.all uM with
         | false=>simp[rn,kC]
         | true=>
          simp only[aK,if_true,cK];rw[ev x.2.2.2.2.1 (λi (_)=>((i:Int),x,())) (λp b=>if (!tv x.1 p)=true then .done (.done (80)) else .next b) (λ_=>.next ()) () ?_ ?_ ?_]
          ·rw[mf   _ _ (λ_=>rfl)];cases UO:x.2.2.2.2.1.all (tv x.1)<;>simp[rn,kS,aX,kC,UO,df]
          ·rfl
          ·intro i G b;have hw:=bp (n:=i+1);have ah:=E.1;have lU:=bp (n:=((x.1.1.length)) - 1);simp only[dP G,d_ G,dt G,cj,dd,hw,lU,y'];have e:(!(decide (0<=(x.2.2.2.2.1[i]).1)&&decide ((x.2.2.2.2.1[i]).1<=99))||!(decide (0<=(x.2.2.2.2.1[i]).2.1)&&decide ((x.2.2.2.2.1[i]).2.1<(x.1.1.length)))||!(decide (1<=(x.2.2.2.2.1[i]).2.2)&&decide ((x.2.2.2.2.1[i]).2.2<=10)))=!tv x.1 x.2.2.2.2.1[i]:=by
            simp_all[tv,mm,iS,cH]
           rw[e];exact pG (mk:=λ_=>((i:Int)+1,x,()))
          simp
        ·rfl
        ·intro i G b;have hw:=bp (n:=i+1);simp only[dP G,d_ G,dt G,cj,dd,hw,bb (iW _ (amm G))];exact pG (mk:=λ_=>((i:Int)+1,x,()))
        simp
      ·rfl
      ·intro i G b;have hw:=bp (n:=i+1);simp only[dP G,d_ G,dt G,cj,dd,hw,rV,iE,bb (show Nb.pre (x,x.2.2.1[i]) from⟨ay,ej _ (amm G)⟩)];exact pG (mk:=λ_=>((i:Int)+1,x,()))
      simp
    ·rfl
    ·intro i G b;have hw:=bp (n:=i+1);simp only[dP G,d_ G,dt G,cj,aK,dd,hw];exact pG (mk:=λ_=>((i:Int)+1,x,()))
    simp
  ·grind [rn]
 grind
theorem azx:M8 201=true:=by decide +kernel
abbrev v':aN:=⟨.au (.int .u64) (.int .u64),.au (.int .u64) (.int .u64),λx=>x.1=1/\0<=x.2/\x.2<=200,λx=>(0,x.2)⟩
theorem azy(x):a6 (acz x) (v'.sh x):=bx λh=>by
 obtain⟨a,b⟩:=x;obtain⟨E,L,ak⟩:=h;change a=1 at E;change 0<=b at L;change b<=200 at ak;subst E;have aV:=agE 201 b.toNat azx (by omega);rw[Int.toNat_of_nonneg L]at aV;have hw:=UW (n:=1*b);have azz:((0:Int)<=32)=True:=by simp
 unfold acz;simp only[azz,cj];show mpure (UX (1,b),IntKind.wrap .u64 (1*b))=_;grind
theorem azA(azB)(x):a6 (acx azB v'.sh x) (v'.sh x):=bx λh=>by
 unfold acx;simp only[aN.sh,ff];simp_all
section
variable {af bet:Type}
theorem azC(a d:af)(m J:Nat)(E:1<=m)(L:m<J) :
  List.take m (List.replicate m a++List.replicate (J - m) d)++List.take (J - m) (List.take m (List.replicate m a++List.replicate (J - m) d))++
   List.drop (m+(List.take (J - m) (List.take m (List.replicate m a++List.replicate (J - m) d))).length) (List.replicate m a++List.replicate (J - m) d)
  =List.replicate (m+min (J - m) m) a++List.replicate (J - (m+min (J - m) m)) d:=by
 have aB:List.take m (List.replicate m a++List.replicate (J - m) d)=List.replicate m a:=by
  simp
 rw[aB,List.take_replicate,List.replicate_append_replicate,aQt,List.drop_append,aQt];have bt:List.drop (m+min (J - m) m) (List.replicate m a)=[]:=by simp
 grind
def agJ(d:af)(fin:List af->M bet)(DW:z12'->M (z12'))(x:List af)(n:Int):M bet:=
 aq (if decide (n<0)=true then ag False (ag False (mpure (aF.next (x,n,())))) else mpure (aF.next (x,n,())))
 (aF.gb λ(A:List af×Int×Unit)=>aq (DW (IntKind.wrap .u64 (Int.ofNat (List.length A.1)),IntKind.wrap .u64 A.2.1)) λy
 =>aq (if (decide (y.1 > 0)||decide (y.2 > 9223372036854775807))=true then ag False (ag False (mpure (aF.next (A.1,y.2,())))) else
 mpure (aF.next (A.1,y.2,()))) (aF.gb λ(A:List af×Int×Unit)=>ag (0<=IntKind.wrap .i64 A.2.1/\IntKind.wrap .i64 A.2.1=
 IntKind.wrap .i64 A.2.1/\cb (Int.toNat (IntKind.wrap .i64 A.2.1))) (ag True (aq (dG (λ(A:Int×List af×Unit)=>if decide (A.1
 < Int.ofNat (List.length A.2.1))=true then ag (0<=A.1/\A.1<=Int.ofNat (List.length A.2.1)/\Int.ofNat (List.length A.2.1)<=Int.ofNat
 (List.length A.2.1)) (ag ((0:Int)<=0/\0<=A.1/\A.1<=Int.ofNat (List.length A.2.1)) (ag True (mpure (aF.next (IntKind.wrap .i64
 (Add.add A.1 (Int.ofNat (if Int.toNat (Int.ofNat (List.length A.2.1)) - Int.toNat A.1<=List.length (List.take (Int.toNat A.1) A.2.1) then Int.toNat
 (Int.ofNat (List.length A.2.1)) - Int.toNat A.1 else List.length (List.take (Int.toNat A.1) A.2.1)))),List.take (Int.toNat A.1) A.2.1++List.take
 (Int.toNat (Int.ofNat (List.length A.2.1)) - Int.toNat A.1) (List.take (Int.toNat A.1) A.2.1)++List.drop (Add.add (Int.toNat A.1) (List.length
 (List.take (Int.toNat (Int.ofNat (List.length A.2.1)) - Int.toNat A.1) (List.take (Int.toNat A.1) A.2.1)))) A.2.1,()))))) else aq (mpure
 (aF.next (A.2.1,()))) λr=>mpure (aF.done r)) (Int.ofNat (if List.length (List.replicate (Int.toNat (IntKind.wrap .i64 A.2.1)) d) - 0<=
 List.length A.1 then List.length (List.replicate (Int.toNat (IntKind.wrap .i64 A.2.1)) d) - 0 else List.length A.1),[]++List.take (List.length
 (List.replicate (Int.toNat (IntKind.wrap .i64 A.2.1)) d) - 0) A.1++List.drop (Add.add 0 (List.length (List.take (List.length (List.replicate
 (Int.toNat (IntKind.wrap .i64 A.2.1)) d) - 0) A.1))) (List.replicate (Int.toNat (IntKind.wrap .i64 A.2.1)) d),())) (aF.gb λ(A:List af×
 Unit)=>fin A.1)))))
theorem U3(d a:af)(RZ:List af->bet)(n:Int)(L:0<=n)(ak:n<=200):c6 (agJ d (λl=>mpure (RZ l)) v'.sh [a] n) λy=>y=RZ (List.replicate n.toNat a):=by
 obtain⟨J,rfl⟩:=Int.eq_ofNat_of_zero_le L;have Gu:decide ((J:Int)<0)=false:=by simp
 have n':IntKind.u64.wrap (Int.ofNat ([a]:List af).length)=1:=UW (by simp) (by simp);have azD:=UW (n:=(J:Int));have ov:=bp (n:=(J:Int));have aj:v'.pre (1,(J:Int)):=⟨rfl,L,ak⟩
 have azE:decide ((J:Int) > 9223372036854775807)=false:=by grind
 have n8:cb J:=by unfold cb;omega
 have D:0<=(J:Int)/\True/\cb (Int.toNat (J:Int)):=⟨L,trivial,by grind⟩
 unfold agJ;simp only[Gu,aml,aPA,aK,cK,n',azD,aN.sh,ff];rw[bb (by grind)];simp only[gt_iff_lt,Int.lt_irrefl,aQe,aQo,aml,aPA,aK,cK,ov];have azF:decide ((9223372036854775807:Int)<(J:Int))=false:=azE;simp only[azF,aml,aPA,aK,cK,ov];rw[bb D];simp only[cj,fD,aPQ,aQt,Nat.sub_zero,aQi,aQQ,ct,kV,aQs];refine zX (λs=>∃ m:Nat,(1<=m\/J=0)/\m<=J/\s=((m:Int),List.replicate m a++List.replicate (J - m) d,())) (λs=>J - s.1.toNat) ?_ _ ?_
 ·rintro s ⟨m,hm,aOP,rfl⟩;have hlen:(List.replicate m a++List.replicate (J - m) d).length=J:=by grind
  simp only[hlen];by_cases dk:m<J
  ·have gn:0<=(m:Int)/\(m:Int)<=(J:Int)/\(J:Int)<=(J:Int):=by omega
   have c1:(0:Int)<=0/\0<=(m:Int)/\(m:Int)<=(J:Int):=by omega
   have mY:1<=m:=by omega
   have Iw:(List.take m (List.replicate m a++List.replicate (J - m) d)).length=m:=by simp
   simp only[dP dk,if_true,bb gn,bb c1,cj,aPQ,Iw,dd];rw[dF,azC a d m J mY dk];have bo:(if J - m<=m then J - m else m)=min (J - m) m:=by rfl
   rw[bo];have gF:=bp (n:=(m:Int)+((min (J - m) m:Nat):Int));refine⟨⟨m+min (J - m) m,.inl (by omega),by omega,?_⟩,?_⟩
   ·rw[gF];simp
   ·simp only[gF];omega
  ·have:m=J:=by omega
   subst this;simp only[Int.lt_irrefl,aQe,aml,aPA,aK,dF,cK,Nat.sub_self,List.replicate_zero,aPN]
 ·by_cases aOQ:J=0
  ·grind
  ·refine⟨1,.inl (amo _),by omega,?_⟩;grind
end
abbrev Nc:aN:=⟨.au hK bH,hK,λx=>x.1=[-1]/\0<=x.2/\x.2<=200,λx=>List.replicate x.2.toNat (-1)⟩
theorem azG(x):a6 (auv v'.sh x) (Nc.sh x):=rU λh=>by
 obtain⟨l,n⟩:=x;obtain⟨E,L,ak⟩:=h;change l=[-1]at E;subst E;exact U3 (0:Int) (-1) (λl=>l) n L ak
def zi(x:z1'×z22'):M (z14'):=eF (x.1=[-1]/\0<=x.2.1/\x.2.1<=200) (List.replicate x.2.1.toNat (-1),())
theorem agK(x):a6 (auC v'.sh x) (zi x):=rU λh=>by
 obtain⟨l,n,u⟩:=x;obtain⟨E,L,ak⟩:=h;change l=[-1]at E;subst E;exact U3 (0:Int) (-1) (λl=>(l,())) n L ak
abbrev Nd:V:=.ad (.au bH bH)
abbrev Nf:aN:=⟨.au (.slice Nd) bH,.slice Nd,λx=>x.1.length=1/\0<=x.2/\x.2<=200,λx=>List.replicate x.2.toNat (x.1.getD 0 (0,0))⟩
theorem azH(x):a6 (auA v'.sh x) (Nf.sh x):=rU λh=>by
 obtain⟨l,n⟩:=x;obtain⟨E,L,ak⟩:=h;change l.length=1 at E;obtain⟨a,rfl⟩:=List.length_eq_one_iff.1 E;exact U3 ((0,0):z12') a (λl=>l) n L ak
end Go.Fer
namespace Go.Fer
def BO(s:bO)(n:Int):Bool:=decide (0<=n)&&decide (n<(s.2.2.2.1.length:Int))
def BP(s:bO)(n:Int):Bool:=decide (0<=n)&&decide (n<(s.2.2.1.length:Int))
variable {s:bO}
theorem azI{n:Int}:BO s n=true<->0<=n/\n<(s.2.2.2.1.length:Int):=by simp[BO]
theorem azJ{n:Int}:BP s n=true<->0<=n/\n<(s.2.2.1.length:Int):=by simp[BP]
abbrev U4:aN:=⟨.au o6 bH,dY,λx=>ij x.1,λx=>BO x.1 x.2⟩
abbrev U5:aN:=⟨.au o6 bH,dY,λx=>ij x.1,λx=>BP x.1 x.2⟩
theorem azK(x):a6 (ac6 dv.sh x) (U4.sh x):=bx λh=>by
 have ah:=h.2.2.2.1;have hw:=bp (n:=(x.1.2.2.2.1.length:Int) - 1);unfold ac6 aQ cD;simp[aN.sh,dv,hw,BO,y']
theorem azL(x):a6 (ac' dv.sh x) (U5.sh x):=bx λh=>by
 have ah:=h.2.2.1;have hw:=bp (n:=(x.1.2.2.1.length:Int) - 1);unfold ac' aQ cD;simp[aN.sh,dv,hw,BP,y']
def wa(x:mg)(p:oY):Int:=if (!x.1.contains p.1||!cH p.2.1 x.2.1.1 x.2.1.2)=true then 0 else if p.2.2.1=x.2.2.1 then 1 else if p.2.2.1=0 then 2 else 0
abbrev BQ:aN:=⟨.au pP pO,bH,λx=>x.1.1.length<2 ^ 63,λx=>wa x.1 x.2⟩
theorem azM(x):a6 (ada dv.sh r3.sh x) (BQ.sh x):=bx λh=>by
 unfold ada b_ bo;simp only[aN.sh,dv,r3,ff,me,aP8,cj,vH];rw[bb (by exact h)];show _=mpure (wa x.1 x.2);unfold wa cH;grind
def zj(s:bO)(l:z1')(i:Nat):Bool:=decide (l.getD i 0=-1)||(BP s (l.getD i 0)&&!(l.take i).contains (l.getD i 0))
def zk(s:bO)(l:z1'):Bool:=((List.range l.length).all (zj s l))&&decide ((l.length:Int)=(s.2.2.2.1.length:Int))
abbrev Ng:aN:=⟨.au o6 hK,dY,λx=>ij x.1/\x.2.length<2 ^ 63,λx=>zk x.1 x.2⟩
theorem azN(x):a6 (adb U5.sh r3.sh x) (Ng.sh x):=bx λh=>by
 obtain⟨s,l⟩:=x;obtain⟨ay,ah⟩:=h;change ij s at ay;change l.length<2 ^ 63 at ah;unfold adb b_ bz bo a8 aQ bK cS bY bc bS;rw[ev (List.range l.length) (λi (_:Unit)=>(l,l,(l.length:Int),(i:Int),s,())) (λi b=>if (!zj s l i)=true then .done (.done false) else .next b) (λ_=>.next (l,s,())) () ?_ ?_ ?_]
 ·rw[mf (q:=zj s l) _ _ (λ_=>rfl)];show _=mpure (zk s l);unfold zk;cases (List.range l.length).all (zj s l)<;>simp
 ·simp
 ·intro i G b;have G:i<l.length:=by grind
  have hw:=bp (n:=(i:Int)+1);obtain⟨aI,j8⟩:∃ aI,l.getD i 0=aI:=⟨_,rfl⟩
  have b5:zj s l i=(decide (aI=-1)||(BP s aI&&!(l.take i).contains aI)):=by unfold zj;rw[j8]
  simp only[ct,dP G,if_true,aPC,dt G,cj,aN.sh,ff,me,aPQ,j8];rw[bb (by grind),bb,bb]
  ·simp only[aK,dd,hw,zj,j8];by_cases E:aI=-1
   ·simp_all
   ·cases L:BP s aI<;>cases ak:(l.take i).contains aI<;>simp[E,L,ak,aF.pF]
  ·intro _;show (l.take i).length<2 ^ 63;rw[aQm];omega
  ·intro df;exact⟨⟨df,trivial,df⟩,⟨by omega,by omega,by omega⟩,trivial⟩
 simp
def nh(s:bO)(cB:Bool):Int:=if lV s≠0 then lV s else if cB=false then 1 else fQ s.1 true
theorem agL(h:lV s=0):dJ s.1=0/\rn s=true:=by
 unfold lV at h;grind
theorem EI{cB:Bool}(h:nh s cB=0):lV s=0/\cB=true/\fQ s.1 true=0/\zf s.1=true:=by
 unfold nh at h;by_cases he:lV s=0
 ·rw[if_neg (by omega)]at h;cases cB with
  | false=>grind
  | true=>
   simp only[aRb,aPA]at h;exact⟨he,rfl,h,(Il h).2.2⟩
 omega
structure ow(s:bO):Prop where
 iL:ij s
 qw:tt s.1
 Ix:s.2.1.length=s.1.1.length
 U6:∀ n∈s.2.1,0<=n/\n<=10
 Nh:s.2.2.1.length<=8
 azO:∀ p∈s.2.2.1,v_ s.1 p=true
 xQ:s.2.2.2.1.length<=6
 agM:∀ x∈s.2.2.2.1,uM x=true
 U7:s.2.2.2.2.1.length<=8
 agN:∀ d∈s.2.2.2.2.1,tv s.1 d=true
 azP:0<=s.2.2.2.2.2/\s.2.2.2.2.2<=99
theorem EJ(ay:ij s)(h:lV s=0):ow s:=by
 obtain⟨E,L⟩:=agL h;simp only[rn,amn,amq,aP4,cH,mm]at L;obtain⟨⟨⟨⟨⟨⟨⟨⟨aM,aS⟩,b4⟩,hZ⟩,sJ⟩,xi⟩,Bh⟩,Hr⟩,Sr⟩:=L;exact⟨ay,⟨ay.1,UR E⟩,by omega,aS,by omega,hZ,by omega,xi,by omega,Hr,Sr⟩
theorem ow.agO(h:ow s):s.1.1.length<=10:=(Ij h.qw.2).1
def Ni(w:bZ)(t:z7')(q:z16'):z7':=if xN w q.1 q.2.1 q.2.2=1 then yW t q (IntKind.i64.wrap ((rm t q).getD 0+1)) else t
def agP(w:bZ)(i m:Nat)(t:z7'):z7':=(List.range (lr w (m:Int)).length).foldl (λt (k:Nat)=>Ni w t ((i:Int),(m:Int),(k:Int))) t
def agQ(w:bZ)(i:Nat)(t:z7'):z7':=(List.range w.2.1.length).foldl (λt m=>agP w i m t) t
def xR(w:bZ)(n:Nat):z7':=(List.range n).foldl (λt i=>agQ w i t) []
def o7(p:z12')(n:Int):z4':=List.replicate n.toNat p
def Iy(l:z1'):z4':=(List.range l.length).flatMap λ(i:Nat)=>o7 ((i:Int),0) (l.getD i 0)
def agR(l:List DY):z4':=l.flatMap λd=>o7 (d.2.1,d.1) d.2.2
def U8(s:bO):z4':=Iy s.2.1++agR s.2.2.2.2.1
def ez(s:bO):fX:=(s,U8 s,xR s.1 s.2.1.length)
def BR(s:bO)(cB:Bool):Option fX×Int:=if nh s cB≠0 then (none,nh s cB) else (some (ez s),0)
theorem U9{af bet:Type}(f:af->List bet):∀ (l:List af) (b:List bet),l.foldl (λb x=>b++f x) b=b++l.flatMap f
 | [],b=>by simp
 | x::l,b=>by rw[aPY,U9 f l,aQd,aQG]
abbrev azQ:V:=.ad (.au bH (.au bH bH))
abbrev zl:V:=.bM (.ad (.au o6 (.au (.slice Nd) (.map azQ bH))))
abbrev EK:aN:=⟨.au o6 dY,.au zl bH,λx=>ij x.1,λx=>BR x.1 x.2⟩
theorem azR(s:bO)(cB:Bool)(ay:ij s):Tv sa.sh EC.sh ED.sh Nf.sh (s,cB)=mpure (BR s cB):=by
 unfold Tv b3 hi bz cm bo a8 aQ bK bY pD bc bS dB BR nh;simp only[aN.sh,ff,bb ay];by_cases he:lV s=0
 ·have ae:=EJ ay he;simp only[he,ne_eq,not_true,aQe,aml,aPA];cases cB with
  | false=>simp
  | true=>
   simp only[aP9,aml,aPA,aRb];refine Eq.trans (congrArg (λm=>aq m _) (show _=(if fQ s.1 true≠0 then mpure (aF.done ((none:Option fX),fQ s.1 true)) else mpure (aF.next (s,([]:z7'),s.1.1,s.1.2.1,s.1.2.2.1,s.1.2.2.2,s.2.1,s.2.2.1,s.2.2.2.1,s.2.2.2.2.1,s.2.2.2.2.2,()))) from ?_)) ?_
   ·by_cases bA:s.2.1.length=0
    ·have aG:fQ s.1 true=0:=by
      unfold fQ;have aV:s.1.1.length=0:=by rw[<-ae.Ix];exact bA
      have:zf s.1=true:=by unfold zf;grind
      simp[(agL he).1,this]
     grind
    ·have E:decide (Int.ofNat (List.length s.2.1) > 0)=true:=by grind
     have L:iS s.1 0=true:=by rw[xL];have:=ae.Ix;omega
     rw[if_pos E,bb ay.1];unfold EB;rw[L];by_cases an:fQ s.1 true=0
     ·simp[an]
     ·simp[an]
   by_cases U_:fQ s.1 true=0
   ·simp only[U_,ne_eq,not_true,aPA,aK,cK];have aOR:=ae.agO;have fH:=ae.Ix;have azS:s.1.2.1.length<=6:=(Ij ae.qw.2).2.1;rw[ev (List.range s.2.1.length) (λi t=>((s.2.1.length:Int),(i:Int),s,t,s.1.1,s.1.2.1,s.1.2.2.1,s.1.2.2.2,s.2.1,s.2.2.1,s.2.2.2.1,s.2.2.2.2.1,s.2.2.2.2.2,())) (λi t=>.next (agQ s.1 i t)) (λt=>.next (s,t,s.1.1,s.1.2.1,s.1.2.2.1,s.1.2.2.2,s.2.1,s.2.2.1,s.2.2.2.1,s.2.2.2.2.1,s.2.2.2.2.2,())) [] ?_ ?_ ?_]
    ·rw[ee];simp only[aK,cK];rw[e6 (List.range s.2.1.length) (λi acc=>(s.2.1,(s.2.1.length:Int),(i:Int),s,xR s.1 s.2.1.length,s.1.1,s.1.2.1,s.1.2.2.1,s.1.2.2.2,s.2.1,s.2.2.1,s.2.2.2.1,s.2.2.2.2.1,s.2.2.2.2.2,acc,())) (λi acc=>.next (acc++o7 ((i:Int),0) (s.2.1.getD i 0))) (λacc=>.next (s,xR s.1 s.2.1.length,s.1.1,s.1.2.1,s.1.2.2.1,s.1.2.2.2,s.2.1,s.2.2.1,s.2.2.2.1,s.2.2.2.2.1,s.2.2.2.2.2,acc,())) (λi acc=>acc.length<=10*i) [] ?_ ?_ ?_ ?_]
     ·rw[ee,U9];simp only[aK,cK,aQi];have hs:(Iy s.2.1).length<=100:=by
       have:∀ (l:List Nat),(∀ i∈l,i<s.2.1.length)->(l.flatMap λ(i:Nat)=>o7 ((i:Int),0) (s.2.1.getD i 0)).length<=10*l.length:=by
        intro l;induction l with
        | nil=>simp
        | cons i l aO=>
         intro ah;have E:=aO λj aJ=>ah j (by grind);have L:=ah i (by simp);have ak:=ae.U6 _ (amm L);have j8:s.2.1.getD i 0=s.2.1[i]:=by grind
         rw[aQd,aP1,aQn,j8];simp only[o7,aQt];simp only[o7]at E;omega
       have:=this (List.range s.2.1.length) (λi G=>by grind);rw[List.length_range]at this;unfold Iy;omega
      rw[e6 s.2.2.2.2.1 (λi acc=>(s.2.2.2.2.1,(s.2.2.2.2.1.length:Int),(i:Int),xR s.1 s.2.1.length,s.1.1,s.1.2.1,s.1.2.2.1,s.1.2.2.2,s.2.1,s.2.2.1,s.2.2.2.1,s.2.2.2.2.1,s.2.2.2.2.2,acc,())) (λd acc=>.next (acc++o7 (d.2.1,d.1) d.2.2)) (λacc=>.next (xR s.1 s.2.1.length,s.1.1,s.1.2.1,s.1.2.2.1,s.1.2.2.2,s.2.1,s.2.2.1,s.2.2.2.1,s.2.2.2.2.1,s.2.2.2.2.2,acc,())) (λi acc=>acc.length<=100+10*i) (Iy s.2.1) ?_ ?_ ?_ ?_]
      ·rw[ee,U9,aK,cK];rfl
      ·rfl
      ·omega
      ·intro i G acc UT;have b3:=ae.U7;have lU:=bp (n:=(i:Int)+1);have aw:=ae.agN _ (amm G);have R3:1<=s.2.2.2.2.1[i].2.2/\s.2.2.2.2.1[i].2.2<=10:=by
        simp only[tv,cH,amn,amq]at aw;omega
       have hlen:(o7 (s.2.2.2.2.1[i].2.1,s.2.2.2.2.1[i].1) s.2.2.2.2.1[i].2.2).length<=10:=by simp only[o7,aQt];omega
       have n8:cb (acc.length+(o7 (s.2.2.2.2.1[i].2.1,s.2.2.2.2.1[i].1) s.2.2.2.2.1[i].2.2).length):=by unfold cb;omega
       refine⟨?_,λbf U=>?_⟩
       ·simp only[ct,dP G,if_true,d_ G,dt G,cj,rV,iE,dd,kV,lU];rw[bb (by grind),bb (by exact n8)];rfl
       grind
      simp
     ·rfl
     ·simp
     ·intro i G acc UT;have G:i<s.2.1.length:=by grind
      have lU:=bp (n:=(i:Int)+1);have j8:s.2.1.getD i 0=s.2.1[i]:=by grind
      have R3:=ae.U6 _ (amm G);have hlen:(o7 ((i:Int),0) s.2.1[i]).length<=10:=by simp only[o7,aQt];omega
      have n8:cb (acc.length+(o7 ((i:Int),0) s.2.1[i]).length):=by unfold cb;omega
      refine⟨?_,λbf U=>?_⟩
      ·simp only[ct,dP G,if_true,d_ G,dt G,cj,rV,iE,dd,kV,lU,aPC,j8];rw[bb (by grind),bb (by exact n8)];rfl
      grind
     simp
    ·simp
    ·intro i G t;have G:i<s.2.1.length:=by grind
     have lU:=bp (n:=(i:Int)+1);simp only[ct,dP G,if_true,aPC];rw[ev (List.range s.1.2.1.length) (λm t=>((i:Int),(s.2.1.length:Int),(i:Int),s.1.2.1,(s.1.2.1.length:Int),(m:Int),s,t,s.1.1,s.1.2.1,s.1.2.2.1,s.1.2.2.2,s.2.1,s.2.2.1,s.2.2.2.1,s.2.2.2.2.1,s.2.2.2.2.2,())) (λm t=>.next (agP s.1 i m t)) (λt=>.next ((s.2.1.length:Int),(i:Int),s,t,s.1.1,s.1.2.1,s.1.2.2.1,s.1.2.2.2,s.2.1,s.2.2.1,s.2.2.2.1,s.2.2.2.2.1,s.2.2.2.2.2,())) t ?_ ?_ ?_]
     ·rw[ee];simp only[aK,cK,dd,lU];rfl
     ·rfl
     ·intro m hm t;have hm:m<s.1.2.1.length:=by grind
      have U':=bp (n:=(m:Int)+1);have azT:s.1.2.1[m]=lr s.1 (m:Int):=by simp[lr,amp,hm]
      simp only[ct,dP hm,if_true,aPC,dt hm,cj,d_ hm,azT];have Ii:=MY ay.1 (m:Int);rw[ev (List.range (lr s.1 (m:Int)).length) (λk t=>((i:Int),(m:Int),(s.2.1.length:Int),(i:Int),s.1.2.1,(s.1.2.1.length:Int),(m:Int),((lr s.1 (m:Int)).length:Int),(k:Int),s,t,s.1.1,s.1.2.1,s.1.2.2.1,s.1.2.2.2,s.2.1,s.2.2.1,s.2.2.2.1,s.2.2.2.2.1,s.2.2.2.2.2,())) (λk t=>.next (Ni s.1 t ((i:Int),(m:Int),(k:Int)))) (λt=>.next ((i:Int),(s.2.1.length:Int),(i:Int),s.1.2.1,(s.1.2.1.length:Int),(m:Int),s,t,s.1.1,s.1.2.1,s.1.2.2.1,s.1.2.2.2,s.2.1,s.2.2.1,s.2.2.2.1,s.2.2.2.2.1,s.2.2.2.2.2,())) t ?_ ?_ ?_]
      ·rw[ee];simp only[aK,cK,dd,U'];rfl
      ·rfl
      ·intro k an t;have an:k<(lr s.1 (m:Int)).length:=by grind
       have lS:=bp (n:=(k:Int)+1);have mc:iS s.1 (i:Int)=true:=by rw[xL];omega
       have Va:kN s.1 (m:Int) (k:Int)=true:=by rw[Ey];omega
       have ax:tu s.1 (i:Int) (m:Int) (k:Int)=(xN s.1 (i:Int) (m:Int) (k:Int),0):=by simp[tu,mc,Va,U_]
       simp only[dP an,if_true,aPC];simp only[ax,bb ay.1,amq];by_cases E:xN s.1 (i:Int) (m:Int) (k:Int)=1
       ·simp only[E,if_true,aQJ,cj,aK,cK,dd,lS,aF.pF,Ni];rfl
       ·simp only[E,aPA,aK,cK,dd,lS,aF.pF,Ni];rfl
      simp
     simp
    simp
   ·simp[U_]
 grind
theorem azU(x):a6 (Tv sa.sh EC.sh ED.sh Nf.sh x) (EK.sh x):=bx λh=>azR x.1 x.2 h
variable {p:Int->Bool}{l:z1'}
theorem azV(h:ng p l=true):∀ x∈l,p x=true:=by
 intro x ao;obtain⟨i,G,rfl⟩:=List.mem_iff_getElem.1 ao;unfold ng at h;simp_all
theorem azW(h:ng p l=true):l.Pairwise (·<·):=by
 unfold ng at h;have key:∀ j i,i<j->j<l.length->l.getD i 0<l.getD j 0:=by
  intro j;induction j<;>grind
 rw[List.pairwise_iff_getElem];grind
theorem Vb(ae:ow s){p:oY}(aj:p∈s.2.2.1):tn s.1 p.2.2.2.1=true/\p.2.2.2.2.length<=4/\∀ k∈p.2.2.2.2,kN s.1 p.2.2.2.1 k=true:=by
 have h:=ae.azO p aj;simp  [v_]at h;obtain⟨⟨_,hm⟩,D⟩:=h;have gu:∀ k∈p.2.2.2.2,kN s.1 p.2.2.2.1 k=true:=λk an=>by
  have:=azV D k an;rw[Ey];simp  [M9,amq]at this;exact⟨UN.1 hm,this⟩
 refine⟨hm,?_,gu⟩;have azX:=azW D;have Gi:p.2.2.2.2.Nodup:=azX.imp λh e=>by omega
 cases U:p.2.2.2.2 with
 | nil=>simp
 | cons k l=>
  rw[<-U];have aZ:=ayw ae.qw.2 (gu k (by grind));have:=agD (lr s.1 p.2.2.2.1).length p.2.2.2.2 Gi λk an=>by
   have:=Ey.1 (gu k an);omega
  omega
abbrev uO:Type:=z16'
abbrev azY:mg:=([],(0,0),0,0,0)
abbrev azZ:oY:=(0,0,0,0,[])
abbrev BS:fX:=((([],[],0,[]),[],[],[],[],0),[],[])
def pQ(s:bO)(i:Int):mg:=s.2.2.2.1.getD i.toNat azY
def qz(s:bO)(i:Int):oY:=s.2.2.1.getD i.toNat azZ
def zm(s:bO)(x:mg)(p:oY):Option Int:=if wa x p=0 then none else if (if wa x p=2 then x.2.2.2.1 - s.2.2.2.2.2 else x.2.2.2.1)<0 then none else some (if wa x p=2 then x.2.2.2.1 - s.2.2.2.2.2 else x.2.2.2.1)
def rp(s:bO)(dm:z1')(i:Nat):Option (List uO):=if dm.getD i 0<0 then some [] else (zm s (pQ s (i:Int)) (qz s (dm.getD i 0))).map λd=>(qz s (dm.getD i 0)).2.2.2.2.map λk=>((qz s (dm.getD i 0)).2.2.2.1,k,d)
def nJ(s:bO)(dm:z1'):List uO×Bool:=if ((List.range dm.length).all λi=>(rp s dm i).isSome)=true then ((List.range dm.length).flatMap λi=>(rp s dm i).getD [],true) else ([],false)
def qA(s:bO)(dm:z1'):Prop:=dm.length<=s.2.2.2.1.length/\∀ p∈dm,p<(s.2.2.1.length:Int)
def qB(o:Option fX):bO:=(o.getD BS).1
def zn(o:Option fX)(s:bO):Prop:=o=some (ez s)/\ow s
variable {i:Nat}
theorem Vc(h:i<s.2.2.2.1.length):pQ s (i:Int)∈s.2.2.2.1:=by
 simp[pQ,h]
theorem agS{i:Int}(aV:0<=i)(h:i<(s.2.2.1.length:Int)):qz s i∈s.2.2.1:=Bo aV h
theorem agT(ae:ow s){x:mg}(ao:x∈s.2.2.2.1):(0<=x.2.2.2.1/\x.2.2.2.1<=99)/\(0<=x.2.2.2.2/\x.2.2.2.2<=100000):=by
 have:=ae.agM x ao;simp  [uM,mm,cH,amq]at this;omega
variable {l:List uO}{dm:z1'}
theorem agU(ae:ow s)(aj:qA s dm)(G:i<dm.length)(h:rp s dm i=some l):l.length<=4:=by
 unfold rp at h;split at h
 ·grind
 ·rw[aP3]at h;obtain⟨d,_,rfl⟩:=h;rw[aPJ];have hm:dm.getD i 0∈dm:=by grind
  exact (Vb ae (agS (by omega) (aj.2 _ hm))).2.1
variable {af:Type}{bet:Type}{rho:Type}
def EL(f:af->Option (List bet))(r:rho)(x:af)(b:List bet):aF (List bet) rho:=if (f x).isSome=true then .next (b++(f x).getD []) else .done r
theorem Iz{f:af->Option (List bet)}{r:rho}{x:af}{b y:List bet}(h:f x=some y):EL f r x b=.next (b++y):=by simp[EL,h]
theorem Nj{f:af->Option (List bet)}{r:rho}{x:af}{b:List bet}(h:f x=none):EL f r x b=.done r:=by simp[EL,h]
theorem agV{af bet rho:Type}{f:af->Option (List bet)}{r:rho}{fin:List bet->rho}:∀ (l:List af) (b:List bet),fb (EL f r) fin l b=if (l.all λx=>(f x).isSome)=true then fin (b++l.flatMap λx=>(f x).getD []) else r
 | [],b=>by simp[fb]
 | x::l,b=>by
  simp  [fb];cases h:f x with
  | none=>simp[Nj h,h]
  | some y=>
   have:=agV (f:=f) (r:=r) (fin:=fin) l (b++y);simp  [Iz h,amx];grind
abbrev Nk:V:=.ad (.au bH (.au bH bH))
abbrev Nl:aN:=⟨.au zl hK,.au (.slice Nk) dY,λx=>∃ s,zn x.1 s/\qA s x.2,λx=>nJ (qB x.1) x.2⟩
theorem az0(s:bO)(ae:ow s)(dm:z1')(aj:qA s dm):Tw BQ.sh (some (ez s),dm)=mpure (nJ s dm):=by
 unfold Tw bz cm bo a8 aQ bK cS iO bY bc eD bS cD;have EM:=ae.xQ;have aOS:=aj.1;rw[e6 (List.range dm.length) (λi acc=>(some (ez s),dm,(dm.length:Int),(i:Int),acc,())) (EL (rp s dm) (.done ([],false))) (λacc=>.next (acc,())) (λi acc=>acc.length<=4*i) [] ?_ ?_ ?_ ?_]
 ·rw[agV];unfold nJ;by_cases h:((List.range dm.length).all λi=>(rp s dm i).isSome)=true
  ·simp[h]
  ·simp[h]
 ·rfl
 ·simp
 ·intro i G acc UT;have G:i<dm.length:=by grind
  have BT:i<s.2.2.2.1.length:=by omega
  have lU:=bp (n:=i+1);have Nn:=Vc BT;rw[aPC];obtain⟨aI,az1⟩:∃ aI,dm.getD i 0=aI:=⟨_,rfl⟩
  have az2:aI∈dm:=by grind
  refine⟨?_,λbf U=>?_⟩
  ·simp only[aPQ,az1,amx];by_cases Gu:aI<0
   ·have qe:rp s dm i=some []:=by unfold rp;grind
    rw[Iz qe];simp_all
   ·have kS:=aj.2 aI az2;have az3:=agS   (by omega) kS;have hs:(ez s).1=s:=rfl;have IA:List.getD s.2.2.2.1 i ([],(0,0),0,0,0)=pQ s i:=rfl;have Vd:List.getD s.2.2.1 aI.toNat (0,0,0,0,[])=qz s aI:=rfl;simp only[Gu,hs,aN.sh,ff,IA,Vd];have qe:rp s dm i=(zm s (pQ s i) (qz s aI)).map λd=>(qz s aI).2.2.2.2.map λk=>((qz s aI).2.2.2.1,k,d):=by unfold rp;grind
    rw[bb (ae.iL.2.2.2.2.2.2 _ Nn)];obtain⟨aOT,_⟩:=agT ae Nn;have pA:=ae.azP;obtain⟨azS,gK,sS⟩:=Vb ae az3;have az4:=bp (n:=(pQ s i).2.2.2.1 - s.2.2.2.2.2);generalize pQ s i=x at *
    generalize qz s aI=p at *
    by_cases aV:wa x p=0
    ·have aw:zm s x p=none:=by unfold zm;grind
     rw[aw]at qe;rw[Nj qe];simp_all
    ·by_cases L:wa x p=2;all_goals simp only[aV,L,aRd,aQe,aml,aPA,if_true,aK,cK,az4,Int.reduceEq]
     ·have aw:zm s x p=(if x.2.2.2.1 - s.2.2.2.2.2<0 then none else some (x.2.2.2.1 - s.2.2.2.2.2)):=by unfold zm;grind
      generalize x.2.2.2.1 - s.2.2.2.2.2=d at *
      by_cases xh:d<0
      ·rw[if_pos xh]at aw;rw[aw]at qe;rw[Nj qe];simp_all
      ·rw[if_neg xh]at aw;rw[aw]at qe;rw[Iz qe];simp  [xh,aPA];rw[e6 p.2.2.2.2 (λk acc=>(some (ez s),d,dm,(dm.length:Int),(i:Int),p.2.2.2.2,(p.2.2.2.2.length:Int),(k:Int),acc,p,())) (λk acc=>.next (acc++[(p.2.2.2.1,k,d)])) (λacc=>.next (some (ez s),dm,dm.length,i,acc,())) (λk BU=>BU.length<=4*i+k) acc ?_ ?_ ?_ ?_]
       ·rw[ee,rX];simp_all
       ·rfl
       ·omega
       ·intro k an BU az5;have lS:=bp (n:=k+1);have n8:cb (BU.length+(0+1)):=by unfold cb;omega
        refine⟨?_,λbf U=>?_⟩
        ·simp_all
        grind
       simp
     ·have aw:zm s x p=(if x.2.2.2.1<0 then none else some x.2.2.2.1):=by unfold zm;grind
      generalize x.2.2.2.1=d at *
      by_cases xh:d<0
      ·omega
      ·rw[if_neg xh]at aw;rw[aw]at qe;rw[Iz qe];simp  [xh,aPA];rw[e6 p.2.2.2.2 (λk acc=>(some (ez s),d,dm,(dm.length:Int),(i:Int),p.2.2.2.2,(p.2.2.2.2.length:Int),(k:Int),acc,p,())) (λk acc=>.next (acc++[(p.2.2.2.1,k,d)])) (λacc=>.next (some (ez s),dm,dm.length,i,acc,())) (λk BU=>BU.length<=4*i+k) acc ?_ ?_ ?_ ?_]
       ·rw[ee,rX];simp_all
       ·rfl
       ·omega
       ·intro k an BU az5;have lS:=bp (n:=k+1);have n8:cb (BU.length+(0+1)):=by unfold cb;omega
        refine⟨?_,λbf U=>?_⟩
        ·simp_all
        grind
       simp
  ·cases qe:rp s dm i with
   | none=>rw[Nj qe]at U;grind
   | some y=>
    rw[Iz qe]at U;have:=agU ae aj G qe;grind
 simp
theorem az6(x):a6 (Tw BQ.sh x) (Nl.sh x):=bx λh=>by
 obtain⟨o,dm⟩:=x;obtain⟨s,⟨ax,ae⟩,aj⟩:=h;subst ax;exact az0 s ae dm aj
def xS(s:bO)(dm:z1'):Int:=((List.range dm.length).map λ(i:Nat)=>if dm.getD i 0=-1 then 0 else (pQ s (i:Int)).2.2.2.2).foldl (·+·) 0
abbrev zo:aN:=⟨.au zl hK,bH,λx=>∃ s,zn x.1 s/\x.2.length<=s.2.2.2.1.length,λx=>xS (qB x.1) x.2⟩
theorem az7(s:bO)(ae:ow s)(dm:z1')(aj:dm.length<=s.2.2.2.1.length):TA (some (ez s),dm)=mpure (xS s dm):=by
 unfold TA e0 bz cm bo aQ bK bY bc bS;have EM:=ae.xQ;rw[e6 (List.range dm.length) (λi n=>(some (ez s),n,dm,(dm.length:Int),(i:Int),())) (λi n=>.next (n+if dm.getD i 0=-1 then 0 else (pQ s i).2.2.2.2)) (λn=>.next (n,())) (λi n=>0<=n/\n<=100000*i) 0 ?_ ?_ ?_ ?_]
 ·rw[ee];unfold xS;rw[List.foldl_map,aK,cK]
 ·rfl
 ·simp
 ·intro i G n aA;have G:i<dm.length:=by grind
  have BT:i<s.2.2.2.1.length:=by omega
  have lU:=bp (n:=i+1);obtain⟨_,q2⟩:=agT ae (Vc BT);have IA:List.getD s.2.2.2.1 i ([],(0,0),0,0,0)=pQ s i:=rfl;have zh:=bp (n:=n+(pQ s i).2.2.2.2);have hs:(ez s).1=s:=rfl;refine⟨?_,λbf U=>?_⟩
  ·by_cases E:dm.getD i 0=-1<;>simp_all
  grind
 simp
theorem az8(x):a6 (TA x) (zo.sh x):=bx λh=>by
 obtain⟨o,dm⟩:=x;obtain⟨s,⟨ax,ae⟩,aj⟩:=h;subst ax;exact az7 s ae dm aj
theorem IB{l:z1'}{j:Nat}{s:Int}(aJ:j<l.length):(l.set j s).getD i 0=if i=j then s else l.getD i 0:=by
 grind
theorem az9{J:Nat}(h:i<J):(List.replicate J (-1:Int)).getD i 0=-1:=by
 grind
def mG(g:z1')(j:Int):Nat:=g.countP λx=>decide (x=j)
theorem agW:∀ {g:z1'} {i:Nat} {x:Int} (j:Int),i<g.length->mG (g.set i x) j+(if g.getD i 0=j then 1 else 0)=mG g j+(if x=j then 1 else 0)
 | [],i,x,j,h=>by grind
 | y::g,0,x,j,h=>by
  unfold mG;grind
 | y::g,i+1,x,j,h=>by
  unfold mG at *
  grind
theorem az_{g:z1'}{j:Int}(G:i<g.length)(h:g.getD i 0=j):0<mG g j:=by
 unfold mG;grind
def qC(gd:Nat->Int->Bool)(rec:Int->ou->Bool×ou)(own:Int)(i:Nat)(ad:ou):aF ou (Bool×ou):=
 if (decide (d' ad.2 (i:Int) > 0)||!gd i own)=true then .next ad
 else if decide (ad.1.getD i 0=-1)=true then .done (true,(ad.1.set i own,g_ ad.2 (i:Int) (d' ad.2 (i:Int)+1)))
 else if (rec (ad.1.getD i 0) (ad.1,g_ ad.2 (i:Int) (d' ad.2 (i:Int)+1))).1=true then .done (true,((rec (ad.1.getD i 0) (ad.1,g_ ad.2 (i:Int) (d' ad.2 (i:Int)+1))).2.1.set i own,(rec (ad.1.getD i 0) (ad.1,g_ ad.2 (i:Int) (d' ad.2 (i:Int)+1))).2.2))
 else .next (rec (ad.1.getD i 0) (ad.1,g_ ad.2 (i:Int) (d' ad.2 (i:Int)+1))).2
def mH(gd:Nat->Int->Bool)(m:Nat):Nat->Int->ou->Bool×ou
 | 0=>λ_ ad=>(false,ad)
 | f+1=>λown ad=>fb (qC gd (mH gd m f) own) (λad=>(false,ad)) (List.range m) ad
def agX(m J:Nat)(g:z1'):Prop:=∀ i,i<m->g.getD i 0=-1\/(0<=g.getD i 0/\g.getD i 0<(J:Int))
structure BV(m J f:Nat)(ad:ou):Prop where
 len:ad.1.length=m
 ox:agX m J ad.1
 hn:∀ k,0<=d' ad.2 k/\d' ad.2 k<=1
 cZ:xP m ad.2<f
structure Ve(m J:Nat)(ad r:ou):Prop where
 len:r.1.length=m
 ox:agX m J r.1
 hn:∀ k,d' ad.2 k<=d' r.2 k/\d' r.2 k<=1
def agY(gd:Nat->Int->Bool)(m:Nat)(g:z1')(C:Int->Prop):Prop:=∀ j,C j->∀ i,i<m->gd i j=true->g.getD i 0≠-1/\C (g.getD i 0)
def agZ(gd:Nat->Int->Bool)(m:Nat)(g:z1')(s s':z4'):Prop:=∀ i,i<m->d' s (i:Int)=0->1<=d' s' (i:Int)->g.getD i 0≠-1/\∀ k,k<m->gd k (g.getD i 0)=true->1<=d' s' (k:Int)
structure Vf(gd:Nat->Int->Bool)(m:Nat)(own:Int)(ad:ou)(r:Bool×ou):Prop where
 Vg:r.1=false->r.2.1=ad.1/\(∀ i,i<m->gd i own=true->1<=d' r.2.2 (i:Int))/\agZ gd m ad.1 ad.2 r.2.2
 ag0:r.1=true->(∀ i,i<m->r.2.1.getD i 0=ad.1.getD i 0\/(d' ad.2 (i:Int)=0/\gd i (r.2.1.getD i 0)=true))/\∀ j,j≠-1->mG r.2.1 j=mG ad.1 j+(if j=own then 1 else 0)
 cl:∀ C,agY gd m ad.1 C->(C own->r.1=false)/\(r.1=true->∀ i,i<m->r.2.1.getD i 0≠ad.1.getD i 0->∀ c,C c->gd i c=false)
def ag1(gd:Nat->Int->Bool)(m J f:Nat)(rec:Int->ou->Bool×ou):Prop:=∀ own ad,0<=own->own<(J:Int)->BV m J f ad->Ve m J ad (rec own ad).2/\Vf gd m own ad (rec own ad)
variable {m:Nat}{f:Nat}
theorem az'{gd:Nat->Int->Bool}{J:Nat}{rec:Int->ou->Bool×ou}(H9:ag1 gd m J f rec){own:Int}(ag2:0<=own)(ag3:own<(J:Int)){ad:ou}(aV:BV m J (f+1) ad) :
  Ve m J ad (fb (qC gd rec own) (λad=>(false,ad)) (List.range m) ad).2/\Vf gd m own ad (fb (qC gd rec own) (λad=>(false,ad)) (List.range m) ad):=by
 refine azb (λk b=>b.1=ad.1/\(∀ q,d' ad.2 q<=d' b.2 q/\d' b.2 q<=1)/\(∀ i,i<k->i<m->gd i own=true->1<=d' b.2 i)/\agZ gd m ad.1 ad.2 b.2)
  (λr=>Ve m J ad r.2/\Vf gd m own ad r) (List.range m) ad ⟨rfl,λq=>⟨aPL _,(aV.hn q).2⟩,λi G=>by omega,λi _ E L=>by omega⟩ (λi G b U=>?_) λb U=>?_
 ·obtain⟨hw,qy,No,l_⟩:=U;have G:i<m:=by grind
  rw[aPC];have yG:=λq=>aQ6 (aV.hn q).1 (qy q).1;unfold qC;by_cases hc:(decide (d' b.2 i > 0)||!gd i own)=true
  ·grind
  ·rw[if_neg hc];simp  at hc;obtain⟨bA,aD⟩:=hc;have bA:d' b.2 i=0:=by grind
   have ag4:=by have:=(qy i).1;have:=(aV.hn i).1;omega
   have AA:i<ad.1.length:=by rw[aV.len];omega
   have mY:∀ q,d' b.2 q<=d' (g_ b.2 i (d' b.2 i+1)) q/\d' (g_ b.2 i (d' b.2 i+1)) q<=1:=λq=>by
    have:=qy q;rw[EH];omega
   have aOU:d' (g_ b.2 i (d' b.2 i+1)) i=1:=by rw[EH,if_pos rfl,bA];rfl
   by_cases ax:ad.1.getD i 0=-1
   ·rw[hw,if_pos (by grind)];refine⟨⟨by rw[aQk];exact aV.len,λk an=>?_,λq=>⟨aQ6 (qy q).1 (mY q).1,(mY q).2⟩⟩,λh=>(by grind),λ_=>⟨λk an=>?_,λj aJ=>?_⟩,λC kC=>⟨λEN=>?_,λ_ k an eM c hc=>?_⟩⟩
    ·rw[IB AA];split
     ·omega
     ·exact aV.ox k an
    ·grind
    ·have:=agW (x:=own) j AA;grind
    ·exact absurd ax (kC own EN i G aD).1
    ·rw[IB AA]at eM;split at eM
     ·rename_i e;subst e;cases IC:gd k c with
      | false=>rfl
      | true=>exact absurd ax (kC c hc k G IC).1
     omega
   ·rw[hw,if_neg (by grind)];have i':=(aV.ox i G).resolve_left ax;have zp:BV m J f (ad.1,g_ b.2 i (d' b.2 i+1)):=by
     refine⟨aV.len,aV.ox,λq=>⟨aQ6 (yG q) (mY q).1,(mY q).2⟩,?_⟩;have E:=agG (n:=m)     (v:=d' b.2 i+1) (by omega) (by omega) bA (by omega);have L:=agH (n:=m)     λk=>⟨(aV.hn k).1,(qy k).1⟩
     have ak:=aV.cZ;grind
    obtain⟨aj,D⟩:=H9 (ad.1.getD i 0) _ i'.1 i'.2 zp;revert aj D;generalize rec (ad.1.getD i 0) (ad.1,g_ b.2 i (d' b.2 i+1))=r;intro aj D;have w9:=λq=>(aj.hn q).1;by_cases bP:r.1=true
    ·rw[if_pos bP];obtain⟨mT,PW⟩:=D.ag0 bP;have eD:i<r.2.1.length:=by rw[aj.len];omega
     have qd:r.2.1.getD i 0=ad.1.getD i 0:=by
      grind
     refine⟨⟨by rw[aQk];exact aj.len,λk an=>?_,λq=>⟨aQ6 (qy q).1 (aQ6 (mY q).1 (w9 q)),(aj.hn q).2⟩⟩,λh=>(by grind),λ_=>⟨λk an=>?_,λj aJ=>?_⟩,λC kC=>⟨λEN=>?_,λ_ k an eM c hc=>?_⟩⟩
     ·rw[IB eD];split
      ·omega
      ·exact aj.ox k an
     ·rw[IB eD];split
      ·grind
      ·rcases mT k an with e | ⟨aB,bt⟩
       ·grind
       ·have c:=(aV.hn k).1;grind
     ·have a:=agW (x:=own) j eD;grind
     ·have:=(D.cl C kC).1 (kC own EN i G aD).2;grind
     ·rw[IB eD]at eM;split at eM
      ·rename_i e;subst e;cases IC:gd k c with
       | false=>rfl
       | true=>
        have:=(D.cl C kC).1 (kC c hc k G IC).2;grind
      ·exact (D.cl C kC).2 bP k an eM c hc
    ·rw[if_neg bP];have GO:r.1=false:=by grind
     obtain⟨Dm,aOV,aAa⟩:=D.Vg GO;refine⟨Dm,λq=>⟨aQ6 (qy q).1 (aQ6 (mY q).1 (w9 q)),(aj.hn q).2⟩,λk an Vh Ds=>?_,λk Vh bL aB=>?_⟩
     ·grind
     ·by_cases e:k=i
      ·grind
      ·by_cases bt:1<=d' b.2 k
       ·obtain⟨a,c⟩:=l_ k Vh bL bt;grind
       ·refine aAa k Vh ?_ aB;rw[EH];grind
 ·obtain⟨hw,qy,No,l_⟩:=U;rw[List.length_range]at No;refine⟨⟨by rw[hw];exact aV.len,by rw[hw];exact aV.ox,qy⟩,λ_=>⟨hw,λi G aD=>No i G G aD,l_⟩,λh=>(by grind),λC kC=>⟨λ_=>rfl,λh=>(by grind)⟩⟩
theorem Vi{gd:Nat->Int->Bool}{m J:Nat}:∀ f,ag1 gd m J f (mH gd m f)
 | 0=>λown ad _ _ h=>absurd h.cZ (by omega)
 | f+1=>λown ad aV E h=>az' (Vi f) aV E h
def BW(gd:Nat->Int->Bool)(m F:Nat)(ad:z19')(j:Nat):z19':=((mH gd m F (j:Int) (ad.1,[])).2.1,if (mH gd m F (j:Int) (ad.1,[])).1=true then ad.2 else ad.2+1)
def Vj(gd:Nat->Int->Bool)(m J F:Nat):z19':=(List.range J).foldl (BW gd m F) (List.replicate m (-1),0)
structure ID(gd:Nat->Int->Bool)(m J k:Nat)(ad:z19'):Prop where
 len:ad.1.length=m
 ox:∀ i,i<m->ad.1.getD i 0=-1\/(0<=ad.1.getD i 0/\ad.1.getD i 0<(k:Int)/\gd i (ad.1.getD i 0)=true)
 one:∀ j,0<=j->mG ad.1 j<=1
 num:ad.2=(((List.range k).countP λ(j:Nat)=>decide (mG ad.1 (j:Int)=0):Nat):Int)
 ag5:∃ C,agY gd m ad.1 C/\(∀ c,C c->0<=c/\c<(k:Int))/\∀ j:Nat,j<k->mG ad.1 (j:Int)=0->C (j:Int)
theorem ag6{gd:Nat->Int->Bool}{J F k:Nat}(bm:m<F)(an:k<J){ad:z19'}(h:ID gd m J k ad):ID gd m J (k+1) (BW gd m F ad k):=by
 obtain⟨g,n⟩:=ad;have hu:xP m []<=m:=by
  exact aPG List.countP_le_length (by simp)
 have zp:BV m J F (g,[]):=⟨h.len,λi G=>by have:=h.ox i G;grind,λq=>⟨aPL _,by show (0)<=1;decide⟩,by grind⟩
 obtain⟨aj,D⟩:=Vi F k (g,[]) (by omega) (by omega) zp;unfold BW;revert aj D;generalize mH gd m F k (g,[])=r;intro aj D;have AB:mG g k=0:=by
  unfold mG;rw[List.countP_eq_zero];intro x ao;obtain⟨i,G,rfl⟩:=List.mem_iff_getElem.1 ao;have:=h.ox i (by rw[<-h.len];omega);grind
 obtain⟨C,kC,aOW,aOX⟩:=h.ag5;by_cases U:r.1=true
 ·obtain⟨mT,PW⟩:=D.ag0 U;have aOY:=(D.cl C kC).2 U;refine⟨aj.len,λi G=>?_,λj aJ=>?_,?_,C,λc ur i G wb=>?_,λc ur=>?_,λj aJ hu=>?_⟩
  ·show r.2.1.getD i 0=-1\/_;rcases mT i G with e | ⟨aB,bt⟩
   ·rcases h.ox i G with a | a<;>grind
   ·by_cases mY:r.2.1.getD i 0=-1
    ·omega
    ·refine .inr ⟨?_,?_,bt⟩
     ·have:=(aj.ox i G).resolve_left mY;grind
     ·have L:=az_ (by rw[aj.len];omega) rfl;by_cases e:r.2.1.getD i 0=k
      ·grind
      ·have ak:0<mG g (r.2.1.getD i 0):=by grind
       unfold mG at ak;rw[List.countP_pos_iff]at ak;obtain⟨x,ao,gm⟩:=ak;obtain⟨q,bq,rfl⟩:=List.mem_iff_getElem.1 ao;have:=h.ox q (by rw[<-h.len];omega);grind
  ·have L:=h.one j aJ;grind
  ·have E:=h.num;rw[aQ',List.countP_append];have ak:mG r.2.1 k=1:=by
    grind
   have aZ:(List.range k).countP (λ(j:Nat)=>decide (mG r.2.1 j=0))=(List.range k).countP (λ(j:Nat)=>decide (mG g j=0)):=List.countP_congr λj aJ=>by grind
   grind
  ·by_cases e:r.2.1.getD i 0=g.getD i 0
   ·rw[e];exact kC c ur i G wb
   grind
  ·grind
  grind
 ·have GO:r.1=false:=by grind
  obtain⟨hw,No,l_⟩:=D.Vg GO;simp  [hw];refine⟨h.len,λi G=>?_,h.one,?_,λc=>C c\/c=k\/∃ i,i<m/\1<=d' r.2.2 i/\c=g.getD i 0,λc ur i G wb=>?_,λc ur=>?_,λj aJ hu=>?_⟩
  ·rcases h.ox i G with a | a<;>grind
  ·have E:=h.num;rw[aQ'];grind
  ·have aA:1<=d' r.2.2 i->g.getD i 0≠-1/\(C (g.getD i 0)\/g.getD i 0=k\/∃ q,q<m/\1<=d' r.2.2 q/\g.getD i 0=g.getD q 0):=λay=>⟨(l_ i G rfl ay).1,.inr (.inr ⟨i,G,ay,rfl⟩)⟩
   rcases ur with e | e | ⟨q,bq,ay,e⟩
   ·exact⟨(kC c e i G wb).1,.inl (kC c e i G wb).2⟩
   ·grind
   ·subst e;exact aA ((l_ q bq rfl ay).2 i G wb)
  ·rcases ur with e | e | ⟨q,bq,ay,e⟩
   ·grind
   ·omega
   ·have:=(h.ox q bq).resolve_left (l_ q bq rfl ay).1;grind
  grind
theorem aAb(gd:Nat->Int->Bool)(m J F:Nat)(bm:m<F):ID gd m J J (Vj gd m J F):=by
 unfold Vj;have key:∀ k,k<=J->ID gd m J k ((List.range k).foldl (BW gd m F) (List.replicate m (-1),0)):=by
  intro k;induction k with
  | zero=>
   intro _;refine⟨by simp,λi G=>.inl (az9 G),λj aJ=>?_,by simp,λ_=>False,λ_ h=>h.elim,λ_ h=>h.elim,λj aJ=>by omega⟩;show mG (List.replicate m (-1)) j<=1;have:mG (List.replicate m (-1)) j=0:=by
    unfold mG;grind
   omega
  | succ k aO=>
   intro an;rw[aQ',List.foldl_append];exact ag6 bm (by omega) (aO (by omega))
 grind
def wc(t:fX)(sp:z12')(j:uO):Bool:=decide (sp.2<=j.2.2)&&decide ((rm t.2.2 (sp.1,j.1,j.2.1)).getD 0 > 0)
abbrev EO:aN:=⟨.au zl (.au Nd Nk),dY,λx=>∃ t,x.1=some t,λx=>wc (x.1.getD BS) x.2.1 x.2.2⟩
theorem aAc(x):a6 (ade x) (EO.sh x):=bx λh=>by
 obtain⟨o,sp,j⟩:=x;obtain⟨t,ax⟩:=h;subst ax;unfold ade b3 c' ht hi;simp;rfl
def IE(t:fX)(l:List uO):Bool:=l.all λj=>(List.range t.1.2.1.length).any λ(i:Nat)=>wc t ((i:Int),0) j
abbrev Vk:aN:=⟨.au zl (.slice Nk),dY,λx=>∃ t,x.1=some t/\t.1.2.1.length<2 ^ 63/\x.2.length<2 ^ 63,λx=>IE (x.1.getD BS) x.2⟩
theorem aAd(t:fX)(l:List uO)(E:t.1.2.1.length<2 ^ 63)(L:l.length<2 ^ 63):Tx EO.sh (some t,l)=mpure (IE t l):=by
 unfold Tx b_ bz cm bo a8 aQ bK cS iO bY bc h0 bS;rw[ev l (λi (_)=>(some t,l,(l.length:Int),(i:Int),())) (λj b=>if (!(List.range t.1.2.1.length).any λi=>wc t (i,0) j)=true then .done (.done false) else .next b) (λ_=>.next ()) () ?_ ?_ ?_]
 ·rw[mf   _ _ (λ_=>rfl)];unfold IE;cases l.all λj=>(List.range t.1.2.1.length).any λi=>wc t (i,0) j<;>simp
 ·rfl
 ·intro i G b;have hw:=bp (n:=i+1);simp only[ct,dP G,d_ G,dt G];rw[ev (List.range t.1.2.1.length) (λk b=>(some t,b,l,(l.length:Int),(i:Int),(t.1.2.1.length:Int),(k:Int),l[i],())) (λk b=>.next (b||wc t (k,0) l[i])) (λb=>.next (some t,b,l,l.length,i,())) false ?_ ?_ ?_]
  ·rw[ee];have e:∀ (r:List Nat) (b:Bool),r.foldl (λb (k:Nat)=>b||wc t (k,0) l[i]) b=(b||r.any λk=>wc t (k,0) l[i]):=by
    intro r;induction r<;>grind
   rw[e];cases (List.range t.1.2.1.length).any λk=>wc t (k,0) l[i]<;>simp[hw]
  ·rfl
  ·grind [bp,aN.sh,me,ff,bb,aF.pF]
  simp
 simp
theorem aAe(x):a6 (Tx EO.sh x) (Vk.sh x):=bx λh=>by
 grind [aAd]
def jM(t:fX)(l:List uO)(i:Nat)(j:Int):Bool:=wc t (t.2.1.getD i (0,0)) (l.getD j.toNat (0,0,0))
abbrev Vl:=Option fX×List uO×Int×z4'×z1'×Unit
abbrev ag7:=Bool×z4'×z14'
def xT(r:Bool×ou):ag7:=(r.1,r.2.2,r.2.1,())
def Vm(f:Nat)(x:Vl):Prop:=∃ t,x.1=some t/\t.2.1.length<=200/\x.2.1.length<=1000/\0<=x.2.2.1/\x.2.2.1<(x.2.1.length:Int)/\BV t.2.1.length x.2.1.length f (x.2.2.2.2.1,x.2.2.2.1)
def xU(f:Nat)(x:Vl):M ag7:=eF (Vm f x) (xT (mH (jM (x.1.getD BS) x.2.1) (x.1.getD BS).2.1.length f x.2.2.1 (x.2.2.2.2.1,x.2.2.2.1)))
theorem aAf{t:fX}(hm:t.2.1.length<=200)(ah:l.length<=1000){own:Int}(ag2:0<=own)(ag3:own<(l.length:Int)){ad:ou}(aV:BV t.2.1.length l.length (f+1) ad) :
  TB EO.sh (xU f) (some t,l,own,ad.2,ad.1,())=mpure (xT (mH (jM t l) t.2.1.length (f+1) own ad)):=by
 have H9:=Vi (gd:=jM t l) (m:=t.2.1.length) (J:=l.length) f;unfold TB;simp only[ct,azc,amx];rw[e6 (List.range t.2.1.length) (λi b=>(some t,l,own,t.2.1,(t.2.1.length:Int),(i:Int),b.2,b.1,())) (λi b=>aF.Ir (λr=>.done (xT r)) (qC (jM t l) (mH (jM t l) t.2.1.length f) own i b)) (λb=>.next (b.2,b.1,())) (λi b=>b.1=ad.1/\∀ q,d' ad.2 q<=d' b.2 q/\d' b.2 q<=1) ad ?_ ?_ ?_ ?_]
 ·show _=mpure (xT (fb (qC (jM t l) (mH (jM t l) t.2.1.length f) own) (λad=>(false,ad)) (List.range t.2.1.length) ad));rw[UY,UY,agI];cases BM (qC (jM t l) (mH (jM t l) t.2.1.length f) own) (List.range t.2.1.length) ad<;>(simp;try rfl)
 ·rfl
 ·exact⟨rfl,λq=>⟨aPL _,(aV.hn q).2⟩⟩
 ·intro i G b U;have G:i<t.2.1.length:=by grind
  have ov:=bp (n:=i+1);rw[aPC];have aAg:b.1.length=t.2.1.length:=by rw[U.1];exact aV.len
  have bg:i<b.1.length:=by omega
  have aAh:0<=own/\own<l.length:=⟨ag2,ag3⟩
  have mT:=U.2 i;have oW:=aV.hn i;simp only[dP G,dt G,dt bg,aAh,aN.sh,rV,iE,aPQ,amx];have b_:wc t (t.2.1.getD i (0,0)) (l.getD own.toNat (0,0,0))=jM t l i own:=rfl;rw[b_];have aAi:(∃ dN,(some t)=some dN)=True:=by simp
  simp only[aAi,aQ7,aRq,aQJ,cj];by_cases ag8:d' b.2 i > 0
  ·have hu:qC (jM t l) (mH (jM t l) t.2.1.length f) own i b=.next b:=by grind [qC]
   rw[hu];refine⟨?_,λbf eg=>by cases eg;omega⟩;simp  [ag8,ov,aP8];rfl
  ·by_cases aD:jM t l i own=true
   ·have bA:d' b.2 i=0:=by omega
    have U':=bp (n:=d' b.2 i+1);have mY:∀ q,d' b.2 q<=d' (g_ b.2 i (d' b.2 i+1)) q/\d' (g_ b.2 i (d' b.2 i+1)) q<=1:=λq=>by
     grind [EH]
    by_cases ax:b.1.getD i 0=-1
    ·have hu:qC (jM t l) (mH (jM t l) t.2.1.length f) own i b=.done (true,(b.1.set i own,g_ b.2 i (d' b.2 i+1))):=by
      grind [qC]
     rw[hu];refine⟨?_,λbf eg=>by cases eg⟩;simp only[ag8,aD,ax,aRd,aQe,aP9,aQu,Bool.or_self,aml,aPA,if_true,false_imp_iff,aRb,Bool.true_or,cj,aK,dd,U',true_imp_iff];rfl
    ·have aOZ:=aV.ox i G;have aJ:0<=b.1.getD i 0/\b.1.getD i 0<l.length:=by grind
     have zp:BV t.2.1.length l.length f (b.1,g_ b.2 i (d' b.2 i+1)):=by
      refine⟨aAg,?_,λk=>⟨?_,(mY k).2⟩,?_⟩
      ·rw[U.1];exact aV.ox
      ·have:=(mY k).1;have:=U.2 k;have:=(aV.hn k).1;grind
      ·have E:=agG (n:=t.2.1.length)     (v:=d' b.2 i+1) (by omega) (by omega) bA (by omega);have L:=agH (n:=t.2.1.length)     λk=>⟨(aV.hn k).1,(U.2 k).1⟩
       have ak:=aV.cZ;grind
     obtain⟨DC,aAj⟩:=H9 (b.1.getD i 0) (b.1,g_ b.2 i (d' b.2 i+1)) aJ.1 aJ.2 zp;have hq:Vm f (some t,l,b.1.getD i 0,g_ b.2 i (d' b.2 i+1),b.1,()):=⟨t,rfl,hm,ah,aJ.1,aJ.2,zp⟩
     have DB:xU f (some t,l,b.1.getD i 0,g_ b.2 i (d' b.2 i+1),b.1,())=mpure (xT (mH (jM t l) t.2.1.length f (b.1.getD i 0) (b.1,g_ b.2 i (d' b.2 i+1)))):=bN hq _;have eD:=DC.len;have aO0:=DC.hn;have aO1:=aAj.Vg;have aAk:qC (jM t l) (mH (jM t l) t.2.1.length f) own i b=if (mH (jM t l) t.2.1.length f (b.1.getD i 0) (b.1,g_ b.2 i (d' b.2 i+1))).1=true then .done (true,((mH (jM t l) t.2.1.length f (b.1.getD i 0) (b.1,g_ b.2 i (d' b.2 i+1))).2.1.set i own,(mH (jM t l) t.2.1.length f (b.1.getD i 0) (b.1,g_ b.2 i (d' b.2 i+1))).2.2)) else .next (mH (jM t l) t.2.1.length f (b.1.getD i 0) (b.1,g_ b.2 i (d' b.2 i+1))).2:=by
      grind [qC]
     rw[aAk];generalize mH (jM t l) t.2.1.length f (b.1.getD i 0) (b.1,g_ b.2 i (d' b.2 i+1))=r at *
     obtain⟨ok,g',s'⟩:=r;cases ok with
     | true=>
      simp_all[xT,aF.Ir]
     | false=>
      refine⟨?_,λbf eg=>?_⟩
      ·simp_all[xT,aF.Ir]
      ·cases eg;grind
   ·have hu:qC (jM t l) (mH (jM t l) t.2.1.length f) own i b=.next b:=by grind [qC]
    rw[hu];refine⟨?_,λbf eg=>by cases eg;omega⟩;simp  [aD,ov,aP8];rfl
 simp
theorem aAl(f:Nat)(x):a6 (TB EO.sh (xU f) x) (xU (f+1) x):=bx λh=>by
 obtain⟨o,l,own,hn,g,u⟩:=x;obtain⟨t,ax,hm,ah,aV,E,zp⟩:=h;subst ax;exact aAf   hm ah aV E zp
theorem aAm(x:Vl):¬(xU 0 x).fm:=λ⟨_,_,_,_,_,_,h⟩=>absurd h.cZ (by omega)
def BX(t:fX)(l:List uO):Int:=(Vj (jM t l) t.2.1.length l.length 201).2
abbrev Np:aN:=⟨.au zl (.slice Nk),bH,λx=>∃ t,x.1=some t/\t.2.1.length<=200/\x.2.length<=1000,λx=>BX (x.1.getD BS) x.2⟩
theorem aAn(t:fX)(l:List uO)(hm:t.2.1.length<=200)(ah:l.length<=1000):Ty zi (xU 201) (some t,l)=mpure (BX t l):=by
 unfold Ty cm bo a8 aQ bK bY bc;unfold zi;simp;rw[bb (by grind)];rw[e6 (List.range l.length) (λi b=>(some t,l,b.2,(l.length:Int),(i:Int),b.1,())) (λi b=>.next (BW (jM t l) t.2.1.length 201 b i)) (λb=>.next (b.2,())) (λi b=>ID (jM t l) t.2.1.length l.length i b/\0<=b.2/\b.2<=i) (List.replicate t.2.1.length (-1),0) ?_ ?_ ?_ ?_]
 ·rw[ee,aK];rfl
 ·rfl
 ·refine⟨?_,by simp⟩;have:=aAb (jM t l) t.2.1.length 0 201 (by omega);exact⟨this.len,this.ox,this.one,this.num,this.ag5⟩
 ·intro i G b U;have G:i<l.length:=by grind
  have ov:=bp (n:=i+1);obtain⟨g,n⟩:=b;obtain⟨U,yw,w0⟩:=U;have zh:=bp (n:=n+1);have hq:Vm 201 (some t,l,i,[],g,()):=by
   refine⟨t,rfl,hm,ah,Int.natCast_nonneg i,Int.ofNat_lt.2 G,U.len,λk an=>?_,λk=>by simp[d',xO],?_⟩
   ·rcases U.ox k an with h | h<;>grind
   grind [xP,List.countP_le_length]
  have DB:xU 201 (some t,l,i,[],g,())=mpure (xT (mH (jM t l) t.2.1.length 201 i (g,[]))):=bN hq _;have aaW:=ag6 (F:=201) (by omega) G U;refine⟨?_,λbf eg=>?_⟩
  ·simp  [DB,xT];grind [BW]
  grind [BW]
 simp
theorem aAo(x):a6 (Ty zi (xU 201) x) (Np.sh x):=bx λh=>by
 grind [aAn]
theorem ag9(ae:ow s):(U8 s).length<=200:=by
 have E:∀ (l:List Nat),(∀ i∈l,i<s.2.1.length)->(l.flatMap λ(i:Nat)=>o7 (i,0) (s.2.1.getD i 0)).length<=10*l.length:=by
  intro l;induction l with
  | nil=>simp
  | cons i l aO=>
   intro ah;have L:=ah i (by simp);have ak:=ae.U6 _ (amm L);grind [o7]
 have L:∀ (l:List DY),(∀ d∈l,tv s.1 d=true)->(l.flatMap λd=>o7 (d.2.1,d.1) d.2.2).length<=10*l.length:=by
  intro l;induction l with
  | nil=>simp
  | cons d l aO=>
   intro ah;have ak:=ah d (by simp);grind [tv,cH,o7]
 have b:=L s.2.2.2.2.1 ae.agN;have c:=ae.agO;have d:=ae.U7;have e:=ae.Ix;grind [U8,Iy,agR]
theorem ag_(ae:ow s)(aj:qA s dm):(nJ s dm).1.length<=24:=by
 unfold nJ;split
 ·have:∀ (l:List Nat),(∀ i∈l,i<dm.length)->(l.flatMap λi=>(rp s dm i).getD []).length<=4*l.length:=by
   intro l;induction l with
   | nil=>simp
   | cons i l aO=>
    intro ah;have E:=aO λj aJ=>ah j (by grind);rw[aQd,aP1,aQn];have:((rp s dm i).getD []).length<=4:=by
     cases h:rp s dm i with
     | none=>simp
     | some y=>grind [agU]
    omega
  have:=aj.1;have:=ae.xQ;grind
 simp
def tw(s:bO)(dm:z1'):Bool:=(nJ s dm).2&&decide (BX (ez s) (nJ s dm).1=0)
abbrev BY:aN:=⟨.au zl hK,dY,λx=>∃ s,zn x.1 s/\qA s x.2,λx=>tw (qB x.1) x.2⟩
theorem aAp(x):a6 (ac7 Nl.sh Np.sh x) (BY.sh x):=bx λh=>by
 obtain⟨o,dm⟩:=x;obtain⟨s,⟨ax,ae⟩,aj⟩:=h;subst ax;unfold ac7 b3 b_;simp only[aN.sh,ff,me];rw[bb (by exact⟨s,⟨rfl,ae⟩,aj⟩),bb (by exact λ_=>⟨ez s,rfl,ag9 ae,aPG (ag_ ae aj) (by omega)⟩)];show mpure ((nJ s dm).2&&decide ((if (nJ s dm).2=true then BX (ez s) (nJ s dm).1 else 0)=0))=mpure (tw s dm);grind [tw]
def EP(s:bO)(first:z1')(p:Nat):Bool:=!(first.contains (p:Int)||decide (wa (pQ s (first.length:Int)) (qz s (p:Int))=0))
def mn(s:bO)(e:Int):Nat->z1'->List (z1')
 | 0,first=>[first]
 | n+1,first=>((List.range s.2.2.1.length).flatMap λp=>if EP s first p=true then mn s e n (first++[(p:Int)]) else [])++(if e=0 then [] else mn s e n (first++[-1]))
abbrev ag':Type:=Nat×(List (z1')->Prop)×List (z1')×Bool
abbrev Vn:Type:=Option fX×z1'×Int×Nat×ag'×Unit
abbrev aha:Type:=Bool×ag'×Unit
structure Vo(f:Nat)(x:Vn)(s:bO)(n:Nat)(a b:List (z1')):Prop where
 aO2:zn x.1 s
 len:x.2.1.length+n=s.2.2.2.1.length
 cZ:n<f
 aO3:x.2.2.2.2.1.1=x.2.2.2.1
 gb:x.2.2.2.2.1.2.2.2=false
 seq:x.2.2.2.2.1.2.1=λT=>T=a++mn s x.2.2.1 n x.2.1++b
 pos:x.2.2.2.2.1.2.2.1=a
def aAq(x:Vn)(y:aha):Prop:=y.2.1.1=x.2.2.2.1/\y.2.1.2.1=x.2.2.2.2.1.2.1/\(y.1=true->y.2.1.2.2.2=false/\y.2.1.2.2.1=x.2.2.2.2.1.2.2.1++mn (qB x.1) x.2.2.1 ((qB x.1).2.2.2.1.length - x.2.1.length) x.2.1)/\(y.1=false->y.2.1.2.2.2=true)
def uP(f:Nat)(x:Vn):M aha:=⟨∃ s n a b,Vo f x s n a b,aAq x⟩
def oy(s:bO)(e:Int)(n:Nat)(first:z1')(k:Nat):List (z1'):=(List.range k).flatMap λp=>if EP s first p=true then mn s e n (first++[(p:Int)]) else []
theorem Nq(s:bO)(e:Int)(n:Nat)(first:z1')(k:Nat):oy s e n first (k+1)=oy s e n first k++(if EP s first k=true then mn s e n (first++[(k:Int)]) else []):=by
 unfold oy;rw[aQ',List.flatMap_append];simp
theorem aAr(s:bO)(e:Int)(n:Nat)(first:z1'){k:Nat}(h:k<=m):∃ t,oy s e n first m=oy s e n first k++t:=by
 induction m with
 | zero=>simp_all
 | succ m aO=>
  by_cases an:k=m+1
  ·simp_all
  ·obtain⟨t,aG⟩:=aO (by omega);rw[Nq,aG,aQG];simp
theorem aAs(ae:ow s){first:z1'}{e:Int}{l:Nat}{ab:List (z1')->Prop}{n:Nat}(hlen:first.length+n=s.2.2.2.1.length)(ax:n<f+1){a b:List (z1')}(kn:ab=λT=>T=a++mn s e n first++b) :
  c6 (TC BQ.sh (uP f) r3.sh (some (ez s),first,e,l,(l,ab,a,false),())) λy=>y.2.1.1=l/\y.2.1.2.1=ab/\(y.1=true->y.2.1.2.2.2=false/\y.2.1.2.2.1=a++mn s e n first)/\(y.1=false->y.2.1.2.2.2=true):=by
 have hs:(ez s).1=s:=rfl;have EM:=ae.xQ;have aAt:=ae.Nh;unfold TC b3 bz cm bg bo a8 aQ cS iO bY bc bS dB mZ pE;simp only[aPP,amx,cj,ct,hs];cases n with
 | zero=>
  have aw:decide ((first.length:Int)=(s.2.2.2.1.length:Int))=true:=by grind
  have aD:∃ T,ab (a++first::T):=⟨b,by rw[kn];show _=_;simp[mn]⟩
  simp only[aw,if_true,aRq,aQJ];rw[bb aD,fD];refine⟨⟨true,trivial⟩,λy _=>dF.2 ?_⟩;refine⟨rfl,rfl,λh=>?_,λh=>?_⟩
  ·change y=true at h;subst h;exact⟨rfl,rfl⟩
  grind
 | succ n=>
  have aw:decide ((first.length:Int)=(s.2.2.2.1.length:Int))=false:=by grind
  simp only[aw,aml,aPA,fD];obtain⟨z,bA⟩:∃ z,mn s e (n+1) first=oy s e n first s.2.2.1.length++z:=⟨_,rfl⟩
  refine aza s.2.2.1.length (λk q=>q=(some (ez s),first,e,l,(first.length:Int),s.2.2.1,(s.2.2.1.length:Int),(k:Int),(l,ab,a++oy s e n first k,false),())) ?_ ?_ ?_
  ·show _=_;simp[oy]
  ·rintro k an q rfl;have lS:=bp (n:=(k:Int)+1);have gX:first.length<2 ^ 63:=by omega
   have BT:first.length<s.2.2.2.1.length:=by omega
   have Nn:=Vc BT;have IA:List.getD s.2.2.2.1 first.length ([],(0,0),0,0,0)=pQ s (first.length:Int):=rfl
   have Vd:s.2.2.1[k]=qz s (k:Int):=by simp[qz,amp,an]
   have mc:BQ.pre (pQ s (first.length:Int),qz s (k:Int)):=ae.iL.2.2.2.2.2.2 _ Nn;have aAu:(first.length<2 ^ 63)=True:=by grind
   simp only[dP an,if_true,dt an,d_ an,cj,aN.sh,rV,iE,aAu,hs,aPQ,dt BT,IA,Vd,aQ7,aRq,aQJ,imp_self,aP8];have aAv:((pQ s (first.length:Int)).1.length<2 ^ 63)=True:=by grind
   have aAw:List.getD s.2.2.1 k (0,0,0,0,[])=qz s (k:Int):=rfl;have eM:first.contains (k:Int)=false->(!first.contains (k:Int))=true:=λh=>by grind
   have i':((0:Int)<=0/\0<=(first.length:Int)/\(first.length:Int)<=(first.length:Int))=True:=by simp
   have mx:List.take first.length first=first:=aQc
   have n8:(0<Add.add 0 1/\cb (Add.add first.length (Add.add 0 1))):=⟨by decide,by show cb (first.length+1);unfold cb;omega⟩
   have kS:(first.contains (k:Int)||decide (wa (pQ s (first.length:Int)) (qz s (k:Int))=0))=!EP s first k:=by unfold EP;simp
   have ob:first.contains (k:Int)=first.contains (k:Int):=rfl
   simp only[aPP,amx,hs,dt BT,IA,aAw,aAv,aQ7,aRq,aQJ,imp_self,aP8,cj,bb eM,kS,i',mx];rw[bb (by omega)];obtain⟨t,aG⟩:=aAr s e n first (show k+1<=s.2.2.1.length by omega)
   cases aA:EP s first k with
   | false=>
    simp only[aQu,if_true,aK,cK,dF,dd,lS];show _=_;rw[Nq,aA];simp
   | true=>
    rw[Nq,aA,if_pos rfl]at aG;simp only[aP9,aml,aPA,fD];have yy:Vo f (some (ez s),first++[(k:Int)],e,l,(l,ab,a++oy s e n first k,false),()) s n (a++oy s e n first k) (t++z++b):=by
     refine⟨⟨rfl,ae⟩,by grind,by omega,rfl,rfl,?_,rfl⟩;grind
    refine⟨⟨s,n,_,_,yy⟩,λy a_=>?_⟩;obtain⟨nt,⟨ahb,ahc,Vp,br⟩,aAx⟩:=y;obtain⟨cO,cJ,gT,ly⟩:=a_;change ahb=l at cO;change ahc=ab at cJ;subst cO;subst cJ;cases nt with
    | false=>
     have aZ:br=true:=ly rfl;subst aZ;simp only[aQu,if_true,aK,dF,uD];simp
    | true=>
     obtain⟨bP,ej⟩:=gT rfl;change br=false at bP;change Vp=(a++oy s e n first k)++mn s e (s.2.2.2.1.length - (first++[(k:Int)]).length) (first++[(k:Int)]) at ej;have yG:s.2.2.2.1.length - (first++[(k:Int)]).length=n:=by grind
     rw[yG]at ej;subst bP;subst ej;simp only[aP9,aml,aPA,aK,dF,cK,dd,lS];show _=_;rw[Nq,aA,if_pos rfl];simp
  ·rintro q rfl;have mx:List.take first.length first=first:=aQc
   have i':((0:Int)<=0/\0<=(first.length:Int)/\(first.length:Int)=(first.length:Int)/\(first.length:Int)<=(first.length:Int))=True:=by simp
   have n8:(0<Add.add 0 1/\cb (Add.add first.length (Add.add 0 1))):=⟨by decide,by show cb (first.length+1);unfold cb;omega⟩
   simp only[Int.lt_irrefl,aQe,aml,aPA,aK,dF,cK,i',mx,aPQ,aQ7];by_cases he:e=0
   ·have CW:mn s e (n+1) first=oy s e n first s.2.2.1.length:=by
     show oy s e n first s.2.2.1.length++(if e=0 then [] else mn s e n (first++[-1]))=_
     grind
    simp only[he,aRd,aP9,aml,aPA,false_imp_iff,cj,Bool.true_or,dF,aRb,aQJ,aP8];grind
   ·have CW:mn s e (n+1) first=oy s e n first s.2.2.1.length++mn s e n (first++[-1]):=by
     show oy s e n first s.2.2.1.length++(if e=0 then [] else mn s e n (first++[-1]))=_
     grind
    simp only[he,aQe,aQu,if_true,true_imp_iff,cj,aQo,aQJ,aP8];rw[bb (by simp),bb (by omega)];have yy:Vo f (some (ez s),first++[-1],e,l,(l,ab,a++oy s e n first s.2.2.1.length,false),()) s n (a++oy s e n first s.2.2.1.length) b:=by
     refine⟨⟨rfl,ae⟩,by grind,by omega,rfl,rfl,?_,rfl⟩;grind
    rw[fD];refine⟨⟨s,n,_,_,yy⟩,λy a_=>dF.2 ?_⟩;obtain⟨nt,⟨ahb,ahc,Vp,br⟩,aAx⟩:=y;obtain⟨cO,cJ,gT,ly⟩:=a_;refine⟨cO,cJ,λh=>?_,ly⟩;obtain⟨bP,ej⟩:=gT h;change Vp=(a++oy s e n first s.2.2.1.length)++mn s e (s.2.2.2.1.length - (first++[(-1:Int)]).length) (first++[-1]) at ej;grind
theorem aAy(f:Nat)(x):a6 (TC BQ.sh (uP f) r3.sh x) (uP (f+1) x):=λh=>by
 obtain⟨o,first,e,l,⟨et,ab,p,ad⟩,u⟩:=x;obtain⟨s,n,a,b,aj⟩:=h;obtain⟨⟨ax,ae⟩,E,L,ak,aZ,bP,ej⟩:=aj;change o=_ at ax;change et=l at ak;change ad=false at aZ;change p=a at ej;change ab=_ at bP;change first.length+n=_ at E
 change _ at bP;subst ax;subst ak;subst aZ;subst ej;have yG:(qB (some (ez s))).2.2.2.1.length - first.length=n:=by show s.2.2.2.1.length - first.length=n;omega
 refine c6.mono (aAs ae E L bP) λy a_=>⟨a_.1,a_.2.1,λh=>?_,a_.2.2.2⟩
 obtain⟨aM,aS⟩:=a_.2.2.1 h;refine⟨aM,?_⟩;rw[aS];show _=p++mn (qB (some (ez s))) e ((qB (some (ez s))).2.2.2.1.length - first.length) first
 rw[yG];rfl
theorem aAz(x):¬(uP 0 x).fm:=λ⟨s,n,a,b,h⟩=>by have:=h.cZ;omega
def nK(e:Int)(s:bO):List (z1'):=mn s e s.2.2.2.1.length []
def BZ(o:Option fX):Prop:=∃ s,zn o s
def Nr(o:Option fX):List (z1'):=nK 1 (qB o)
def Vq(o:Option fX):List (z1'):=nK 0 (qB o)
theorem aAA(s:bO)(ae:ow s)(l:Nat):c6 (Ml (uP 10) (some (ez s),l,(l,(λT=>T=nK 1 s),[],false),())) λy=>y.1.1=l/\y.1.2.1=(λT=>T=nK 1 s)/\(y.1.2.2.2=false->y.1.2.2.1=nK 1 s):=by
 unfold Ml;rw[fD];have EM:=ae.xQ;refine⟨⟨s,s.2.2.2.1.length,[],[],⟨rfl,ae⟩,by simp,by omega,rfl,rfl,by show (λT=>T=nK 1 s)=_;simp[nK],rfl⟩,λy a_=>dF.2 ?_⟩;obtain⟨cO,cJ,gT,ly⟩:=a_;refine⟨cO,cJ,λh=>?_⟩;cases E:y.1 with
 | false=>grind
 | true=>
  obtain⟨_,ak⟩:=gT E;show y.2.1.2.2.1=_;rw[ak];rfl
theorem aAB(s:bO)(ae:ow s)(l:Nat):c6 (Mm (uP 10) (some (ez s),l,(l,(λT=>T=nK 0 s),[],false),())) λy=>y.1.1=l/\y.1.2.1=(λT=>T=nK 0 s)/\(y.1.2.2.2=false->y.1.2.2.1=nK 0 s):=by
 unfold Mm;rw[fD];have EM:=ae.xQ;refine⟨⟨s,s.2.2.2.1.length,[],[],⟨rfl,ae⟩,by simp,by omega,rfl,rfl,by show (λT=>T=nK 0 s)=_;simp[nK],rfl⟩,λy a_=>dF.2 ?_⟩;obtain⟨cO,cJ,gT,ly⟩:=a_;refine⟨cO,cJ,λh=>?_⟩;cases E:y.1 with
 | false=>grind
 | true=>
  obtain⟨_,ak⟩:=gT E;show y.2.1.2.2.1=_;rw[ak];rfl
theorem Vr{A af:Type}{body:A->af->M (dS×A)}(g:A->af->A)(I:A->Prop):∀ (l:List af) (s:A),I s->(∀ x∈l,∀ s,I s->body s x=mpure (dS.normal,g s x)/\I (g s x))->kl body l s=mpure (dS.normal,l.foldl g s)
 | [],s,_,_=>rfl
 | x::l,s,fw,h=>by
  obtain⟨E,L⟩:=h x (by simp) s fw;unfold kl;rw[E,aK];exact Vr g I l (g s x) L λy a_=>h y (amr _ a_)
theorem Vs{s:bO}{e:Int}:∀ {n:Nat} {first y:z1'},y∈mn s e n first->y.length=first.length+n/\∀ p∈y,p∈first\/p=-1\/(0<=p/\p<(s.2.2.1.length:Int))
 | 0,first,y,h=>by
  simp  [mn]at h;grind
 | n+1,first,y,h=>by
  simp only[mn,List.mem_append,aQ4]at h;rcases h with⟨p,aj,h⟩ | h
  ·split at h
   ·obtain⟨E,L⟩:=Vs h;grind
   grind
  ·split at h
   ·grind
   ·obtain⟨E,L⟩:=Vs h;grind
theorem Vt{e:Int}{y:z1'}(h:y∈nK e s):y.length=s.2.2.2.1.length/\qA s y:=by
 obtain⟨E,L⟩:=Vs h;have E:y.length=s.2.2.2.1.length:=by grind
 refine⟨E,by omega,λp aj=>?_⟩;grind
theorem aAC(s:bO):qA s (List.replicate s.2.2.2.1.length (-1)):=⟨by simp,λp aj=>by grind⟩
def xV(s:bO)(b y:z1'):z1':=if (decide (xS s y > xS s b)&&tw s y)=true then y else b
def IF(s:bO):z1':=(nK 1 s).foldl (xV s) (List.replicate s.2.2.2.1.length (-1))
theorem ahd{s:bO}:∀ (l:List (z1')) (b:z1'),(∀ y∈l,y.length=s.2.2.2.1.length/\qA s y)->(b.length=s.2.2.2.1.length/\qA s b)->((l.foldl (xV s) b).length=s.2.2.2.1.length/\qA s (l.foldl (xV s) b))
 | [],b,_,U=>U
 | y::l,b,ah,U=>by
  refine ahd l _ (λz bA=>ah z (amr _ bA)) ?_;unfold xV;grind
theorem aAD(s:bO):(IF s).length=s.2.2.2.1.length/\qA s (IF s):=ahd _ _ (λ_ h=>Vt h) ⟨by simp,aAC s⟩
abbrev Vu:aN:=⟨zl,hK,λo=>∃ s,zn o s,λo=>IF (qB o)⟩
theorem aAE(s:bO)(ae:ow s):Tz Nc.sh BY.sh zo.sh BZ Nr (some (ez s))=mpure (IF s):=by
 unfold Tz aQ dB mZ vG;have EM:=ae.xQ;have hs:(ez s).1=s:=rfl;have hq:BZ (some (ez s)):=⟨s,rfl,ae⟩
 have Vv:Nr (some (ez s))=nK 1 s:=rfl;simp only[aPP,amx,cj,ct,hs,aN.sh,ff,Vv];rw[bb (by grind),bb hq];simp only[aPQ];rw[Vr (λb y=>(some (ez s),xV s b.2.1 y,())) (λb=>b.1=some (ez s)/\b.2.1.length=s.2.2.2.1.length) (nK 1 s) (some (ez s),List.replicate s.2.2.2.1.length (-1),()) ⟨rfl,by simp⟩ ?_]
 ·have ax:∀ (l:List (z1')) (b:z1'),l.foldl (λb y=>(some (ez s),xV s b.2.1 y,())) (some (ez s),b,())=(some (ez s),l.foldl (xV s) b,()):=by
   intro l;induction l<;>grind
  rw[ax,aK];rfl
 ·intro y a_ b U;obtain⟨cY,fe,aAF⟩:=b;obtain⟨oc,w1⟩:=U;subst oc;obtain⟨A9,xk⟩:=Vt a_;have e8:zo.pre (some (ez s),y):=⟨s,⟨rfl,ae⟩,by grind⟩
  have e_:zo.pre (some (ez s),fe):=⟨s,⟨rfl,ae⟩,by grind⟩
  have mv:BY.pre (some (ez s),y):=⟨s,⟨rfl,ae⟩,xk⟩
  refine⟨?_,rfl,?_⟩
  ·simp only[rV,iE,bb e8,bb e_,aQ7,aQJ,xV];have cO:∀ c,(c->c/\(∃ pR,zn (some (ez s)) pR/\qA pR y)):=λc h=>⟨h,mv⟩
   rw[bb (cO _)];have aB:qB (some (ez s))=s:=rfl;simp only[aB];cases hc:(decide (xS s y > xS s fe)&&tw s y)<;>simp
  ·unfold xV;grind
theorem aAG(x):a6 (Tz Nc.sh BY.sh zo.sh BZ Nr x) (Vu.sh x):=bx λh=>by
 obtain⟨s,ax,ae⟩:=h;subst ax;exact aAE s ae
theorem Ns{cB:Bool}(h:nh s cB=0):BR s cB=(some (ez s),0):=by simp[BR,h]
theorem Nt{cB:Bool}(h:nh s cB≠0):BR s cB=(none,nh s cB):=by simp[BR,h]
def B0(s:bO)(cB:Bool):z12':=if nh s cB≠0 then (0,nh s cB) else (xS s (IF s),0)
abbrev Vw:aN:=⟨.au o6 dY,.au bH bH,λx=>ij x.1,λx=>B0 x.1 x.2⟩
theorem aAH(x):a6 (ac5 EK.sh Vu.sh zo.sh x) (Vw.sh x):=bx λh=>by
 unfold ac5 bo;show _=mpure (B0 x.1 x.2);unfold B0;simp only[aN.sh,ff];rw[bb (by omega)];by_cases an:nh x.1 x.2=0
 ·have ae:=EJ h (EI an).1;simp only[Ns an,an,aPA];rw[bb (by exact⟨x.1,rfl,ae⟩),bb (by exact⟨x.1,⟨rfl,ae⟩,aRi (aAD x.1).1⟩)];rfl
 ·simp[Nt an,an]
abbrev Nu:aN:=⟨o6,.au bH bH,ij,λs=>B0 s true⟩
theorem aAI(x):a6 (acZ Vw.sh x) (Nu.sh x):=bx λh=>by
 unfold acZ;simp  [aN.sh];simp_all
def IG(s:bO)(n:Int)(y:z1'):Int:=if (!(nJ s y).2||!IE (ez s) (nJ s y).1)=true then n else if (decide (n=-1)||decide (BX (ez s) (nJ s y).1<n))=true then BX (ez s) (nJ s y).1 else n
def Nv(s:bO):Int:=(nK 0 s).foldl (IG s) (-1)
def ER(s:bO):z12':=if nh s true≠0 then (0,nh s true) else if Nv s=-1 then (0,3) else (Nv s,0)
abbrev Nw:aN:=⟨o6,.au bH bH,ij,ER⟩
theorem aAJ(x):a6 (ac0 EK.sh BZ Vq Nl.sh Vk.sh Np.sh x) (Nw.sh x):=bx λh=>by
 unfold ac0 eV b_ bg bo;show _=mpure (ER x);unfold ER;simp only[aN.sh,ff];rw[bb (by omega)];by_cases an:nh x true=0
 ·have ae:=EJ h (EI an).1;have hq:BZ (some (ez x)):=⟨x,rfl,ae⟩
  have Vv:Vq (some (ez x))=nK 0 x:=rfl;simp only[Ns an,Vv];rw[bb hq];rw[Vr (λb y=>(some (ez x),IG x b.2.1 y,())) (λb=>b.1=some (ez x)) (nK 0 x) (some (ez x),-1,()) rfl ?_]
  ·have ax:∀ (l:List (z1')) (b:Int),l.foldl (λb y=>(some (ez x),IG x b.2.1 y,())) (some (ez x),b,())=(some (ez x),l.foldl (IG x) b,()):=by
    intro l;induction l<;>grind
   rw[ax,aK];show (if decide (Nv x=-1)=true then mpure ((0),(3)) else mpure (Nv x,0))=_;grind
  ·intro y a_ b U;obtain⟨cY,fe,aAF⟩:=b;subst U;obtain⟨A9,xk⟩:=Vt a_;have Hj:=ag_ ae xk;have e8:∃ pR,zn (some (ez x)) pR/\qA pR y:=⟨x,⟨rfl,ae⟩,xk⟩
   have fH:=h.2.1;have e_:∃ t,some (ez x)=some t/\t.1.2.1.length<2 ^ 63/\(nJ x y).1.length<2 ^ 63:=⟨_,rfl,fH,by omega⟩
   have mv:∃ t,some (ez x)=some t/\t.2.1.length<=200/\(nJ x y).1.length<=1000:=⟨_,rfl,ag9 ae,by omega⟩
   have aB:qB (some (ez x))=x:=rfl;have bt:Option.getD (some (ez x)) BS=ez x:=rfl;simp only[aB,bt];rw[bb e8];simp only[e_,aP8,cj];rw[bb (by omega)];unfold IG;cases E:(nJ x y).2
   ·simp
   ·cases L:IE (ez x) (nJ x y).1
    ·simp
    ·cases ak:(decide (fe=-1)||decide (BX (ez x) (nJ x y).1<fe))<;>simp
 ·simp[Nt an,an]
def sb(s:bO)(w p:Int):z1':=(List.replicate s.2.2.2.1.length (-1)).set w.toNat p
def ahe(s:bO)(w:Int):z1':=((List.range s.2.2.1.length).filter λ(p:Nat)=>tw s (sb s w (p:Int))).map λ(p:Nat)=>(p:Int)
def xW(s:bO)(w:Int):z19':=if nh s (BO s w)≠0 then ([],nh s (BO s w)) else (ahe s w,0)
abbrev Nx:aN:=⟨.au o6 bH,.au hK bH,λx=>ij x.1,λx=>xW x.1 x.2⟩
theorem ahf{af bet:Type}{p:af->Bool}{g:af->bet}:∀ (l:List af) (b:List bet),l.foldl (λb x=>if p x=true then b++[g x] else b) b=b++(l.filter p).map g
 | [],b=>by simp
 | x::l,b=>by
  simp;rw[ahf l];grind
theorem aAK{w:Int}{p:Nat}(aj:p<s.2.2.1.length):qA s (sb s w (p:Int)):=by
 refine⟨by simp[sb],λq bq=>?_⟩;unfold sb at bq;grind
theorem aAL(x):a6 (ac1 EK.sh U4.sh zi BY.sh x) (Nx.sh x):=bx λh=>by
 obtain⟨s,w⟩:=x;change ij s at h;unfold ac1 cm bg bo a8 aQ bK bY bc eD bS dB mZ;show _=mpure (xW s w);unfold xW;simp only[aN.sh,rV,iE];rw[bb (by omega),bb (by omega)];by_cases an:nh s (BO s w)=0
 ·have ae:=EJ h (EI an).1;have hw:=azI.1 (EI an).2.1;have EM:=ae.xQ;have aAt:=ae.Nh;simp only[Ns an,an,aPA];unfold zi;simp only[ff,ct];rw[bb (by grind)];rw[e6 (List.range s.2.2.1.length) (λi b=>(w,some (ez s),(s.2.2.1.length:Int),(i:Int),b.1,b.2,())) (λp b=>.next (if tw s (sb s w p)=true then b.1++[(p:Int)] else b.1,sb s w p)) (λb=>.next (b.1,())) (λi b=>b.1.length<=i/\∀ p,b.2.set w.toNat p=sb s w p) ([],List.replicate s.2.2.2.1.length (-1)) ?_ ?_ ?_ ?_]
  ·rw[ee];have ax:∀ (l:List Nat) (b:z1'×z1'),(l.foldl (λb (p:Nat)=>(if tw s (sb s w p)=true then b.1++[(p:Int)] else b.1,sb s w p)) b).1=l.foldl (λb (p:Nat)=>if tw s (sb s w p)=true then b++[(p:Int)] else b) b.1:=by
    intro l;induction l<;>grind
   rw[ax,ahf,aK];rfl
  ·rfl
  ·exact⟨amo _,λp=>rfl⟩
  ·intro i G b U;have G:i<s.2.2.1.length:=by grind
   have ov:=bp (n:=i+1);obtain⟨cY,fe⟩:=b;obtain⟨oc,w1⟩:=U;change cY.length<=i at oc;have n8:cb (cY.length+(0+1)):=by unfold cb;omega
   have hlen:=by
    have:=congrArg List.length (w1 0);simpa [sb]using this
   have yM:0<=w/\w<fe.length:=by omega
   refine⟨?_,λbf eg=>?_⟩
   ·simp only[dP G,yM,aQJ,cj,w1];rw[bb (by exact⟨s,⟨rfl,ae⟩,aAK G⟩)];have aB:qB (some (ez s))=s:=rfl;simp  [aB,bb n8];cases tw s (sb s w i)<;>simp[ov]
   ·cases eg;refine⟨?_,λp=>?_⟩
    ·grind
    ·unfold sb;simp
  simp
 ·simp[Nt an,an]
def ES(s:bO)(dm:z1'):z12':=if nh s (zk s dm)≠0 then (0,nh s (zk s dm)) else if (!tw s dm)=true then (0,3) else (xS s dm,0)
abbrev Ny:aN:=⟨.au o6 hK,.au bH bH,λx=>ij x.1/\x.2.length<2 ^ 63,λx=>ES x.1 x.2⟩
theorem aAM(h:zk s dm=true):dm.length=s.2.2.2.1.length/\qA s dm:=by
 unfold zk at h;simp  at h;obtain⟨E,L⟩:=h;refine⟨by omega,by omega,λp aj=>?_⟩;obtain⟨i,G,rfl⟩:=List.mem_iff_getElem.1 aj;have:=E i G;have j8:dm.getD i 0=dm[i]:=by grind
 unfold zj at this;simp only[aPO,amq,amn,azJ]at this;omega
theorem aAN(x):a6 (ac4 EK.sh BY.sh Ng.sh zo.sh x) (Ny.sh x):=bx λh=>by
 obtain⟨s,dm⟩:=x;obtain⟨ay,ah⟩:=h;unfold ac4 bo dB mZ;show _=mpure (ES s dm);unfold ES;simp only[aN.sh,rV,iE];have aj:Ng.pre (s,dm):=⟨ay,ah⟩
 rw[bb (by omega),bb (by omega)];by_cases an:nh s (zk s dm)=0
 ·have ae:=EJ ay (EI an).1;obtain⟨C5,w9⟩:=aAM (EI an).2.1;simp only[Ns an,an,ne_eq,not_true,aQe,ff];rw[bb (by exact⟨s,⟨rfl,ae⟩,w9⟩)];have aB:qB (some (ez s))=s:=rfl;simp only[aB];cases ax:tw s dm with
  | false=>simp
  | true=>
   simp only[aP9,aml,aPA];rw[bb (by exact⟨s,⟨rfl,ae⟩,aRi C5⟩)]
 ·simp[Nt an,an]
def IH(s:bO):Prop:=azd s.1/\s.2.1.length<=2000000/\s.2.2.1.length<=2000000/\s.2.2.2.1.length<=2000000/\s.2.2.2.2.1.length<=2000000/\(∀ p∈s.2.2.1,p.2.2.2.2.length<=2000000)/\∀ x∈s.2.2.2.1,x.1.length<=2000000
theorem aAO(ae:ow s):IH s:=by
 have ay0:=Ij ae.qw.2;refine⟨⟨by omega,by omega,by omega,λm hm=>?_⟩,by have:=ae.Ix;omega,by have:=ae.Nh;omega,by have:=ae.xQ;omega,by have:=ae.U7;omega,λp aj=>by have:=(Vb ae aj).2.1;omega,λx ao=>?_⟩
 ·have mT:=(EA ae.qw.2).2.2.1 m hm;simp only[tq,amn,aPH,aPT,aP4]at mT;refine⟨by omega,λs' vf=>?_⟩;have:=mT.2 s' vf;simp only[r8,amn,amq]at this;omega
 ·have:=ae.agM x ao;simp only[uM,cH,amn,amq]at this;omega
def ahg(s:bO):Int:=(s.2.2.1.map λp=>(p.2.2.2.2.length:Int)).foldl (·+·) 0
def xX(s:bO):Bool:=
 if (ot s.1||decide ((s.2.1.length:Int) > 40)||decide ((s.2.2.1.length:Int) > 40)||decide ((s.2.2.2.1.length:Int) > 40)||decide ((s.2.2.2.2.1.length:Int) > 40))=true then true
 else if (s.2.2.1.any λp=>decide ((p.2.2.2.2.length:Int) > 40))=true then true
 else if (s.2.2.2.1.any λx=>decide ((x.1.length:Int) > 40))=true then true
 else if lV s≠0 then false
 else decide ((s.2.2.2.1.length:Int) > 3)||decide ((s.2.2.1.length:Int) > 4)||decide ((s.2.2.2.2.1.length:Int) > 3)||decide (ahg s > 4)
abbrev Nz:aN:=⟨o6,dY,ij,xX⟩
theorem aAP(x):a6 (agf sa.sh y9.sh x) (Nz.sh x):=bx λh=>by
 change ij x at h;unfold agf e0 c' fO bz bo a8 aQ bK cS bY bc gp h0;show _=mpure (xX x);unfold xX;simp only[aN.sh,ff,ct];rw[bb (by exact h.1)];obtain⟨dx,ec,jF,g4,qT,xj,g7⟩:=id h;by_cases E:(ot x.1||decide ((x.2.1.length:Int) > 40)||decide ((x.2.2.1.length:Int) > 40)||decide ((x.2.2.2.1.length:Int) > 40)||decide ((x.2.2.2.2.1.length:Int) > 40))=true
 ·grind
 ·rw[if_neg E,if_neg E];simp only[aPO,amq,not_or]at E;rw[ev x.2.2.1 (λi (_:Unit)=>((i:Int),x,())) (λp u=>if decide ((p.2.2.2.2.length:Int) > 40)=true then .done (.done true) else .next u) (λ_=>.next (x,())) () ?_ ?_ ?_]
  ·rw[s_ (p:=λp:oY=>decide ((p.2.2.2.2.length:Int) > 40))];by_cases L:(x.2.2.1.any λp=>decide ((p.2.2.2.2.length:Int) > 40))=true
   ·simp only[L,if_true,aK,uD]
   ·simp only[L,aml,aPA,aK,cK];rw[ev x.2.2.2.1 (λi (_:Unit)=>((i:Int),x,())) (λp u=>if decide ((p.1.length:Int) > 40)=true then .done (.done true) else .next u) (λ_=>.next (x,())) () ?_ ?_ ?_]
    ·rw[s_ (p:=λp:mg=>decide ((p.1.length:Int) > 40))];by_cases ak:(x.2.2.2.1.any λx=>decide ((x.1.length:Int) > 40))=true
     ·simp only[ak,if_true,aK,uD]
     ·simp only[ak,aml,aPA,aK,cK];rw[bb (by exact h)];by_cases he:lV x=0
      ·simp only[he,ne_eq,not_true,aQe,aml,aPA];have U:∀ p∈x.2.2.1,p.2.2.2.2.length<=40:=λp aj=>by
        grind
       rw[e6 x.2.2.1 (λi (n:Int)=>(n,(i:Int),x,())) (λp n=>.next (n+(p.2.2.2.2.length:Int))) (λn=>.next (n,x,())) (λi n=>0<=n/\n<=40*i) 0 ?_ ?_ ?_ ?_]
       ·rw[ee,aK,cK];unfold ahg;rw[List.foldl_map]
       ·rfl
       ·simp
       ·intro i G n aA;have ov:=bp (n:=(i:Int)+1);have aO4:=U _ (amm G);have zh:=bp (n:=n+(x.2.2.1[i].2.2.2.2.length:Int));refine⟨?_,λbf eg=>?_⟩
        ·simp only[dP G,if_true,dt G,cj,d_ G,dd,ov,zh];rfl
        grind
       simp
      grind
    ·rfl
    ·intro i G u;have ov:=bp (n:=(i:Int)+1);simp only[dP G,if_true,dt G,cj,d_ G,aK,dd,ov];exact pG (mk:=λ_:Unit=>((i:Int)+1,x,()))
    simp
  ·rfl
  ·intro i G u;have ov:=bp (n:=(i:Int)+1);simp only[dP G,if_true,dt G,cj,d_ G,aK,dd,ov];exact pG (mk:=λ_:Unit=>((i:Int)+1,x,()))
  simp
end Go.Fer
namespace Go.Fer.H
variable (axR:bd->M Bool) (axS:Unit->M Bool) (afs:bd->M bd) (UI:bd->M Bool) (axU:bd×bd->M Bool) (UJ aO5:bd×List bF×z1'->M (bd×Int)) (aO6:bd×bd×Int×Int×Int×Int×Int->M Bool) (Bt:bd->M Int) (TJ:List bF->M (List bF×Bool)) (aAQ:List (List bF)->M (List bF)) (aAR:z25'->M (z14')) (TK:z14'->M (z14')) (aAS:z14'->M ((Nat×Nat)×z14')) (ahh:z4'->M (z4')) (HQ:bd->M Int) (auN:List bF->M (List bF)) (auR:z19'->M Bool) (adp:bF×Int×Int×Int×Int×Int×Int->M Bool) (UF:bd×Int×Int->M (z19')) (axT:z1'×z1'->M Bool) (UG UH:bd×Int->M (z17')) (aAT:z22'->M (List bF×Unit)) (aAU:z22'->M (z14'))
def ahi(x:bd×List bF×z1'):M (bd×Int):=
 letI c:=ahh x.1.1;letI b:=ahh x.1.2.2.2.1;aq (Bt x.1) λy=>bo (y≠0) (mpure (([],[],[],[],0,0,0,0,0,0,0),y)) (aq (Bt (x.1.1,x.2.1,x.2.2,x.1.2.2.2)) (λy=>bo (y≠0) (mpure (([],[],[],[],0,0,0,0,0,0,0),y)) (aq (aAQ [x.1.2.1,x.2.1]) (λy=>aq (TJ y) λy=>bg (!y.2) (mpure (([],[],[],[],0,0,0,0,0,0,0),91)) (aq (aAR ([x.1.2.2.1,x.2.2],())) (λcg=>aq (TK (cg.1,())) λei=>aq (aAS (ei.1,())) λhv=>bg (c' (aQ y.1) 12||c' (Int.ofNat (hv.1.2-hv.1.1)) 12) (mpure (([],[],[],[],0,0,0,0,0,0,0),90)) (dB c (dB b (mpure ((M.val c [],y.1,List.drop hv.1.1 (hv.2.1.take hv.1.2),M.val b [],x.1.2.2.2.2),0))))))))))
def ahj(x:List (List bF)):M (List bF):=
 bK (λA=>letI g:=A.2.2;letI i:=g.2.2.1;letI f:=e0 A.2.1 (aQ (bz g.1 i []));bo (i<g.2.1) (cm (bS i g.1 (bo (f<0) (ag False (ag False (bc (A.1,f,g.1,g.2.1,i,())))) (bc (A.1,f,g.1,g.2.1,i,())))) (λA=>bc (A.1,A.2.1,A.2.2.1,A.2.2.2.1,a8 A.2.2.2.2.1,()))) (bY (A.1,A.2.1,()))) (x,0,x,aQ x,0,()) λA=>aq (aAT (A.2.1,())) λy=>bK (λA=>letI h:=A.2.2;bo (h.1<A.2.1) (bS h.1 A.1 (ag (cb (Add.add h.2.1.length (bz A.1 h.1 []).length)) (bc (A.1,A.2.1,a8 h.1,h.2.1++bz A.1 h.1 [],())))) (bY (h.2.1,()))) (A.1,aQ A.1,0,y.1,()) λA=>mpure A.1
def ahk(x:z25'):M (z14'):=
 bK (λA=>letI g:=A.2.2;letI i:=g.2.2.1;letI f:=e0 A.2.1 (aQ (bz g.1 i []));bo (i<g.2.1) (cm (bS i g.1 (bo (f<0) (ag False (ag False (bc (A.1,f,g.1,g.2.1,i,())))) (bc (A.1,f,g.1,g.2.1,i,())))) (λA=>bc (A.1,A.2.1,A.2.2.1,A.2.2.2.1,a8 A.2.2.2.2.1,()))) (bY (A.1,A.2.1,()))) (x.1,0,x.1,aQ x.1,0,()) λA=>aq (aAU (A.2.1,())) λy=>bK (λA=>letI h:=A.2.2;bo (h.1<A.2.1) (bS h.1 A.1 (ag (cb (Add.add h.2.1.length (bz A.1 h.1 []).length)) (bc (A.1,A.2.1,a8 h.1,h.2.1++bz A.1 h.1 [],())))) (bY (h.2.1,()))) (A.1,aQ A.1,0,y.1,()) λA=>mpure (A.1,())
def aAV(x:z14'):M ((Nat×Nat)×z14'):=
 bo (aQ x.1<2) (mpure ((0,x.1.length),x.1,())) (bK (λA=>letI w:=A.1;letI p:=A.2.1;letI u:=aQ p;bo (w<u) (cm (bS w p (bS (cD w 1) p (bo (bz p w 0=bz p (cD w 1) 0) (ag (0<=w/\w<=u/\u<=u) (bK (λA=>letI v:=A.2.1;letI o:=A.2.2;letI y:=cD o.1 1;letI q:=o.2.1.getD (Add.add v.1 o.1.toNat) 0;letI n:=Int.ofNat (v.2-v.1);bo (o.1<n) (cm (ag (0<=o.1/\o.1<n) (ag (0<=y/\y<n) (bo (q≠o.2.1.getD (Add.add v.1 y.toNat) 0) (ag (0<=o.1/\o.1<n) (bS A.1 o.2.1 (bc (a8 A.1,v,o.1,List.set o.2.1 A.1.toNat q,())))) (bc (A.1,v,o.1,o.2.1,()))))) (λA=>bc (A.1,A.2.1,a8 A.2.2.1,A.2.2.2.1,()))) (bY (A.1,o.2.1,()))) (w,(w.toNat,u.toNat),1,p,()) (λA=>letI t:=A.1.toNat;letI s:=aQ A.2.1;letI m:=A.2.1.take t++List.replicate (s.toNat-t) 0++A.2.1.drop (Add.add t (List.replicate (s.toNat-t) (0:Int)).length);ag (0<=A.1/\A.1<=s/\s<=s) (ag True (ag ((0:Int)<=0/\0<=A.1/\A.1<=aQ m) (iO (cS ((Int.toNat 0,t),m,())))))))) (bc (w,p,()))))) (λA=>bc (a8 A.1,A.2.1,()))) (bY (p,()))) (1,x.1,()) (λA=>mpure ((0,A.1.length),A.1,())))
end Go.Fer.H
namespace Go.Fer.H
def NA(x:z22'):M (z14'):=eF (0<=x.1/\x.1<60000) ([],())
def NB(x:z22'):M (List bF×Unit):=eF (0<=x.1/\x.1<60000) ([],())
section
variable {af hj:Type}
def NC(g:z22'->M (List af×Unit))(x:List (List af))(k:List af->M hj):M hj:=
 aq (dG (λ(A:List (List af)×Int×List (List af)×Int×Int×Unit)=>if decide (A.2.2.2.2.1<A.2.2.2.1)=true then aq (ag (0<=A.2.2.2.2.1/\
 A.2.2.2.2.1<Int.ofNat (List.length A.2.2.1)) (if decide (IntKind.wrap .i64 (Add.add A.2.1 (Int.ofNat (List.length (List.getD A.2.2.1 (Int.toNat A.2.2.2.2.1) [])))) <
 0)=true then ag False (ag False (mpure (aF.next (A.1,IntKind.wrap .i64 (Add.add A.2.1 (Int.ofNat (List.length (List.getD A.2.2.1 (Int.toNat A.2.2.2.2.1)
 [])))),A.2.2.1,A.2.2.2.1,A.2.2.2.2.1,())))) else mpure (aF.next (A.1,IntKind.wrap .i64 (Add.add A.2.1 (Int.ofNat (List.length (List.getD A.2.2.1 (Int.toNat
 A.2.2.2.2.1) [])))),A.2.2.1,A.2.2.2.1,A.2.2.2.2.1,())))) (aF.gb λ(A:List (List af)×Int×List (List af)×Int×Int×Unit)=>mpure (aF.next (A.1,A.2.1,A.2.2.1,A.2.2.2.1,IntKind.wrap .i64 (Add.add A.2.2.2.2.1 1),()))) else aq (mpure (aF.next (A.1,A.2.1,()))) λr=>mpure (aF.done r)) (x,0,x,Int.ofNat
 (List.length x),0,())) (aF.gb λ(A:List (List af)×Int×Unit)=>aq (g (A.2.1,())) λy=>aq (dG (λ(A:List (List af)×Int×Int×List af×
 Unit)=>if decide (A.2.2.1<A.2.1)=true then ag (0<=A.2.2.1/\A.2.2.1<Int.ofNat (List.length A.1)) (ag (cb (Add.add (List.length A.2.2.2.1) (List.length
 (List.getD A.1 (Int.toNat A.2.2.1) [])))) (mpure (aF.next (A.1,A.2.1,IntKind.wrap .i64 (Add.add A.2.2.1 1),A.2.2.2.1++List.getD A.1 (Int.toNat A.2.2.1) [],())))) else aq (mpure (aF.next (A.2.2.2.1,()))) λr=>mpure (aF.done r)) (A.1,Int.ofNat (List.length A.1),0,y.1,())) (aF.gb λ(A:List af×Unit)
 =>k A.1))
theorem ahl:∀ (l:List (List af)) (b:List af),l.foldl (λb x=>b++x) b=b++l.flatten
 | [],b=>by simp
 | x::l,b=>by simp[ahl l]
theorem ahm(g:z22'->M (List af×Unit))(aD:∀ n,0<=n->n<60000->g (n,())=mpure ([],()))(x:List (List af))(k:List af->M hj)(E:x.length<=2)(L:∀ l∈x,l.length<=40):NC g x k=k x.flatten:=by
 unfold NC;rw[e6 x (λi n=>(x,n,x,(x.length:Int),(i:Int),())) (λl n=>.next (n+(l.length:Int))) (λn=>.next (x,n,())) (λi n=>0<=n/\n<=40*i) 0 ?_ ?_ ?_ ?_]
 ·rw[ee,aK,cK];have ay:∀ (l:List (List af)) (n:Int),0<=n->(∀ y∈l,y.length<=40)->0<=l.foldl (λn y=>n+(y.length:Int)) n/\l.foldl (λn y=>n+(y.length:Int)) n<=n+40*l.length:=by
   intro l;induction l<;>grind
  obtain⟨cY,fe⟩:=ay x 0 (aPL _) L;rw[aD _ cY (by omega),aK];rw[e6 x (λi b=>(x,(x.length:Int),(i:Int),b,())) (λl b=>.next (b++l)) (λb=>.next (b,())) (λi b=>b.length<=40*i) [] ?_ ?_ ?_ ?_]
  ·simp_all[ee,ahl]
  ·rfl
  ·simp
  ·intro i G b U;have hw:=bp (n:=i+1);refine⟨?_,λbf eg=>?_⟩
   ·simp only[ct,dP G,d_ G,dt G,cj,dd,hw];rw[bb (kL (by grind))];rfl
   grind
  simp
 ·rfl
 ·omega
 ·intro i G n aA;have hw:=bp (n:=i+1);have ah:=L _ (amm G);have gF:=bp (n:=n+(x[i].length));have aw:decide (n+(x[i].length)<0)=false:=by grind
  refine⟨?_,λbf eg=>?_⟩
  ·simp only[ct,dP G,d_ G,dt G,cj,dd,hw,gF,aw,aml,aPA,aK,cK];rfl
  grind
 simp
end
abbrev ND:aN:=⟨.slice (.slice ja),.slice ja,λx=>x.length<=2/\∀ l∈x,l.length<=40,λx=>x.flatten⟩
theorem aAW(x):a6 (ahj NB x) (ND.sh x):=bx λh=>
 (show ahj NB x=NC NB x mpure from rfl).trans (ahm _ (λn a b=>bN ⟨a,b⟩ _) x _ h.1 h.2)
def NF(x:z25'):M (z14'):=eF (x.1.length<=2/\∀ l∈x.1,l.length<=40) (x.1.flatten,())
theorem aAX(x):a6 (ahk NA x) (NF x):=bx λh=>
 (show ahk NA x=NC NA x.1 (λl=>mpure (l,())) from rfl).trans (ahm _ (λn a b=>bN ⟨a,b⟩ _) x.1 _ h.1 h.2)
def rq(l:z1')(j:Nat):Bool:=decide (j=0)||decide (l.getD j 0≠l.getD (j - 1) 0)
def hh(l:z1')(p:Nat):z1':=((List.range p).filter (rq l)).map λj=>l.getD j 0
theorem Vx(l:z1')(p:Nat):hh l (p+1)=hh l p++if rq l p=true then [l.getD p 0] else []:=by
 grind [hh,List.range_succ]
theorem aAY(l:z1')(p:Nat):(hh l p).length<=p:=by
 unfold hh;grind
variable {R:Type}
def II:Int×(Nat×Nat)×z23'->M (aF (Int×(Nat×Nat)×z23') (aF (z23') R)):=
 (λ(A:Int×(Nat×Nat)×z23')=>if decide (A.2.2.1<Int.ofNat (A.2.1.2 - A.2.1.1))=true then aq (ag (0<=A.2.2.1/\A.2.2.1<Int.ofNat
 (A.2.1.2 - A.2.1.1)) (ag (0<=IntKind.wrap .i64 (A.2.2.1 - 1)/\IntKind.wrap .i64 (A.2.2.1 - 1)<Int.ofNat (A.2.1.2 - A.2.1.1)) (if decide (List.getD A.2.2.2.1
 (Add.add A.2.1.1 (Int.toNat A.2.2.1)) 0≠List.getD A.2.2.2.1 (Add.add A.2.1.1 (Int.toNat (IntKind.wrap .i64 (A.2.2.1 - 1)))) 0)=true then ag (0<=A.2.2.1/\A.2.2.1
 < Int.ofNat (A.2.1.2 - A.2.1.1)) (ag (0<=A.1/\A.1<Int.ofNat (List.length A.2.2.2.1)) (mpure (aF.next (IntKind.wrap .i64 (Add.add A.1 1),A.2.1,A.2.2.1,List.set A.2.2.2.1 (Int.toNat A.1) (List.getD A.2.2.2.1 (Add.add A.2.1.1 (Int.toNat A.2.2.1)) 0),())))) else mpure (aF.next (A.1,A.2.1,A.2.2.1,A.2.2.2.1,())))))
 (aF.gb λ(A:Int×(Nat×Nat)×z23')=>mpure (aF.next (A.1,A.2.1,IntKind.wrap .i64 (Add.add A.2.2.1 1),A.2.2.2.1,()))) else aq
 (mpure (aF.next (A.1,A.2.2.2.1,()))) λr=>mpure (aF.done r))
def zq:z23'->M (aF (z23') (aF (z14') ((Nat×Nat)×z14'))):=
 (λ(A:z23')=>if decide (A.1<Int.ofNat (List.length A.2.1))=true then aq (ag (0<=A.1/\A.1<Int.ofNat (List.length A.2.1)) (ag (0<=
 IntKind.wrap .i64 (A.1 - 1)/\IntKind.wrap .i64 (A.1 - 1)<Int.ofNat (List.length A.2.1)) (if decide (List.getD A.2.1 (Int.toNat A.1) 0=List.getD A.2.1 (Int.toNat
 (IntKind.wrap .i64 (A.1 - 1))) 0)=true then ag (0<=A.1/\A.1<=Int.ofNat (List.length A.2.1)/\Int.ofNat (List.length A.2.1)<=Int.ofNat (List.length A.2.1))
 (aq (dG II (A.1,(Int.toNat A.1,Int.toNat (Int.ofNat (List.length A.2.1))),1,A.2.1,())) (aF.gb λ(A:z23')=>ag (0<=A.1/\A.1<=
 Int.ofNat (List.length A.2.1)/\Int.ofNat (List.length A.2.1)<=Int.ofNat (List.length A.2.1)) (ag True (ag ((0:Int)<=0/\0<=A.1/\A.1<=Int.ofNat (List.length
 (List.take (Int.toNat A.1) A.2.1++List.replicate (Int.toNat (Int.ofNat (List.length A.2.1)) - Int.toNat A.1) 0++List.drop (Add.add (Int.toNat A.1) (List.length
 (List.replicate (Int.toNat (Int.ofNat (List.length A.2.1)) - Int.toNat A.1) (0:Int)))) A.2.1))) (aq (aq (aq (mpure ((Int.toNat 0,Int.toNat A.1),List.take
 (Int.toNat A.1) A.2.1++List.replicate (Int.toNat (Int.ofNat (List.length A.2.1)) - Int.toNat A.1) 0++List.drop (Add.add (Int.toNat A.1) (List.length (List.replicate
 (Int.toNat (Int.ofNat (List.length A.2.1)) - Int.toNat A.1) (0:Int)))) A.2.1,())) λr=>mpure (aF.done r)) λr=>mpure (aF.done r)) λr=>mpure (aF.done
 r)))))) else mpure (aF.next (A.1,A.2.1,()))))) (aF.gb λ(A:z23')=>mpure (aF.next (IntKind.wrap .i64 (Add.add A.1 1),A.2.1,()))) else
 aq (mpure (aF.next (A.2.1,()))) λr=>mpure (aF.done r))
structure B1(l:z1')(p:Nat)(m:z1'):Prop where
 len:m.length=l.length
 F7:m.take (hh l p).length=hh l p
 lt:(hh l p).length<p
 b6:∀ j,p<=j+1->m.getD j 0=l.getD j 0
theorem aAZ{af:Type}{l:List af}{i j:Nat}{v d:af}(h:i<l.length):(l.set i v).getD j d=if j=i then v else l.getD j d:=by
 grind
variable {l:z1'}
theorem B1.step{m:z1'}{p:Nat}(h:B1 l p m)(aj:p<l.length):B1 l (p+1) (if rq l p=true then m.set (hh l p).length (l.getD p 0) else m):=by
 have E:=h.lt;have L:=h.len;have hc:=Vx l p;by_cases an:rq l p=true
 ·rw[if_pos an]at hc ⊢;refine⟨by grind,?_,?_,λj aJ=>?_⟩
  ·rw[hc,aP1,aQQ];have aG:=h.F7;generalize hh l p=c at aG E;apply aQ1;grind
  ·grind
  ·rw[aAZ (by omega),if_neg (by omega)];exact h.b6 j (by omega)
 ·rw[if_neg an,aPN]at hc;rw[if_neg an];refine⟨L,by rw[hc];exact h.F7,by grind,λj aJ=>h.b6 j (by omega)⟩
theorem aA0{m:z1'}{k p:Nat}(ah:l.length<60000)(an:k<p)(AB:0<k)(h:B1 l p m)(aj:p<l.length) :
  II (R:=R) (((hh l p).length:Nat),(k,l.length),((p - k:Nat):Int),m,())=mpure (.next (((hh l (p+1)).length:Nat),(k,l.length),((p+1 - k:Nat):Int),(if rq l p=true then m.set (hh l p).length (l.getD p 0) else m),())):=by
 have E:=h.lt;have L:=h.len;have hc:=Vx l p;have cf:=bp (n:=((p - k:Nat)) - 1);have dL:IntKind.wrap .i64 (((p - k:Nat))+1)=((p+1 - k:Nat)):=(bp).trans (by omega);have hG:=bp (n:=(((hh l p).length))+1);have d1:decide (((p - k))<((l.length - k)))=true:=by grind
 have c8:(0)<=((p - k:Nat):Int) - 1/\((p - k:Nat)) - 1<((l.length - k:Nat):Int):=by omega
 have fB:(0)<=(((hh l p).length))/\(((hh l p).length))<m.length:=by omega
 have aB:k+(((p - k):Int)).toNat=p:=by omega
 have bt:k+(((p - k):Int) - 1).toNat=p - 1:=by omega
 have dx:=h.b6 p (by omega);have ec:=h.b6 (p - 1) (by omega);have P8:rq l p=decide (l.getD p 0≠l.getD (p - 1) 0):=by
  grind [rq]
 unfold II;by_cases aO7:rq l p=true<;>simp_all
theorem aA1{k:Nat}(ah:l.length<60000)(AB:0<k):∀ (n p:Nat) (m:z1'),l.length - p=n->p<=l.length->k<p->B1 l p m->
  ∃ dp,B1 l l.length dp/\dG (II (R:=R)) (((hh l p).length:Nat),(k,l.length),((p - k:Nat):Int),m,())=mpure (.next (((hh l l.length).length:Nat),dp,())):=by
 intro n;induction n with
 | zero=>
  intro p m aA aj an h;have:p=l.length:=by omega
  subst this;refine⟨m,h,wL ?_⟩;simp_all[II]
 | succ n aO=>
  intro p m aA aj an h;have aj:p<l.length:=by omega
  obtain⟨dp,E,L⟩:=aO (p+1) _ (by omega) aj (by omega) (h.step aj);grind [FD,aA0]
def zr(l:z1'):(Nat×Nat)×z14':=((0,(hh l l.length).length),hh l l.length++List.replicate (l.length - (hh l l.length).length) 0,())
theorem aA2(ah:l.length<60000):∀ (n p:Nat),l.length - p=n->p<=l.length->0<p->hh l p=l.take p->
  aq (dG zq ((p:Int),l,())) (aF.gb λ(A:z14')=>mpure ((0,List.length A.1),A.1,()))=mpure (zr l):=by
 intro n;induction n with
 | zero=>
  intro p aA aj aV hc;have:p=l.length:=by omega
  subst this;have U:zq (l.length,l,())=mpure (.done (.next (l,()))):=by
   simp_all[zq]
  rw[wL U];simp_all[zr]
 | succ n aO=>
  intro p aA aj aV hc;have aj:p<l.length:=by omega
  have cf:=bp (n:=p - 1);have dL:=bp (n:=p+1);have c8:(0)<=(p:Int) - 1/\p - 1<(l.length:Int):=by omega
  have P8:rq l p=decide (l.getD p 0≠l.getD (p - 1) 0):=by
   unfold rq;rw[show decide (p=0)=false by grind,aQo]
  have qO:=Vx l p;by_cases an:rq l p=true
  ·have U:zq (p,l,())=mpure (.next (((p+1)),l,())):=by
    simp_all[zq]
   rw[FD U];refine aO (p+1) (by omega) aj (by omega) ?_;simp_all
  ·have heq:l.getD p 0=l.getD (p - 1) 0:=by grind
   have fw:B1 l (p+1) l:=⟨rfl,by grind,by grind,λ_ _=>rfl⟩
   obtain⟨dp,E,L⟩:=aA1   ah aV (l.length - (p+1)) (p+1) l rfl aj (by omega) fw;rw[show (hh l (p+1)).length=p by grind,show p+1 - p=1 from by omega]at L;have kA:=aAY l l.length;have uJ:=E.len;have mx:=E.F7;have fB:(0)<=((hh l l.length).length:Int)/\((hh l l.length).length)<=(dp.length:Int):=by omega
   have hR:List.take (hh l l.length).length dp++List.replicate (dp.length - (hh l l.length).length) 0++List.drop ((hh l l.length).length+(List.replicate (dp.length - (hh l l.length).length) (0:Int)).length) dp=hh l l.length++List.replicate (l.length - (hh l l.length).length) 0:=by
    simp_all
   have U:zq (p,l,())=mpure (.done (.done (zr l))):=by
    unfold zq;simp only[ct,dP aj,dt aj,cj,cf,c8,aQJ,aPQ,heq];rw[bb (by omega)];erw [L];simp only[aK,cK,aPQ,kV,hR];rw[bb ⟨fB.1,fB.2,aPL _⟩,bb ⟨aPL _,fB.1,by grind⟩];simp;rfl
   rw[wL U,aK,uD]
def NG(x:z14'):M ((Nat×Nat)×z14'):=eF (x.1.length<60000) (zr x.1)
theorem aA3(x):a6 (aAV x) (NG x):=bx λh=>by
 obtain⟨l,u⟩:=x;change l.length<60000 at h;show (if decide (Int.ofNat l.length<2)=true then mpure ((0,l.length),l,()) else aq (dG zq (1,l,())) (aF.gb λA=>mpure ((0,List.length A.1),A.1,())))=mpure (zr l);have qb:∀ l,l.length<2->hh l l.length=l:=λl ah=>by
  match l,ah with
  | [],_=>rfl
  | [a],_=>rfl
 by_cases L:l.length<2
 ·have aw:decide (Int.ofNat l.length<2)=true:=by grind
  simp_all[zr]
 ·have aw:¬decide (Int.ofNat l.length<2)=true:=by grind
  rw[if_neg aw];refine aA2 h (l.length - 1) 1 rfl (by omega) (by omega) ?_;match l,L with
  | a::l,_=>rfl
  | [],L=>grind
end Go.Fer.H
namespace Go.Fer.H
variable {l:z1'}
theorem aA4:∀ j,j<l.length->l.getD j 0∈hh l l.length:=by
 intro j;induction j with
 | zero=>
  intro h;exact List.mem_map.2 ⟨0,List.mem_filter.2 ⟨by grind,by rfl⟩,rfl⟩
 | succ j aO=>
  grind [rq,hh]
theorem aA5{x:Int}:x∈hh l l.length<->x∈l:=by
 constructor
 ·grind [hh]
 ·intro h;obtain⟨j,aJ,rfl⟩:=List.mem_iff_getElem.1 h;rw[<-xD   aJ];exact aA4 j aJ
theorem aA6(h:l.Pairwise (·<=·)):(hh l l.length).Pairwise (·<·):=by
 unfold hh;rw[aQ2];have D:((List.range l.length).filter (rq l)).Pairwise (·<·):=aQ3 _ aQI;refine List.Pairwise.imp_of_mem ?_ D;intro i j G aJ AG;have eM:l.getD j 0≠l.getD (j - 1) 0:=by
  grind [rq]
 have ay:=List.pairwise_iff_getElem.1 h;grind
def we(a b:z1'):z1':=(fP 0 99).filter λid=>a.contains id||b.contains id
theorem ahn(a b:Int):(fP a b).Pairwise (·<·):=by
 grind [fP,List.pairwise_lt_range]
theorem aA7{a b:z1'}(aW:a.Pairwise (·<·))(U:b.Pairwise (·<·))(h:∀ x,x∈a<->x∈b):a=b:=by
 have aA8:a.Nodup:=aW.imp λh=>by omega
 have oV:b.Nodup:=U.imp λh=>by omega
 have aj:=(aQK aA8 oV).2 h;rw[<-D4 (aW.imp λh=>by omega) (List.Perm.refl a)];exact D4 (U.imp λh=>by omega) aj
theorem aA9{a b:z1'}(aW:∀ x∈a,cH x 0 99=true)(U:∀ x∈b,cH x 0 99=true):hh (hf jq (a++b)) (hf jq (a++b)).length=we a b:=by
 refine aA7 (aA6 (TY _)) (aQ3 _ (ahn 0 99)) λx=>?_;grind [aA5,aer,we,vI,uG]
abbrev NH:bd:=([],[],[],[],0,0,0,0,0,0,0)
def qD(c:bd)(more:List bF)(jt:z1'):bd:=(c.1,more,jt,c.2.2.2)
def qE(c:bd)(more:List bF)(jt:z1'):bd×Int:=
 if dJ c≠0 then (NH,dJ c) else if dJ (qD c more jt)≠0 then (NH,dJ (qD c more jt)) else
 if m' (c.2.1++more)=true then (NH,91) else
 if (decide (Int.ofNat (iP (c.2.1++more)).length > 12)||decide (Int.ofNat (we c.2.2.1 jt).length > 12))=true then (NH,90) else (qD c (iP (c.2.1++more)) (we c.2.2.1 jt),0)
abbrev ET:aN:=⟨.au lq (.au (.slice ja) hK),.au lq bH,λx=>mL x.1/\x.2.1.length<2 ^ 63/\x.2.2.length<2 ^ 63,λx=>qE x.1 x.2.1 x.2.2⟩
abbrev IJ:aN:=⟨.slice o0,.slice o0,λx=>x.length<65536,λx=>x⟩
theorem aA_(x):a6 (adZ x) (IJ.sh x):=rU λh=>by
 unfold adZ bg i';rw[fD];refine⟨⟨false,by simp⟩,λb U=>?_⟩;change b=true->x=[]at U;grind [dF,h6,kL]
structure aho(c:bd):Prop where
 eB:c.1.length<=3
 eC:c.2.1.length<=12
 lf:c.2.2.1.length<=12
 n4:c.2.2.2.1.length<=4
 ids:∀ s∈c.2.1,cH s.1 0 99=true
 jt:∀ n∈c.2.2.1,cH n 0 99=true
 cl:m' c.2.1=false
theorem NI{c:bd}(h:dJ c=0):aho c:=by
 unfold dJ at h;by_cases hc:lO c=true
 ·have kA:m' c.2.1=false:=by
   grind
  have G:=MB hc;unfold lO vP at hc;simp  at hc;obtain⟨⟨⟨⟨⟨bA,_⟩,_⟩,L⟩,ak⟩,_⟩:=hc;exact⟨by omega,by omega,by omega,by omega,G.2,ak,kA⟩
 grind
theorem aA'{a b:List bF}(aW:a.length<=12)(U:b.length<=12)(E:∀ s∈a,cH s.1 0 99=true)(L:∀ s∈b,cH s.1 0 99=true):Bz (a++b):=
 ⟨by grind,λs ay=>(List.mem_append.1 ay).elim (E s) (L s)⟩
theorem aBa(x):a6 (ahi jX.sh Ee.sh ND.sh NF D6 NG IJ.sh x) (ET.sh x):=bx λh=>by
 obtain⟨c,more,jt⟩:=x;obtain⟨E,L,ak⟩:=h;have ps:mL (qD c more jt):=⟨E.1,L,ak,E.2.2.2⟩
 unfold ahi c' bg bo aQ dB;show _=mpure (qE c more jt);unfold qE;rw[show jX.sh (c,more,jt).1=mpure (dJ c) from bN E _,aK];by_cases aB:dJ c=0
 ·have dx:=NI aB;rw[show jX.sh ((c,more,jt).1.1,(c,more,jt).2.1,(c,more,jt).2.2,(c,more,jt).1.2.2.2)=mpure (dJ (qD c more jt)) from bN ps _,aK];by_cases bt:dJ (qD c more jt)=0
  ·have ec:=NI bt;have eC:more.length<=12:=ec.eC;have lf:jt.length<=12:=ec.lf;have e_:=dx.eC;have mv:=dx.lf;have G:=aA' dx.eC ec.eC dx.ids ec.ids;rw[if_neg (by grind),if_neg (by grind),if_neg (by omega),if_neg (by omega)];rw[show ND.sh [(c,more,jt).1.2.1,(c,more,jt).2.1]=mpure (c.2.1++more) from (bN ⟨by simp,by grind⟩ _).trans (congrArg mpure (by simp)),aK];rw[show Ee.sh (c.2.1++more)=mpure (if m' (c.2.1++more)=true then ([],false) else (iP (c.2.1++more),true)) from bN G _,aK];cases hc:m' (c.2.1++more) with
   | true=>simp
   | false=>
    rw[show NF ([c.2.2.1,jt],())=mpure (c.2.2.1++jt,()) from (bN ⟨by simp,by grind⟩ _).trans (congrArg mpure (by simp)),aK];rw[show D6 ((c.2.2.1++jt,()))=mpure (hf jq (c.2.2.1++jt),()) from bN (by grind) _,aK];rw[show NG ((hf jq (c.2.2.1++jt),()))=mpure (zr (hf jq (c.2.2.1++jt))) from bN (by grind [Mv]) _];have j9:=aA9 dx.jt ec.jt;unfold zr;rw[show (hh (hf jq (c.2.2.1++jt)) (hf jq (c.2.2.1++jt)).length)=we c.2.2.1 jt from j9];rw[show IJ.sh c.1=mpure c.1 from bN (by have:=dx.eB;omega) _,show IJ.sh c.2.2.2.1=mpure c.2.2.2.1 from bN (by have:=dx.n4;omega) _];simp;split<;>rfl
  grind
 grind
end Go.Fer.H
namespace Go.Fer.W
abbrev zt:V:=.slice .str
abbrev zu:V:=.ad (.au o6 H.lq)
def dO:bn->List bn
 | []=>[[]]
 | c::s=>if c=32 then []::dO s else match dO s with
  | []=>[[c]]
  | w::l=>(c::w)::l
theorem EU:∀ (s:bn),1<=(dO s).length/\(dO s).length<=s.length+1
 | []=>by simp[dO]
 | c::s=>by
  have:=EU s;grind [dO]
theorem ahp:∀ (s:bn) {w:bn},w∈dO s->w.length<=s.length
 | [],w,h=>by grind [dO]
 | c::s,w,h=>by
  have aO:=@ahp s;grind [dO]
def ie:bn->Int->Int
 | [],n=>n
 | c::s,n=>if (decide ((c.toNat:Int)<48)||decide ((c.toNat:Int) > 57))=true then -1 else ie s (10*n+((c.toNat:Int) - 48))
def gG(s:bn):Int:=if (decide (s.length=0)||decide (s.length > 6)||decide (s.length > 1)&&decide ((s.getD 0 0).toNat=48))=true then -1 else ie s 0
theorem Vy:∀ (s:bn) (n:Int) (k:Nat),0<=n->n<10 ^ k->ie s n<10 ^ (k+s.length)/\-1<=ie s n
 | [],n,k,aV,E=>by simp[ie];omega
 | c::s,n,k,aV,E=>by
  unfold ie;have aj:(0:Int)<10 ^ (k+(c::s).length):=Int.pow_pos (by decide);split
  ·omega
  ·rename_i hc;simp  at hc;have:=Vy s (10*n+(c.toNat - 48)) (k+1) (by omega) (by omega);grind
theorem aBb(s:bn):-1<=gG s/\gG s<=999999:=by
 unfold gG;split
 ·omega
 ·rename_i h;simp  at h;have:=Vy s 0 0 (by decide) (by decide);have L:(10:Int) ^ (0+s.length)<=10 ^ 6:=by
   have:=aQT (n:=10) (by decide) (show 0+s.length<=6 by omega);grind
  omega
def wg(s:bn):Int:=match Go.Lib.atoiAll s with
 | .ok v=>v
 | .range=>Go.Lib.atoiSat s
 | _=>0
def ui(s:bn):z28':=(wg s,decide (0<=gG s))
def Vz(l:List bn):Option (z1'):=if l.all (λw=>decide (0<=gG w))=true then some (l.map gG) else none
def uQ(n:Int):bn:=Go.Lib.itoa (IntKind.wrap .i64 n)
theorem VA(n:Int):(uQ n).length<=21:=by
 have:=sE .i64 n;exact Go.Lib.itoa_length_le _ this.1 this.2
abbrev NJ:bn:=[111,107]
abbrev EV:bn:=[110,111]
abbrev ahq:bn:=[110,111,110,101]
abbrev ahr:bn:=[115,104,111,112]
abbrev aBc:bn:=[108,105,97,114]
abbrev aBd:bn:=[63]
def uR(l:z1'):bn:=if l=[] then ahq else Go.Lib.join (l.map uQ) [32]
def tx(e:Int)(l:z1'):bn:=if e=0 then uR l else if e=3 then ahq else EV
def B2(x:z17'):bn:=tx x.2 [x.1.1,x.1.2]
abbrev bT(l:z1')(i:Nat):Int:=l.getD i 0
def wh(d:bG)(m:List H.bF)(v:z1'):bn×bG:=if (H.qE d.2 m v).2≠0 then (EV,d) else (NJ,(d.1,(H.qE d.2 m v).1))
def sc(d:bG)(s:bO):bn×bG:=if lV s≠0 then (EV,d) else (NJ,(s,d.2))
def VB(d:bG)(l:z1'):bn×bG:=wh d [(bT l 0,bT l 1,bT l 2,1,bT l 3,bT l 4)] []
def VC(d:bG)(l:z1'):bn×bG:=wh d [(bT l 0,bT l 1,bT l 2,2,bT l 3,0)] []
def VD(d:bG)(l:z1'):bn×bG:=wh d [] l
def VE(d:bG)(l:z1'):bn×bG:=(B2 (H.Ua d.2 (bT l 0)),d)
def VF(d:bG)(l:z1'):bn×bG:=(B2 (H.Ub d.2 (bT l 0)),d)
def VG(d:bG)(l:z1'):bn×bG:=(B2 (H.MK d.2 (bT l 0)),d)
def VH(d:bG)(l:z1'):bn×bG:=(B2 (H.MM d.2 (bT l 0)),d)
def VI(r:z19'):bn:=if (decide (r.2≠0)||decide (r.1.getD 0 0>=0))=true then tx r.2 r.1 else if r.1.length=1 then ahr else ahr++[32]++uR (r.1.drop 1)
def VJ(d:bG)(l:z1'):bn×bG:=(VI (H.vV d.2 (bT l 0) (bT l 1)),d)
def VK(r:z1'×z19'):bn:=if r.2.2≠0 then tx r.2.2 [] else uR r.1++[32,47,32]++uR r.2.1
def VL(d:bG)(l:z1'):bn×bG:=(VK (H.vW d.2 (bT l 0)),d)
def sd(w:bZ)(t:z30'):bZ:=(w.1,w.2.1,w.2.2.1,w.2.2.2++[t])
def B3(d:bG)(l:z1'):bn×bG:=
 if dJ (sd d.1.1 (bT l 0,bT l 1,bT l 2,bT l 3))≠0 then (EV,d) else if (EB (sd d.1.1 (bT l 0,bT l 1,bT l 2,bT l 3)) (bT l 0)).2≠0 then (aBc,d)
 else (NJ,((sd d.1.1 (bT l 0,bT l 1,bT l 2,bT l 3),d.1.2),d.2))
def xR(r:z12'):bn:=if r.2≠0 then tx r.2 [] else List.getD [[],[115,117,114,101,108,121],[110,101,118,101,114],[112,101,114,104,97,112,115]] r.1.toNat []
def VM(d:bG)(l:z1'):bn×bG:=(xR (tu d.1.1 (bT l 0) (bT l 1) (bT l 2)),d)
def IK(d:bG)(l:z1'):bn×bG:=if bT l 0>=(d.1.2.1.length:Int) then (EV,d) else sc d (d.1.1,d.1.2.1.set (bT l 0).toNat (d.1.2.1.getD (bT l 0).toNat 0+bT l 1),d.1.2.2)
def VN(d:bG)(l:z1'):bn×bG:=sc d (d.1.1,d.1.2.1,d.1.2.2.1,d.1.2.2.2.1,d.1.2.2.2.2.1++[(bT l 0,bT l 1,bT l 2)],d.1.2.2.2.2.2)
def VO(d:bG)(l:z1'):bn×bG:=sc d (d.1.1,d.1.2.1,d.1.2.2.1++[(bT l 0,bT l 1,bT l 2,bT l 3,l.drop 4)],d.1.2.2.2)
def VP(d:bG)(l:z1'):bn×bG:=sc d (d.1.1,d.1.2.1,d.1.2.2.1,d.1.2.2.2.1++[(l.drop 5,(bT l 0,bT l 1),bT l 2,bT l 3,bT l 4)],d.1.2.2.2.2)
def IL(d:bG)(l:z1'):bn×bG:=if bT l 0>=(d.1.2.2.2.1.length:Int) then (EV,d) else (NJ,((d.1.1,d.1.2.1,d.1.2.2.1,d.1.2.2.2.1.eraseIdx (bT l 0).toNat,d.1.2.2.2.2),d.2))
def VQ(d:bG)(l:z1'):bn×bG:=(tx (xW d.1 (bT l 0)).2 (xW d.1 (bT l 0)).1,d)
def VR(d:bG)(l:z1'):bn×bG:=(tx (ES d.1 (l.map (· - 1))).2 [(ES d.1 (l.map (· - 1))).1],d)
def VS(d:bG)(_:z1'):bn×bG:=(tx (B0 d.1 true).2 [(B0 d.1 true).1],d)
def VT(d:bG)(_:z1'):bn×bG:=(tx (ER d.1).2 [(ER d.1).1],d)
def EW:Nat->bG->z1'->bn×bG
 | 0=>VB | 1=>VC | 2=>VD | 3=>VE | 4=>VF | 5=>VG | 6=>VH | 7=>VJ | 8=>VL | 9=>B3
 | 10=>VM | 11=>IK | 12=>VN | 13=>VO | 14=>VP | 15=>IL | 16=>VQ | 17=>VR | 18=>VS | _=>VT
def oz:List (bn×Int×Bool):=[([108,101,110,100],5,false),([98,97,99,107],4,false),([118,111,105,100],1,false),([108,97,115,116,115],1,false),([102,101,101],1,false),([111,119,101,115],1,false),([104,101,108,100],1,false),([119,104,101,114,101],2,false),([109,105,115,115,105,110,103],1,false),([116,114,105,97,108],4,false),([102,105,116,115],3,false),([115,116,111,99,107],2,false),([99,111,109,101,115],3,false),([112,105,101,99,101],4,true),([119,105,115,104],5,true),([100,114,111,112],1,false),([99,97,110],1,false),([116,97,107,101,115],0,true),([109,111,115,116],0,false),([101,120,116,114,97],0,false)]
def se(w:bn):List (bn×Int×Bool)->Nat->Option (Int×Bool×Nat)
 | [],_=>none
 | p::l,i=>if w=p.1 then some (p.2.1,p.2.2,i) else se w l (i+1)
def VU(s:bn):Option (Nat×z1'):=
 match se ((dO s).getD 0 []) oz 0 with
 | none=>none
 | some (k,m,j)=>if (decide (((dO s).length:Int) - 1<k)||decide (((dO s).length:Int) - 1 > k)&&!m)=true then none else (Vz ((dO s).drop 1)).map λl=>(j,l)
def sf(d:bG)(s:bn):bn×bG:=match VU s with
 | none=>(aBd,d)
 | some (j,l)=>EW j d l
def rr:bG->List bn->List bn×bG
 | d,[]=>([],d)
 | d,s::l=>((sf d s).1::(rr (sf d s).2 l).1,(rr (sf d s).2 l).2)
theorem aBe(d:bG)(a:List bn):(rr d a).1.length=a.length:=by
 induction a generalizing d with
 | nil=>rfl
 | cons s a aO=>grind [rr]
def o8(d:bG):Int:=if (decide (lV d.1≠0)||decide (H.dJ d.2≠0))=true then 120 else 0
def nI(d:bG):bG:=(d.1,(H.qE d.2 [] []).1)
abbrev VV:bG:=((([],[],0,[]),[],[],[],[],0),[],[],[],[],0,0,0,0,0,0,0)
def zv(d:bG)(l:List bn):List bn×bG×Int:=
 if o8 d≠0 then ([],VV,o8 d) else if l.length > 40 then ([],VV,2) else ((rr (nI d) l).1,(rr (nI d) l).2,0)
structure fR(d:bG):Prop where
 iL:ij d.1
 B4:lV d.1=0
 B5:H.dJ d.2=0
 EX:H.ml d.2.1<=60
variable {d:bG}
theorem fR.val(h:fR d):ow d.1:=EJ h.iL h.B4
theorem fR.aBf(h:fR d):o8 d=0:=by simp[o8,h.B4,h.B5]
theorem fR.aBg(h:fR d):H.aho d.2:=H.NI h.B5
theorem fR.jL{d:bG}(h:fR d):H.jL d.2:=by
 have:=h.aBg;exact⟨⟨by have:=this.eB;omega,by have:=this.eC;omega,by have:=this.lf;omega,by have:=this.n4;omega⟩,λ_=>h.EX⟩
theorem fR.mL{d:bG}(h:fR d):H.mL d.2:=h.jL.iL
structure jd(k:Nat)(l:z1'):Prop where
 VW:k<=l.length
 NK:l.length<=10000
 num:∀ n∈l,0<=n/\n<=999999
theorem jd.bT{k:Nat}{l:z1'}(h:jd k l)(i:Nat):0<=bT l i/\bT l i<=999999:=by
 rcases aQD i l.length with G | G
 ·have:=h.num l[i] (by simp);grind
 grind
end Go.Fer.W
namespace Go.Fer.W
open H (kL)
abbrev NL:aN:=⟨.int .i64,.str,λ_=>True,uQ⟩
abbrev IM:aN:=⟨.au zt .str,.str,λx=>x.1.length<=60000/\(∀ w∈x.1,w.length<=21)/\x.2.length=1,λx=>Go.Lib.join x.1 x.2⟩
theorem ahs:∀ (l:List bn) (s:bn) (n:Nat),(∀ w∈l,w.length<=n)->(Go.Lib.join l s).length<=l.length*(n+s.length)
 | [],s,n,h=>by simp[Go.Lib.join_nil]
 | x::r,s,n,h=>by
  rw[Go.Lib.join_cons];have aG:∀ (r:List bn),(∀ w∈r,w.length<=n)->(Go.Lib.joinTail s r).length<=r.length*(n+s.length):=by
   intro r;induction r with
   | nil=>simp[Go.Lib.joinTail]
   | cons y r aO=>
    grind [Go.Lib.joinTail,Nat.succ_mul]
  grind [Nat.succ_mul]
theorem VX(l:z1'):(uR l).length<=l.length*22+4:=by
 unfold uR;split
 ·simp
 ·have:=ahs (l.map uQ) [32] 21 λw hw=>by
   grind [VA]
  grind
abbrev B6:aN:=⟨hK,.str,λx=>x.length<=60000,uR⟩
theorem aBh(x):a6 (afR NL.sh IM.sh x) (B6.sh x):=bx λh=>by
 unfold afR bz bo a8 aQ bK bY bc eD bS;show _=mpure (uR x);unfold uR;by_cases ao:x=[]
 ·grind
 ·have ah:x.length≠0:=by grind
  rw[if_neg (by grind),if_neg ao];rw[e6 x (λi o=>(x,(x.length:Int),(i:Int),o,())) (λn o=>.next (o++[uQ n])) (λo=>.next (o,())) (λi o=>o.length=i) [] ?_ rfl ?_ ?_]
  ·rw[ee,rX,aQi,aK,cK];rw[show IM.sh (x.map uQ,[32])=mpure (Go.Lib.join (x.map uQ) [32]) from bN ⟨by grind,λw hw=>by
    grind [VA],rfl⟩ _,aK]
  ·rfl
  ·intro i G o ar;have hw:=bp (n:=i+1);refine⟨?_,λbf eg=>?_⟩
   ·simp only[ct,dP G,d_ G,dt G,cj,dd,hw];rw[show NL.sh x[i]=mpure (uQ x[i]) from rfl,aK,bb (kL (by grind))];rfl
   grind
  simp
abbrev tz:aN:=⟨.au (.int .i64) hK,.str,λx=>x.2.length<=60000,λx=>tx x.1 x.2⟩
theorem aBi(x):a6 (afQ B6.sh x) (tz.sh x):=bx λh=>by
 unfold afQ bo;show _=mpure (tx x.1 x.2);unfold tx;rw[show B6.sh x.2=mpure (uR x.2) from bN h _,aK];grind
abbrev B7:aN:=⟨.au o0 (.int .i64),.str,λ_=>True,B2⟩
theorem aBj(x):a6 (afP tz.sh x) (B7.sh x):=bx λ_=>by
 unfold afP;rw[show tz.sh (x.2,[x.1.1,x.1.2])=mpure (B2 x) from bN (show 2<=60000 by decide) _,aK]
variable {l:z1'}
theorem B8{e:Int}(h:l.length<=60000):tz.sh (e,l)=mpure (tx e l):=bN h _
theorem VY(h:l.length<=60000):B6.sh l=mpure (uR l):=bN h _
theorem NM(x:z17'):B7.sh x=mpure (B2 x):=rfl
def gO(k:Nat)(g:bG->z1'->bn×bG)(x:z1'×bG×Unit):M (bn×bG×Unit):=eF (fR x.2.1/\jd k x.1) ((g x.2.1 x.1).1,(g x.2.1 x.1).2,())
theorem zw:Int.toNat 0=0:=rfl
theorem aht:Int.toNat 1=1:=rfl
theorem aBk:Int.toNat 2=2:=rfl
theorem B9:Int.toNat 5=5:=rfl
variable {af:Type}
theorem pS{k:Nat}(h:jd k l)(m:M af)(i:Int)(G:0<=i/\i<(k:Int)):ag (0<=i/\i<Int.ofNat l.length) m=m:=
 bb ⟨G.1,by have:=h.VW;grind⟩ m
def EY(x:List H.bF×z1'×bG×Unit):M (bn×bG×Unit):=eF (fR x.2.2.1/\x.1.length<2 ^ 63/\x.2.1.length<2 ^ 63) ((wh x.2.2.1 x.1 x.2.1).1,(wh x.2.2.1 x.1 x.2.1).2,())
theorem aBl(x):a6 (afL H.ET.sh x) (EY x):=bx λh=>by
 obtain⟨m,v,d,⟨⟩⟩:=x;obtain⟨aw,E,L⟩:=h;unfold afL bo;rw[show H.ET.sh (d.2,m,v)=mpure (H.qE d.2 m v) from bN ⟨aw.mL,E,L⟩ _];unfold wh;by_cases e:(H.qE d.2 m v).2=0<;>simp[e]
variable {d:bG}
theorem VZ(aw:fR d)(m:List H.bF)(v:z1')(E:m.length<2 ^ 63)(L:v.length<2 ^ 63):EY (m,v,d,())=mpure ((wh d m v).1,(wh d m v).2,()):=bN ⟨aw,E,L⟩ _
theorem aBm(x):a6 (afK EY x) (gO 5 VB x):=bx λh=>by
 obtain⟨aw,ah⟩:=h;unfold afK gz aQ gy;simp (disch:=decide) only [pS ah];rw[VZ aw _ _ (by simp) (by simp),aK];rfl
theorem aBn(x):a6 (afM EY x) (gO 4 VC x):=bx λh=>by
 obtain⟨aw,ah⟩:=h;unfold afM gz aQ gy;simp (disch:=decide) only [pS ah];rw[VZ aw _ _ (by simp) (by simp),aK];rfl
theorem Ui(x):a6 (afN EY x) (gO 1 VD x):=bx λh=>by
 obtain⟨l,d,⟨⟩⟩:=x;obtain⟨aw,ah⟩:fR d/\jd _ l:=h;unfold afN;rw[VZ aw _ _ (by simp) (show l.length<2 ^ 63 by have:=ah.NK;omega),aK];rfl
theorem aBo(x):a6 (afO H.MI.sh B7.sh x) (gO 1 VE x):=bx λh=>by
 obtain⟨l,d,⟨⟩⟩:=x;obtain⟨aw,ah⟩:=h;unfold afO gz gy dB;simp (disch:=decide) only [pS ah,zw];rw[show H.MI.sh (d.2,bT l 0)=mpure _ from bN aw.jL _];simp  [NM];rfl
theorem aBp(x):a6 (afS H.MJ.sh B7.sh x) (gO 1 VF x):=bx λh=>by
 obtain⟨l,d,⟨⟩⟩:=x;obtain⟨aw,ah⟩:=h;unfold afS gz gy dB;simp (disch:=decide) only [pS ah,zw];rw[show H.MJ.sh (d.2,bT l 0)=mpure _ from bN aw.jL _];simp  [NM];rfl
theorem aBq(x):a6 (afT H.ML.sh B7.sh x) (gO 1 VG x):=bx λh=>by
 obtain⟨l,d,⟨⟩⟩:=x;obtain⟨aw,ah⟩:=h;unfold afT gz gy dB;simp (disch:=decide) only [pS ah,zw];rw[show H.ML.sh (d.2,bT l 0)=mpure _ from bN aw.jL _];simp  [NM];rfl
theorem aBr(x):a6 (afU H.MN.sh B7.sh x) (gO 1 VH x):=bx λh=>by
 obtain⟨l,d,⟨⟩⟩:=x;obtain⟨aw,ah⟩:=h;unfold afU gz gy dB;simp (disch:=decide) only [pS ah,zw];rw[show H.MN.sh (d.2,bT l 0)=mpure _ from bN aw.jL _];simp  [NM];rfl
theorem aBs(c:H.bd)(u t:Int):(H.vV c u t).1.length<=101:=aPG (aP0 ..) (by decide)
theorem aBt{c:H.bd}{u t:Int}(h:(H.vV c u t).2=0):0<(H.vV c u t).1.length:=by
 unfold H.vV at h ⊢;rcases H.Es c (H.y5 u t) with⟨E,_⟩ | ⟨E,L,ak,aZ⟩
 ·omega
 ·have aD:=H.rj L;have b5:(0<=u/\u<=9)/\0<=t/\t<=9999:=by
   grind [H.y5,H.uG]
  have eM:H.dE c≠[]:=by
   grind [H.fQ]
  obtain⟨w,T,aT⟩:=List.exists_cons_of_ne_nil eM;have hw:H.kM c w=true:=H.y8 (by grind);have an:=H.afr aD hw b5.1 t;have U:-1<=H.o5 c w u t/\H.o5 c w u t<=99:=by
   rcases H.UC c w u t with h | ⟨s,ay,h⟩
   ·omega
   ·obtain⟨e,he,rfl⟩:=List.mem_map.1 ay;have:=H.Uz aD (List.mem_filter.1 he).1;omega
  refine List.length_pos_of_mem   (List.mem_filter.2 ⟨vI.2 U,?_⟩);grind [H.Uc]
theorem aBu(x):a6 (afV H.MO.sh tz.sh B6.sh x) (gO 2 VJ x):=bx λh=>by
 obtain⟨l,d,⟨⟩⟩:=x;obtain⟨aw,ah⟩:=h;unfold afV eH gz bo aQ gy dB;simp (disch:=decide) only [pS ah,B9];have E:=aBs d.2 (bT l 0) (bT l 1);have L:=aBt (c:=d.2) (u:=bT l 0) (t:=bT l 1);have hc:H.MO.sh (d.2,bT l 0,bT l 1)=mpure (H.vV d.2 (bT l 0) (bT l 1)):=bN aw.jL _;show _=mpure (VI (H.vV d.2 (bT l 0) (bT l 1)),d,());grind [tG,kp,bb,B8,aK,VI,VY,VX,kL]
theorem aBv(c:H.bd)(t:Int):(H.vW c t).1.length<=10/\(H.vW c t).2.1.length<=10:=by
 unfold H.vW;split
 ·simp
 ·exact⟨aPG (aP0 ..) (by decide),aPG (aP0 ..) (by decide)⟩
theorem aBw(x):a6 (afW H.MP.sh tz.sh B6.sh x) (gO 1 VL x):=bx λh=>by
 obtain⟨l,d,⟨⟩⟩:=x;obtain⟨aw,ah⟩:=h;unfold afW gz bo gy dB;simp (disch:=decide) only [pS ah,zw];have E:=aBv d.2 (bT l 0);have hc:H.MP.sh (d.2,bT l 0)=mpure (H.vW d.2 (bT l 0)):=bN aw.jL _;simp only[hc];show _=mpure (VK (H.vW d.2 (bT l 0)),d,());generalize H.vW d.2 (bT l 0)=r at *
 simp;rw[B8 (by simp),VY (by omega),VY (by omega)];have fx:=VX r.1;have gB:=VX r.2.1;unfold VK;by_cases e:r.2.2=0
 ·simp;grind [bb,kL]
 simp_all
theorem aBx(w:bZ)(i m k:Int):0<=xN w i m k/\xN w i m k<4:=by
 grind [xN,MZ]
theorem aBy(x):a6 (afY ED.sh tz.sh x) (gO 3 VM x):=bx λh=>by
 obtain⟨l,d,⟨⟩⟩:=x;obtain⟨aw,ah⟩:=h;unfold afY gz bo aQ gy dB;simp (disch:=decide) only [pS ah,zw,aht,aBk];have hc:ED.sh (d.1.1,bT l 0,bT l 1,bT l 2)=mpure (tu d.1.1 (bT l 0) (bT l 1) (bT l 2)):=bN aw.iL.1 _;simp only[hc];show _=mpure (xR (tu d.1.1 (bT l 0) (bT l 1) (bT l 2)),d,());have E:0<=(tu d.1.1 (bT l 0) (bT l 1) (bT l 2)).1/\(tu d.1.1 (bT l 0) (bT l 1) (bT l 2)).1<4:=by
  have:=aBx d.1.1 (bT l 0) (bT l 1) (bT l 2);grind [tu]
 generalize tu d.1.1 (bT l 0) (bT l 1) (bT l 2)=r at *
 simp;rw[B8 (by simp),bb ⟨E.1,E.2⟩];unfold xR;by_cases e:r.2=0<;>simp[e]
variable {s:bO}
theorem aBz(h:ow s)(w:Int):(xW s w).1.length<=2000:=by
 have:=h.Nh;grind [xW,ahe]
theorem aBA(x):a6 (af5 Nx.sh tz.sh x) (gO 1 VQ x):=bx λh=>by
 obtain⟨l,d,⟨⟩⟩:=x;obtain⟨aw,ah⟩:fR d/\jd _ l:=h;unfold af5 gz gy dB;simp (disch:=decide) only [pS ah,zw];rw[show Nx.sh (d.1,bT l 0)=mpure (xW d.1 (bT l 0)) from bN aw.iL _];have:=aBz aw.val (bT l 0);simp only[tG,kp,cj];rw[B8 (show (xW d.1 (bT l 0)).1.length<=60000 by omega),aK];rfl
def NN(x:z14'):M (z14'):=eF (x.1.length<=3000000) x
theorem aBB(x):a6 (af6 Ny.sh NN tz.sh x) (gO 0 VR x):=bx λh=>by
 obtain⟨l,d,⟨⟩⟩:=x;obtain⟨aw,ah⟩:fR d/\jd _ l:=h;have hm:=ah.NK;unfold af6 bz bo a8 aQ bK bY bc bS cD;rw[show NN (l,())=mpure (l,()) from bN (by grind) _,aK];rw[e6 l (λi o=>((l.length:Int),(i:Int),o++l.drop i,d,())) (λn o=>.next (o++[n - 1])) (λo=>.next (o,d,())) (λi o=>o.length=i) [] ?_ rfl ?_ ?_]
 ·rw[ee,rX,aQi,aK,cK,cj];rw[show Ny.sh (d.1,l.map (· - 1))=mpure (ES d.1 (l.map (· - 1))) from bN ⟨aw.iL,by grind⟩ _,aK,B8 (by simp),aK];rfl
 ·simp
 ·intro i G o ar;have hw:=bp (n:=i+1);have aA:=ah.num l[i] (by simp);have gF:=bp (n:=l[i] - 1);subst ar;have dk:o.length<(o++l.drop o.length).length:=by grind
  have ay:(o++l.drop o.length).set o.length (l[o.length] - 1)=o++[l[o.length] - 1]++l.drop (o.length+1):=by
   grind [List.drop_eq_getElem_cons]
  refine⟨?_,λbf eg=>?_⟩
  ·simp only[ct,dt dk,hw];simp_all
  grind
 simp
theorem aBC(x):a6 (af7 Nu.sh tz.sh x) (gO 0 VS x):=bx λh=>by
 obtain⟨l,d,⟨⟩⟩:=x;obtain⟨aw,ah⟩:=h;unfold af7;rw[cj,show Nu.sh d.1=mpure (B0 d.1 true) from bN aw.iL _,aK,B8 (by simp),aK];rfl
theorem aBD(x):a6 (af8 Nw.sh tz.sh x) (gO 0 VT x):=bx λh=>by
 obtain⟨l,d,⟨⟩⟩:=x;obtain⟨aw,ah⟩:=h;unfold af8;rw[cj,show Nw.sh d.1=mpure (ER d.1) from bN aw.iL _,aK,B8 (by simp),aK];rfl
def V0(x:List af×Unit):M (List af×Unit):=aq (mM λ(b:Bool)=>b=true->x.1=[]) λ(y:Bool)=>if y=true then mpure ([],()) else ag (cb (Add.add 0 (List.length x.1))) (mpure ([]++x.1,()))
abbrev hM(t:V):aN:=⟨.slice t,.slice t,λx=>x.length<=3000000,λx=>x⟩
def tA(x:List af×Unit):M (List af×Unit):=eF (x.1.length<=3000000) x
theorem zx(x:List af×Unit):a6 (V0 x) (tA x):=rU λh=>by
 unfold V0;rw[fD];refine⟨⟨false,by simp⟩,λb U=>?_⟩;change b=true->x.1=[]at U;grind [dF,h6,cb]
theorem aBE(x:z14'):a6 (V0 x) (NN x):=zx x
def ahu(z:af)(x:Int×Int×List af×Unit):M ((z24')×List af×Unit):=
 ag (0<=x.1/\x.1<=x.2.1/\x.2.1<=Int.ofNat (List.length x.2.2.1)/\Int.ofNat (List.length x.2.2.1)<=Int.ofNat (List.length x.2.2.1)) (if decide
 (x.1=x.2.1)=true then mpure ((0,List.length x.2.2.1),x.2.2.1,()) else ag ((0:Int)<=0/\0<=x.1/\x.1<=Int.ofNat (List.length x.2.2.1))
 (ag (0<=x.2.1/\x.2.1<=Int.ofNat (List.length x.2.2.1)/\Int.ofNat (List.length x.2.2.1)<=Int.ofNat (List.length x.2.2.1)) (ag (Add.add
 (Int.toNat x.1) (List.length (List.drop (Int.toNat x.2.1) (List.take (Int.toNat (Int.ofNat (List.length x.2.2.1))) x.2.2.1)))<=List.length x.2.2.1)
 (ag (0<=Int.ofNat (Add.add (Int.toNat x.1) (List.length (List.drop (Int.toNat x.2.1) (List.take (Int.toNat (Int.ofNat (List.length x.2.2.1)))
 x.2.2.1))) - Int.toNat 0)/\Int.ofNat (Add.add (Int.toNat x.1) (List.length (List.drop (Int.toNat x.2.1) (List.take (Int.toNat (Int.ofNat (List.length
 x.2.2.1))) x.2.2.1))) - Int.toNat 0)<=Int.ofNat (List.length x.2.2.1)/\Int.ofNat (List.length x.2.2.1)<=Int.ofNat (List.length (List.take
 (Int.toNat x.1) x.2.2.1++List.drop (Int.toNat x.2.1) (List.take (Int.toNat (Int.ofNat (List.length x.2.2.1))) x.2.2.1)++List.drop (Add.add
 (Int.toNat x.1) (List.length (List.drop (Int.toNat x.2.1) (List.take (Int.toNat (Int.ofNat (List.length x.2.2.1))) x.2.2.1)))) x.2.2.1) - Int.toNat
 0)) (ag True (mpure ((Int.toNat 0,Add.add (Int.toNat x.1) (List.length (List.drop (Int.toNat x.2.1) (List.take (Int.toNat (Int.ofNat (List.length
 x.2.2.1))) x.2.2.1)))),List.take (Add.add (Int.toNat 0) (Int.toNat (Int.ofNat (Add.add (Int.toNat x.1) (List.length (List.drop (Int.toNat x.2.1)
 (List.take (Int.toNat (Int.ofNat (List.length x.2.2.1))) x.2.2.1))) - Int.toNat 0)))) (List.take (Int.toNat x.1) x.2.2.1++List.drop (Int.toNat
 x.2.1) (List.take (Int.toNat (Int.ofNat (List.length x.2.2.1))) x.2.2.1)++List.drop (Add.add (Int.toNat x.1) (List.length (List.drop (Int.toNat
 x.2.1) (List.take (Int.toNat (Int.ofNat (List.length x.2.2.1))) x.2.2.1)))) x.2.2.1)++List.replicate (Add.add (Int.toNat 0) (Int.toNat (Int.ofNat
 (List.length x.2.2.1))) - Add.add (Int.toNat 0) (Int.toNat (Int.ofNat (Add.add (Int.toNat x.1) (List.length (List.drop (Int.toNat x.2.1) (List.take
 (Int.toNat (Int.ofNat (List.length x.2.2.1))) x.2.2.1))) - Int.toNat 0)))) z++List.drop (Add.add (Add.add (Int.toNat 0) (Int.toNat (Int.ofNat
 (Add.add (Int.toNat x.1) (List.length (List.drop (Int.toNat x.2.1) (List.take (Int.toNat (Int.ofNat (List.length x.2.2.1))) x.2.2.1))) - Int.toNat
 0)))) (List.length (List.replicate (Add.add (Int.toNat 0) (Int.toNat (Int.ofNat (List.length x.2.2.1))) - Add.add (Int.toNat 0) (Int.toNat (Int.ofNat
 (Add.add (Int.toNat x.1) (List.length (List.drop (Int.toNat x.2.1) (List.take (Int.toNat (Int.ofNat (List.length x.2.2.1))) x.2.2.1))) - Int.toNat
 0)))) z))) (List.take (Int.toNat x.1) x.2.2.1++List.drop (Int.toNat x.2.1) (List.take (Int.toNat (Int.ofNat (List.length x.2.2.1))) x.2.2.1)++
 List.drop (Add.add (Int.toNat x.1) (List.length (List.drop (Int.toNat x.2.1) (List.take (Int.toNat (Int.ofNat (List.length x.2.2.1))) x.2.2.1))))
 x.2.2.1),())))))))
def NO(z:af)(x:Int×Int×List af×Unit):M ((z24')×List af×Unit):=eF (0<=x.1/\x.2.1=x.1+1/\x.1<(x.2.2.1.length:Int)/\x.2.2.1.length<=3000000) ((0,x.2.2.1.length - 1),x.2.2.1.eraseIdx x.1.toNat++[z],())
theorem aBF(z:af)(x):a6 (ahu z x) (NO z x):=bx λh=>by
 obtain⟨i,j,l,⟨⟩⟩:=x;obtain⟨aV,E,L,ak⟩:0<=i/\j=i+1/\i<l.length/\l.length<=3000000:=h;subst E;obtain⟨n,rfl⟩:∃ n:Nat,i=n:=⟨i.toNat,by omega⟩
 have aB:((n:Int)+1).toNat=n+1:=by omega
 unfold ahu;simp only[ct,aPQ,aB,aQc,kV,aRk];have bt:n+(l.length - (n+1))=l.length - 1:=by omega
 have cT:(l.take n++l.drop (n+1)++l.drop (l.length - 1))=l.eraseIdx n++l.drop (l.length - 1):=by grind
 have bW:(l.eraseIdx n).length=l.length - 1:=by grind
 have ek:l.length - (l.length - 1)=1:=by omega
 rw[bb (by omega),if_neg (by grind),bb (by omega),bb (by omega),bb (by omega)];rw[bt,bb (by grind),cj];grind
def zy(x:bO×Unit):M MS:=eF (IH x.1) (lN x.1)
theorem NP{x:z1'}(h:x.length<=2000000):H.vM.sh x=mpure x:=bN (by omega) _
theorem B_{t:V}{x:(V.slice t).al}(h:List.length x<=2000000):(hM t).sh x=mpure x:=bN (by omega) _
theorem ahv{hj:Type}(h:IH s)(fin:bO->M hj):MX (hM mF).sh (hM nc).sh (hM lT).sh tA H.vM.sh (hM pO).sh (hM pP).sh (hM r').sh s fin=fin s:=by
 obtain⟨⟨cf,dL,hG,H3⟩,L,ak,aZ,bP,ej,iW⟩:=h;obtain⟨⟨sp,mk,cut,aR⟩,ad,ni,o9,wi,lC⟩:=s;change mk.length<=2000000 at dL;change ni.length<=2000000 at ak;change o9.length<=2000000 at aZ;have aM:(hM mF).sh sp=mpure sp:=B_ cf;have aS:(hM nc).sh mk=mpure mk:=B_ dL;have b4:(hM lT).sh aR=mpure aR:=B_ hG;have hZ:=NP L;have sJ:(hM pO).sh ni=mpure ni:=B_ ak;have xi:(hM pP).sh o9=mpure o9:=B_ aZ;have Bh:(hM r').sh wi=mpure wi:=B_ bP;unfold MX bz cm bo a8 aQ bK bY bc bS dB;simp only[aM,aS,b4,kp,cj];rw[ev mk (λi (_)=>((mk.length:Int),(i:Int),cut,ad,ni,o9,wi,lC,0,0,sp,mk,aR,())) (λp b=>.next b) (λ_=>.next (cut,ad,ni,o9,wi,lC,0,0,sp,mk,aR,())) () ?_ ?_ ?_]
 ·rw[ee,aK];simp  [hZ,sJ,xi,Bh,cj];rw[ev ni (λi (_)=>((ni.length:Int),(i:Int),cut,lC,0,0,sp,mk,aR,ad,ni,o9,wi,())) (λp b=>.next b) (λ_=>.next (cut,lC,0,0,sp,mk,aR,ad,ni,o9,wi,())) () ?_ ?_ ?_]
  ·rw[ee,aK,cK];rw[ev o9 (λi (_)=>((o9.length:Int),(i:Int),cut,lC,0,0,sp,mk,aR,ad,ni,o9,wi,())) (λp b=>.next b) (λ_=>.next (cut,lC,0,0,sp,mk,aR,ad,ni,o9,wi,())) () ?_ ?_ ?_]
   ·simp_all[ee]
   ·rfl
   ·intro i G b;have hw:=bp (n:=i+1);have hc:=NP (iW _ (amm G));have tY:o9.set i (o9[i].1,o9[i].2)=o9:=List.set_getElem_self G;simp_all
   simp
  ·rfl
  ·intro i G b;have hw:=bp (n:=i+1);have hc:=NP (ej _ (amm G));have tY:ni.set i (ni[i].1,ni[i].2.1,ni[i].2.2.1,ni[i].2.2.2.1,ni[i].2.2.2.2)=ni:=List.set_getElem_self G;simp_all
  simp
 ·rfl
 ·intro i G b;have hw:=bp (n:=i+1);obtain⟨hm,ay⟩:=H3 _ (amm G);have hc:tA (mk[i],())=mpure (mk[i],()):=bN (by grind) _;simp only[d_ G,hc,aK];rw[ev mk[i] (λj (_)=>(i,(mk.length:Int),(i:Int),(mk[i].length:Int),(j:Int),cut,ad,ni,o9,wi,lC,0,0,sp,(mk,i),aR,mk[i],())) (λp b=>.next b) (λ_=>.next (mk.length,i,cut,ad,ni,o9,wi,lC,0,0,sp,(mk,i),aR,mk[i],())) () ?_ ?_ ?_]
  ·simp_all[ee]
  ·rfl
  ·intro j aJ b;have hw:=bp (n:=j+1);have hc:=NP (ay _ (amm aJ));have tY:mk[i].set j (mk[i][j].1,mk[i][j].2.1,mk[i][j].2.2)=mk[i]:=List.set_getElem_self aJ;simp_all
  simp
 simp
theorem aBG(x):a6 (ayh (hM mF).sh (hM nc).sh (hM lT).sh tA H.vM.sh (hM pO).sh (hM pP).sh (hM r').sh x) (zy x):=bx λh=>ahv h _
abbrev NQ:aN:=⟨o6,o6,IH,λs=>s⟩
theorem aBH(x):a6 (ayg (hM mF).sh (hM nc).sh (hM lT).sh tA H.vM.sh (hM pO).sh (hM pP).sh (hM r').sh x) (NQ.sh x):=bx λh=>ahv h _
def zz(x:bO×bG×Unit):M (bn×bG×Unit):=eF (fR x.2.1/\ij x.1) ((sc x.2.1 x.1).1,(sc x.2.1 x.1).2,())
theorem aBI(x):a6 (af0 sa.sh x) (zz x):=bx λh=>by
 obtain⟨s,d,⟨⟩⟩:=x;obtain⟨aw,ay⟩:=h;unfold af0 bo;rw[show sa.sh s=mpure (lV s) from bN ay _];unfold sc;by_cases e:lV s=0<;>simp[e]
theorem aBJ(aw:fR d)(ay:ij s):zz (s,d,())=mpure ((sc d s).1,(sc d s).2,()):=bN ⟨aw,ay⟩ _
theorem NR(aw:fR d)(s:bO)(ay:ij s):aq (zz (s,d,())) (λy=>mpure (y.1,y.2.1,()))=mpure ((sc d s).1,(sc d s).2,()):=by grind [aBJ,aK]
theorem fR.copy(h:fR d):IH d.1:=aAO h.val
theorem IN(h:fR d):zy (d.1,())=mpure (lN d.1):=bN h.copy _
theorem aBK(x):a6 (afX EC.sh zy jX.sh x) (gO 4 B3 x):=bx λh=>by
 obtain⟨l,d,⟨⟩⟩:=x;obtain⟨aw,ah⟩:=h;have hc:=aw.copy;have ay:iR (sd d.1.1 (bT l 0,bT l 1,bT l 2,bT l 3)):=⟨aw.iL.1.1,aw.iL.1.2.1,by have:=hc.1.2.2.1;grind [sd],aw.iL.1.2.2.2⟩
 unfold afX gz bo aQ eD gy dB;rw[IN aw,aK];simp (disch:=decide) only [pS ah,cj,B9];rw[bb (by have:=hc.1.2.2.1;grind [cb,lN])];show aq (jX.sh (sd d.1.1 (bT l 0,bT l 1,bT l 2,bT l 3))) _=mpure ((B3 d l).1,(B3 d l).2,());rw[show jX.sh (sd d.1.1 (bT l 0,bT l 1,bT l 2,bT l 3))=mpure (dJ (sd d.1.1 (bT l 0,bT l 1,bT l 2,bT l 3))) from bN ay _,aK];have hlen:EC.sh (sd d.1.1 (bT l 0,bT l 1,bT l 2,bT l 3),bT l 0)=mpure (EB (sd d.1.1 (bT l 0,bT l 1,bT l 2,bT l 3)) (bT l 0)):=bN ay _;grind [lN,sd,tG,kp,cj,B3]
theorem aBL(x):a6 (afZ zy zz x) (gO 2 IK x):=bx λh=>by
 obtain⟨l,d,⟨⟩⟩:=x;obtain⟨aw,ah⟩:fR d/\jd _ l:=h;unfold afZ e0 bz gz bo aQ bS gy;rw[cj,IN aw,aK];simp (disch:=decide) only [pS ah,zw,aht,B9];unfold IK;have aV:=ah.bT 0;have E:=ah.bT 1;by_cases e:bT l 0>=(d.1.2.1.length)
 ·grind [lN]
 ·rw[if_neg (by grind [lN]),if_neg e];have aA:(bT l 0).toNat<d.1.2.1.length:=by omega
  rw[bb ⟨aV.1,by show bT l 0<(d.1.2.1.length);omega⟩,bb ⟨aV.1,by show bT l 0<(d.1.2.1.length);omega⟩];have ae:∀ n∈d.1.2.1,0<=n/\n<=10:=λn aA=>by
   have jT:=aw.B4;grind [lV,rn,cH]
  have U:=ae _ (amm aA);have aD:d.1.2.1.getD (bT l 0).toNat 0=d.1.2.1[(bT l 0).toNat]:=by grind
  have hw:=bp (n:=d.1.2.1.getD (bT l 0).toNat 0+bT l 1);have gF:IntKind.wrap .i64 (Add.add ((lN d.1).2.2.2.2.2.1.getD (bT l 0).toNat 0) (bT l 1))=d.1.2.1.getD (bT l 0).toNat 0+bT l 1:=hw;rw[gF];exact NR aw (d.1.1,d.1.2.1.set (bT l 0).toNat (d.1.2.1.getD (bT l 0).toNat 0+bT l 1),d.1.2.2) ⟨aw.iL.1,by rw[aQk];exact aw.iL.2.1,aw.iL.2.2⟩
theorem aBM(x):a6 (af1 zy zz x) (gO 3 VN x):=bx λh=>by
 obtain⟨l,d,⟨⟩⟩:=x;obtain⟨aw,ah⟩:=h;have hc:=aw.copy;have bP:=hc.2.2.2.2.1;obtain⟨s1,s2,e4,kH,mI,wj,wk⟩:=aw.iL;unfold af1 gz aQ eD gy;rw[cj,IN aw,aK];simp (disch:=decide) only [pS ah,B9];rw[bb (by grind [cb,lN])];exact NR aw (d.1.1,d.1.2.1,d.1.2.2.1,d.1.2.2.2.1,d.1.2.2.2.2.1++[(bT l 0,bT l 1,bT l 2)],d.1.2.2.2.2.2) ⟨s1,s2,e4,kH,by grind,wj,wk⟩
theorem aBN(x):a6 (af2 zy zz x) (gO 4 VO x):=bx λh=>by
 obtain⟨l,d,⟨⟩⟩:=x;obtain⟨aw,ah⟩:=h;have hc:=aw.copy;have bP:=hc.2.2.1;have hm:=ah.NK;have hle:=ah.VW;obtain⟨s1,s2,e4,kH,mI,wj,wk⟩:=aw.iL;unfold af2 gz aQ eD gy;rw[cj,IN aw,aK];simp (disch:=decide) only [pS ah,B9];rw[bb ⟨by decide,by grind,aPL _⟩,bb (by grind [cb,lN])];simp;exact NR aw (d.1.1,d.1.2.1,d.1.2.2.1++[(bT l 0,bT l 1,bT l 2,bT l 3,l.drop 4)],d.1.2.2.2) ⟨s1,s2,by grind,kH,mI,λp aj=>by
  grind,wk⟩
theorem aBO(x):a6 (af3 zy zz x) (gO 5 VP x):=bx λh=>by
 obtain⟨l,d,⟨⟩⟩:=x;obtain⟨aw,ah⟩:=h;have hc:=aw.copy;have bP:=hc.2.2.2.1;have hm:=ah.NK;have hle:=ah.VW;obtain⟨s1,s2,e4,kH,mI,wj,wk⟩:=aw.iL;unfold af3 gz aQ eD gy;rw[cj,IN aw,aK];simp (disch:=decide) only [pS ah,B9];rw[bb ⟨by decide,by grind,aPL _⟩,bb (by grind [cb,lN])];simp;exact NR aw (d.1.1,d.1.2.1,d.1.2.2.1,d.1.2.2.2.1++[(l.drop 5,(bT l 0,bT l 1),bT l 2,bT l 3,bT l 4)],d.1.2.2.2.2) ⟨s1,s2,e4,by grind,mI,wj,λp aj=>by
  grind⟩
abbrev V1:mg:=([],(0,0),0,0,0)
theorem aBP(x):a6 (af4 (hM pP).sh (NO V1) x) (gO 1 IL x):=bx λh=>by
 obtain⟨aw,ah⟩:=h;have hc:=aw.copy.2.2.2.1;have aV:=ah.bT 0;unfold af4 gz bo a8 aQ gy dB;simp (disch:=decide) only [pS ah,B9];grind [IL,B_,bp,tG,kp,cj,NO,bN,aK]
theorem ahw{c:H.bd}{m:List H.bF}{v:z1'}(h:(H.qE c m v).2=0):H.dJ c=0/\H.dJ (H.qE c m v).1=0/\(H.qE c m v).1=H.qD c (H.iP (c.2.1++m)) (H.we c.2.2.1 v):=by
 unfold H.qE at h ⊢;split at h
 ·omega
 split at h
 ·omega
 split at h
 ·omega
 split at h
 ·omega
 rename_i cw b2 ef gj;rw[if_neg cw,if_neg b2,if_neg ef,if_neg gj];have cY:H.dJ c=0:=by omega
 refine⟨cY,?_,rfl⟩;have dx:H.lO c=true:=by grind [H.dJ]
 have ec:H.lO (H.qD c m v)=true:=by grind [H.dJ]
 have aA:H.m' (H.iP (c.2.1++m))=false:=by
  rw[H.Ed];have:=(H.Ed (c.2.1++m)).1 (by grind);exact λa aW b U=>this a (H.HZ aW) b (H.HZ U)
 have pA:H.lO (H.qD c (H.iP (c.2.1++m)) (H.we c.2.2.1 v))=true:=by
  unfold H.lO H.vP at dx ec ⊢;simp only[amn,aP4,aPH,aQg,H.qD]at dx ec ⊢;obtain⟨⟨⟨⟨⟨⟨⟨⟨iy,z2⟩,z3⟩,z4⟩,z5⟩,aM⟩,aS⟩,b4⟩,hZ⟩:=dx;simp only[aPO,not_or,Bool.not_eq_true]at gj;refine⟨⟨⟨⟨⟨⟨⟨⟨iy,gj.1⟩,gj.2⟩,z4⟩,z5⟩,aM⟩,λs ay=>?_⟩,λn aA=>?_⟩,hZ⟩
  ·rcases List.mem_append.1 (H.HZ ay) with h | h<;>grind
  ·have:=(List.mem_filter.1 aA).2;grind
 unfold H.dJ;rw[if_pos pA,if_neg (by show ¬H.m' (H.iP (c.2.1++m))=true;grind)]
theorem V2(aw:fR d)(m:List H.bF)(v:z1'):fR (wh d m v).2:=by
 unfold wh;split
 ·omega
 ·obtain⟨E,L,ak⟩:=ahw (c:=d.2) (m:=m) (v:=v) (by omega);exact⟨aw.iL,aw.B4,L,by rw[ak];exact aw.EX⟩
theorem NS(aw:fR d)(ay:ij s):fR (sc d s).2:=by
 unfold sc;split
 ·omega
 ·exact⟨ay,by grind,aw.B5,aw.EX⟩
theorem aBQ(aw:fR d)(ah:l.length<=10000)(j:Nat):fR (EW j d l).2:=by
 have hc:=aw.copy;obtain⟨s1,s2,e4,kH,mI,wj,wk⟩:=aw.iL;obtain⟨bE,c2,c3,c4,c5,pk,rC⟩:=aw.copy;unfold EW;split<;>try exact aw
 ·exact V2 aw _ _
 ·exact V2 aw _ _
 ·exact V2 aw _ _
 ·unfold B3;split
  ·omega
  split
  ·omega
  refine⟨⟨⟨s1.1,s1.2.1,by have:=hc.1.2.2.1;grind [sd],s1.2.2.2⟩,s2,e4,kH,mI,wj,wk⟩,?_,aw.B5,aw.EX⟩;have ay:=aw.B4;unfold lV at ay ⊢;have:rn (sd d.1.1 (bT l 0,bT l 1,bT l 2,bT l 3),d.1.2)=rn d.1:=rfl;grind
 ·unfold IK;split
  ·omega
  ·exact NS aw ⟨s1,by grind,e4,kH,mI,wj,wk⟩
 ·exact NS aw ⟨s1,s2,e4,kH,by grind,wj,wk⟩
 ·exact NS aw ⟨s1,s2,by grind,kH,mI,λp aj=>by
   grind,wk⟩
 ·exact NS aw ⟨s1,s2,e4,by grind,mI,wj,λp aj=>by
   grind⟩
 ·unfold IL;split
  ·omega
  ·refine⟨⟨s1,s2,e4,by grind,mI,wj,λp aj=>wk p (List.mem_of_mem_eraseIdx aj)⟩,?_,aw.B5,aw.EX⟩;have ay:=aw.B4;grind [lV,rn,List.mem_of_mem_eraseIdx]
end Go.Fer.W
