/- Part 5 of the proof of FilesSeason: shallow programs of Go functions, and what they compute. No condition. -/
import Derived.Test.YtjjgkigajpocoaaGreatDoorFilesSeasonD
noncomputable section
set_option linter.unusedVariables false
set_option linter.unusedSimpArgs false
namespace Go.Fer
abbrev oY:Type:=z20'
abbrev mg:Type:=z29'
abbrev DY:Type:=z16'
abbrev bO:Type:=bZ×z1'×List oY×List mg×List DY×Int
abbrev at6:Type:=z3'×List (List (Int×z1'×Int×Int))×Int×z3'×Int×z1'×List oY×List mg×List DY×Unit
abbrev fX:Type:=bO×z4'×z7'
variable (Mh:bO×Bool->M (Option fX×Int)) (HN:bO->M Int) (at7:bO×Bool->M (z12')) (aNm:bO×Int->M Bool) (aNn:Int×Int×z6'×Unit->M ((Nat×Nat)×z6'×Unit)) (aNo:z6'×Unit->M (z6'×Unit)) (acQ:bO->M (bO)) (DX:z11'->M Int) (aua:bO->M Bool) (Ma:z11'->M Int) (acR aub:bO×Int->M Bool) (Mi:bO->M Int) (aNp:bO×Int->M Bool) (auc:bO->M Int) (aNq:bO×Int->M (bO)) (aud:bO->M (z12')) (r0:z16'->M Bool) (aue:bO×Int×Int×Int×Int×z1'->M Bool) (auf:z29'->M Bool) (aNr:bO×List (List (z1'))×z1'->M Int) (aNs:bO->M (List (List (z1')))) (aNt:bO×Int->M Bool) (aNu:z33'->M Int) (aug auh:bO×z1'->M Bool) (aNv:bO×Bool->M Int) (aNw:bO×List (List (z1'))×z1'->M Bool) (aNx:bO×Int×Int->M (z1')) (aNy:bO×z1'->M (List (z1'))) (aNz:bO×z1'->M Int) (L':z19'->M Bool) (aui:Option fX->M (z1')) (Mf:bZ×Int->M (z17')) (Mg:bZ×Int×Int×Int->M (z12')) (acS:z4'×Int->M (z4')) (acT:z1'×z22'->M (z14')) (DW:z12'->M (z12')) (Tq:Option fX×z1'->M (z6'×Bool)) (Tr:Option fX×z6'->M Int) (aNA:bO×List (List (z1'))×z1'->M (List (Int×z1')×Bool)) (aNB:List (Int×z1')×z6'->M Int) (aNC:bO->M (z6')) (aND:bZ×Int×Int->M (z1')) (acU:z19'->M Bool) (Tb:z11'->M Int) (aNE:List (Int×z1')×z6'->M Bool) (auj:z19'->M (z1')) (Ts:Option fX×z1'->M Bool) (acV:bO×z1'->M Bool) (Mj:Option fX×z1'->M Int) (aNF:(Int×z1')×z6'->M (List (z6'))) (at4:bZ×Int×Int×Int->M (z12')) (tb:z16'->M Bool) (Br:Int->M Bool) (acW:z1'×(Int->M Bool)->M Bool) (Tt:Int->M Bool) (Md:z1'×(Int->M Bool)->M Bool) (auk:List oY×(z20'->M Bool)->M Bool) (aul:List mg×(z29'->M Bool)->M Bool) (aum:z6'×(z16'->M Bool)->M Bool) (aun:(z20')×Option bZ->M Bool) (auo:(z16')×Option bZ->M Bool) (aup:z29'->M Bool) (auq:Int->M Bool) (aur:Int×Option bZ×Option (z20')->M Bool) (aNG:List oY×(z20'->M Bool)->M Int) (aNH:List mg×(z29'->M Bool)->M Int) (aNI:z6'×(z16'->M Bool)->M Int) (Tu:Option fX×(z12')×Int×Int×Int->M Bool) (acX:Option fX×z6'×Int×z4'×z1'×Unit->M (Bool×z4'×z14')) (acY:z33'->M Int) (Mk:Option fX×z1'×Int×Nat×(Nat×(List (z1')->Prop)×List (z1')×Bool)×Unit->M (Bool×(Nat×(List (z1')->Prop)×List (z1')×Bool)×Unit)) (Bq:z19'->M Bool)
def acZ(x:bO):M (z12'):=
 aq (at7 (x,true)) λy=>mpure y
def ac0(aus:Option fX->Prop)(aut:Option fX->List (z1'))(Tq:Option fX×z1'->M (z6'×Bool))(auu:Option fX×z6'->M Bool)(Tr:Option fX×z6'->M Int)(x:bO):M (z12'):=
 aq (Mh (x,true)) λy=>bo (y.2≠0) (mpure (0,y.2)) (ag (aus y.1) (aq (kl (λA (y:z1')=>aq (aq (Tq (A.1,y)) (λcg=>b_ (!(!cg.2)) (auu (A.1,cg.1)) false λei=>bg (!cg.2||!ei) (mpure (dS.normal,A.1,A.2.1,())) (aq (Tr (A.1,cg.1)) (λhv=>bg (decide (A.2.1=-1)||eV hv A.2.1) (mpure (dS.normal,A.1,hv,())) (mpure (dS.normal,A.1,A.2.1,())))))) λp=>mpure (p.1,p.2.1,p.2.2.1,())) (aut y.1) (y.1,-1,())) (λp=>letI b:=decide (p.2.2.1=-1);yF (bg b (mpure (0,3)) (mpure (p.2.2.1,0))) (λid=>if id=0 then bg b (mpure (0,3)) (mpure (p.2.2.1,0)) else dZ) dZ p.1)))
def ac1(x:bO×Int):M (z19'):=
 letI c:=Mh (x.1,mZ (acR x));dB (acR x) (dB c (bo ((M.val c (none,0)).2≠0) (mpure ([],(M.val c (none,0)).2)) (aq (acT ([-1],aQ x.1.2.2.2.1,())) (λy=>bK (λA=>letI e:=A.2.2.2;letI d:=List.set e.2.2.1 A.1.toNat e.1;bo (e.1<A.2.2.1) (cm (bS A.1 e.2.2.1 (aq (Ts (A.2.1,d)) (λy=>bg y (eD e.2.1 (bc (A.1,A.2.1,A.2.2.1,e.1,e.2.1++[e.1],d,()))) (bc (A.1,A.2.1,A.2.2.1,e.1,e.2.1,d,()))))) (λA=>bc (A.1,A.2.1,A.2.2.1,a8 A.2.2.2.1,A.2.2.2.2.1,A.2.2.2.2.2.1,()))) (bY (e.2.1,()))) (x.2,(M.val c (none,0)).1,aQ x.1.2.2.1,0,[],y.1,()) λA=>mpure (A.1,0)))))
def ac2(x:bO):M Int:=
 aq (DX x.1) λy=>bo (y≠0) (mpure y) (aq (aua x) (λy=>if !y then mpure 80 else mpure 0))
def ac3(x:bO):M Int:=
 letI h:=eH (aQ x.2.1) (aQ x.1.1)||c' (aQ x.2.2.1) 8||c' (aQ x.2.2.2.1) 6||c' (aQ x.2.2.2.2.1) 8;aq (Ma x.1) λy=>if eH y 0 then mpure y else b_ (!h) (r0 (x.2.2.2.2.2,0,99)) false λy=>bg (h||!y) (mpure 80) (bK (λA=>fO A.1 A.2.1.2.1 (aq (r0 (bz A.2.1.2.1 A.1 0,0,10)) (λy=>bg (!y) (cS 80) (bc (a8 A.1,A.2.1,())))) (bY (A.2.1,()))) (0,x,()) (λA=>bK (λA=>letI j:=aue (A.2.1,bz A.2.1.2.2.1 A.1 (0,0,0,0,[]));fO A.1 A.2.1.2.2.1 (dB j (bg (pE j) (cS 80) (bc (a8 A.1,A.2.1,())))) (bY (A.2.1,()))) (0,A.1,()) λA=>bK (λA=>fO A.1 A.2.1.2.2.2.1 (aq (auf (bz A.2.1.2.2.2.1 A.1 ([],(0,0),0,0,0))) (λy=>bg (!y) (cS 80) (bc (a8 A.1,A.2.1,())))) (bY (A.2.1,()))) (0,A.1,()) λA=>bK (λA=>letI i:=bz A.2.1.2.2.2.2.1 A.1 (0,0,0);fO A.1 A.2.1.2.2.2.2.1 (aq (r0 (i.1,0,99)) (λy=>b_ (!(!y)) (r0 (i.2.1,0,cD (aQ A.2.1.1.1) 1)) false λcg=>b_ (!(!y||!cg)) (r0 (i.2.2,1,10)) false λei=>bg (!y||!cg||!ei) (cS 80) (bc (a8 A.1,A.2.1,())))) (bY ())) (0,A.1,()) λA=>mpure 0))
def ac4(x:bO×z1'):M (z12'):=
 letI b:=Mh (x.1,mZ (acV x));letI a:=M.val b (none,0);dB (acV x) (dB b (bo (a.2≠0) (mpure (0,a.2)) (aq (Ts (a.1,x.2)) (λy=>if !y then mpure (0,3) else aq (Mj (a.1,x.2)) λy=>mpure (y,0)))))
def ac5(x:bO×Bool):M (z12'):=
 aq (Mh x) λy=>bo (y.2≠0) (mpure (0,y.2)) (aq (aui y.1) (λcg=>aq (Mj (y.1,cg)) λy=>mpure (y,0)))
def Tv(x:bO×Bool):M (Option fX×Int):=
 letI z2:=x.1.1.2;letI lG:=x.1.2.2;aq (HN x.1) λy=>bo (y≠0) (mpure (none,y)) (if !x.2 then mpure (none,1) else cm (bo (aQ x.1.2.1 > 0) (aq (Mf (x.1.1,0)) (λy=>bo (y.2≠0) (pD (none,y.2)) (bc (x.1,[],x.1.1.1,z2.1,z2.2.1,z2.2.2,x.1.2.1,lG.1,lG.2.1,lG.2.2.1,lG.2.2.2,())))) (bc (x.1,[],x.1.1.1,z2.1,z2.2.1,z2.2.2,x.1.2.1,lG.1,lG.2.1,lG.2.2.1,lG.2.2.2,()))) λA=>letI aS:=A.2.2.2.2.2;bK (λA=>letI s2:=A.2.2;letI nt:=s2.2.2.2.2;letI cJ:=nt.2.2.2;bo (A.2.1<A.1) (bK (λA=>letI qP:=A.2.2.2;letI c2:=qP.2.2;letI t1:=c2.2.2.2;letI d2:=t1.2.2.2.2;letI d3:=d2.2.2;bo (c2.1<qP.2.1) (cm (bS c2.1 qP.1 (dG (λA=>letI ef:=A.2.2;letI fe:=ef.2.2;letI iV:=fe.2.2;letI ck:=iV.2.2;letI cT:=ck.2.2.1;letI i2:=ck.2.2.2;letI v1:=i2.2.2.2;letI eC:=v1.2.2.2;bo (ck.1<iV.2.1) (cm (aq (Mg (ck.2.1.1,A.1,A.2.1,ck.1)) (λy=>bo (y.1=1) (ag True (ag (True/\True/\True) (ag True (bc (A.1,A.2.1,ef.1,ef.2.1,fe.1,fe.2.1,iV.1,iV.2.1,ck.1,ck.2.1,yW cT (A.1,A.2.1,ck.1) (a8 ((hi (λp=>b3 A.1 p.1.1&&(b3 A.2.1 p.1.2.1&&b3 ck.1 p.1.2.2)) cT).getD 0)),i2.1,i2.2.1,i2.2.2.1,v1.1,v1.2.1,v1.2.2.1,eC.1,eC.2.1,eC.2.2.1,()))))) (bc (A.1,A.2.1,ef.1,ef.2.1,fe.1,fe.2.1,iV.1,iV.2.1,ck.1,ck.2.1,cT,i2.1,i2.2.1,i2.2.2.1,v1.1,v1.2.1,v1.2.2.1,eC.1,eC.2.1,eC.2.2.1,())))) (λA=>letI bU:=A.2.2.2.2.2;letI mw:=bU.2.2.2.2;letI oh:=mw.2.2.2.2.2;bc (A.1,A.2.1,A.2.2.1,A.2.2.2.1,A.2.2.2.2.1,bU.1,bU.2.1,bU.2.2.1,a8 bU.2.2.2.1,mw.1,mw.2.1,mw.2.2.1,mw.2.2.2.1,mw.2.2.2.2.1,oh.1,oh.2.1,oh.2.2.1,oh.2.2.2.1,oh.2.2.2.2.1,oh.2.2.2.2.2.1,()))) (bY (A.1,ef.1,ef.2.1,fe.1,fe.2.1,iV.1,ck.2.1,cT,i2.1,i2.2.1,i2.2.2.1,v1.1,v1.2.1,v1.2.2.1,eC.1,eC.2.1,eC.2.2.1,()))) (A.1,c2.1,A.2.1,A.2.2.1,qP.1,qP.2.1,c2.1,aQ (bz qP.1 c2.1 []),0,c2.2.1,c2.2.2.1,t1.1,t1.2.1,t1.2.2.1,t1.2.2.2.1,d2.1,d2.2.1,d3.1,d3.2.1,d3.2.2.1,()))) (λA=>letI ai:=A.2.2.2.2;letI b2:=ai.2.2.2.2;letI dL:=b2.2.2.2.2;bc (A.1,A.2.1,A.2.2.1,A.2.2.2.1,ai.1,a8 ai.2.1,ai.2.2.1,ai.2.2.2.1,b2.1,b2.2.1,b2.2.2.1,b2.2.2.2.1,dL.1,dL.2.1,dL.2.2.1,dL.2.2.2.1,dL.2.2.2.2.1,()))) (bY (A.2.1,A.2.2.1,c2.2.1,c2.2.2.1,t1.1,t1.2.1,t1.2.2.1,t1.2.2.2.1,d2.1,d2.2.1,d3.1,d3.2.1,d3.2.2.1,()))) (A.2.1,A.1,A.2.1,s2.1.1.2.1,aQ s2.1.1.2.1,0,s2.1,s2.2.1,s2.2.2.1,s2.2.2.2.1,nt.1,nt.2.1,nt.2.2.1,cJ.1,cJ.2.1,cJ.2.2.1,cJ.2.2.2.1,()) (λA=>letI f3:=A.2.2.2;letI bt:=f3.2.2.2;letI jF:=bt.2.2.2;bc (A.1,a8 A.2.1,A.2.2.1,f3.1,f3.2.1,f3.2.2.1,bt.1,bt.2.1,bt.2.2.1,jF.1,jF.2.1,jF.2.2.1,jF.2.2.2.1,()))) (bY (s2.1,s2.2.1,s2.2.2.1,s2.2.2.2.1,nt.1,nt.2.1,nt.2.2.1,cJ.1,cJ.2.1,cJ.2.2.1,cJ.2.2.2.1,()))) (aQ A.1.2.1,0,A.1,A.2.1,A.2.2.1,A.2.2.2.1,A.2.2.2.2.1,aS.1,aS.2.1,aS.2.2.1,aS.2.2.2.1,aS.2.2.2.2.1,aS.2.2.2.2.2.1,()) λA=>letI gB:=A.2.2.2.2.2;bK (λA=>letI w7:=A.2.2;letI f2:=w7.2.2;letI iy:=acS ([(w7.1,0)],bz A.1 w7.1 0);letI h':=f2.2.2.2.2;letI gV:=h'.2.2.2.2;bo (w7.1<A.2.1) (bS w7.1 A.1 (ag True (dB iy (ag (cb (Add.add gV.2.2.1.length (M.val iy []).length)) (ag True (bc (A.1,A.2.1,a8 w7.1,w7.2.1,f2.1,f2.2.1,f2.2.2.1,f2.2.2.2.1,h'.1,h'.2.1,h'.2.2.1,h'.2.2.2.1,gV.1,gV.2.1,gV.2.2.1++M.val iy [],()))))))) (bY (w7.2.1,f2.1,f2.2.1,f2.2.2.1,f2.2.2.2.1,h'.1,h'.2.1,h'.2.2.1,h'.2.2.2.1,gV.1,gV.2.1,gV.2.2.1,()))) (A.1.2.1,aQ A.1.2.1,0,A.1,A.2.1,A.2.2.1,A.2.2.2.1,A.2.2.2.2.1,gB.1,gB.2.1,gB.2.2.1,gB.2.2.2.1,gB.2.2.2.2.1,gB.2.2.2.2.2.1,[],()) λA=>letI ec:=A.2.2.2.2.2;letI ak:=ec.2.2.2;bK (λA=>letI L:=A.2.2;letI c3:=L.2.2.2;letI c8:=bz A.1 L.1 (0,0,0);letI cf:=c3.2.2;letI e_:=cf.2.2.2.2;letI s1:=acS ([(c8.2.1,c8.1)],c8.2.2);bo (L.1<A.2.1) (bS L.1 A.1 (ag True (dB s1 (ag (cb (Add.add e_.2.2.1.length (M.val s1 []).length)) (ag True (bc (A.1,A.2.1,a8 L.1,L.2.1,L.2.2.1,c3.1,c3.2.1,cf.1,cf.2.1,cf.2.2.1,cf.2.2.2.1,e_.1,e_.2.1,e_.2.2.1++M.val s1 [],()))))))) (bY (L.2.1,L.2.2.1,c3.1,c3.2.1,cf.1,cf.2.1,cf.2.2.1,cf.2.2.2.1,e_.1,e_.2.1,e_.2.2.1,()))) (A.1.2.2.2.2.1,aQ A.1.2.2.2.2.1,0,A.2.1,A.2.2.1,A.2.2.2.1,A.2.2.2.2.1,ec.1,ec.2.1,ec.2.2.1,ak.1,ak.2.1,ak.2.2.1,ak.2.2.2.1,()) λA=>letI m2:=A.2.2.2.2.2;mpure (some (((A.2.1,A.2.2.1,A.2.2.2.1,A.2.2.2.2.1),m2.1,m2.2.1,m2.2.2.1,m2.2.2.2.1,m2.2.2.2.2.1),m2.2.2.2.2.2.1,A.1),0))
def Tw(x:Option fX×z1'):M (z6'×Bool):=
 bK (λA=>letI z:=A.1.isSome;letI u:=A.2.1;letI s:=A.2.2;letI o:=s.2.1;letI m:=(A.1.getD ((([],[],0,[]),[],[],[],[],0),[],[])).1.2.2;letI q:=bz m.2.1 o ([],(0,0),0,0,0);letI p:=bz m.1 (bz u o 0) (0,0,0,0,[]);bo (o<s.1) (cm (bS o u (bo (bz u o (0:Int)<0) (bc (A.1,u,s.1,o,s.2.2.1,())) (ag z (bS o m.2.1 (ag z (bS (bz u o 0) m.1 (cm (aq (acY (q,p)) (λy=>bo (y=0) (iO (iO (cS ([],false)))) (bo (y=2) (ag z (bc (A.1,cD q.2.2.2.1 m.2.2.2,u,s.1,o,s.2.2.1,p,()))) (bc (A.1,q.2.2.2.1,u,s.1,o,s.2.2.1,p,()))))) (λA=>letI t:=A.2.2.2.2;bo (A.2.1<0) (iO (cS ([],false))) (dG (λA=>letI v:=A.2.2.2;letI n:=v.2.2;letI w:=n.2.2;bo (w.1<n.2.1) (bS w.1 n.1 (eD w.2.1 (bc (A.1,A.2.1,A.2.2.1,v.1,v.2.1,n.1,n.2.1,a8 w.1,w.2.1++[(w.2.2.1.2.2.2.1,bz n.1 w.1 0,A.2.1)],w.2.2.1,())))) (bY (A.1,A.2.2.1,v.1,v.2.1,w.2.1,()))) (A.1,A.2.1,A.2.2.1,A.2.2.2.1,t.1,t.2.2.1.2.2.2.2,aQ t.2.2.1.2.2.2.2,0,t.2.1,t.2.2.1,())))))))))) (λA=>bc (A.1,A.2.1,A.2.2.1,a8 A.2.2.2.1,A.2.2.2.2.1,()))) (bY (s.2.2.1,()))) (x.1,x.2,aQ x.2,0,[],()) λA=>mpure (A.1,true)
def Tx(x:Option fX×z6'):M Bool:=
 bK (λA=>letI d:=A.2.2.2.1;bo (d<A.2.2.1) (cm (bS d A.2.1 (cm (ag A.1.isSome (dG (λA=>letI c:=A.2.2.2.2;bo (c.2.2.1<c.2.1) (b_ (!A.2.1) (Tu (A.1,(c.2.2.1,0),c.2.2.2.1)) false (λy=>bc (A.1,A.2.1||y,A.2.2.1,A.2.2.2.1,c.1,c.2.1,a8 c.2.2.1,c.2.2.2.1,()))) (bY (A.1,A.2.1,A.2.2.1,A.2.2.2.1,c.1,()))) (A.1,false,A.2.1,A.2.2.1,d,aQ (A.1.getD ((([],[],0,[]),[],[],[],[],0),[],[])).1.2.1,0,bz A.2.1 d (0,0,0),()))) (λA=>if !A.2.1 then iO (cS false) else bc (A.1,A.2.2.1,A.2.2.2.1,A.2.2.2.2.1,())))) (λA=>bc (A.1,A.2.1,A.2.2.1,a8 A.2.2.2.1,()))) (bY ())) (x.1,x.2,aQ x.2,0,()) λA=>h0
def Ty(x:Option fX×z6'):M Int:=
 ag x.1.isSome (aq (acT ([-1],aQ (x.1.getD ((([],[],0,[]),[],[],[],[],0),[],[])).2.1,())) (λy=>bK (λA=>letI b:=A.2.2.2;bo (b.2.1<b.1) (cm (aq (acX (A.1,A.2.1,b.2.1,[],b.2.2.1,())) (λy=>if !y.1 then bc (A.1,A.2.1,a8 A.2.2.1,b.1,b.2.1,y.2.2.1,()) else bc (A.1,A.2.1,A.2.2.1,b.1,b.2.1,y.2.2.1,()))) (λA=>bc (A.1,A.2.1,A.2.2.1,A.2.2.2.1,a8 A.2.2.2.2.1,A.2.2.2.2.2.1,()))) (bY (A.2.2.1,()))) (x.1,x.2,0,aQ x.2,0,y.1,()) λA=>mpure A.1))
def ac6(x:bO×Int):M Bool:=
 aq (tb (x.2,0,cD (aQ x.1.2.2.2.1) 1)) λy=>mpure y
def auv(x:z19'):M (z1'):=
 cm (bo (x.2<0) (ag False (ag False (bc (x.1,x.2,())))) (bc (x.1,x.2,()))) λA=>aq (DW (IntKind.wrap .u64 (aQ A.1),IntKind.wrap .u64 A.2.1)) λy=>cm (if c' y.1 0||c' y.2 9223372036854775807 then ag False (ag False (bc (A.1,y.2,()))) else bc (A.1,y.2,())) λA=>letI h:=IntKind.wrap .i64 A.2.1;letI m:=h.toNat;letI k:=A.1.take ((List.replicate m (0:Int)).length-0);ag (0<=h/\h=h/\cb m) (ag True (bK (λA=>letI l:=aQ A.2.1;letI j:=l.toNat-A.1.toNat;letI i:=A.2.1.take A.1.toNat;bo (A.1<l) (ag (0<=A.1/\A.1<=l/\l<=l) (ag ((0:Int)<=0/\0<=A.1/\A.1<=l) (ag True (bc (e0 A.1 (Int.ofNat (if j<=i.length then j else i.length)),i++i.take j++A.2.1.drop (Add.add A.1.toNat (i.take j).length),()))))) (bY (A.2.1,()))) (Int.ofNat (if (List.replicate m (0:Int)).length-0<=A.1.length then (List.replicate m (0:Int)).length-0 else A.1.length),[]++k++(List.replicate m (0:Int)).drop (Add.add 0 k.length),()) (λA=>mpure A.1)))
def ac7(x:Option fX×z1'):M Bool:=
 aq (Tq x) λy=>b_ y.2 (Tr (x.1,y.1)) 0 λcg=>mpure (y.2&&b3 cg 0)
def ac8(x:bO):M Bool:=
 letI j:=x.2.2.2;letI h:=decide (aQ x.2.1=aQ x.1.1);b_ h (Md (x.2.1,auq)) false λy=>letI i:=h&&!y&&ht (aQ x.2.2.1) 8;b_ i (auk (x.2.2.1,λjo=>aun (jo,some x.1))) false λcg=>letI f:=i&&!cg&&ht (aQ j.1) 6;b_ f (aul (j.1,aup)) false λei=>letI g:=f&&!ei&&ht (aQ j.2.1) 8;b_ g (aum (j.2.1,λjo=>auo (jo,some x.1))) false λhv=>b_ (g&&!hv) (Tt j.2.2) false λkW=>mpure (g&&!hv&&kW)
def auw(x:z16'):M Bool:=
 mpure (ht x.2.1 x.1&&ht x.1 x.2.2)
def ac9(x:bO×Int×Int×Int×Int×z1'):M Bool:=
 letI e:=x.2.2.2.2;letI d:=acU (e.2,cD (aQ (bz x.1.1.2.1 e.1 [])) 1);aq (r0 (x.2.1,0,99)) λy=>b_ (!(!y)) (r0 (x.2.2.1,0,99)) false λcg=>b_ (!(!y||!cg)) (r0 (x.2.2.2.1,0,99)) false λei=>b_ (!(!y||!cg||!ei)) (r0 (e.1,0,cD (aQ x.1.1.2.1) 1)) false λhv=>bg (!y||!cg||!ei||!hv) gp (bS e.1 x.1.1.2.1 (dB d (mpure (mZ d))))
def ac_(x:z29'):M Bool:=
 aq (r0 (aQ x.1,1,8)) λy=>b_ y (acU (x.1,99)) false λcg=>letI b:=y&&cg&&ht 0 x.2.1.1&&ht x.2.1.1 x.2.1.2&&ht x.2.1.2 99;b_ b (r0 (x.2.2.1,0,99)) false λei=>b_ (b&&ei) (r0 (x.2.2.2.1,0,99)) false λhv=>b_ (b&&ei&&hv) (r0 (x.2.2.2.2,0,100000)) false λkW=>mpure (b&&ei&&hv&&kW)
def ac'(x:bO×Int):M Bool:=
 aq (tb (x.2,0,cD (aQ x.1.2.2.1) 1)) λy=>mpure y
def ada(x:z33'):M Int:=
 aq (Bq (x.1.1,x.2.1)) λy=>b_ (!(!y)) (tb (x.2.2.1,x.1.2.1)) false λcg=>if !y||!cg then mpure 0 else bo (x.2.2.2.1=x.1.2.2.1) (mpure 1) (bo (x.2.2.2.1=0) (mpure 2) (mpure 0))
def Tz(auy:Option fX->Prop)(auz:Option fX->List (z1'))(x:Option fX):M (z1'):=
 ag x.isSome (aq (auj ([-1],aQ (x.getD ((([],[],0,[]),[],[],[],[],0),[],[])).1.2.2.2.1)) (λy=>ag (auy x) (aq (kl (λA (y:z1')=>letI f:=Ts (A.1,y);letI e:=Mj (A.1,y);letI d:=Mj (A.1,A.2.1);letI c:=decide (vG e > vG d);letI g:=c=true;aq (dB e (dB d (ag (g->(g/\g/\True)/\f.fm/\True) (ag (True/\(g->g)) (if c&&mZ f then mpure (dS.normal,A.1,y,()) else mpure (dS.normal,A.1,A.2.1,())))))) λp=>mpure (p.1,p.2.1,p.2.2.1,())) (auz x) (x,y,())) (λp=>yF (mpure p.2.2.1) (λid=>if id=0 then mpure p.2.2.1 else dZ) dZ p.1))))
def adb(x:bO×z1'):M Bool:=
 bK (λA=>letI h:=A.2.2.2;letI g:=decide (bz A.2.1 h.1 (0:Int)≠-1);bo (h.1<A.2.2.1) (bS h.1 A.2.1 (b_ g (aub (h.2.1,bz A.2.1 h.1 0)) false (λy=>letI i:=(g&&!(!y))=true;ag (i->(i/\True/\i)/\((0:Int)<=0/\0<=h.1/\h.1<=aQ A.1)/\True) (b_ (g&&!(!y)) (Bq (A.1.take h.1.toNat,bz A.2.1 h.1 0)) false (λcg=>if g&&(!y||cg) then cS false else bc (A.1,A.2.1,A.2.2.1,a8 h.1,h.2.1,())))))) (bY (A.1,h.2.1,()))) (x.2,x.2,aQ x.2,0,x.1,()) λA=>mpure (decide (aQ A.1=aQ A.2.1.2.2.2.1))
def TA(x:Option fX×z1'):M Int:=
 bK (λA=>letI f:=A.2.2;letI e:=(A.1.getD ((([],[],0,[]),[],[],[],[],0),[],[])).1.2.2.2.1;letI d:=f.2.2.1;bo (d<f.2.1) (cm (bS d f.1 (bo (bz f.1 d (0:Int)≠-1) (ag A.1.isSome (bS d e (bc (A.1,e0 A.2.1 (bz e d ([],(0,0),0,0,0)).2.2.2.2,f.1,f.2.1,d,())))) (bc (A.1,A.2.1,f.1,f.2.1,d,())))) (λA=>bc (A.1,A.2.1,A.2.2.1,A.2.2.2.1,e0 A.2.2.2.2.1 1,()))) (bY (A.2.1,()))) (x.1,0,x.2,aQ x.2,0,()) λA=>mpure A.1
def auA(x:z4'×Int):M (z4'):=
 cm (bo (x.2<0) (ag False (ag False (bc (x.1,x.2,())))) (bc (x.1,x.2,()))) λA=>aq (DW (IntKind.wrap .u64 (aQ A.1),IntKind.wrap .u64 A.2.1)) λy=>cm (if c' y.1 0||c' y.2 9223372036854775807 then ag False (ag False (bc (A.1,y.2,()))) else bc (A.1,y.2,())) λA=>letI h:=IntKind.wrap .i64 A.2.1;letI m:=h.toNat;letI k:=A.1.take ((List.replicate m ((0:Int),(0:Int))).length-0);ag (0<=h/\h=h/\cb m) (ag True (bK (λA=>letI l:=aQ A.2.1;letI j:=l.toNat-A.1.toNat;letI i:=A.2.1.take A.1.toNat;bo (A.1<l) (ag (0<=A.1/\A.1<=l/\l<=l) (ag ((0:Int)<=0/\0<=A.1/\A.1<=l) (ag True (bc (e0 A.1 (Int.ofNat (if j<=i.length then j else i.length)),i++i.take j++A.2.1.drop (Add.add A.1.toNat (i.take j).length),()))))) (bY (A.2.1,()))) (Int.ofNat (if (List.replicate m ((0:Int),(0:Int))).length-0<=A.1.length then (List.replicate m ((0:Int),(0:Int))).length-0 else A.1.length),[]++k++(List.replicate m ((0:Int),(0:Int))).drop (Add.add 0 k.length),()) (λA=>mpure A.1)))
def ade(x:Option fX×(z12')×Int×Int×Int):M Bool:=
 letI f:=ht x.2.1.2 x.2.2.2.2;letI d:=f=true;letI e:=d->d/\True/\True;ag (d->d/\x.1.isSome/\True) (ag e (ag e (ag e (ag e (ag e (ag (d->(d/\d/\d/\True)/\True/\True) (ag (d->(d/\d)/\True/\True) (ag (d->(d/\True)/\True/\True) (ag (True/\(d->d)) (mpure (f&&c' ((hi (λp=>b3 x.2.1.1 p.1.1&&(b3 x.2.2.1 p.1.2.1&&b3 x.2.2.2.1 p.1.2.2)) (x.1.getD ((([],[],0,[]),[],[],[],[],0),[],[])).2.2).getD (0:Int)) 0)))))))))))
def auB(x:z16'):M Bool:=
 mpure (ht x.2.1 x.1&&ht x.1 x.2.2)
def adf(x:(z20')×Option bZ):M Bool:=
 letI d:=x.2.getD ([],[],0,[]);aq (Br x.1.1) λy=>b_ (!(!y)) (Br x.1.2.1) false λcg=>b_ (!(!y||!cg)) (Br x.1.2.2.1) false λei=>letI c:=!y||!cg||!ei;b_ (!c) (tb (x.1.2.2.2.1,0,cD (aQ d.2.1) 1)) false λhv=>b_ (!(c||!hv)) (acW (x.1.2.2.2.2,λjo=>aur (jo,some d,some x.1))) false λkW=>mpure (c||!hv||!kW)
def adg(x:Int):M Bool:=
 aq (tb (x,0,99)) λy=>mpure y
def adh(x:z1'×(Int->M Bool)):M Bool:=
 bK (λA=>letI h:=A.2.2;letI f:=h.2.2.1;bo (f<h.2.1) (bS f h.1 (aq (A.2.1 (bz h.1 f 0)) (λy=>letI g:=(!(!y)&&c' f 0)=true;ag (g->(g/\g)/\(0<=cD f 1/\cD f 1<aQ A.1)/\True) (if !y||c' f 0&&decide (bz h.1 f 0<=bz A.1 (cD f 1) 0) then cS false else bc (A.1,A.2.1,h.1,h.2.1,a8 f,()))))) (bY ())) (x.1,x.2,x.1,aQ x.1,0,()) λA=>h0
def adi(x:Int×Option bZ×Option (z20')):M Bool:=
 letI d:=(x.2.1.getD ([],[],0,[])).2.1;letI c:=(x.2.2.getD (0,0,0,0,[])).2.2.2.1;bS c d (aq (tb (x.1,0,cD (aQ (bz d c [])) 1)) (λy=>mpure y))
def adj(x:z29'):M Bool:=
 aq (tb (aQ x.1,1,8)) λy=>b_ (!(!y)) (acW (x.1,Br)) false λcg=>b_ (!(!y||!cg)) (Br x.2.1.1) false λei=>b_ (!(!y||!cg||!ei)) (Br x.2.1.2) false λhv=>letI b:=!y||!cg||!ei||!hv||c' x.2.1.1 x.2.1.2;b_ (!b) (Br x.2.2.1) false λkW=>b_ (!(b||!kW)) (Tt x.2.2.2.1) false λtc=>b_ (!(b||!kW||!tc)) (tb (x.2.2.2.2,0,100000)) false λyY=>mpure (b||!kW||!tc||!yY)
def adk(x:Int):M Bool:=
 aq (tb (x,0,99)) λy=>mpure y
def adl(x:(z16')×Option bZ):M Bool:=
 aq (Tt x.1.1) λy=>b_ (!(!y)) (tb (x.1.2.1,0,cD (aQ (x.2.getD ([],[],0,[])).1) 1)) false λcg=>b_ (!(!y||!cg)) (tb (x.1.2.2,1,10)) false λei=>mpure (!y||!cg||!ei)
def adm(x:Int):M Bool:=
 aq (tb (x,0,10)) λy=>mpure (!y)
def adn(x:z19'):M Bool:=
 bK (λA=>letI p:=A.2.2.1;letI t:=(0<=p/\p<aQ A.1)/\True;letI q:=decide (bz A.1 p (0:Int)<0);letI o:=(!q)=true;letI m:=q||c' (bz A.1 p 0) A.2.1;letI s:=(!m)=true;letI n:=(!m&&c' p 0)=true;letI u:=n->n/\True/\True;fO p A.1 (ag (o->(o/\o)/\t) (ag (o->o/\True/\True) (ag (o->(o/\o)/\True/\True) (ag (True/\(q=false->o)) (ag (s->(s/\True)/\True/\True) (ag (s->True/\True/\s) (ag (n->(n/\n)/\t) (ag u (ag (n->(n/\True)/\True/\True) (ag (n->(n/\n)/\(0<=cD p 1/\cD p 1<aQ A.1)/\True) (ag u (ag (n->(n/\n)/\True/\True) (ag (s->(s/\(c' p 0=true->n))/\True/\True) (ag (True/\(m=false->s)) (if m||c' p 0&&decide (bz A.1 p 0<=bz A.1 (cD p 1) 0) then cS false else bc (A.1,A.2.1,a8 p,())))))))))))))))) (bY ())) (x.1,x.2,0,()) λA=>h0
def Ml(x:Option fX×Nat×(Nat×(List (z1')->Prop)×List (z1')×Bool)×Unit):M ((Nat×(List (z1')->Prop)×List (z1')×Bool)×Unit):=
 aq (Mk (x.1,[],1,x.2.1,x.2.2.1,())) λy=>mpure (y.2.1,())
def Mm(x:Option fX×Nat×(Nat×(List (z1')->Prop)×List (z1')×Bool)×Unit):M ((Nat×(List (z1')->Prop)×List (z1')×Bool)×Unit):=
 aq (Mk (x.1,[],0,x.2.1,x.2.2.1,())) λy=>mpure (y.2.1,())
def TB(x:Option fX×z6'×Int×z4'×z1'×Unit):M (Bool×z4'×z14'):=
 letI k:=(x.1.getD ((([],[],0,[]),[],[],[],[],0),[],[])).2.1;aq (ag x.1.isSome (dG (λA=>letI o:=A.2.1;letI i:=A.2.2;letI c:=i.2.2.2;letI m:=c.2.2.1;letI l:=c.1.toNat;letI j:=Option.map (λx=>x.2) (List.find? (λp=>decide (c.1=p.1)) c.2.1);letI g:=0<=c.1/\c.1<Int.ofNat m.length;letI f:=(A.1,i.2.1.getD l (0,0),o.getD i.1.toNat (0,0,0));letI d:=g_ c.2.1 c.1 (IntKind.wrap .i64 (Add.add (j.getD 0) 1));letI b:=decide (m.getD l (0:Int)=-1);letI h:=(!b)=true;letI a:=decide (j.getD (0:Int) > 0);letI e:=(!a)=true;letI q:=e->e/\True/\True;if decide (c.1<i.2.2.1) then aq (ag (0<=c.1/\c.1<Int.ofNat i.2.1.length) (ag (e->(e/\e)/\(0<=i.1/\i.1<Int.ofNat o.length)/\True) (ag q (ag (e->(e/\e/\e/\True)/\(Tu f).fm/\True) (ag q (ag (True/\(a=false->e)) (if a||!(M.val (Tu f) false) then mpure (.next (A.1,o,i.1,i.2.1,i.2.2.1,c.1,c.2.1,m,())) else ag g (ag (h->(h/\h)/\g/\True) (if h then ag (h/\h/\h/\h/\h/\True) (aq (acX (A.1,o,m.getD l 0,d,m,())) (λy=>if b||y.1 then ag (0<=c.1/\c.1<Int.ofNat y.2.2.1.length) (aq (aq (aq (mpure (true,y.2.1,List.set y.2.2.1 l i.1,())) (λr=>mpure (.done r))) (λr=>mpure (.done r))) (λr=>mpure (.done r))) else mpure (.next (A.1,o,i.1,i.2.1,i.2.2.1,c.1,y.2.1,y.2.2.1,())))) else ag (True/\(b=false->false=true)) (if b||false then ag g (aq (aq (aq (mpure (true,d,List.set m l i.1,())) (λr=>mpure (.done r))) (λr=>mpure (.done r))) (λr=>mpure (.done r))) else mpure (.next (A.1,o,i.1,i.2.1,i.2.2.1,c.1,d,m,())))))))))))) (aF.gb (λA=>letI n:=A.2.2.2;mpure (.next (A.1,A.2.1,A.2.2.1,n.1,n.2.1,IntKind.wrap .i64 (Add.add n.2.2.1 1),n.2.2.2.1,n.2.2.2.2.1,())))) else aq (mpure (.next (c.2.1,m,()))) λr=>mpure (.done r)) (x.1,x.2.1,x.2.2.1,k,Int.ofNat k.length,0,x.2.2.2.1,x.2.2.2.2.1,()))) (aF.gb (λA=>mpure (false,A.1,A.2.1,())))
def TC(x:Option fX×z1'×Int×Nat×(Nat×(List (z1')->Prop)×List (z1')×Bool)×Unit):M (Bool×(Nat×(List (z1')->Prop)×List (z1')×Bool)×Unit):=
 letI aB:=x.2.2.2.2.1;letI cw:=(x.1.getD ((([],[],0,[]),[],[],[],[],0),[],[])).1.2.2;ag x.1.isSome (bo (aQ x.2.1=aQ cw.2.1) (aq (ag (x.2.2.2.1=aB.1/\aB.2.2.2=false/\(∃ (T:List (z1')),aB.2.1 (aB.2.2.1++x.2.1::T))) (mM (λx=>True))) (λy=>mpure (y,(aB.1,aB.2.1,aB.2.2.1++[x.2.1],!y),()))) (cm (ag x.1.isSome (dG (λA=>letI aM:=A.2.1;letI i1:=A.2.2;letI dx:=(A.1.getD ((([],[],0,[]),[],[],[],[],0),[],[])).1.2.2.2.1;letI v:=i1.2.2;letI E:=v.2.2.2;letI z:=Bq (aM,E.1);letI w:=acY (bz dx v.1 ([],(0,0),0,0,0),bz v.2.1 E.1 (0,0,0,0,[]));letI t:=pE z=true;letI f1:=t->t/\True/\True;bo (E.1<v.2.2.1) (cm (bS E.1 v.2.1 (dB z (ag (t->t/\A.1.isSome/\True) (ag f1 (ag f1 (ag f1 (ag (t->(t/\t)/\(0<=v.1/\v.1<aQ dx)/\True) (ag f1 (ag (t->(t/\t/\True)/\w.fm/\True) (ag (t->(t/\True)/\True/\True) (ag (True/\(mZ z=false->t)) (bg (mZ z||b3 (M.val w (0:Int)) 0) (bc (A.1,aM,i1.1,i1.2.1,v.1,v.2.1,v.2.2.1,E.1,E.2.1,())) (ag ((0:Int)<=0/\0<=v.1/\v.1=v.1/\v.1<=aQ aM) (ag (0<Add.add 0 1/\cb (Add.add (aM.take v.1.toNat).length (Add.add 0 1))) (aq (Mk (A.1,aM.take v.1.toNat++[E.1],i1.1,i1.2.1,E.2.1,())) (λy=>bg (!y.1) (iO (cS (false,y.2.1,()))) (bc (A.1,aM,i1.1,i1.2.1,v.1,v.2.1,v.2.2.1,E.1,y.2.1,())))))))))))))))))) (λA=>letI mC:=A.2.2.2.2;bc (A.1,A.2.1,A.2.2.1,A.2.2.2.1,mC.1,mC.2.1,mC.2.2.1,a8 mC.2.2.2.1,mC.2.2.2.2.1,()))) (bY (A.1,aM,i1.1,i1.2.1,v.1,E.2.1,()))) (x.1,x.2.1,x.2.2.1,x.2.2.2.1,aQ x.2.1,cw.1,aQ cw.1,0,aB,()))) (λA=>letI d1:=A.2.2.2.2;letI fx:=A.2.1.take d1.1.toNat;letI cY:=Mk (A.1,fx++[-1],A.2.2.1,A.2.2.2.1,d1.2.1,());letI u:=b3 A.2.2.1 0;letI bE:=(!u)=true;ag (bE->(bE/\True/\bE/\bE)/\((0:Int)<=0/\0<=d1.1/\d1.1=d1.1/\d1.1<=aQ A.2.1)/\True) (bg (!u) (ag (bE/\bE) (ag (0<Add.add 0 1/\cb (Add.add fx.length (Add.add 0 1))) (bg (!u) (ag (bE/\bE/\bE/\True) (aq cY (λy=>mpure (u||y.1,y.2.1,())))) (ag (True/\(u=false->false=true)) (mpure (u||false,d1.2.1,())))))) (bg (!u) (ag (bE/\false=true/\bE/\bE/\True) (aq cY (λy=>mpure (u||y.1,y.2.1,())))) (ag (True/\(u=false->false=true)) (mpure (u||false,d1.2.1,()))))))))
def auC(x:z1'×z22'):M (z14'):=
 cm (bo (x.2.1<0) (ag False (ag False (bc (x.1,x.2.1,())))) (bc (x.1,x.2.1,()))) λA=>aq (DW (IntKind.wrap .u64 (aQ A.1),IntKind.wrap .u64 A.2.1)) λy=>cm (if c' y.1 0||c' y.2 9223372036854775807 then ag False (ag False (bc (A.1,y.2,()))) else bc (A.1,y.2,())) λA=>letI h:=IntKind.wrap .i64 A.2.1;letI m:=h.toNat;letI k:=A.1.take ((List.replicate m (0:Int)).length-0);ag (0<=h/\h=h/\cb m) (ag True (bK (λA=>letI l:=aQ A.2.1;letI j:=l.toNat-A.1.toNat;letI i:=A.2.1.take A.1.toNat;bo (A.1<l) (ag (0<=A.1/\A.1<=l/\l<=l) (ag ((0:Int)<=0/\0<=A.1/\A.1<=l) (ag True (bc (e0 A.1 (Int.ofNat (if j<=i.length then j else i.length)),i++i.take j++A.2.1.drop (Add.add A.1.toNat (i.take j).length),()))))) (bY (A.2.1,()))) (Int.ofNat (if (List.replicate m (0:Int)).length-0<=A.1.length then (List.replicate m (0:Int)).length-0 else A.1.length),[]++k++(List.replicate m (0:Int)).drop (Add.add 0 k.length),()) (λA=>mpure (A.1,()))))
end Go.Fer
namespace Go.Fer.H
set_option maxRecDepth 100000
abbrev bF:Type:=z21'
abbrev uF:Type:=Int×z21'
abbrev bd:Type:=z4'×List bF×z1'×z4'×uF
abbrev b1:Type:=bF×Int
abbrev ha:Type:=z1'×List (List b1)
abbrev h1:Type:=bd×List bF×List (Option ha)
abbrev j6:Type:=z4'×List bF×z1'×z4'×Int×Int×Int×Int×Int×Int×Int×List bF×List (Option ha)×Unit
abbrev g_(l:z4')(a b:Int):z4':=oL (k:=.int .i64) (v:=.int .i64) l a b
abbrev ja:V:=.ad (.au (.int .i64) (.au (.int .i64) (.au (.int .i64) (.au (.int .i64) (.au (.int .i64) (.int .i64))))))
abbrev nF(l:List (Int×bF))(a:Int)(b:bF):List (Int×bF):=oL (k:=.int .i64) (v:=ja) l a b
abbrev auD:List UInt8:=0::1::(List.replicate 2 2++(List.replicate 4 3++(List.replicate 8 4++(List.replicate 16 5++(List.replicate 32 6++(List.replicate 64 7++List.replicate 128 8))))))
variable {hx:Type}{hy:Type}{hz:Type}{hA:Type}{hB:Type}{hb:Type}{hd:Type}
abbrev _root_.Prod.cu(x:hx×hy×hz×hA×hB×hb×hd):hb:=x.2.2.2.2.2.1
variable {hJ:Type}
abbrev _root_.Prod.ft(x:hx×hy×hz×hA×hB×hb×hd×hJ):hd:=x.2.2.2.2.2.2.1
variable {h3:Type}
abbrev _root_.Prod.h2(x:hx×hy×hz×hA×hB×hb×hd×hJ×h3):hJ:=x.2.2.2.2.2.2.2.1
variable {iF:Type}
abbrev _root_.Prod.kX(x:hx×hy×hz×hA×hB×hb×hd×hJ×h3×iF):h3:=x.2.2.2.2.2.2.2.2.1
variable {jb:Type}
abbrev _root_.Prod.mh(x:hx×hy×hz×hA×hB×hb×hd×hJ×h3×iF×jb):iF:=x.2.2.2.2.2.2.2.2.2.1
variable {jJ:Type}
abbrev _root_.Prod.mD(x:hx×hy×hz×hA×hB×hb×hd×hJ×h3×iF×jb×jJ):jb:=x.2.2.2.2.2.2.2.2.2.2.1
variable {j7:Type}
abbrev _root_.Prod.jc(x:hx×hy×hz×hA×hB×hb×hd×hJ×h3×iF×jb×jJ×j7):jJ:=x.2.2.2.2.2.2.2.2.2.2.2.1
variable {kJ:Type}
abbrev _root_.Prod.oi(x:hx×hy×hz×hA×hB×hb×hd×hJ×h3×iF×jb×jJ×j7×kJ):j7:=x.2.2.2.2.2.2.2.2.2.2.2.2.1
variable {lp:Type}
abbrev _root_.Prod.qs(x:hx×hy×hz×hA×hB×hb×hd×hJ×h3×iF×jb×jJ×j7×kJ×lp):kJ:=x.2.2.2.2.2.2.2.2.2.2.2.2.2.1
variable {mi:Type}
abbrev _root_.Prod.vJ(x:hx×hy×hz×hA×hB×hb×hd×hJ×h3×iF×jb×jJ×j7×kJ×lp×mi):lp:=x.2.2.2.2.2.2.2.2.2.2.2.2.2.2.1
variable {m_:Type}
abbrev _root_.Prod.Bs(x:hx×hy×hz×hA×hB×hb×hd×hJ×h3×iF×jb×jJ×j7×kJ×lp×mi×m_):mi:=x.2.2.2.2.2.2.2.2.2.2.2.2.2.2.2.1
variable {oj:Type}
abbrev _root_.Prod.HO(x:hx×hy×hz×hA×hB×hb×hd×hJ×h3×iF×jb×jJ×j7×kJ×lp×mi×m_×oj):m_:=x.2.2.2.2.2.2.2.2.2.2.2.2.2.2.2.2.1
variable {pI:Type}
abbrev _root_.Prod.TD(x:hx×hy×hz×hA×hB×hb×hd×hJ×h3×iF×jb×jJ×j7×kJ×lp×mi×m_×oj×pI):oj:=x.2.2.2.2.2.2.2.2.2.2.2.2.2.2.2.2.2.1
variable {rh:Type}
abbrev _root_.Prod.TE(x:hx×hy×hz×hA×hB×hb×hd×hJ×h3×iF×jb×jJ×j7×kJ×lp×mi×m_×oj×pI×rh):pI:=x.2.2.2.2.2.2.2.2.2.2.2.2.2.2.2.2.2.2.1
variable {td:Type}
abbrev _root_.Prod.TF(x:hx×hy×hz×hA×hB×hb×hd×hJ×h3×iF×jb×jJ×j7×kJ×lp×mi×m_×oj×pI×rh×td):rh:=x.2.2.2.2.2.2.2.2.2.2.2.2.2.2.2.2.2.2.2.1
variable {vK:Type}
abbrev _root_.Prod.auE(x:hx×hy×hz×hA×hB×hb×hd×hJ×h3×iF×jb×jJ×j7×kJ×lp×mi×m_×oj×pI×rh×td×vK):td:=x.2.2.2.2.2.2.2.2.2.2.2.2.2.2.2.2.2.2.2.2.1
variable {yZ:Type}
abbrev _root_.Prod.auF(x:hx×hy×hz×hA×hB×hb×hd×hJ×h3×iF×jb×jJ×j7×kJ×lp×mi×m_×oj×pI×rh×td×vK×yZ):vK:=x.2.2.2.2.2.2.2.2.2.2.2.2.2.2.2.2.2.2.2.2.2.1
variable {DZ:Type}
abbrev _root_.Prod.TG(x:hx×hy×hz×hA×hB×hb×hd×hJ×h3×iF×jb×jJ×j7×kJ×lp×mi×m_×oj×pI×rh×td×vK×yZ×DZ):yZ:=x.2.2.2.2.2.2.2.2.2.2.2.2.2.2.2.2.2.2.2.2.2.2.1
abbrev _root_.Prod.auG{Mn:Type}(x:hx×hy×hz×hA×hB×hb×hd×hJ×h3×iF×jb×jJ×j7×kJ×lp×mi×m_×oj×pI×rh×td×vK×yZ×DZ×Mn):DZ:=x.2.2.2.2.2.2.2.2.2.2.2.2.2.2.2.2.2.2.2.2.2.2.2.1
abbrev _root_.Prod.auH{Mn auI:Type}(x:hx×hy×hz×hA×hB×hb×hd×hJ×h3×iF×jb×jJ×j7×kJ×lp×mi×m_×oj×pI×rh×td×vK×yZ×DZ×Mn×auI):Mn:=x.2.2.2.2.2.2.2.2.2.2.2.2.2.2.2.2.2.2.2.2.2.2.2.2.1
variable (HP:bd×(Option h1->M Bool)->M (Option h1×Int)) (TH:Option ha×Int×Int->M (b1×Bool)) (TI:(z1'->Prop)->M (z1')) (auJ:z4'->M (z1'->Prop)) (auK:Option h1×Option Int×Option Int->M Bool) (ado:bd×Int×(Int->M Int)->M (z17')) (auL:Int×Option bd->M Int) (auM:Int->M Int) (auN:List bF->M (List bF)) (auO:bd->M Bool) (TJ:List bF->M (List bF×Bool)) (auP:bd->M Bool) (adp:bF×Int×Int×Int×Int×Int×Int->M Bool) (auQ:uF×Int->M Int) (auR:z19'->M Bool) (aNJ:bd×Bool->M (List (z1')×Int)) (qt:z16'->M Bool) (aNK:(Int×Int)×z28'->M (z12')) (aNL:bd×Int->M (z19')) (aNM aNN:bd×z1'×Int->M Int) (adq:bd×Int×Int->M Int) (auS:Option h1×Option Int->M Bool) (aNO:bd×z1'×Int×Int->M (z12')) (aNP:bd×Int×Int->M Int) (Bt:bd->M Int) (auT:List bF×Unit->M (Bool×List bF×Unit)) (auU:(z21'->M Bool)×List bF×Unit->M ((z24')×List bF×Unit)) (adr:z1'×j6->M (j6)) (auV:bF×Option bd->M Bool) (TK:z14'->M (z14')) (auW:(z1'->Prop)×Unit->M (z14')) (TL:Option h1×(Option ha->M (z28'))->M ((Int×Int)×Bool)) (auX:Option h1×Option Int->M Bool) (auY:Option ha×Option Int×Option bd->M (z28')) (auZ:Option h1×Option Int->M Bool) (au0:Option ha×Option (Option h1)×Option Int×Option bd->M (z28')) (aNQ:Option h1×Option Int×Option bd->M Bool) (aNR:Option ha×Option Int->M (z28')) (au1:Option h1×Option Int->M Bool) (au2:Option ha×Option (Option h1)×Option Int×Option (Int->M Int)->M (z28')) (L':z19'->M Bool) (ads:uF×Int->M Int) (adt:Option h1×Option ha->M (List b1->Prop)) (te:z16'->M Bool) (TM:Int->M Bool) (adu:List bF×(z21'->M Bool)->M Bool) (au3:Int×z21'->M Bool) (Md:z1'×(Int->M Bool)->M Bool) (au4:bF×Option bd->M Bool) (au5:Int->M Bool) (adv:List (Int×bF)->M (z1'->Prop)) (au6:Int×z21'->M Bool) (au7:bd×Int×Int×Int×Int×Int×Int->M Bool) (HQ:bd->M Int) (rZ:z16'->M Bool) (aNS:bd×Int->M Bool) (au8:bd->M (List bF)) (aNT:bd×z1'×Int->M Int) (Bq:z19'->M Bool) (acv:z19'->M Int) (au9:bF×Option Int->M Bool) (adw:List bF×(z21'->M Bool)->M Int) (au_:bd×Int×Int×Int×Int×Int×Int->M Bool) (Mo:Int->M Bool) (atJ:z1'×(Int->M Bool)->M Int) (aNU:bd×z1'->M (List (z1'))) (aNV:bd×z1'->M Bool) (aNW:bd×z1'×Int->M (List b1×Bool)) (adx:Int->M Bool) (au':z12'->M Int) (ava:(z1'->Prop)×Unit->M (z14')) (aNX:z12'->M Bool) (avb:z1'->M (z1')) (avc:(b1×bF×Int->M Int)×List b1×Unit->M (List b1×Unit)) (avd:b1×bF×Int->M Int) (aNY:Int×z23'->M (z14')) (ave:Int×Int×(b1×bF×Int->M Int)×List b1×Unit->M (List b1×Unit)) (avf:z1'×j6->M (Option ha×Bool×j6)) (aNZ:Int×Int×z23'->M (z14')) (avg:Int->M Int) (avh:Int×Int×Int×(b1×bF×Int->M Int)×List b1×Unit->M (List b1×Unit))
def ady(x:bd×Int×Int):M (z19'):=
 aq (HP (x.1,λjo=>auK (jo,some x.2.1,some x.2.2))) λy=>letI c:=(y.1.getD (([],[],[],[],0,0,0,0,0,0,0),[],[])).2.2;bo (y.2≠0) (mpure ([],y.2)) (cm (ag y.1.isSome (dG (λA=>letI d:=A.2.2;bo (d.1<A.2.1) (cm (bS d.1 A.1 (aq (TH (bz A.1 d.1 none,d.2.1,d.2.2.1)) (λy=>bg y.2 (bc (A.1,A.2.1,d.1,d.2.1,d.2.2.1,g_ A.cu y.1.1.2.2.2.2.2 (a8 ((hi (λp=>b3 y.1.1.2.2.2.2.2 p.1) A.cu).getD 0)),())) (bc (A.1,A.2.1,d.1,d.2.1,d.2.2.1,g_ A.cu (-1) (a8 ((hi (λp=>b3 (-1) p.1) A.cu).getD 0)),()))))) (λA=>bc (A.1,A.2.1,a8 A.2.2.1,A.2.2.2.1,A.2.2.2.2.1,A.cu,()))) (bY (A.cu,()))) (c,aQ c,0,x.2.1,x.2.2,[],()))) (λA=>aq (auJ A.1) λy=>aq (TI y) λy=>mpure (y,0)))
def adz(x:bd×Int):M (z17'):=
 aq (ado (x.1,x.2,λjo=>auL (jo,some x.1))) λy=>mpure y
def adA(x:bd×Int):M (z17'):=
 aq (ado (x.1,x.2,auM)) λy=>mpure y
def adB(x:bd×Int):M (z17'):=
 aq (HP (x.1,λjo=>auX (jo,some x.2))) λy=>bo (y.2≠0) (mpure ((0,0),y.2)) (aq (TL (y.1,λjo=>auY (jo,some x.2,some x.1))) (λy=>mpure (y.1,0)))
def adC(x:bd×Int):M (z17'):=
 aq (HP (x.1,λjo=>auZ (jo,some x.2))) λy=>bo (y.2≠0) (mpure ((0,0),y.2)) (aq (TL (y.1,λjo=>au0 (jo,some y.1,some x.2,some x.1))) (λy=>mpure (y.1,0)))
def adD(x:bd):M Int:=
 aq (auO x) λy=>bg (!y) (mpure 90) (aq (TJ x.2.1) (λy=>bg (!y.2) (mpure 91) (mpure 0)))
def adE(x:bd):M Int:=
 aq (auP x) λy=>bg (!y) (mpure 90) (bK (λA=>iA A.1 A.2.1.2.1 (bK (λA=>letI e:=A.2.2.1.2.1;letI d:=adp (bz e A.2.1 (0,0,0,0,0,0),bz e A.1 (0,0,0,0,0,0));bo (A.2.1<A.1) (bS A.2.1 e (bS A.1 e (dB d (bg (mZ d) (iO (iO (cS 91))) (bc (A.1,a8 A.2.1,A.2.2.1,())))))) (bY (A.1,A.2.2.1,()))) (A.1,0,A.2.1,()) (λA=>bc (a8 A.1,A.2.1,()))) (bY ())) (0,x,()) (λA=>mpure 0))
def adF(x:bd×Int):M (z1'×z19'):=
 aq (HP (x.1,λjo=>auS (jo,some x.2))) λy=>bo (y.2≠0) (mpure ([],[],y.2)) (bK (λA=>letI h:=(A.1.getD (([],[],[],[],0,0,0,0,0,0,0),[],[])).2.2;bo (A.2.1<10) (cm (cm (ag A.1.isSome (dG (λA=>letI j:=A.2.2.2;bo (A.ft<A.cu) (cm (bS A.ft j.2.1 (aq (TH (bz j.2.1 A.ft none,A.2.1,A.kX)) (λy=>letI k:=adq (A.h2,y.1.2,A.kX);letI g:=y.2=true;letI i:=g->g/\True/\True;ag i (ag (g->(g/\g/\g/\True)/\k.fm/\True) (ag i (ag i (ag (g->(g/\g)/\True/\True) (ag (True/\(g->g)) (if y.2&&decide (vG k>=A.h2.kX) then bc (A.1,A.2.1,a8 A.2.2.1,j.1,j.2.1,A.cu,A.ft,A.h2,A.kX,A.mh,A.mD,()) else bc (A.1,A.2.1,A.2.2.1,j.1,j.2.1,A.cu,A.ft,A.h2,A.kX,A.mh,A.mD,())))))))))) (λA=>bc (A.1,A.2.1,A.2.2.1,A.2.2.2.1,A.2.2.2.2.1,A.cu,a8 A.ft,A.h2,A.kX,A.mh,A.mD,()))) (bY (A.1,A.2.1,A.2.2.1,j.1,A.h2,A.kX,A.mh,A.mD,()))) (A.1,A.2.1,0,A.2.1,h,aQ h,0,A.2.2.1,A.2.2.2.1,A.2.2.2.2.1,A.cu,()))) (λA=>letI l:=A.2.2;cm (bo (l.1 > 0) (eD A.h2 (bc (A.1,A.2.1,l.1,l.2.1,l.2.2.1,A.cu,A.ft,A.h2++[A.2.1],()))) (bc (A.1,A.2.1,l.1,l.2.1,l.2.2.1,A.cu,A.ft,A.h2,()))) λA=>letI m:=A.2.2.2;ag A.1.isSome (bo (A.2.2.1=aQ (A.1.getD (([],[],[],[],0,0,0,0,0,0,0),[],[])).2.2) (eD A.ft (bc (A.1,m.1,m.2.1,A.cu,A.ft++[A.2.1],A.h2,()))) (bc (A.1,m.1,m.2.1,A.cu,A.ft,A.h2,()))))) (λA=>bc (A.1,a8 A.2.1,A.2.2.1,A.2.2.2.1,A.2.2.2.2.1,A.cu,()))) (bY (A.2.2.2.2.1,A.cu,()))) (y.1,0,x.1,x.2,[],[],()) (λA=>mpure (A.1,A.2.1,0)))
def adG(x:bd×(Option h1->M Bool)):M (Option h1×Int):=
 aq (Bt x.1) λy=>bo (y≠0) (mpure (none,y)) (aq (auT (x.1.2.1,())) (λy=>ag True (ag True (aq (auU (λjo=>auV (jo,some x.1),y.2.1,())) (λy=>ag True (cm (aq (x.2 (some (x.1,List.drop y.1.1 (y.2.1.take y.1.2),[]))) (λcg=>if !cg then pD (none,1) else bc (x.1.1,x.1.2.1,x.1.2.2.1,x.1.2.2.2.1,x.1.2.2.2.2.1,x.1.cu,x.1.ft,x.1.h2,x.1.kX,x.1.mh,x.1.2.2.2.2.2.2.2.2.2.2,y.1,y.2.1,[],()))) (λA=>aq (adr ([],A.1,A.2.1,A.2.2.1,A.2.2.2.1,A.2.2.2.2.1,A.cu,A.ft,A.h2,A.kX,A.mh,A.mD,List.drop A.jc.1 (A.oi.take A.jc.2),A.qs,())) λy=>ag True (bo (aQ y.oi=0) (mpure (none,3)) (mpure (some ((y.1,y.2.1,y.2.2.1,y.2.2.2.1,y.2.2.2.2.1,y.cu,y.ft,y.h2,y.kX,y.mh,y.mD),y.jc,y.oi),0))))))))))
def adH(x:Option h1×Option Int×Option Int):M Bool:=
 aq (te (x.2.1.getD 0,0,9)) λy=>b_ y (TM (x.2.2.getD 0)) false λcg=>mpure (y&&cg)
def avi(x:z16'):M Bool:=
 mpure (ht x.2.1 x.1&&ht x.1 x.2.2)
def adI(x:Int):M Bool:=
 aq (te (x,0,9999)) λy=>mpure y
def adJ(x:Option ha×Int×Int):M (b1×Bool):=
 letI f:=bz (x.1.getD ([],[[],[],[],[],[],[],[],[],[],[]])).2 x.2.1 [];cm (ag x.1.isSome (ag (0<=x.2.1/\x.2.1<Int.ofNat 10) (dG (λ(A:Int×Bool×List b1×Int×Int×b1×b1×Unit)=>letI g:=A.2.2;letI h:=g.2.2.1;letI e:=bz g.1 h ((0,0,0,0,0,0),0);bo (h<g.2.1) (cm (bS h g.1 (bo (e.2<=A.1) (bc (A.1,b3 e.1.2.2.2.1 1,g.1,g.2.1,h,A.cu,e,())) (bc (A.1,A.2.1,g.1,g.2.1,h,A.cu,A.ft,())))) (λA=>bc (A.1,A.2.1,A.2.2.1,A.2.2.2.1,a8 A.2.2.2.2.1,A.cu,A.ft,()))) (bY (A.2.1,A.cu,A.ft,()))) (x.2.2,false,f,aQ f,0,((0,0,0,0,0,0),0),((0,0,0,0,0,0),0),())))) λA=>mpure (A.2.2.1,A.1)
def adK(x:z1'->Prop):M (z1'):=
 aq (auW (x,())) λy=>aq (TK (y.1,())) λy=>mpure y.1
def avj(avk:Option (z4')->z1'->Prop)(x:z4'):M (z1'->Prop):=
 mpure (avk (some x))
def adL(x:bd×Int×(Int->M Int)):M (z17'):=
 aq (HP (x.1,λjo=>au1 (jo,some x.2.1))) λy=>bo (y.2≠0) (mpure ((0,0),y.2)) (aq (TL (y.1,λjo=>au2 (jo,some y.1,some x.2.1,some x.2.2))) (λy=>if !y.2 then mpure ((0,0),3) else mpure (y.1,0)))
def adM(x:Int×Option bd):M Int:=
 aq (ads ((x.2.getD ([],[],[],[],0,0,0,0,0,0,0)).2.2.2.2,x.1)) λy=>mpure y
def adN(x:uF×Int):M Int:=
 letI e:=x.1.2;letI d:=IntKind.wrap .i64 (e.2.1*IntKind.wrap .i64 (Int.tdiv (cD (e0 (sK (cD x.2 x.1.1) 0) e.1) 1) e.1));bo (x.2>=e.2.2.2.1) (mpure x.1.cu) (ag (e.1≠0) (mpure (if d<e.2.2.1 then d else e.2.2.1)))
def avl(x:Int):M Int:=
 mpure x
def adO(x:Option h1×Option Int):M Bool:=
 aq (TM (x.2.getD 0)) λy=>mpure y
def adP(x:Option h1×(Option ha->M (z28'))):M ((Int×Int)×Bool):=
 letI e:=(x.1.getD (([],[],[],[],0,0,0,0,0,0,0),[],[])).2.2;cm (ag x.1.isSome (dG (λA=>letI d:=A.2.2;letI f:=d.2.2.1;bo (f<d.2.1) (cm (bS f d.1 (aq (A.1 (bz d.1 f none)) (λy=>bg (!y.2) (bc (A.1,A.2.1,d.1,d.2.1,f,A.cu,())) (bg (!A.2.1) (bc (A.1,true,d.1,d.2.1,f,(y.1,y.1),())) (bc (A.1,A.2.1,d.1,d.2.1,f,(if y.1<A.cu.1 then y.1 else A.cu.1,sK y.1 A.cu.2),())))))) (λA=>bc (A.1,A.2.1,A.2.2.1,A.2.2.2.1,a8 A.2.2.2.2.1,A.cu,()))) (bY (A.2.1,A.cu,()))) (x.2,false,e,aQ e,0,(0,0),()))) λA=>mpure (A.2.1,A.1)
def adQ(x:Option ha×Option Int×Option bd):M (z28'):=
 bK (λA=>letI b:=A.2.2.2;bo (b.2.1<10) (cm (aq (TH (A.1,b.2.1,A.2.1)) (λy=>bg y.2 (bc (A.1,A.2.1,A.2.2.1,e0 b.1 A.2.2.1.2.2.2.2.2.2.2.2.2.2,b.2.1,())) (bc (A.1,A.2.1,A.2.2.1,b.1,b.2.1,())))) (λA=>bc (A.1,A.2.1,A.2.2.1,A.2.2.2.1,e0 A.2.2.2.2.1 1,()))) (bY (b.1,()))) (x.1,x.2.1.getD 0,x.2.2.getD ([],[],[],[],0,0,0,0,0,0,0),0,0,()) λA=>mpure (A.1,true)
def adR(x:Option h1×Option Int):M Bool:=
 aq (Mo (x.2.getD 0)) λy=>mpure y
def adS(x:Int):M Bool:=
 aq (te (x,0,99)) λy=>mpure y
def adT(x:Option ha×Option (Option h1)×Option Int×Option bd):M (z28'):=
 aq (adt (x.2.1.getD none,x.1)) λy=>aq (mM y) λab=>aq (kl (λA (y:bF×Int)=>letI b:=ads (A.2.1.2.2.2.2,y.2);aq (bo (y.1.2.2.2.2.2=A.1) (dB b (mpure (dS.normal,e0 A.2.2.1 (vG b),()))) (mpure (dS.normal,A.2.2.1,()))) λp=>mpure (p.1,A.1,A.2.1,p.2.1,())) ab (x.2.2.1.getD 0,x.2.2.2.getD ([],[],[],[],0,0,0,0,0,0,0),0,())) λp=>yF (mpure (p.2.2.2.1,true)) (λid=>if id=0 then mpure (p.2.2.2.1,true) else dZ) dZ p.1
def avm(avn:Option (Option ha)×Option (Option h1)->List b1->Prop)(x:Option h1×Option ha):M (List b1->Prop):=
 mpure (avn (some x.2,some x.1))
def adU(x:bd):M Bool:=
 letI q:=c' (aQ x.1) 3||c' (aQ x.2.1) 12||c' (aQ x.2.2.1) 12||c' (aQ x.2.2.2.1) 4;b_ (!q) (au3 x.2.2.2.2) false λy=>bg (q||!y) gp (bK (λA=>letI cY:=A.2.2;letI z:=bz A.1 cY.1 (0,0);bo (cY.1<A.2.1) (bS cY.1 A.1 (aq (te (z.1,-30,z.2)) (λy=>bg (!y||c' z.2 30) (cS false) (bc (A.1,A.2.1,a8 cY.1,cY.2.1,()))))) (bY (cY.2.1,()))) (x.1,aQ x.1,0,x,()) (λA=>bK (λA=>letI cw:=A.2.2.2.1;letI s:=A.2.2.1;letI w:=bz A.1 s (0,0);letI o:=te (w.1,0,w.2);letI t:=(!(pE o))=true;letI n:=pE o||c' w.2 9999;letI v:=(!n)=true;letI p:=(!n&&c' s 0)=true;letI u:=p->p/\True/\True;bo (s<A.2.1) (bS s A.1 (dB o (ag (t->t/\True/\True) (ag (t->(t/\True)/\True/\True) (ag (True/\(pE o=false->t)) (ag (v->(v/\True)/\True/\True) (ag (v->True/\True/\v) (ag u (ag u (ag (p->(p/\True)/\True/\True) (ag (p->(p/\p)/\(0<=cD s 1/\cD s 1<aQ cw.2.2.2.1)/\True) (ag u (ag u (ag (p->(p/\p)/\True/\True) (ag (v->(v/\(c' s 0=true->p))/\True/\True) (ag (True/\(n=false->v)) (bg (n||c' s 0&&ht w.1 (bz cw.2.2.2.1 (cD s 1) (0,0)).2) (cS false) (bc (A.1,A.2.1,a8 s,cw,()))))))))))))))))))) (bY (cw,()))) (A.1.2.2.2.1,aQ A.1.2.2.2.1,0,A.1,()) λA=>aq (adu (A.1.2.1,λx=>au4 (x,some A.1))) λy=>b_ (!y) (Md (A.1.2.2.1,au5)) false λcg=>mpure (!y&&!cg)))
def avo(x:List bF):M (List bF×Bool):=
 bK (λ(A:List bF×Int×Int×List (Int×bF)×Unit)=>letI i:=A.2.2.1;letI g:=A.2.2.2.1;letI f:=bz A.1 i (0,0,0,0,0,0);bo (i<A.2.1) (bS i A.1 (if (hi (λp=>b3 f.1 p.1) g).isSome&&!(b3 ((hi (λp=>b3 f.1 p.1) g).getD (0,0,0,0,0,0)).1 f.1&&(b3 ((hi (λp=>b3 f.1 p.1) g).getD (0,0,0,0,0,0)).2.1 f.2.1&&(b3 ((hi (λp=>b3 f.1 p.1) g).getD (0,0,0,0,0,0)).2.2.1 f.2.2.1&&(b3 ((hi (λp=>b3 f.1 p.1) g).getD (0,0,0,0,0,0)).2.2.2.1 f.2.2.2.1&&(b3 ((hi (λp=>b3 f.1 p.1) g).getD (0,0,0,0,0,0)).2.2.2.2.1 f.2.2.2.2.1&&b3 ((hi (λp=>b3 f.1 p.1) g).getD (0,0,0,0,0,0)).2.2.2.2.2 f.2.2.2.2.2))))) then cS ([],false) else bc (A.1,A.2.1,a8 i,nF g f.1 f,()))) (bY (g,()))) (x,aQ x,0,[],()) λA=>cm (aq (adv A.1) (λy=>aq (TI y) λy=>dG (λA=>letI h:=A.2.2;bo (h.1<A.2.1) (bS h.1 A.1 (eD h.2.1 (bc (A.1,A.2.1,a8 h.1,h.2.1++[(hi (λp=>b3 (bz A.1 h.1 0) p.1) h.2.2.1).getD (0,0,0,0,0,0)],h.2.2.1,())))) (bY (h.2.1,()))) (y,aQ y,0,[],A.1,()))) λA=>mpure (A.1,true)
def adV(x:bd):M Bool:=
 letI cw:=c' (aQ x.1) 3||c' (aQ x.2.1) 12||c' (aQ x.2.2.1) 12||c' (aQ x.2.2.2.1) 4;b_ (!cw) (au6 x.2.2.2.2) false λy=>bg (cw||!y) gp (bK (λA=>letI i1:=A.2.1;letI w:=bz i1.1 A.1 (0,0);letI E:=qt (w.1,-30,w.2);letI s:=pE E;letI v:=(!s)=true;letI f1:=v->v/\True/\True;fO A.1 i1.1 (bS A.1 i1.1 (dB E (ag f1 (ag (v->(v/\v)/\(0<=A.1/\A.1<aQ i1.1)/\True) (ag f1 (ag f1 (ag (v->(v/\True)/\True/\True) (ag (True/\(s=false->v)) (bg (s||c' w.2 30) (cS false) (bc (a8 A.1,i1,()))))))))))) (bY (i1,()))) (0,x,()) (λA=>bK (λA=>letI bE:=au7 (A.2.1,bz A.2.1.2.1 A.1 (0,0,0,0,0,0));fO A.1 A.2.1.2.1 (dB bE (bg (pE bE) (cS false) (bc (a8 A.1,A.2.1,())))) (bY (A.2.1,()))) (0,A.1,()) λA=>bK (λA=>fO A.1 A.2.1.2.2.1 (aq (qt (bz A.2.1.2.2.1 A.1 0,0,99)) (λy=>bg (!y) (cS false) (bc (a8 A.1,A.2.1,())))) (bY (A.2.1,()))) (0,A.1,()) λA=>bK (λA=>letI aM:=cD A.1 1;letI mC:=c' A.1 0;letI dx:=A.2.1.2.2.2.1;letI z:=bz dx A.1 (0,0);letI t:=qt (z.1,0,z.2);letI cY:=(!(pE t))=true;letI q:=pE t||c' z.2 9999;letI aB:=(!q)=true;letI u:=(!q&&mC)=true;letI d1:=u->u/\True/\True;fO A.1 dx (dB t (ag (cY->cY/\True/\True) (ag (cY->(cY/\True)/\True/\True) (ag (True/\(pE t=false->cY)) (ag (aB->(aB/\True)/\True/\True) (ag (aB->True/\True/\aB) (ag d1 (ag d1 (ag (u->(u/\True)/\True/\True) (ag (u->(u/\u)/\(0<=aM/\aM<aQ dx)/\True) (ag d1 (ag d1 (ag (u->(u/\u)/\True/\True) (ag (aB->(aB/\(mC=true->u))/\True/\True) (ag (True/\(q=false->aB)) (bg (q||mC&&ht z.1 (bz dx aM (0,0)).2) (cS false) (bc (a8 A.1,A.2.1,())))))))))))))))))) (bY ())) (0,A.1,()) λA=>h0))
def adW(x:bF×Int×Int×Int×Int×Int×Int):M Bool:=
 mpure (b3 x.1.1 x.2.1&&!(b3 x.1.1 x.2.1&&(b3 x.1.2.1 x.2.2.1&&(b3 x.1.2.2.1 x.2.2.2.1&&(b3 x.1.2.2.2.1 x.2.2.2.2.1&&(b3 x.1.2.2.2.2.1 x.cu&&b3 x.1.2.2.2.2.2 x.2.2.2.2.2.2))))))
def adX(x:z16'):M Bool:=
 aq (rZ x) λy=>mpure y
def avp(x:Option h1×Option Int):M Bool:=
 aq (TM (x.2.getD 0)) λy=>mpure y
def adY(x:bd×Int×Int):M Int:=
 bK (λA=>letI e:=A.2.2.2;letI d:=bz e.1 A.cu (0,0);bo (A.cu<e.2.1) (bS A.cu e.1 (bc (A.1,A.2.1,cD A.2.2.1 (sK (a8 (cD (if cD A.2.1 1<d.2 then cD A.2.1 1 else d.2) (sK A.1 d.1))) 0),e.1,e.2.1,a8 A.cu,()))) (bY (A.2.2.1,()))) (x.2.1,x.2.2,cD x.2.2 x.2.1,x.1.2.2.2.1,aQ x.1.2.2.2.1,0,()) λA=>mpure A.1
def adZ(x:z4'):M (z4'):=
 aq (mM (λb=>b=true->x=[])) λy=>bg y (mpure []) (i' x (mpure ([]++x)))
def ad0(x:bF×Option bd):M Bool:=
 aq (Bq ((x.2.getD ([],[],[],[],0,0,0,0,0,0,0)).2.2.1,x.1.1)) λy=>mpure y
def ad1(x:Option h1×Option Int):M Bool:=
 ag x.1.isSome (aq (adu ((x.1.getD (([],[],[],[],0,0,0,0,0,0,0),[],[])).2.1,λjo=>au9 (jo,some (x.2.getD 0)))) (λy=>mpure y))
def avq(x:List bF×(z21'->M Bool)):M Bool:=
 aq (adw x) λy=>mpure (decide (y>=0))
def avr(x:bF×Option Int):M Bool:=
 mpure (b3 x.1.1 (x.2.getD 0)&&b3 x.1.2.2.2.1 1)
def ad2(x:Option ha×Option (Option h1)×Option Int×Option (Int->M Int)):M (z28'):=
 aq (adt (x.2.1.getD none,x.1)) λy=>aq (mM y) λab=>aq (kl (λA (y:bF×Int)=>aq (bo (y.1.1=A.1) (aq (A.2.1 y.2) (λy=>mpure (dS.ret,y,true,()))) (mpure (dS.normal,A.2.2.1,A.2.2.2.1,()))) λp=>mpure (p.1,A.1,A.2.1,p.2.1,p.2.2.1,())) ab (x.2.2.1.getD 0,x.2.2.2.getD λx=>{ fm:=False,a7:=λx=>False },0,false,())) λp=>yF (mpure (0,false)) (λid=>if id=0 then mpure (0,false) else dZ) (mpure (p.2.2.2.1,p.2.2.2.2.1)) p.1
def ad3(x:Int×z21'):M Bool:=
 bK (λA=>bo (A.2.1<A.1) (bS A.2.1 A.2.2.2.1 (aq (te (bz A.2.2.2.1 A.2.1 0,0,100000)) (λy=>if !y then cS false else bc (A.1,a8 A.2.1,A.2.2.1,A.2.2.2.1,())))) (bY (A.2.2.1,()))) (Int.ofNat (Add.add (Add.add (Add.add (Add.add 0 1) 1) 1) 1),0,x,[x.2.2.1,x.2.2.2.1,x.cu,x.2.2.2.2.2.2],()) λA=>aq (te (A.1.1,0,9999)) λy=>b_ y (te (A.1.2.1,1,9999)) false λcg=>b_ (y&&cg) (te (A.1.2.2.2.2.1,1,9999)) false λei=>mpure (y&&cg&&ei)
def ad4(x:bF×Option bd):M Bool:=
 aq (au_ (x.2.getD ([],[],[],[],0,0,0,0,0,0,0),x.1)) λy=>mpure (!y)
def ad5(x:bd×Int×Int×Int×Int×Int×Int):M Bool:=
 letI f:=x.2.2.2.2;letI d:=b3 f.1 1||b3 f.1 2&&b3 f.2.2 0;b_ d (Mo x.2.1) false λy=>b_ (d&&y) (Mo f.2.2) false λcg=>b_ (d&&y&&cg) (te (x.2.2.1,0,cD (aQ x.1.1) 1)) false λei=>letI e:=d&&y&&cg&&ei;b_ e (te (x.2.2.2.1,0,9999)) false λhv=>b_ (e&&hv) (te (x.cu,0,9)) false λkW=>mpure (e&&hv&&kW)
def ad6(x:Int):M Bool:=
 aq (Mo x) λy=>mpure (!y)
def avs(avt:Option (List (Int×bF))->z1'->Prop)(x:List (Int×bF)):M (z1'->Prop):=
 mpure (avt (some x))
def ad7(x:Int×z21'):M Bool:=
 aq (qt (x.1,0,9999)) λy=>b_ y (qt (x.2.1,1,9999)) false λcg=>b_ (y&&cg) (qt (x.2.2.2.2.1,1,9999)) false λei=>b_ (y&&cg&&ei) (qt (x.2.2.1,0,100000)) false λhv=>letI b:=y&&cg&&ei&&hv;b_ b (qt (x.2.2.2.1,0,100000)) false λkW=>b_ (b&&kW) (qt (x.cu,0,100000)) false λtc=>b_ (b&&kW&&tc) (qt (x.2.2.2.2.2.2,0,100000)) false λyY=>mpure (b&&kW&&tc&&yY)
def ad8(x:bd×Int×Int×Int×Int×Int×Int):M Bool:=
 letI d:=x.2.2.2.2;aq (qt (x.2.1,0,99)) λy=>b_ (!(!y)) (qt (x.2.2.1,0,cD (aQ x.1.1) 1)) false λcg=>b_ (!(!y||!cg)) (qt (x.2.2.2.1,0,9999)) false λei=>letI c:=!y||!cg||!ei;b_ (!c) (qt (x.cu,0,9)) false λhv=>b_ (!(c||!hv)) (qt (d.2.2,0,99)) false λkW=>bg (c||!hv||!kW) gp (mpure (b3 d.1 1||b3 d.1 2&&b3 d.2.2 0))
def ad9(aN0:Int->M Int)(avu:Int->M Int)(x:Int):M Int:=
 aq (avu x) λy=>mpure y
def avv(x:List bF×(z21'->M Bool)):M Int:=
 bK (λA=>letI b:=A.2.2.2.1;bo (b<A.2.2.1) (bS b A.1 (aq (A.2.1 (bz A.1 b (0,0,0,0,0,0))) (λy=>bg y (cS b) (bc (A.1,A.2.1,A.2.2.1,a8 b,()))))) (bY ())) (x.1,x.2,aQ x.1,0,()) λA=>mpure (-1)
def HR(x:Int):M Int:=
 cm (bo (x>=4294967296) (ag ((0:Int)<=32) (bc (la .u64 x 32,32,()))) (bc (x,0,()))) λA=>cm (bo (A.1>=65536) (ag ((0:Int)<=16) (bc (la .u64 A.1 16,e0 A.2.1 16,()))) (bc (A.1,A.2.1,()))) λA=>cm (bo (A.1>=256) (ag ((0:Int)<=8) (bc (la .u64 A.1 8,e0 A.2.1 8,()))) (bc (A.1,A.2.1,()))) λA=>letI b:=IntKind.wrap .u8 A.1;ag (0<=b/\b<Int.ofNat 256) (mpure (e0 A.2.1 (IntKind.wrap .i64 (Int.ofNat (auD.getD b.toNat 0).1.1.1))))
def ad_(x:z1'):M (z1'):=
 aq (mM (λb=>b=true->x=[])) λy=>bg y (mpure []) (i' x (mpure ([]++x)))
def ad'(x:b1×bF×Int):M Int:=
 aq (au' (x.1.2,x.2.2)) λy=>mpure y
def aea(x:z12'):M Int:=
 aq (adx x.1) λy=>aq (adx x.2) λcg=>bg y (bg cg (mpure 0) (mpure (-1))) (bg cg (mpure 1) (bo (x.1<x.2) (mpure (-1)) (bo (x.1 > x.2) (mpure 1) (mpure 0))))
def aeb(x:Int):M Bool:=
 mpure (eH x x)
def aec(x:(z1'->Prop)×Unit):M (z14'):=
 aq (mM x.1) λab=>aq (kl (λA (y:Int)=>aq (eD A.1 (mpure (dS.normal,A.1++[y],()))) λp=>mpure (p.1,p.2.1,())) ab ([],())) λp=>yF (mpure (p.2.1,())) (λid=>if id=0 then mpure (p.2.1,()) else dZ) dZ p.1
def aed(x:(z1'->Prop)×Unit):M (z14'):=
 aq (ava (x.1,())) λy=>mpure (y.1,())
def aee(x:(z21'->M Bool)×List bF×Unit):M ((z24')×List bF×Unit):=
 aq (adw (x.2.1,x.1)) λy=>bo (y=-1) (mpure ((0,x.2.1.length),x.2.1,())) (bK (λA=>letI l:=A.2.2.1;letI i:=A.2.2.2.1;letI m:=bz i l (0,0,0,0,0,0);iA l i (cm (bS l i (aq (A.1 m) (λy=>if !y then bS A.2.1 i (bc (A.1,a8 A.2.1,l,List.set i A.2.1.toNat m,())) else bc (A.1,A.2.1,l,i,())))) (λA=>bc (A.1,A.2.1,a8 A.2.2.1,A.2.2.2.1,()))) (bY (A.2.1,i,()))) (x.1,y,a8 y,x.2.1,()) (λA=>letI k:=A.1.toNat;letI j:=aQ A.2.1;letI h:=A.2.1.take k++List.replicate (j.toNat-k) (0,0,0,0,0,0)++A.2.1.drop (Add.add k (List.replicate (j.toNat-k) ((0,0,0,0,0,0):bF)).length);ag (0<=A.1/\A.1<=j/\j<=j) (ag True (ag ((0:Int)<=0/\0<=A.1/\A.1<=aQ h) (mpure ((Int.toNat 0,k),h,()))))))
def Mp(x:Nat×Option ha×Option h1×(Nat×(List b1->Prop)×List b1×Bool)×Unit):M ((Nat×(List b1->Prop)×List b1×Bool)×Unit):=
 ag x.2.1.isSome (dG (λA=>letI n:=A.2.2.2;bo (n.1<10) (cm (ag (0<=n.1/\n.1<Int.ofNat 10) (dG (λ(A:Nat×Option h1×List b1×Int×List (List b1)×Int×(Nat×(List b1->Prop)×List b1×Bool)×Unit)=>letI o:=A.ft;letI l:=A.2.2;letI p:=l.2.1;letI k:=bz l.1 p ((0,0,0,0,0,0),0);letI j:=adq ((A.2.1.getD (([],[],[],[],0,0,0,0,0,0,0),[],[])).1,k.2,(bz l.1 (a8 p) ((0,0,0,0,0,0),0)).2);iA (a8 p) l.1 (bS p l.1 (ag A.2.1.isSome (bS p l.1 (bS (a8 p) l.1 (dB j (aq (ag (A.1=o.1/\o.2.2.2=false/\(∃ (T:List b1),o.2.1 (o.2.2.1++(k.1,vG j)::T))) (mM (λx=>True))) (λy=>letI m:=(o.1,o.2.1,o.2.2.1++[(k.1,vG j)],!y);if !y then iO (cS (m,())) else bc (A.1,A.2.1,l.1,e0 p 2,l.2.2.1,A.cu,m,())))))))) (bY (A.1,A.2.1,l.2.2.1,A.cu,o,()))) (A.1,A.2.1,bz A.2.2.1 n.1 [],0,A.2.2.1,n.1,n.2.1,()))) (λA=>bc (A.1,A.2.1,A.2.2.1,a8 A.2.2.2.1,A.2.2.2.2.1,()))) (pD (n.2.1,()))) (x.1,x.2.2.1,(x.2.1.getD ([],[[],[],[],[],[],[],[],[],[],[]])).2,0,x.2.2.2.1,()))
def aef(x:Int×Int×(b1×bF×Int->M Int)×List b1×Unit):M (List b1×Unit):=
 dG (λA=>letI t:=A.2.2.2;bo (t.1<A.2.1) (bK (λ(A:Int×Int×(b1×bF×Int->M Int)×Int×Int×List b1×Unit)=>letI u:=A.2.2;letI q:=A.cu;letI n:=u.2.2.1;letI v:=c' n A.1;letI s:=bz q n ((0,0,0,0,0,0),0);letI p:=cD n 1;letI o:=bz q p ((0,0,0,0,0,0),0);letI w:=List.set q n.toNat o;letI m:=v=true;letI z:=m->m/\True/\True;ag (m->(m/\m)/\(0<=n/\n<aQ q)/\True) (ag z (ag (m->(m/\True)/\True/\True) (ag (m->(m/\m)/\(0<=p/\p<aQ q)/\True) (ag z (ag (m->m/\m/\m/\True) (b_ v (u.1 (s,o)) 0 (λy=>if v&&eV y 0 then bS p q (bS n q (bS n q (bS p w (bc (A.1,A.2.1,u.1,u.2.1,p,List.set w p.toNat s,()))))) else bY (A.1,A.2.1,u.1,u.2.1,q,()))))))))) (A.1,A.2.1,A.2.2.1,t.1,t.1,t.2.1,()) (λA=>bc (A.1,A.2.1,A.2.2.1,a8 A.2.2.2.1,A.2.2.2.2.1,()))) (pD (t.2.1,()))) (x.1,x.2.1,x.2.2.1,a8 x.1,x.2.2.2.1,())
def TN(x:Nat×z4'×(Nat×(z1'->Prop)×z1'×Bool)×Unit):M ((Nat×(z1'->Prop)×z1'×Bool)×Unit):=
 aq (mpure ()) λy=>dG (λA=>letI f:=A.2.1;letI e:=A.2.2.1;aq (K1 e.2) λy=>bg y.isSome (aq (ag (qg e.1 e.2 y).isSome (mpure ())) (λcg=>aq (ag (A.1=f.1/\f.2.2.2=false/\(∃ (T:z1'),f.2.1 (f.2.2.1++(Option.map (λx=>x.1) (qg e.1 e.2 y)).getD 0::T))) (mM (λx=>True))) λei=>letI d:=(f.1,f.2.1,f.2.2.1++[(Option.map (λx=>x.1) (qg e.1 e.2 y)).getD 0],!ei);bg (!ei) (pD (d,())) (bc (A.1,d,(qg e.1 e.2 y,GJ e.2 y),())))) (pD (f,()))) (x.1,x.2.2.1,(none,x.2.1),())
def TO(x:Nat×List (Int×bF)×(Nat×(z1'->Prop)×z1'×Bool)×Unit):M ((Nat×(z1'->Prop)×z1'×Bool)×Unit):=
 aq (mpure ()) λy=>dG (λA=>letI f:=A.2.1;letI e:=A.2.2.1;aq (K1 e.2) λy=>bg y.isSome (aq (ag (qg e.1 e.2 y).isSome (mpure ())) (λcg=>aq (ag (A.1=f.1/\f.2.2.2=false/\(∃ (T:z1'),f.2.1 (f.2.2.1++(Option.map (λx=>x.1) (qg e.1 e.2 y)).getD 0::T))) (mM (λx=>True))) λei=>letI d:=(f.1,f.2.1,f.2.2.1++[(Option.map (λx=>x.1) (qg e.1 e.2 y)).getD 0],!ei);bg (!ei) (pD (d,())) (bc (A.1,d,(qg e.1 e.2 y,GJ e.2 y),())))) (pD (f,()))) (x.1,x.2.2.1,(none,x.2.1),())
def avw(x:List bF×Unit):M (Bool×List bF×Unit):=
 bK (λ(A:List bF×Int×Int×List (Int×bF)×Unit)=>letI i:=A.2.2.1;letI g:=A.2.2.2.1;letI f:=bz A.1 i (0,0,0,0,0,0);bo (i<A.2.1) (bS i A.1 (if (hi (λp=>b3 f.1 p.1) g).isSome&&!(b3 ((hi (λp=>b3 f.1 p.1) g).getD (0,0,0,0,0,0)).1 f.1&&(b3 ((hi (λp=>b3 f.1 p.1) g).getD (0,0,0,0,0,0)).2.1 f.2.1&&(b3 ((hi (λp=>b3 f.1 p.1) g).getD (0,0,0,0,0,0)).2.2.1 f.2.2.1&&(b3 ((hi (λp=>b3 f.1 p.1) g).getD (0,0,0,0,0,0)).2.2.2.1 f.2.2.2.1&&(b3 ((hi (λp=>b3 f.1 p.1) g).getD (0,0,0,0,0,0)).2.2.2.2.1 f.2.2.2.2.1&&b3 ((hi (λp=>b3 f.1 p.1) g).getD (0,0,0,0,0,0)).2.2.2.2.2 f.2.2.2.2.2))))) then cS (false,[],()) else bc (A.1,A.2.1,a8 i,nF g f.1 f,()))) (bY (g,()))) (x.1,aQ x.1,0,[],()) λA=>cm (aq (adv A.1) (λy=>aq (TI y) λy=>dG (λA=>letI h:=A.2.2;bo (h.1<A.2.1) (bS h.1 A.1 (eD h.2.1 (bc (A.1,A.2.1,a8 h.1,h.2.1++[(hi (λp=>b3 (bz A.1 h.1 0) p.1) h.2.2.1).getD (0,0,0,0,0,0)],h.2.2.1,())))) (bY (h.2.1,()))) (y,aQ y,0,[],A.1,()))) λA=>mpure (true,A.1,())
abbrev qu:Type:=List b1×List b1×List b1×List b1×List b1×List b1×List b1×List b1×List b1×List b1×j6
def oZ:Nat->qu->List b1
 | 0,r=>r.1
 | 1,r=>r.2.1
 | 2,r=>r.2.2.1
 | 3,r=>r.2.2.2.1
 | 4,r=>r.2.2.2.2.1
 | 5,r=>r.2.2.2.2.2.1
 | 6,r=>r.2.2.2.2.2.2.1
 | 7,r=>r.2.2.2.2.2.2.2.1
 | 8,r=>r.2.2.2.2.2.2.2.2.1
 | 9,r=>r.2.2.2.2.2.2.2.2.2.1
 | _,_=>[]
def Mq:Nat->List b1->qu->qu
 | 0,v,r=>(v,r.2)
 | 1,v,r=>(r.1,v,r.2.2)
 | 2,v,r=>(r.1,r.2.1,v,r.2.2.2)
 | 3,v,r=>(r.1,r.2.1,r.2.2.1,v,r.2.2.2.2)
 | 4,v,r=>(r.1,r.2.1,r.2.2.1,r.2.2.2.1,v,r.2.2.2.2.2)
 | 5,v,r=>(r.1,r.2.1,r.2.2.1,r.2.2.2.1,r.2.2.2.2.1,v,r.2.2.2.2.2.2)
 | 6,v,r=>(r.1,r.2.1,r.2.2.1,r.2.2.2.1,r.2.2.2.2.1,r.2.2.2.2.2.1,v,r.2.2.2.2.2.2.2)
 | 7,v,r=>(r.1,r.2.1,r.2.2.1,r.2.2.2.1,r.2.2.2.2.1,r.2.2.2.2.2.1,r.2.2.2.2.2.2.1,v,r.2.2.2.2.2.2.2.2)
 | 8,v,r=>(r.1,r.2.1,r.2.2.1,r.2.2.2.1,r.2.2.2.2.1,r.2.2.2.2.2.1,r.2.2.2.2.2.2.1,r.2.2.2.2.2.2.2.1,v,r.2.2.2.2.2.2.2.2.2)
 | 9,v,r=>(r.1,r.2.1,r.2.2.1,r.2.2.2.1,r.2.2.2.2.1,r.2.2.2.2.2.1,r.2.2.2.2.2.2.1,r.2.2.2.2.2.2.2.1,r.2.2.2.2.2.2.2.2.1,v,r.2.2.2.2.2.2.2.2.2.2)
 | _,_,r=>r
abbrev aeg(r:qu):j6:=r.2.2.2.2.2.2.2.2.2.2
def TP{X:Type}(l:List b1)(x:b1)(i k:Int)(aI B:M X):M X:=
 letI z:=decide (i > 0);letI y:=IntKind.wrap .i64 (i-1);letI n:=decide (x.1.2.2.2.1≠k);letI m:=(!n)=true;letI b:=(!n&&z)=true;letI c:=b->b/\True/\True;ag (m->(m/\True)/\True/\True) (ag (m->True/\True/\m) (ag c (ag (b->(b/\True)/\True/\True) (ag (b->(b/\b)/\(0<=y/\y<Int.ofNat (List.length l))/\True) (ag c (ag c (ag (b->(b/\b)/\True/\True) (ag (m->(m/\(z=true->b))/\True/\True) (ag (True/\(n=false->m)) (if (n||z&&decide (x.2=(List.getD l (Int.toNat y) ((0,0,0,0,0,0),0)).2))=true then aI else B))))))))))
def Mr(k:Nat)(A:Int×Int×Int×z1'×qu):M (aF (Int×Int×Int×z1'×qu) (aF (Int×z1'×qu) (aF (z1'×qu) (Option ha×Bool×j6)))):=
 letI i:=A.2.2.1;letI l:=oZ k A.2.2.2.2;letI x:=List.getD l (Int.toNat i) ((0,0,0,0,0,0),0);if decide (i<A.2.1)=true then ag (0<=i/\i<Int.ofNat (List.length l)) (aq (ag ((2:Int)≠0) (if decide (Int.tmod i (2:Int)=1)=true then mpure (aF.next (i,2,A.1,A.2.1,i,x,A.2.2.2)) else mpure (aF.next (i,1,A.1,A.2.1,i,x,A.2.2.2)))) (aF.gb (λ(bk:Int×Int×Int×Int×Int×b1×z1'×qu)=>letI r:=bk.2.2.2.2.2.2.2;TP (oZ k r) bk.2.2.2.2.2.1 bk.1 bk.2.1 (aq (aq (aq (mpure (none,false,aeg r)) (λr=>mpure (aF.done r))) (λr=>mpure (aF.done r))) λr=>mpure (aF.done r)) (mpure (aF.next (bk.2.2.1,bk.2.2.2.1,IntKind.wrap .i64 (Add.add bk.2.2.2.2.1 1),bk.2.2.2.2.2.2)))))) else aq (mpure (aF.next (A.1,A.2.2.2))) λr=>mpure (aF.done r)
def HS(aeh:(b1×bF×Int->M Int)×List b1×Unit->M (List b1×Unit))(aei:b1×bF×Int->M Int):Nat->Nat->z1'×qu->M (aF (z1'×qu) (Option ha×Bool×j6))
 | 0,_,s=>mpure (.next s)
 | n+1,k,s=>aq (ag (0<=Int.ofNat k/\Int.ofNat k<Int.ofNat 10) (aq (aeh (aei,oZ k s.2,())) (λy=>dG (Mr k) (Int.ofNat k,Int.ofNat (List.length y.1),0,s.1,Mq k y.1 s.2)))) (aF.gb (λ(bk:Int×z1'×qu)=>ag (IntKind.wrap .i64 (Add.add bk.1 1)=Int.ofNat (k+1)) (HS aeh aei n (k+1) bk.2)))
def Ms{X:Type}(f:Nat->M X)(v:Int):Nat->M X
 | 0=>f 0
 | n+1=>if v=Int.ofNat (Add.add n 1) then f (n+1) else Ms f v n
def aej{X:Type}(A:z1'×List bF×Int×Int×z1'×qu)(u:Nat):M (aF (z1'×List bF×Int×Int×z1'×qu) X):=
 letI a:=List.getD A.2.1 (Int.toNat A.2.2.2.1) (0,0,0,0,0,0);letI r:=A.2.2.2.2.2;letI p:=0<=Int.ofNat u/\Int.ofNat u<Int.ofNat 10;ag True (ag p (ag (0<=a.2.1/\a.2.1<Int.ofNat (List.length A.1)) (ag (cb (Add.add (List.length (oZ u r)) (Add.add 0 1))) (ag True (ag p (mpure (aF.next (A.1,A.2.1,A.2.2.1,A.2.2.2.1,A.2.2.2.2.1,Mq u (oZ u r++[((a.1,a.2.1,a.2.2.1,a.2.2.2.1,Int.ofNat u,a.2.2.2.2.2),IntKind.wrap .i64 (Add.add a.2.2.1 (List.getD A.1 (Int.toNat a.2.1) 0)))]) r))))))))
def aek(x:z1'×j6):M (Option ha×Bool×j6):=
 cm (aq (avb x.1) (λy=>bc (x.1,y,x.2.1,x.2.2.1,x.2.2.2.1,x.2.2.2.2.1,x.cu,x.ft,x.h2,x.kX,x.mh,x.mD,x.jc,x.oi,x.qs,[],[],[],[],[],[],[],[],[],[],()))) λA=>cm (ag True (dG (λA=>letI d:=A.2.2.2;letI b:=(bz A.2.1 d.1 (0,0,0,0,0,0)).2.2.2.2.1;bo (d.1<A.2.2.1) (cm (bS d.1 A.2.1 (ag (0<=b/\b<Int.ofNat 10) (Ms (aej A) b 9))) (λA=>bc (A.1,A.2.1,A.2.2.1,a8 A.2.2.2.1,A.2.2.2.2))) (bY d.2)) (A.1,A.qs,aQ A.qs,0,A.2.1,A.Bs,A.HO,A.TD,A.TE,A.TF,A.auE,A.auF,A.TG,A.auG,A.auH,A.2.2.1,A.2.2.2.1,A.2.2.2.2.1,A.cu,A.ft,A.h2,A.kX,A.mh,A.mD,A.jc,A.oi,A.qs,A.vJ,()))) λA=>cm (ag True (ag (0=Int.ofNat 0) (HS avc avd 10 0 A))) λA=>letI c:=A.2;mpure (some (A.1,[oZ 0 c,oZ 1 c,oZ 2 c,oZ 3 c,oZ 4 c,oZ 5 c,oZ 6 c,oZ 7 c,oZ 8 c,oZ 9 c]),true,aeg c)
def ael(x:Int×Int×Int×(b1×bF×Int->M Int)×List b1×Unit):M (List b1×Unit):=
 dG (λA=>bo (cD A.2.1 A.1<=12) (aq (ave (A.1,A.2.1,A.2.2.2.1,A.ft,())) (λy=>pD (y.1,()))) dZ) (x.1,x.2.1,x.2.2.1,x.2.2.2.1,true,true,x.2.2.2.2.1,())
def aem(x:z1'×j6):M (j6):=
 letI g:=aQ x.1;ag True (bo (g=aQ x.2.1) (cm (aq (avf (x.1,x.2.1,x.2.2.1,x.2.2.2.1,x.2.2.2.2.1,x.cu,x.ft,x.h2,x.kX,x.mh,x.mD,x.jc,x.oi,x.qs,())) (λy=>bg y.2.1 (ag True (eD y.vJ (ag True (bc (y.2.2.1,y.2.2.2.1,y.2.2.2.2.1,y.cu,y.ft,y.h2,y.kX,y.mh,y.mD,y.jc,y.oi,y.qs,y.vJ++[y.1],()))))) (bc (y.2.2.1,y.2.2.2.1,y.2.2.2.2.1,y.cu,y.ft,y.h2,y.kX,y.mh,y.mD,y.jc,y.oi,y.qs,y.vJ,())))) (λA=>mpure (A.1,A.2.1,A.2.2.1,A.2.2.2.1,A.2.2.2.2.1,A.cu,A.ft,A.h2,A.kX,A.mh,A.mD,A.jc,A.oi,()))) (ag True (bS g x.2.1 (dG (λA=>letI f:=A.2;letI h:=A.1.take f.1.toNat;ag True (bS f.1 f.2.2.1 (bo (f.2.1<=(bz f.2.2.1 f.1 (0,0)).2) (ag ((0:Int)<=0/\0<=f.1/\f.1=f.1/\f.1<=aQ A.1) (ag (0<Add.add 0 1/\cb (Add.add h.length (Add.add 0 1))) (aq (adr (h++[f.2.1],f.2.2.1,f.2.2.2.1,A.cu,A.ft,A.h2,A.kX,A.mh,A.mD,A.jc,A.oi,A.qs,A.vJ,A.Bs,())) (λy=>bc (A.1,f.1,a8 f.2.1,y.1,y.2.1,y.2.2.1,y.2.2.2.1,y.2.2.2.2.1,y.cu,y.ft,y.h2,y.kX,y.mh,y.mD,y.jc,y.oi,()))))) (pD (f.2.2.1,f.2.2.2.1,A.cu,A.ft,A.h2,A.kX,A.mh,A.mD,A.jc,A.oi,A.qs,A.vJ,A.Bs,()))))) (x.1,g,(bz x.2.1 g (0,0)).1,x.2.1,x.2.2.1,x.2.2.2.1,x.2.2.2.2.1,x.cu,x.ft,x.h2,x.kX,x.mh,x.mD,x.jc,x.oi,x.qs,())))))
def avx(x:(b1×bF×Int->M Int)×List b1×Unit):M (List b1×Unit):=
 aq (avg (IntKind.wrap .u64 (aQ x.2.1))) λy=>aq (avh (0,aQ x.2.1,y,x.1,x.2.1,())) λy=>mpure (y.1,())
end Go.Fer.H
namespace Go.Fer.H
abbrev bH:V:=.int .i64
abbrev dY:V:=.bool
abbrev hK:V:=.slice bH
abbrev o0:V:=.ad (.au bH bH)
abbrev TQ:V:=.ad (.au bH (.au bH (.au bH (.au bH (.au bH (.au bH bH))))))
abbrev lq:V:=.ad (.au (.slice o0) (.au (.slice ja) (.au hK (.au (.slice o0) TQ))))
abbrev Mt:V:=.ad (.au ja bH)
abbrev Bu:V:=.ad (.au hK (.array 10 (.slice Mt)))
abbrev vL:V:=.ad (.au lq (.au (.slice ja) (.slice (.bM Bu))))
attribute [simp] vH S6 xw ff Fz Pu iE kp rV me lK cK uD dd kV S5 aF.pF
section
variable {af:Type}
def Bv(d:af)(x:List af×(af->M Bool)):M Int:=
 aq (dG (λ(A:List af×(af->M Bool)×Int×Int×Unit)=>if decide (A.2.2.2.1<A.2.2.1)=true then ag (0<=A.2.2.2.1/\
 A.2.2.2.1<Int.ofNat (List.length A.1)) (aq (A.2.1 (List.getD A.1 (Int.toNat A.2.2.2.1) d)) λy=>if y=true then aq (aq (mpure
 A.2.2.2.1) λr=>mpure (aF.done r)) λr=>mpure (aF.done r) else mpure (aF.next (A.1,A.2.1,A.2.2.1,IntKind.wrap .i64 (Add.add
 A.2.2.2.1 1),()))) else aq (mpure (aF.next ())) λr=>mpure (aF.done r)) (x.1,x.2,Int.ofNat (List.length x.1),0,())) (aF.gb λ(A
 : Unit)=>mpure (-1))
def HT(c:List af×(af->M Bool)->M Int)(x:List af×(af->M Bool)):M Bool:=aq (c x) λy=>mpure (decide (y>=0))
def jK(p:af->Bool):List af->Int->Int
 | [],_=>-1
 | x::l,i=>if p x=true then i else jK p l (i+1)
theorem D0(p:af->Bool):∀ (l:List af) (i:Int),0<=i->(decide (jK p l i>=0))=l.any p
 | [],i,_=>by rfl
 | x::l,i,h=>by
  simp  [jK];by_cases ao:p x=true
  ·grind
  ·have:=D0 p l (i+1) (by omega);grind
theorem D1(p:af->Bool):∀ (l:List af) (i:Int),fb (λx (i:Int)=>if p x=true then (.done (.done i):aF Int (aF Unit Int)) else .next (i+1)) (λ_=>.next ()) l i=if l.any p=true then .done (jK p l i) else .next ()
 | [],i=>by rfl
 | x::l,i=>by
  simp  [fb,jK];by_cases ao:p x=true
  ·grind
  ·have:=D1 p l (i+1);grind
theorem HU{p:af->Bool}:∀ (l:List af) (i:Int),¬l.any p=true->jK p l i=-1
 | [],_,_=>rfl
 | x::l,i,aA=>by
  simp only[aQC,aPO,not_or]at aA;simp  [jK,aA.1,aPA];exact HU l _ aA.2
theorem TR(d:af)(l:List af)(f:af->M Bool)(h:l.length<2 ^ 63)(ax:∀ y∈l,∃ b,f y=mpure b):Bv d (l,f)=mpure (jK (λy=>(f y).val false) l 0):=by
 unfold Bv;rw[e6 l (λi b=>(l,f,(l.length:Int),b,())) (λy i=>if (f y).val false=true then (.done (.done i)) else .next (i+1)) (λ_=>.next ()) (λi b=>b=(i:Int)) 0 ?_ ?_ ?_ ?_]
 ·rw[D1 (λy=>(f y).val false)];by_cases aW:(l.any λy=>(f y).val false)=true
  ·simp[aW]
  ·have:jK (λy=>(f y).val false) l 0=-1:=by
    have:∀ (l:List af) (i:Int),¬(l.any λy=>(f y).val false)=true->jK (λy=>(f y).val false) l i=-1:=by
     intro l;induction l with
     | nil=>intro i _;rfl
     | cons x l aO=>
      simp  [jK,aPA];grind
    grind
   simp[aW,this]
 ·rfl
 ·rfl
 ·intro i G b U;subst U;have hw:=bp (n:=i+1);refine⟨?_,λbf eg=>?_⟩
  ·obtain⟨b,U⟩:=ax _ (amm G);simp only[ct,dP G,if_true,d_ G,dt G,cj,U,kp,aK,dd,hw];split<;>rfl
  grind
 simp
end
abbrev kY(e:V):aN:=⟨.au (.slice e) (.fn e .bool),bH,λx=>x.1.length<2 ^ 63/\∀ y∈x.1,∃ b,x.2 y=mpure b,λx=>jK (λy=>(x.2 y).val false) x.1 0⟩
theorem tf(e:V)(x):a6 (Bv e.dU x) ((kY e).sh x):=bx λh=>TR e.dU x.1 x.2 h.1 h.2
abbrev h4(e:V):aN:=⟨.au (.slice e) (.fn e .bool),dY,λx=>x.1.length<2 ^ 63/\∀ y∈x.1,∃ b,x.2 y=mpure b,λx=>x.1.any λy=>(x.2 y).val false⟩
theorem tg(e:V)(x):a6 (HT (kY e).sh x) ((h4 e).sh x):=bx λh=>by
 unfold HT;simp only[aN.sh,ff];rw[bb (by omega)];exact congrArg mpure (D0 (λy=>(x.2 y).val false) x.1 0 (by omega))
abbrev om(s:bF):Int:=s.1
abbrev r1(s:bF):Int:=s.2.1
abbrev Bw(s:bF):Int:=s.2.2.1
abbrev fC(s:bF):Int:=s.2.2.2.1
abbrev xz(s:bF):Int:=s.2.2.2.2.1
abbrev kK(s:bF):Int:=s.2.2.2.2.2
def mL(c:bd):Prop:=c.1.length<2 ^ 63/\c.2.1.length<2 ^ 63/\c.2.2.1.length<2 ^ 63/\c.2.2.2.1.length<2 ^ 63
def cH(n a1 G:Int):Bool:=decide (a1<=n)&&decide (n<=G)
theorem uG{n a1 G:Int}:cH n a1 G=true<->a1<=n/\n<=G:=by simp[cH]
def r2(t:uF):Bool:=cH t.1 0 9999&&cH t.2.1 1 9999&&cH t.2.2.2.2.1 1 9999&&cH t.2.2.1 0 100000&&cH t.2.2.2.1 0 100000&&cH t.2.2.2.2.2.1 0 100000&&cH t.2.2.2.2.2.2 0 100000
def nG(n:Nat)(s:bF):Bool:=cH (om s) 0 99&&cH (r1 s) 0 ((n:Int) - 1)&&cH (Bw s) 0 9999&&cH (xz s) 0 9&&cH (kK s) 0 99&&(decide (fC s=1)||decide (fC s=2)&&decide (kK s=0))
abbrev dv:aN:=⟨.au bH (.au bH bH),dY,λ_=>True,λx=>cH x.1 x.2.1 x.2.2⟩
theorem avy(x):a6 (adX dv.sh x) (dv.sh x):=bx λ_=>by
 unfold adX;simp[aN.sh]
theorem avz(x):a6 (avi x) (dv.sh x):=bx λ_=>rfl
abbrev Bx:aN:=⟨bH,dY,λ_=>True,λx=>cH x 0 9999⟩
theorem avA(x):a6 (adI dv.sh x) (Bx.sh x):=bx λ_=>by
 unfold adI;simp[aN.sh]
abbrev D2:aN:=⟨bH,dY,λ_=>True,λx=>cH x 0 99⟩
theorem avB(x):a6 (adS dv.sh x) (D2.sh x):=bx λ_=>by
 unfold adS;simp[aN.sh]
abbrev y0:aN:=⟨TQ,dY,λ_=>True,λx=>r2 x⟩
theorem avC(x):a6 (ad7 dv.sh x) (y0.sh x):=bx λ_=>by
 unfold ad7 b_;show _=mpure (r2 x);unfold r2;simp only[aN.sh,lK];simp
theorem avD(x):a6 (ad3 dv.sh x) (y0.sh x):=bx λ_=>by
 unfold ad3 b_ bz bo a8 bK cS bY bc bS;rw[ev [x.2.2.1,x.2.2.2.1,x.2.2.2.2.2.1,x.2.2.2.2.2.2] (λi (_)=>(4,(i:Int),x,[x.2.2.1,x.2.2.2.1,x.2.2.2.2.2.1,x.2.2.2.2.2.2],())) (λy b=>if (!cH y 0 100000)=true then .done (.done false) else .next b) (λ_=>.next (x,())) () ?_ ?_ ?_]
 ·rw[mf   _ _ (λ_=>rfl)];show _=mpure (r2 x);unfold r2;simp  [aN.sh,lK];cases E:cH x.1 0 9999<;>cases L:cH x.2.1 1 9999<;>cases ak:cH x.2.2.2.2.1 1 9999<;>cases cH x.2.2.1 0 100000<;>cases cH x.2.2.2.1 0 100000<;>cases cH x.2.2.2.2.2.1 0 100000<;>cases cH x.2.2.2.2.2.2 0 100000<;>simp[E,L,ak]
 ·rfl
 ·intro i G b;have dR:i<4:=by omega
  have hw:=bp (n:=i+1);have E:decide ((i:Int)<4)=true:=by grind
  simp only[E,ct,d_ G,dt G,cj,aN.sh,sy,aK,dd,hw];exact pG (mk:=λ(_)=>((4),((i+1):Int),x,[x.2.2.1,x.2.2.2.1,x.2.2.2.2.2.1,x.2.2.2.2.2.2],()))
 simp
abbrev By:aN:=⟨.au lq ja,dY,λx=>x.1.1.length<2 ^ 63,λx=>nG x.1.1.length x.2⟩
theorem avE(x):a6 (ad8 dv.sh x) (By.sh x):=bx λh=>by
 have hw:=bp (n:=(x.1.1.length) - 1);unfold ad8 b3 b_ bg aQ gp cD;show _=mpure (nG x.1.1.length x.2);unfold nG;simp only[aN.sh,sy,aK,lK,hw];grind
theorem avF(x):a6 (ad5 dv.sh D2.sh x) (By.sh x):=bx λh=>by
 have hw:=bp (n:=(x.1.1.length) - 1);unfold ad5 b3 b_ aQ cD;show _=mpure (nG x.1.1.length x.2);unfold nG;simp  [aN.sh,hw];grind
abbrev HV:aN:=⟨.au ja (.bM lq),dY,λx=>∃ c:bd,x.2=some c/\c.1.length<2 ^ 63,λx=>!nG (x.2.getD ([],[],[],[],0,0,0,0,0,0,0)).1.length x.1⟩
theorem avG(x):a6 (ad4 By.sh x) (HV.sh x):=bx λh=>by
 obtain⟨c,hc,h⟩:=h;unfold ad4;simp  [aN.sh,ff];simp_all
abbrev D3:aN:=⟨bH,dY,λ_=>True,λx=>!cH x 0 99⟩
theorem avH(x):a6 (ad6 D2.sh x) (D3.sh x):=bx λ_=>by
 unfold ad6;simp[aN.sh]
theorem avI(a b:bF):(decide (a.1=b.1)&&(decide (a.2.1=b.2.1)&&(decide (a.2.2.1=b.2.2.1)&&(decide (a.2.2.2.1=b.2.2.2.1)&&(decide (a.2.2.2.2.1=b.2.2.2.2.1)&&decide (a.2.2.2.2.2=b.2.2.2.2.2))))))=decide (a=b):=by
 grind
def xA(a b:bF):Bool:=decide (om a=om b)&&!decide (a=b)
abbrev Mu:aN:=⟨.au ja ja,dY,λ_=>True,λx=>xA x.1 x.2⟩
theorem avJ(x):a6 (adW x) (Mu.sh x):=bx λ_=>by
 have h:=avI x.1 x.2;unfold adW b3;show _=mpure (xA x.1 x.2);unfold xA;grind
abbrev r3:aN:=⟨.au hK bH,dY,λx=>x.1.length<2 ^ 63,λx=>x.1.contains x.2⟩
theorem avK(x):a6 (avv x) ((kY ja).sh x):=tf ja x
theorem avL(x):a6 (avq (kY ja).sh x) ((h4 ja).sh x):=tg ja x
abbrev vM:aN:=⟨hK,hK,λx=>x.length<=3000000,λx=>x⟩
theorem kL{n:Nat}(h:n<65536):cb n:=by unfold cb;omega
theorem avM(x):a6 (ad_ x) (vM.sh x):=rU λh=>by
 unfold ad_ bg i';rw[fD];refine⟨⟨false,by simp⟩,λb U=>?_⟩;cases b with
 | true=>rw[U rfl];exact dF.2 rfl
 | false=>
  exact h6.2 ⟨by simp  [cb];omega,dF.2 (by simp)⟩
abbrev avN(c:bd):Prop:=c.1.length<=20/\c.2.1.length<=40/\c.2.2.1.length<=60/\c.2.2.2.1.length<=40
abbrev TS:aN:=⟨bH,dY,λ_=>True,λ_=>false⟩
theorem avO(x):a6 (aeb x) (TS.sh x):=bx λ_=>by simp[aeb]
abbrev TT:aN:=⟨.au bH bH,bH,λ_=>True,λx=>if x.1<x.2 then -1 else if x.1 > x.2 then 1 else 0⟩
theorem avP(x):a6 (aea TS.sh x) (TT.sh x):=bx λ_=>by
 unfold aea bg bo;simp  [aN.sh,amq];grind
abbrev th:aN:=⟨.au Mt Mt,bH,λ_=>True,λx=>if x.1.2<x.2.2 then -1 else if x.1.2 > x.2.2 then 1 else 0⟩
theorem avQ(x):a6 (ad' TT.sh x) (th.sh x):=bx λ_=>by
 unfold ad';simp  [aN.sh,aK]
abbrev TU:aN:=⟨.int .u64,bH,λx=>0<=x/\x<=12,λx=>(HR x).val 0⟩
theorem avR(x):a6 (HR x) (TU.sh x):=bx λh=>by
 have key:∃ v,HR x=mpure v:=by
  change (0)<=x/\x<=12 at h;unfold HR e0 cm bo bc;have aB:¬(x>=4294967296):=by omega
  have bt:¬(x>=65536):=by omega
  have cT:¬(x>=256):=by omega
  have bW:IntKind.wrap .u8 x=x:=by
   show (if (false&&decide (x % 2 ^ 8>=(2 ^ (8 - 1))))=true then x % 2 ^ 8 - 2 ^ 8 else x % 2 ^ 8)=x;grind
  have l1:0<=x/\x<Int.ofNat 256:=⟨h.1,by grind⟩
  simp only[amq,aB,bt,cT,aPA,aK,cK,bW,bb l1];grind
 obtain⟨v,ae⟩:=key;simp_all
abbrev TV:aN:=⟨.int .u64,bH,λx=>0<=x/\x<=12,λx=>(HR x).val 0⟩
theorem avS(f)(x):a6 (ad9 f TU.sh x) (TV.sh x):=bx λh=>by
 unfold ad9;simp  [aN.sh];simp_all
end Go.Fer.H
namespace Go.Fer.H
section
variable {af:Type} (d:af) (lt:af->af->Bool)
def y1(l:List af):Nat->List af
 | 0=>l
 | k+1=>if lt (l.getD (k+1) d) (l.getD k d)=true then y1 ((l.set (k+1) (l.getD k d)).set k (l.getD (k+1) d)) k else l
def r4(e:af):List af->List af
 | []=>[e]
 | a::r=>if lt e a=true then a::r4 e r else e::a::r
def xB(l:List af):List af:=l.foldl (λr e=>r4 lt e r) []
def hf(l:List af):List af:=(xB lt l).reverse
theorem aen:∀ (r:List af) (e:af) (R:List af),y1 d lt (r.reverse++e::R) r.length=(r4 lt e r).reverse++R
 | [],e,R=>rfl
 | a::r,e,R=>by
  have aB:((a::r).reverse++e::R).getD (r.length+1) d=e:=by
   simp
  have bt:((a::r).reverse++e::R).getD r.length d=a:=by
   simp
  show y1 d lt ((a::r).reverse++e::R) (r.length+1)=_;unfold y1;rw[aB,bt];unfold r4;split
  ·have cT:(((a::r).reverse++e::R).set (r.length+1) a).set r.length e=r.reverse++e::(a::R):=by
    simp
   rw[cT,aen r e (a::R)];simp
  simp
theorem TW(e:af):∀ r:List af,(r4 lt e r).Perm (e::r)
 | []=>.refl _
 | a::r=>by
  unfold r4;split
  ·exact ((TW e r).cons a).trans (List.Perm.swap e a r)
  rfl
theorem aeo:∀ (l r:List af),(l.foldl (λr e=>r4 lt e r) r).Perm (l++r)
 | [],r=>.refl _
 | x::l,r=>by
  refine (aeo l _).trans ?_;refine ((TW lt x r).append_left l).trans ?_;simp
theorem aep(l:List af):(xB lt l).Perm l:=by
 have:=aeo lt l [];rwa [aPN]at this
theorem HW(l:List af):(hf lt l).Perm l:=(List.reverse_perm _).trans (aep lt l)
theorem aeq(l:List af):(xB lt l).length=l.length:=(aep lt l).length_eq
theorem Mv(l:List af):(hf lt l).length=l.length:=(HW lt l).length_eq
theorem aer{l:List af}{x:af}:x∈hf lt l<->x∈l:=(HW lt l).mem_iff
theorem avT(l:List af)(e:af):xB lt (l++[e])=r4 lt e (xB lt l):=by simp[xB]
def uH(l:List af)(n:Nat):List af:=(xB lt (l.take n)).reverse++l.drop n
theorem avU(l:List af):uH lt l 1=l:=by
 cases l<;>rfl
theorem avV(l:List af):uH lt l l.length=hf lt l:=by simp[uH,hf]
theorem avW(l:List af)(n:Nat)(h:n<=l.length):(uH lt l n).length=l.length:=by
 simp[uH,aeq];omega
theorem avX{l:List af}{n:Nat}(h:n<l.length):y1 d lt (uH lt l n) n=uH lt l (n+1):=by
 have aB:(xB lt (l.take n)).length=n:=by rw[aeq];grind
 have:=aen d lt (xB lt (l.take n)) l[n] (l.drop (n+1));rw[aB]at this;unfold uH;rw[aPE h,this,aQF,ams h,aRa,avT]
theorem TX(dk:∀ a b,lt a b=false->lt b a=true\/lt b a=false)(aR:∀ a b c:af,lt a b=false->lt b c=false->lt a c=false)(avY:∀ a b,lt a b=true->lt b a=false)(e:af):∀ r:List af,r.Pairwise (λa b=>lt a b=false)->(r4 lt e r).Pairwise (λa b=>lt a b=false)
 | [],_=>by simp[r4]
 | a::r,h=>by
  rw[List.pairwise_cons]at h;unfold r4;split
  ·refine List.pairwise_cons.2 ⟨λx ao=>?_,TX dk aR avY e r h.2⟩;rcases List.mem_cons.1 ((TW lt e r).mem_iff.1 ao) with rfl | ao<;>grind
  ·refine List.pairwise_cons.2 ⟨λx ao=>?_,List.pairwise_cons.2 h⟩;grind
end
def jq(a b:Int):Bool:=decide (a<b)
def kq(a b:b1):Bool:=decide (a.2<b.2)
theorem aes:∀ (l r:z1'),r.Pairwise (λa b=>jq a b=false)->(l.foldl (λr e=>r4 jq e r) r).Pairwise (λa b=>jq a b=false)
 | [],r,h=>h
 | x::l,r,h=>aes l _ (TX jq (λa b _=>by simp) (λa b c E L=>by simp[jq]at *;omega) (λa b h=>by simp[jq]at *;omega) x r h)
theorem TY(l:z1'):(hf jq l).Pairwise (·<=·):=by
 have:=aes l [] .nil;unfold hf;rw[List.pairwise_reverse];exact this.imp λh=>by simp[jq]at h;omega
theorem aet:∀ (l r:List b1),r.Pairwise (λa b=>kq a b=false)->(l.foldl (λr e=>r4 kq e r) r).Pairwise (λa b=>kq a b=false)
 | [],r,h=>h
 | x::l,r,h=>aet l _ (TX kq (λa b _=>by simp) (λa b c E L=>by simp[kq]at *;omega) (λa b h=>by simp[kq]at *;omega) x r h)
theorem avZ(l:List b1):(hf kq l).Pairwise λa b=>a.2<=b.2:=by
 have:=aet l [] .nil;unfold hf;rw[List.pairwise_reverse];exact this.imp λh=>by simp[kq]at h;omega
theorem D4{l m:z1'}(h:m.Pairwise (·<=·))(aj:l.Perm m):hf jq l=m:=
 List.Perm.eq_of_pairwise (λa b _ _ E L=>by omega) (TY l) h ((HW jq l).trans aj)
theorem aeu{l m:z1'}(aj:l.Perm m):hf jq l=hf jq m:=D4 (TY m) (aj.trans (HW jq m).symm)
variable {af:Type}
theorem av0{d:af}{lt:af->af->Bool}{A rho:Type}{body:A->M (aF A rho)}{s0:A}(mk:Nat->List af->A)(fin:List af->rho)(iC:Nat)(fM:List af)(oW:s0=mk iC fM)(AB:iC<fM.length)
  (ay:∀ k l,l.length=fM.length->k<fM.length->body (mk k l)=mpure (if 0<k/\lt (l.getD k d) (l.getD (k - 1) d)=true then .next (mk (k - 1) ((l.set k (l.getD (k - 1) d)).set (k - 1) (l.getD k d))) else .done (fin l))) :
  dG body s0=mpure (fin (y1 d lt fM iC)):=by
 have key:∀ k l,l.length=fM.length->k<fM.length->dG body (mk k l)=mpure (fin (y1 d lt l k)):=by
  intro k;induction k with
  | zero=>
   intro l ah an;exact wL (by rw[ay 0 l ah an];rfl)
  | succ k aO=>
   intro l ah an;unfold y1;by_cases h:lt (l.getD (k+1) d) (l.getD k d)=true
   ·rw[if_pos h,FD (s':=mk k ((l.set (k+1) (l.getD k d)).set k (l.getD (k+1) d)))]<;>grind
   ·exact wL (by grind)
 grind
theorem TZ{l:List af}{d:af}{k:Nat}:l.getD ((k:Int) - 1).toNat d=l.getD (k - 1) d:=by
 simp
theorem av1{l:List af}{d:af}{k:Nat}:l.getD ((k:Int)).toNat d=l.getD k d:=by rfl
theorem av2{A rho:Type}{c:Bool}{p:Prop}[Decidable p](h:c=decide p){x y:M (aF A rho)}{a b:aF A rho}(E:p->x=mpure a)(L:¬p->y=mpure b):(if c=true then x else y)=mpure (if p then a else b):=by
 grind
def Mw(x:Int×Int×(b1×bF×Int->M Int)×List b1×Unit):M (List b1×Unit):=eF (x.1=0/\x.2.1=(x.2.2.2.1.length:Int)/\x.2.2.2.1.length<=12/\x.2.2.1=th.sh) (hf kq x.2.2.2.1,())
theorem av3(x):a6 (aef x) (Mw x):=bx λh=>by
 obtain⟨a,b,f,l,u⟩:=x;obtain⟨E,L,ak,aZ⟩:=h;change b=l.length at L;change l.length<=12 at ak;subst E;subst L;subst aZ;unfold aef c' eV b_ bz bo a8 aQ bK bY pD bc bS cD;rw[ev (List.range (l.length - 1)) (λi (_)=>(0,(l.length:Int),th.sh,((i+1:Nat):Int),uH kq l (i+1),())) (λ_ _=>.next ()) (λ_=>(hf kq l,())) () ?_ ?_ ?_]
 ·rw[ee]
 ·rw[avU];rfl
 ·intro i G _;have G:i+1<l.length:=by grind
  have ah:=avW kq l (i+1) (by omega);have hw:=bp (n:=((i+1:Nat))+1);have aw:decide (((i+1:Nat))<(l.length:Int))=true:=by grind
  simp only[aw];rw[av0 (d:=((0,0,0,0,0,0),0)) (lt:=kq) (λk m=>(0,(l.length:Int),th.sh,((i+1:Nat):Int),(k:Int),m,())) (λm=>.next (0,l.length,th.sh,((i+1:Nat)),m,())) (i+1) (uH kq l (i+1)) rfl (by omega) ?_]
  ·simp only[aK,cK,dd,hw,avX ((0,0,0,0,0,0),0) kq G];rfl
  ·intro k m hm an;have gF:0<k->IntKind.wrap .i64 (k - 1)=k - 1:=λ_=>bp;by_cases AB:0<k
   ·have aj:decide ((k:Int) > 0)=true:=by grind
    have ck:(0)<=(k:Int)/\k<Int.ofNat m.length:=⟨by omega,by grind⟩
    have c8:(0)<=(k:Int) - 1/\k - 1<Int.ofNat m.length:=⟨by omega,by omega⟩
    have fB:(0)<=k - 1/\k - 1<Int.ofNat (m.set k (m.getD (k - 1) ((0,0,0,0,0,0),0))).length:=⟨by omega,by grind⟩
    simp only[aj,gF AB,ck,c8,forall_const,aRq,cj,aN.sh,sy,lK,aK,TZ,aPQ,fB];refine av2   ?_ (λ_=>?_) (λ_=>rfl)
    ·simp  [kq,amq];grind
    grind
   ·have D5:k=0:=by omega
    subst D5;simp[qY]
 ·intro _;have e:uH kq l (l.length - 1+1)=hf kq l:=by
   cases l with
   | nil=>rfl
   | cons x r=>exact avV kq (x::r)
  have aw:decide (((l.length - 1+1:Nat))<(l.length:Int))=false:=by grind
  simp only[List.length_range,aw,aml,aPA,e,aK]
def Mx(x:Int×Int×Int×(b1×bF×Int->M Int)×List b1×Unit):M (List b1×Unit):=eF (x.1=0/\x.2.1=(x.2.2.2.2.1.length:Int)/\x.2.2.2.2.1.length<=12/\x.2.2.2.1=th.sh) (hf kq x.2.2.2.2.1,())
theorem av4(x):a6 (ael Mw x) (Mx x):=bx λh=>by
 obtain⟨a,b,c,f,l,u⟩:=x;obtain⟨E,L,ak,aZ⟩:=h;change b=l.length at L;change l.length<=12 at ak;subst E;subst L;subst aZ;unfold ael bo pD cD;refine wL ?_;have hw:=bp (n:=l.length - 0);have aw:decide ((l.length:Int) - 0<=12)=true:=by grind
 unfold Mw;simp_all
theorem av5{n:Int}(h:0<=n)(L:n<=12):IntKind.wrap .u64 n=n:=by
 show (if (false&&decide (n % 2 ^ 64>=(2 ^ (64 - 1))))=true then n % 2 ^ 64 - 2 ^ 64 else n % 2 ^ 64)=n;grind
def D6(x:z14'):M (z14'):=eF (x.1.length<4611686018427387904) (hf jq x.1,())
def D7(x:(b1×bF×Int->M Int)×List b1×Unit):M (List b1×Unit):=eF (x.2.1.length<=12/\x.1=th.sh) (hf kq x.2.1,())
theorem av6(x):a6 (avx TV.sh Mx x) (D7 x):=bx λh=>by
 obtain⟨f,l,u⟩:=x;obtain⟨h,aZ⟩:=h;change l.length<=12 at h;have hw:=av5 (n:=l.length) (by omega) (by omega);show aq (eF (0<=IntKind.wrap .u64 l.length/\IntKind.wrap .u64 l.length<=12) _) _=_;rw[ff,bb (by omega)];unfold Mx;simp_all
def D8(x:(z1'->Prop)×Unit):M (z14'):=⟨(∃ ab,x.1 ab)/\∀ ab,x.1 ab->ab.length<60000,λy=>x.1 y.1⟩
theorem aev:∀ (ab acc:z1'),ab.length+acc.length<60000->kl (λ(A:z14') (y:Int)=>aq (ag (cb (Add.add (List.length A.1) (Add.add 0 1))) (mpure (dS.normal,A.1++[y],()))) λp=>mpure (p.1,p.2.1,())) ab (acc,())=mpure (.normal,acc++ab,())
 | [],acc,_=>by simp[kl]
 | x::ab,acc,h=>by
  unfold kl;rw[bb (kL (by grind))];simp only[aK];rw[aev ab (acc++[x]) (by grind)];simp
theorem av7(x):a6 (aec x) (D8 x):=λh=>by
 obtain⟨S,u⟩:=x;obtain⟨E,L⟩:=h;show c6 _ _;unfold aec eD;rw[fD];refine⟨E,λab kn=>?_⟩;have kn:S ab:=kn;show c6 (aq (kl _ ab ([],())) _) _;rw[aev ab [] (by grind)];simp;exact dF.2 kn
theorem av8(x):a6 (aed D8 x) (D8 x):=λh=>by
 show c6 _ _;unfold aed;rw[fD];exact⟨h,λy a_=>dF.2 a_⟩
open Classical in
def D9(S:z1'->Prop):z1':=if h:∃ ab,S ab then hf jq h.choose else []
abbrev vN:aN:=⟨.cE bH,hK,λS=>(∃ ab,S ab)/\(∀ ab gf,S ab->S gf->ab.Perm gf)/\∀ ab,S ab->ab.length<60000,λS=>D9 S⟩
theorem av9(x):a6 (adK D6 D8 x) (vN.sh x):=rU λh=>by
 obtain⟨E,L,ak⟩:=h;unfold adK;rw[fD];refine⟨⟨E,λab kn=>by grind⟩,λy a_=>?_⟩;show c6 (aq (eF _ _) _) _;rw[ff,h6];refine⟨Nat.lt_trans (ak _ a_) (by decide),dF.2 ?_⟩;show hf jq y.1=D9 x;unfold D9;rw[dif_pos E];exact aeu (L _ _ a_ E.choose_spec)
theorem av_{S:z1'->Prop}{ab:z1'}(h:S ab)(L:∀ ab gf,S ab->S gf->ab.Perm gf):D9 S=hf jq ab:=by
 have E:∃ ab,S ab:=⟨ab,h⟩
 unfold D9;rw[dif_pos E];exact aeu (L _ _ E.choose_spec h)
def lM(x:Option (List (Int×af)))(ab:z1'):Prop:=∃ m,x=some m/\(m.map (·.1)).Perm ab
abbrev My:aN:=⟨.map bH bH,.cE bH,λ_=>True,λx=>lM (some x)⟩
theorem av'(x):a6 (avj lM x) (My.sh x):=bx λ_=>rfl
abbrev D_:aN:=⟨.map bH ja,.cE bH,λ_=>True,λx=>lM (some x)⟩
theorem awa(x):a6 (avs lM x) (D_.sh x):=bx λ_=>rfl
theorem xC{m:List (Int×af)}{ab:z1'}:lM (some m) ab<->(m.map (·.1)).Perm ab:=⟨λ⟨dp,h,k⟩=>by grind,λh=>⟨m,rfl,h⟩⟩
theorem aew{m:List (Int×af)}(h:m.length<60000):vN.pre (lM (some m)):=
 ⟨⟨_,xC.2 (.refl _)⟩,λab gf E L=>(xC.1 E).symm.trans (xC.1 L),λab kn=>by rw[<-(xC.1 kn).length_eq];grind⟩
theorem aex{m:List (Int×af)}:D9 (lM (some m))=hf jq (m.map (·.1)):=
 av_ (xC.2 (.refl _)) λab gf E L=>(xC.1 E).symm.trans (xC.1 L)
end Go.Fer.H
namespace Go.Fer.H
def vO(s:z12'):Bool:=cH s.1 (-30) s.2&&!decide (s.2 > 30)
def lN(l:z4')(i:Nat):Bool:=cH (l.getD i (0,0)).1 0 (l.getD i (0,0)).2&&!decide ((l.getD i (0,0)).2 > 9999)&&!(decide (0<i)&&decide ((l.getD i (0,0)).1<=(l.getD (i - 1) (0,0)).2))
def D'(l:z4'):Bool:=(List.range l.length).all (lN l)
def vP(c:bd):Bool:=!(decide ((c.1.length:Int) > 3)||decide ((c.2.1.length:Int) > 12)||decide ((c.2.2.1.length:Int) > 12)||decide ((c.2.2.2.1.length:Int) > 4))&&r2 c.2.2.2.2
def lO(c:bd):Bool:=vP c&&c.1.all vO&&c.2.1.all (nG c.1.length)&&c.2.2.1.all (λn=>cH n 0 99)&&D' c.2.2.2.1
abbrev y2:aN:=⟨lq,dY,mL,λc=>lO c⟩
variable {rho:Type}
theorem Mz{A bet:Type}{mk:bet->A}{b:bet}{q:Bool}{r:rho}{m:M (aF A rho)}(E:q=true->m=mpure (.next (mk b)))(L:q=false->m=mpure (.done r)):m=mpure (aF.pF mk (if (!q)=true then .done r else .next b)):=by
 cases q
 ·exact L rfl
 ·exact E rfl
variable {af:Type}
theorem aey{a t:Bool}{m n:af}:(if (a||!(if (!a)=true then t else false))=true then m else n)=if (!a&&t)=true then n else m:=by grind
theorem awb(x):a6 (adV dv.sh y0.sh By.sh x) (y2.sh x):=bx λh=>by
 obtain⟨aM,aS,b4,hZ⟩:=h;unfold adV c' ht fO b_ bz bg a8 aQ bK cS bY bc gp h0 bS dB cD pE;show _=mpure (lO x);simp only[aN.sh,y0,sy,lK,aK,ct,aey];unfold lO;rw[show (!(decide ((x.1.length:Int) > 3)||decide ((x.2.1.length:Int) > 12)||decide ((x.2.2.1.length:Int) > 12)||decide ((x.2.2.2.1.length:Int) > 4))&&r2 x.2.2.2.2)=vP x from rfl];cases U:vP x with
 | false=>rfl
 | true=>
  rw[if_pos rfl];rw[ev x.1 (λi (_:Unit)=>((i:Int),x,())) (λy b=>if (!vO y)=true then .done (.done false) else .next b) (λ_=>.next (x,())) () ?_ ?_ ?_]
  ·rw[mf (q:=vO) _ _ (λ_=>rfl)];cases hc:x.1.all vO with
   | false=>simp
   | true=>
    simp only[if_true,aK,cK];rw[ev x.2.1 (λi (_:Unit)=>((i:Int),x,())) (λy b=>if (!nG x.1.length y)=true then .done (.done false) else .next b) (λ_=>.next (x,())) () ?_ ?_ ?_]
    ·rw[mf (q:=nG x.1.length) _ _ (λ_=>rfl)];cases aw:x.2.1.all (nG x.1.length) with
     | false=>simp
     | true=>
      simp only[if_true,aK,cK];rw[ev x.2.2.1 (λi (_:Unit)=>((i:Int),x,())) (λy b=>if (!cH y 0 99)=true then .done (.done false) else .next b) (λ_=>.next (x,())) () ?_ ?_ ?_]
      ·rw[mf (q:=λn=>cH n 0 99) _ _ (λ_=>rfl)];cases he:x.2.2.1.all (λn=>cH n 0 99) with
       | false=>simp
       | true=>
        simp only[if_true,aK,cK];rw[ev (List.range x.2.2.2.1.length) (λi (_:Unit)=>((i:Int),x,())) (λy b=>if (!lN x.2.2.2.1 y)=true then .done (.done false) else .next b) (λ_=>.next ()) () ?_ ?_ ?_]
        ·rw[mf (q:=lN x.2.2.2.1) _ _ (λ_=>rfl)];unfold D';cases (List.range x.2.2.2.1.length).all (lN x.2.2.2.1)<;>simp
        ·rfl
        ·intro i G b;have G:i<x.2.2.2.1.length:=by grind
         have hw:=bp (n:=(i:Int)+1);have gF:=bp (n:=(i:Int) - 1);have j8:x.2.2.2.1.getD i (0,0)=x.2.2.2.1[i]:=by grind
         have vQ:(decide ((i:Int) > 0))=decide (0<i):=by simp
         have D:decide (0<i)=true->((0:Int)<=(i:Int) - 1/\(i:Int) - 1<(x.2.2.2.1.length:Int)):=λh=>by grind
         refine Mz (mk:=λ(_:Unit)=>(((i+1:Nat):Int),x,())) (b:=b) ?_ ?_<;>intro bq<;>
         ·simp only[aPC,lN,j8]at bq;simp only[ct,dP G,if_true,d_ G,dt G,cj,aN.sh,dv,sy,tG,kp,dd,hw,gF,vQ,TZ,aPC];revert bq;generalize cH x.2.2.2.1[i].1 0 x.2.2.2.1[i].2=cY;generalize decide (x.2.2.2.1[i].2 > 9999)=fe;generalize decide (x.2.2.2.1[i].1<=(x.2.2.2.1.getD (i - 1) (0,0)).2)=iV;revert D;generalize decide (0<i)=u6;intro D;cases u6
          ·cases cY<;>cases fe<;>cases iV<;>simp
          ·have D:=D rfl;cases cY<;>cases fe<;>cases iV<;>simp[D,(by omega:(1:Int)<=(i:Int))]
        simp
      ·rfl
      ·intro i G b;have hw:=bp (n:=(i:Int)+1);simp only[ct,dP G,if_true,d_ G,dt G,cj,aN.sh,dv,sy,aK,dd,hw];exact pG (mk:=λ(_:Unit)=>(((i+1:Nat):Int),x,()))
      simp
    ·rfl
    ·intro i G b;have hw:=bp (n:=(i:Int)+1);simp only[ct,dP G,if_true,d_ G,dt G,cj,aN.sh,By,rV,iE,aK,dd,hw];rw[bb aM];exact pG (mk:=λ(_:Unit)=>(((i+1:Nat):Int),x,()))
    simp
  ·rfl
  ·intro i G b;have hw:=bp (n:=(i:Int)+1);refine Mz (mk:=λ(_:Unit)=>(((i+1:Nat):Int),x,())) (b:=b) ?_ ?_<;>intro bq<;>
   ·simp only[vO]at bq;simp only[ct,dP G,if_true,d_ G,dt G,cj,aN.sh,dv,sy,tG,kp,dd,hw];revert bq;generalize cH x.1[i].1 (-30) x.1[i].2=cY;generalize decide (x.1[i].2 > 30)=fe;simp_all
  simp
theorem aez{p:af->Bool}(l:List af):(l.any λy=>!p y)=!l.all p:=by grind
theorem awc(x):a6 (adU dv.sh (h4 ja).sh y0.sh (h4 bH).sh HV.sh D3.sh x) (y2.sh x):=bx λh=>by
 obtain⟨aM,aS,b4,hZ⟩:=h;unfold adU c' ht b_ bz bg bo a8 aQ bK cS bY bc gp bS dB cD pE;show _=mpure (lO x);simp only[show y0.sh x.2.2.2.2=mpure (r2 x.2.2.2.2) from rfl,lK,aK,ct,aey];unfold lO;rw[show (!(decide ((x.1.length:Int) > 3)||decide ((x.2.1.length:Int) > 12)||decide ((x.2.2.1.length:Int) > 12)||decide ((x.2.2.2.1.length:Int) > 4))&&r2 x.2.2.2.2)=vP x from rfl];cases U:vP x with
 | false=>rfl
 | true=>
  rw[if_pos rfl];rw[ev x.1 (λi (_:Unit)=>(x.1,(x.1.length:Int),(i:Int),x,())) (λy b=>if (!vO y)=true then .done (.done false) else .next b) (λ_=>.next (x,())) () ?_ ?_ ?_]
  ·rw[mf (q:=vO) _ _ (λ_=>rfl)];cases hc:x.1.all vO with
   | false=>simp
   | true=>
    simp only[if_true,aK,cK];rw[ev (List.range x.2.2.2.1.length) (λi (_:Unit)=>(x.2.2.2.1,(x.2.2.2.1.length:Int),(i:Int),x,())) (λy b=>if (!lN x.2.2.2.1 y)=true then .done (.done false) else .next b) (λ_=>.next (x,())) () ?_ ?_ ?_]
    ·rw[mf (q:=lN x.2.2.2.1) _ _ (λ_=>rfl)];unfold D';cases aw:(List.range x.2.2.2.1.length).all (lN x.2.2.2.1) with
     | false=>simp
     | true=>
      simp only[if_true,aK,cK];have aB:(h4 ja).sh (x.2.1,λy=>HV.sh (y,some x))=mpure (!x.2.1.all (nG x.1.length)):=by
       have ax:∀ y,HV.sh (y,some x)=mpure (!nG x.1.length y):=λy=>bN ⟨x,rfl,aM⟩ _;refine (bN ⟨aS,λy _=>⟨_,ax y⟩⟩ _).trans ?_;refine congrArg mpure ?_;rw[<-aez];simp_all
      have bt:(h4 bH).sh (x.2.2.1,D3.sh)=mpure (!x.2.2.1.all (λn=>cH n 0 99)):=by
       refine (bN ⟨b4,λy _=>⟨_,rfl⟩⟩ _).trans ?_;refine congrArg mpure ?_;rw[<-aez];show (x.2.2.1.any λy=>(D3.sh y).val false)=_;simp only[show ∀ y,D3.sh y=mpure (!cH y 0 99) from λ_=>rfl,kp]
      rw[aB,bt];simp only[aK,lK];grind
    ·rfl
    ·intro i G b;have G:i<x.2.2.2.1.length:=by grind
     have hw:=bp (n:=(i:Int)+1);have gF:=bp (n:=(i:Int) - 1);have j8:x.2.2.2.1.getD i (0,0)=x.2.2.2.1[i]:=by grind
     have vQ:(decide ((i:Int) > 0))=decide (0<i):=by simp
     have D:decide (0<i)=true->((0:Int)<=(i:Int) - 1/\(i:Int) - 1<(x.2.2.2.1.length:Int)):=λh=>by grind
     refine Mz (mk:=λ(_:Unit)=>(x.2.2.2.1,(x.2.2.2.1.length:Int),((i+1:Nat):Int),x,())) (b:=b) ?_ ?_<;>intro bq<;>
     ·simp only[aPC,lN,j8]at bq;simp only[ct,dP G,if_true,d_ G,dt G,cj,aN.sh,dv,sy,tG,kp,dd,hw,gF,vQ,TZ,aPC];revert bq;generalize cH x.2.2.2.1[i].1 0 x.2.2.2.1[i].2=cY;generalize decide (x.2.2.2.1[i].2 > 9999)=fe;generalize decide (x.2.2.2.1[i].1<=(x.2.2.2.1.getD (i - 1) (0,0)).2)=iV;revert D;generalize decide (0<i)=u6;intro D;cases u6
      ·cases cY<;>cases fe<;>cases iV<;>simp
      ·have D:=D rfl;cases cY<;>cases fe<;>cases iV<;>simp[D,(by omega:(1:Int)<=(i:Int))]
    simp
  ·rfl
  ·intro i G b;have hw:=bp (n:=(i:Int)+1);refine Mz (mk:=λ(_:Unit)=>(x.1,(x.1.length:Int),((i+1:Nat):Int),x,())) (b:=b) ?_ ?_<;>intro bq<;>
   ·simp only[vO]at bq;simp only[ct,dP G,if_true,d_ G,dt G,cj,aN.sh,dv,sy,aK,dd,hw];grind
  simp
abbrev lP:bF:=(0,0,0,0,0,0)
def m'(l:List bF):Bool:=(List.range l.length).any λi=>(List.range i).any λk=>xA (l.getD k lP) (l.getD i lP)
def dJ(c:bd):Int:=if lO c=true then (if m' c.2.1=true then 91 else 0) else 90
abbrev jX:aN:=⟨lq,bH,mL,λc=>dJ c⟩
variable {i:Nat}
theorem xD{l:List af}{d:af}(h:i<l.length):l.getD i d=l[i]:=by grind
theorem awd(x):a6 (adE y2.sh Mu.sh x) (jX.sh x):=bx λh=>by
 obtain⟨aM,aS,b4,hZ⟩:=id h;unfold adE iA bz bg bo a8 bK cS iO bY bc bS dB mZ;show _=mpure (dJ x);rw[show y2.sh x=mpure (lO x) from bN h _];unfold dJ;cases lO x with
 | false=>simp
 | true=>
  simp only[aK,aP9,aml,aPA,if_true];rw[ev (List.range x.2.1.length) (λi (_:Unit)=>((i:Int),x,())) (λi b=>if ((List.range i).any λk=>xA (x.2.1.getD k lP) (x.2.1.getD i lP))=true then .done (.done 91) else .next b) (λ_=>.next ()) () ?_ ?_ ?_]
  ·rw[s_];unfold m';cases (List.range x.2.1.length).any λi=>(List.range i).any λk=>xA (x.2.1.getD k lP) (x.2.1.getD i lP)<;>simp
  ·rfl
  ·intro i G b;have G:i<x.2.1.length:=by grind
   have hw:=bp (n:=(i:Int)+1);have aw:decide ((i:Int)<Int.ofNat x.2.1.length)=true:=dP G;simp only[aw,if_true,aPC];rw[ev (List.range i) (λk (_:Unit)=>((i:Int),(k:Int),x,())) (λk b=>if xA (x.2.1.getD k lP) (x.2.1.getD i lP)=true then .done (.done (.done (.done 91))) else .next b) (λ_=>(.next ((i:Int),x,()):aF (Int×bd×Unit) (aF (Int×bd×Unit) (aF Unit Int)))) () ?_ ?_ ?_]
   ·rw[s_];cases (List.range i).any λk=>xA (x.2.1.getD k lP) (x.2.1.getD i lP)<;>simp[hw]
   ·rfl
   ·intro k an b;have an:k<i:=by grind
    have o1:k<x.2.1.length:=by omega
    have hw:=bp (n:=(k:Int)+1);have aw:decide ((k:Int)<(i:Int))=true:=by grind
    simp only[aw,if_true,ct,dt o1,dt G,cj,aN.sh,Mu,sy,tG,kp,aK,dd,hw,aPC,av1];exact pG (mk:=λ(_:Unit)=>((i:Int),((k+1:Nat):Int),x,()))
   simp
  simp
def iP(l:List bF):List bF:=(fP 0 99).filterMap λid=>l.find? λs=>s.1 == id
def hg(c:bd):List bF:=(iP c.2.1).filter λs=>!c.2.2.1.contains s.1
theorem awe(l:List bF):(iP l).length<=100:=by
 refine aPG (List.length_filterMap_le _ _) ?_;rw[show (fP 0 99).length=100 from by decide];omega
def lQ(m:List (Int×bF))(k:Int):Option bF:=(m.find? λp=>decide (k=p.1)).map (·.2)
def mj(m:List (Int×bF)):z1':=m.map (·.1)
theorem T0(p:Int×bF)(m:List (Int×bF))(k:Int)(v:bF):nF (p::m) k v=if decide (k=p.1)=true then (p.1,v)::m else p::nF m k v:=rfl
theorem T1(k:Int)(v:bF):nF [] k v=[(k,v)]:=rfl
theorem aeA(k:Int)(v:bF):∀ m:List (Int×bF),(nF m k v).length<=m.length+1
 | []=>by rw[T1];simp
 | p::m=>by
  rw[T0];split
  ·simp
  ·simp;exact aeA k v m
theorem T2(k:Int)(v:bF)(x:Int):∀ m:List (Int×bF),lQ (nF m k v) x=if x=k then some v else lQ m x
 | []=>by
  rw[T1];by_cases h:x=k<;>simp[lQ]
 | p::m=>by
  rw[T0];have aO:=T2 k v x m;unfold lQ at aO ⊢;grind
theorem HX(k:Int)(v:bF):∀ m:List (Int×bF),((mj m).Nodup->(mj (nF m k v)).Nodup)/\∀ x,x∈mj (nF m k v)<->x∈mj m\/x=k
 | []=>by rw[T1];simp[mj]
 | p::m=>by
  obtain⟨E,L⟩:=HX k v m;rw[T0];by_cases h:k=p.1
  ·subst h;simp;refine⟨λh=>h,λx=>?_⟩;show x∈p.1::mj m<->x∈p.1::mj m\/x=p.1;grind
  ·simp  [h,aPA];refine⟨λaA=>?_,λx=>?_⟩
   ·show (p.1::mj (nF m k v)).Nodup;have sM:(p.1::mj m).Nodup:=aA;grind
   ·show x∈p.1::mj (nF m k v)<->x∈p.1::mj m\/x=k;grind
variable {m:List (Int×bF)}{k:Int}
theorem aeB:k∈mj m<->(lQ m k).isSome=true:=by
 unfold lQ mj;simp
def Ea(l:List bF):Prop:=∀ a∈l,∀ b∈l,a.1=b.1->a=b
def ti(l:List bF)(k:Int):Option bF:=l.find? λs=>s.1 == k
def vR:List bF->List (Int×bF)->Option (List (Int×bF))
 | [],m=>some m
 | s::l,m=>if ((lQ m s.1).isSome&&!decide ((lQ m s.1).getD lP=s))=true then none else vR l (nF m s.1 s)
structure xE(P:List bF)(m:List (Int×bF)):Prop where
 re:∀ k,lQ m k=ti P k
 ko:(mj m).Nodup
 Eb:Ea P
 tj:m.length<=P.length
variable {l:List bF}{s:bF}
theorem aeC(h:ti l k=some s):s∈l/\s.1=k:=by
 unfold ti at h;grind
theorem awf(h:ti l k=none):∀ s∈l,s.1≠k:=by
 unfold ti at h;grind
theorem xE.nil:xE [] []:=⟨λ_=>rfl,.nil,λa h=>by simp,amo _⟩
theorem Ec:∀ (l P:List bF) (m:List (Int×bF)),xE P m->(Ea (P++l)->∃ dp,vR l m=some dp/\xE (P++l) dp)/\(¬Ea (P++l)->vR l m=none)
 | [],P,m,h=>by simp;exact⟨λ_=>⟨m,rfl,h⟩,λaA=>absurd h.Eb aA⟩
 | s::l,P,m,h=>by
  unfold vR;rw[h.re];cases ax:ti P s.1 with
  | some o=>
   obtain⟨ar,G⟩:=aeC ax;by_cases he:o=s
   ·have:=Ec l (P++[o]) (nF m o.1 o) ⟨λk=>?_,(HX _ _ _).1 h.ko,?_,?_⟩
    ·grind
    ·rw[T2,h.re];unfold ti at ax ⊢;grind
    ·intro a aW b U HY;simp  at aW U;exact h.Eb a (aW.elim id λe=>e ▸ ar) b (U.elim id λe=>e ▸ ar) HY
    ·have hm:=aeB.2 (by rw[h.re,ax];rfl);have ah:=by
      have E:=(HX o.1 o m).1 h.ko;have L:mj (nF m o.1 o) ⊆ mj m:=λx ao=>by
       rcases ((HX o.1 o m).2 x).1 ao with ao | ao<;>grind
      exact E.length_le_of_subset L
     have:=h.tj;simp  [mj]at ah;grind
   ·simp only[aPP,amx,he,aQe,aQu,Bool.and_self,if_true];refine⟨λaA=>absurd (aA o (by grind) s (by simp) G) he,λ_=>trivial⟩
  | none=>
   have:=Ec l (P++[s]) (nF m s.1 s) ⟨λk=>?_,(HX _ _ _).1 h.ko,?_,?_⟩
   ·grind
   ·rw[T2,h.re];unfold ti at ax ⊢;grind
   ·have ax:=awf ax;intro a aW b U HY;simp  at aW U;rcases aW with aW | rfl<;>rcases U with U | rfl
    ·exact h.Eb a aW b U HY
    ·grind
    ·grind
    ·rfl
   ·have:=aeA s.1 s m;have:=h.tj;grind
theorem Ed(l:List bF):m' l=false<->Ea l:=by
 unfold m' xA;rw[<-Bool.not_eq_true,List.any_eq_true];constructor
 ·intro h a aW b U HY;obtain⟨i,G,rfl⟩:=List.mem_iff_getElem.1 aW;obtain⟨k,an,rfl⟩:=List.mem_iff_getElem.1 U;by_cases he:l[i]=l[k]
  ·omega
  ·exfalso;have eM:i≠k:=λe=>he (by grind);rcases Nat.lt_or_gt_of_ne eM with dk | dk
   ·refine h ⟨k,by grind,List.any_eq_true.2 ⟨i,by grind,?_⟩⟩;grind
   ·refine h ⟨i,by grind,List.any_eq_true.2 ⟨k,by grind,?_⟩⟩;grind
 ·rintro h ⟨i,G,an⟩;obtain⟨k,an,hc⟩:=List.any_eq_true.1 an;simp  at G an;rw[xD G,xD (by omega)]at hc;simp  at hc;exact hc.2 (h _ (amm _) _ (amm _) hc.1)
theorem awg:m' l=true<->¬Ea l:=by rw[<-Ed];simp
theorem aeD(h:xE l m)(hid:∀ s∈l,cH s.1 0 99=true):(hf jq (mj m)).map (λk=>(lQ m k).getD lP)=iP l:=by
 have aB:hf jq (mj m)=(fP 0 99).filter λk=>(ti l k).isSome:=by
  refine D4 ?_ ?_
  ·refine aQ3 _ ?_;unfold fP;rw[aQ2];exact (aQI).imp λh=>by omega
  ·refine (aQK h.ko ?_).2 λk=>?_
   ·refine aQ3 _ ?_;unfold fP;rw[aQ2];exact (aQI).imp λh=>by omega
   ·rw[aeB,h.re,List.mem_filter,vI];refine⟨λay=>⟨?_,ay⟩,λay=>ay.2⟩;obtain⟨s,ay⟩:=Option.isSome_iff_exists.1 ay;obtain⟨E,L⟩:=aeC ay;exact L ▸ uG.1 (hid s E)
 unfold iP;have:∀ ab:z1',(ab.filter λk=>(ti l k).isSome).map (λk=>(lQ m k).getD lP)=ab.filterMap λid=>l.find? λs=>s.1 == id:=by
  intro ab;induction ab with
  | nil=>rfl
  | cons k ab aO=>
   have e:(l.find? λs=>s.1 == k)=ti l k:=rfl;cases ax:ti l k with
   | none=>grind
   | some s=>
    have j9:(lQ m k).getD lP=s:=by rw[h.re,ax];rfl
    grind
 grind
theorem awh(h:xE l m)(hid:∀ s∈l,cH s.1 0 99=true):(iP l).length<=l.length:=by
 rw[<-aeD h hid,aPJ,Mv,mj,aPJ];exact h.tj
theorem aeE{rho:Type}{r:rho}{fin:List (Int×bF)->rho}:∀ (l:List bF) (m:List (Int×bF)),fb (λs m=>if ((lQ m s.1).isSome&&!decide ((lQ m s.1).getD lP=s))=true then .done r else .next (nF m s.1 s)) fin l m=match vR l m with | none=>r | some dp=>fin dp
 | [],m=>rfl
 | s::l,m=>by
  simp only[fb,vR];by_cases h:((lQ m s.1).isSome&&!decide ((lQ m s.1).getD lP=s))=true
  ·grind
  ·simp only[h,aPA];exact aeE l _
def Bz(l:List bF):Prop:=l.length<=24/\∀ s∈l,cH s.1 0 99=true
abbrev Ee:aN:=⟨.slice ja,.au (.slice ja) .bool,Bz,λl=>if m' l=true then ([],false) else (iP l,true)⟩
theorem awi{BA:z1'}(h:BA.length<=24) :
 dG (λ(A:z1'×Int×Int×List bF×List (Int×bF)×Unit)=>if decide (A.2.2.1<A.2.1)=true then ag (0<=A.2.2.1/\A.2.2.1<Int.ofNat (List.length A.1)) (ag (cb
 (Add.add (List.length A.2.2.2.1) (Add.add 0 1))) (mpure (aF.next (A.1,A.2.1,IntKind.wrap .i64 (Add.add A.2.2.1 1),A.2.2.2.1++[Option.getD
 (Option.map (λx=>x.2) (List.find? (λp=>decide (List.getD A.1 (Int.toNat A.2.2.1) 0=p.1)) A.2.2.2.2.1)) (0,0,0,0,0,0)],A.2.2.2.2.1,())))) else aq (mpure (aF.next (A.2.2.2.1,()))) λr=>mpure (aF.done r)) (BA,Int.ofNat (List.length BA),0,[],m,())=mpure (aF.next (BA.map (λk=>(lQ m k).getD lP),()):aF (List bF×Unit) rho):=by
 rw[e6 BA (λi b=>(BA,(BA.length:Int),(i:Int),b,m,())) (λk b=>.next (b++[(lQ m k).getD lP])) (λb=>.next (b,())) (λi b=>b.length=i) [] ?_ ?_ ?_ ?_]
 ·rw[ee,rX];rfl
 ·rfl
 ·rfl
 ·intro i G b U;have hw:=bp (n:=i+1);refine⟨?_,λbf eg=>?_⟩
  ·simp only[ct,dP G,d_ G,dt G,cj,dd,hw];rw[bb (kL (by grind))];rfl
  grind
 simp
variable {hj:Type}
def vS(R:M hj):List bF×Int×Int×List (Int×bF)×Unit->M (aF (List bF×Int×Int×List (Int×bF)×Unit) (aF (List (Int×bF)×Unit) hj)):=λ(A:List bF×Int×Int×List (Int×bF)×Unit)=>if decide (A.2.2.1<A.2.1)=true then ag (0<=A.2.2.1/\A.2.2.1 <
 Int.ofNat (List.length A.1)) (if (Option.isSome (Option.map (λx=>x.2) (List.find? (λp=>decide ((List.getD A.1 (Int.toNat A.2.2.1) (0,0,0,0,0,0)).1=p.1)) A.2.2.2.1))&&!(decide ((Option.getD (Option.map (λx=>x.2) (List.find? (λp=>decide ((List.getD A.1 (Int.toNat A.2.2.1)
 (0,0,0,0,0,0)).1=p.1)) A.2.2.2.1)) (0,0,0,0,0,0)).1=(List.getD A.1 (Int.toNat A.2.2.1) (0,0,0,0,0,0)).1)&&(decide ((Option.getD
 (Option.map (λx=>x.2) (List.find? (λp=>decide ((List.getD A.1 (Int.toNat A.2.2.1) (0,0,0,0,0,0)).1=p.1)) A.2.2.2.1)) (0,0,0,0,0,0)).2.1=(List.getD A.1 (Int.toNat A.2.2.1) (0,0,0,0,0,0)).2.1)&&(decide ((Option.getD (Option.map (λx=>x.2) (List.find? (λp=>
 decide ((List.getD A.1 (Int.toNat A.2.2.1) (0,0,0,0,0,0)).1=p.1)) A.2.2.2.1)) (0,0,0,0,0,0)).2.2.1=(List.getD A.1 (Int.toNat A.2.2.1)
 (0,0,0,0,0,0)).2.2.1)&&(decide ((Option.getD (Option.map (λx=>x.2) (List.find? (λp=>decide ((List.getD A.1 (Int.toNat A.2.2.1) (0,0,0,0,0,0)).1=p.1)) A.2.2.2.1)) (0,0,0,0,0,0)).2.2.2.1=(List.getD A.1 (Int.toNat A.2.2.1) (0,0,0,0,0,0)).2.2.2.1)&&(decide
 ((Option.getD (Option.map (λx=>x.2) (List.find? (λp=>decide ((List.getD A.1 (Int.toNat A.2.2.1) (0,0,0,0,0,0)).1=p.1)) A.2.2.2.1))
 (0,0,0,0,0,0)).2.2.2.2.1=(List.getD A.1 (Int.toNat A.2.2.1) (0,0,0,0,0,0)).2.2.2.2.1)&&decide ((Option.getD (Option.map (λx=>x.2)
 (List.find? (λp=>decide ((List.getD A.1 (Int.toNat A.2.2.1) (0,0,0,0,0,0)).1=p.1)) A.2.2.2.1)) (0,0,0,0,0,0)).2.2.2.2.2=(List.getD
 A.1 (Int.toNat A.2.2.1) (0,0,0,0,0,0)).2.2.2.2.2)))))))=true then aq (aq R λr=>mpure (aF.done r)) λr=>
 mpure (aF.done r) else mpure (aF.next (A.1,A.2.1,IntKind.wrap .i64 (Add.add A.2.2.1 1),nF A.2.2.2.1 (List.getD A.1 (Int.toNat A.2.2.1)
 (0,0,0,0,0,0)).1 (List.getD A.1 (Int.toNat A.2.2.1) (0,0,0,0,0,0)),()))) else aq (mpure (aF.next (A.2.2.2.1,()))) λr=>mpure
 (aF.done r)
theorem aeF{R:M hj}(ah:l.length<=24)(G:i<l.length)(m:List (Int×bF)):vS R (l,(l.length:Int),(i:Int),m,())=if ((lQ m l[i].1).isSome&&!decide ((lQ m l[i].1).getD lP=l[i]))=true then aq (aq R λr=>mpure (aF.done r)) λr=>mpure (aF.done r) else mpure (.next (l,(l.length:Int),((i+1:Nat):Int),nF m l[i].1 l[i],())):=by
 have hw:=bp (n:=i+1);unfold vS;simp only[ct,d_ G,dt G,cj,dd];rw[show (Option.map (λx=>x.2) (List.find? (λp=>decide (l[i].1=p.1)) m))=lQ m l[i].1 from rfl];grind
theorem aeG{R:M hj}(m:List (Int×bF)):vS R (l,(l.length:Int),(l.length:Int),m,())=mpure (.done (.next (m,()))):=by
 unfold vS;simp
def Ef(k:List bF->M hj):List (Int×bF)×Unit->M hj:=λ(A:List (Int×bF)×Unit)=>aq (aq
 (D_.sh A.1) λy=>aq (vN.sh y) λy=>dG (λ(A:z1'×Int×Int×List bF×
 List (Int×bF)×Unit)=>if decide (A.2.2.1<A.2.1)=true then ag (0<=A.2.2.1/\A.2.2.1<Int.ofNat (List.length A.1)) (ag (cb
 (Add.add (List.length A.2.2.2.1) (Add.add 0 1))) (mpure (aF.next (A.1,A.2.1,IntKind.wrap .i64 (Add.add A.2.2.1 1),A.2.2.2.1++[Option.getD
 (Option.map (λx=>x.2) (List.find? (λp=>decide (List.getD A.1 (Int.toNat A.2.2.1) 0=p.1)) A.2.2.2.2.1)) (0,0,0,0,0,0)],A.2.2.2.2.1,())))) else aq (mpure (aF.next (A.2.2.2.1,()))) λr=>mpure (aF.done r)) (y,Int.ofNat (List.length y),0,[],A.1,())) (aF.gb λ(A
 : List bF×Unit)=>k A.1)
theorem awj(fw:xE l m)(hid:Bz l)(k:List bF->M hj):Ef k (m,())=k (iP l):=by
 obtain⟨ah,hid⟩:=hid;have aj:vN.pre (lM (some m)):=aew (by have:=fw.tj;omega);have e:vN.sh (lM (some m))=mpure (hf jq (mj m)):=by
  refine (bN aj _).trans (congrArg mpure ?_);exact aex
 unfold Ef;rw[show D_.sh m=mpure (lM (some m)) from rfl,aK,e,aK,awi (by rw[Mv,mj,aPJ];have:=fw.tj;omega),aK,cK,aeD fw hid]
theorem aeH(l:List bF)(h:Bz l)(hc:m' l=false)(k:List bF->M hj)(R:M hj) :
  aq (dG (vS R) (l,Int.ofNat (List.length l),0,[],())) (aF.gb (Ef k))=k (iP l):=by
 have aA:=(Ed l).1 hc;obtain⟨E,_⟩:=Ec l [] [] .nil;rw[aQi]at E;obtain⟨m,hm,fw⟩:=E aA;have key:dG (vS R) (l,Int.ofNat (List.length l),0,[],())=mpure (.next (m,())):=by
  have gen:∀ (k:Nat) (i:Nat) (dp:List (Int×bF)),l.length - i=k->i<=l.length->vR (l.drop i) dp=some m->xE (l.take i) dp->dG (vS R) (l,l.length,i,dp,())=mpure (.next (m,())):=by
   intro k;induction k with
   | zero=>
    intro i dp an G ar _;have:i=l.length:=by omega
    subst this;simp  [vR]at ar;subst ar;exact wL (aeG _)
   | succ k aO=>
    intro i dp an G ar SN;have G:i<l.length:=by omega
    rw[aPE G]at ar;unfold vR at ar;split at ar
    ·grind
    ·rename_i Gn;refine (FD ((aeF h.1 G dp).trans (if_neg Gn))).trans ?_;obtain⟨dx,_⟩:=Ec [l[i]] (l.take i) dp SN;have tk:l.take i++[l[i]]=l.take (i+1):=by simp
     rw[tk]at dx;obtain⟨aN1,aB,bt⟩:=dx λa aW b U=>aA a (aPV aW) b (aPV U);simp  [vR]at aB;grind
  exact gen l.length 0 [] rfl (aPK _) hm .nil
 rw[key,aK,cK,awj fw h]
theorem awk(l:List bF)(h:Bz l)(hc:m' l=true)(k:List bF->M hj)(r:hj) :
  aq (dG (vS (mpure r)) (l,Int.ofNat (List.length l),0,[],())) (aF.gb (Ef k))=mpure r:=by
 rw[ev l (λi m=>(l,(l.length:Int),(i:Int),m,())) (λs m=>if ((lQ m s.1).isSome&&!decide ((lQ m s.1).getD lP=s))=true then (.done (.done r)) else .next (nF m s.1 s)) (λm=>.next (m,())) [] ?_ ?_ ?_]
 ·rw[aeE];obtain⟨_,L⟩:=Ec l [] [] .nil;rw[L (awg.1 hc)];simp
 ·rfl
 ·intro i G m;rw[aeF h.1 G m,aK,aK];exact aci (mk:=λm=>(l,(l.length:Int),((i+1):Int),m,()))
 ·intro m;exact aeG m
theorem awl(x):a6 (avo vN.sh D_.sh x) (Ee.sh x):=bx λh=>by
 show aq (dG (vS (mpure ([],false))) (x,Int.ofNat (List.length x),0,[],())) (aF.gb (Ef λa=>mpure (a,true)))=mpure (if m' x=true then ([],false) else (iP x,true));cases hc:m' x with
 | true=>exact awk x h hc _ _
 | false=>exact aeH x h hc _ _
def MA(x:List bF×Unit):M (Bool×List bF×Unit):=eF (Bz x.1/\m' x.1=false) (true,iP x.1,())
theorem awm(x):a6 (avw vN.sh D_.sh x) (MA x):=bx λh=>by
 show aq (dG (vS (mpure (false,[],()))) (x.1,Int.ofNat (List.length x.1),0,[],())) (aF.gb (Ef λa=>mpure (true,a,())))=_;exact aeH x.1 h.1 h.2 _ _
variable {c:bd}
theorem MB(h:lO c=true):Bz c.2.1:=by
 unfold lO vP at h;simp only[amn,aP4,aPH,aQg,aPT]at h;obtain⟨⟨⟨⟨⟨bA,_⟩,_⟩,L⟩,_⟩,_⟩:=h;refine⟨by omega,λs ay=>?_⟩;have:=L s ay;unfold nG at this;grind
theorem awn(x):a6 (adD y2.sh Ee.sh x) (jX.sh x):=bx λh=>by
 unfold adD bg;show _=mpure (dJ x);rw[show y2.sh x=mpure (lO x) from bN h _];unfold dJ;cases hc:lO x with
 | false=>simp
 | true=>
  rw[show Ee.sh x.2.1=mpure (if m' x.2.1=true then ([],false) else (iP x.2.1,true)) from bN (MB hc) _];cases m' x.2.1<;>simp
def MC(x:(bF->M Bool)×List bF×Unit):M ((z24')×List bF×Unit):=eF (x.2.1.length<2 ^ 63/\∀ y∈x.2.1,∃ b,x.1 y=mpure b)
 ((0,(x.2.1.filter λs=>!(x.1 s).val false).length),(x.2.1.filter λs=>!(x.1 s).val false)++List.replicate (x.2.1.length - (x.2.1.filter λs=>!(x.1 s).val false).length) lP,())
theorem aeI{af:Type}(p:af->Bool):∀ (l:List af) (i:Int),(l.any p=true->∃ k:Nat,∃ h:k<l.length,jK p l i=i+k/\p l[k]=true/\(∀ y∈l.take k,p y=false))
 | [],i,h=>by grind
 | x::l,i,h=>by
  unfold jK;by_cases ao:p x=true
  ·grind
  ·have p_:p x=false:=by grind
   simp only[aQC,p_]at h;obtain⟨k,an,E,L,ak⟩:=aeI p l (i+1) h;refine⟨k+1,by grind,by grind,by grind,?_⟩;grind
theorem awo(x):a6 (aee (kY ja).sh x) (MC x):=bx λh=>by
 obtain⟨f,l,u⟩:=x;obtain⟨E,L⟩:=h;change l.length<2 ^ 63 at E;change ∀ y∈l,∃ b,f y=mpure b at L;unfold aee iA bz cm bo a8 aQ bK bY bc bS;rw[show (kY ja).sh (l,f)=mpure (jK (λy=>(f y).val false) l 0) from bN ⟨E,L⟩ _];rw[aK];by_cases aW:(l.any λy=>(f y).val false)=true
 ·obtain⟨k,an,aB,bt,cT⟩:=aeI (λy=>(f y).val false) l 0 aW;have hw:=bp (n:=k+1);rw[aB];generalize bq:(λs=>!(f s).val false)=q at *
  have awp:∀ s,(!(f s).val false)=q s:=λs=>by grind
  have tk:l.take k=(l.take k).filter q:=by
   rw[List.filter_eq_self.2];grind
  have Eg:(l.take (k+1)).filter q=l.take k:=by
   rw[aQF,ams an,aQh];grind
  rw[ev (l.drop (k+1)) (λi (_)=>(f,(((l.take (k+1+i)).filter q).length:Int),((k+1+i:Nat):Int),(l.take (k+1+i)).filter q++l.drop ((l.take (k+1+i)).filter q).length,())) (λ_ u=>.next u) (λ_=>.next (((l.filter q).length),l.filter q++l.drop (l.filter q).length,())) () ?_ ?_ ?_]
  ·rw[ee];have hlen:(l.filter q).length<=l.length:=aP0 _ _;have hp:(l.filter q++l.drop (l.filter q).length).length=l.length:=by grind
   simp only[aK,cK,ct,hp];rw[bb (by omega)];simp only[cj,aPQ];have aeJ:List.take (l.filter q).length (l.filter q++l.drop (l.filter q).length)=l.filter q:=List.take_left;rw[aeJ];refine (bb ⟨by omega,by omega,by grind⟩ _).trans ?_;refine congrArg mpure (Prod.ext rfl (Prod.ext ?_ rfl));exact (congrArg (λz=>_++z) (List.drop_eq_nil_iff.2 (by simp))).trans (aPN _)
  ·rw[aRj,dd,hw];refine Prod.ext rfl (Prod.ext ?_ (Prod.ext ?_ (Prod.ext ?_ rfl)))
   ·grind
   ·rfl
   ·rw[Eg,aQm,aQ8 (by omega),aQL]
  ·intro i G _;have G:k+1+i<l.length:=by grind
   have hle:((l.take (k+1+i)).filter q).length<=k+i:=by
    rw[List.take_add,aQh,Eg];grind
   have dk:((l.take (k+1+i)).filter q).length<l.length:=by omega
   have n8:((l.take (k+1+i)).filter q++l.drop ((l.take (k+1+i)).filter q).length).length=l.length:=by grind
   have hw:=bp (n:=((k+1+i))+1);have gF:=bp (n:=(((l.take (k+1+i)).filter q).length)+1) (by omega) (by omega);have dH:k+1+i<((l.take (k+1+i)).filter q++l.drop ((l.take (k+1+i)).filter q).length).length:=by omega
   have Ki:((l.take (k+1+i)).filter q).length<((l.take (k+1+i)).filter q++l.drop ((l.take (k+1+i)).filter q).length).length:=by omega
   have j8:((l.take (k+1+i)).filter q++l.drop ((l.take (k+1+i)).filter q).length)[k+1+i]=l[k+1+i]:=by
    rw[aQR (by omega)];grind
   obtain⟨b,U⟩:=L _ (amm G);have ae:q l[k+1+i]=!b:=by rw[<-awp,U,kp]
   have tk:(l.take (k+1+(i+1))).filter q=(l.take (k+1+i)).filter q++(if (!b)=true then [l[k+1+i]] else []):=by
    rw[show k+1+(i+1)=k+1+i+1 from rfl,aQF,ams G,aRa,aQh,aRp,ae,List.filter_nil]
   simp only[ct,dP dH,d_ dH,dt dH,dt Ki,j8,U,gF];cases b with
   | true=>
    simp  at tk ⊢;grind
   | false=>
    simp  at tk ⊢;have es:(List.filter q (List.take (k+1+i) l)++List.drop (List.filter q (List.take (k+1+i) l)).length l).set (List.filter q (List.take (k+1+i) l)).length l[k+1+i]=(l.take (k+1+(i+1))).filter q++l.drop ((l.take (k+1+(i+1))).filter q).length:=by
     rw[tk,List.set_append_right _ _ (amo _),Nat.sub_self,aPE dk,List.set_cons_zero];simp
    grind
  ·intro _;have ah:(l.drop (k+1)).length=l.length - (k+1):=by simp
   have bL:k+1+(l.drop (k+1)).length=l.length:=by omega
   simp only[bL,aQc];rw[if_neg (by grind),aK]
 ·rw[HU _ _ aW];have:(l.filter λs=>!(f s).val false)=l:=by
   simp_all
  simp  [this,aPN]
abbrev bL:b1:=((0,0,0,0,0,0),0)
def ri(c:bd)(w:z1')(u:Int):List b1:=((hg c).filter λs=>decide (xz s=u)).map λs=>(s,Bw s+w.getD (r1 s).toNat 0)
def cM(c:bd)(w:z1')(u:Int):List b1:=hf kq (ri c w u)
def tl(l:List b1)(i:Nat):Bool:=!(decide (0<i)&&decide ((l.getD i bL).2=(l.getD (i - 1) bL).2))&&decide (fC (l.getD i bL).1=1+((i % 2:Nat):Int))
def jd(l:List b1):Bool:=(List.range l.length).all (tl l)
structure iQ(c:bd):Prop where
 T3:dJ c=0
 eB:c.1.length<=3
 eC:c.2.1.length<=12
 lf:c.2.2.1.length<=12
 n4:c.2.2.2.1.length<=4
 lC:lO c=true
 Eb:Ea c.2.1
 T4:r2 c.2.2.2.2=true
 clk:∀ s∈c.1,-30<=s.1/\s.1<=s.2/\s.2<=30
 kZ:∀ s∈c.2.1,nG c.1.length s=true
 ji:D' c.2.2.2.1=true
theorem rj(h:dJ c=0):iQ c:=by
 have aV:=h;unfold dJ at h;split at h
 ·rename_i hc;split at h
  ·omega
  ·rename_i aA;have pA:=hc;unfold lO vP at hc;simp only[amn,aP4,aPH,aQg,aPT]at hc;obtain⟨⟨⟨⟨⟨⟨⟨⟨cw,b2⟩,ef⟩,gj⟩,gg⟩,ig⟩,ih⟩,jY⟩,gA⟩:=hc;refine⟨aV,by omega,by omega,by omega,by omega,pA,(Ed _).1 (by grind),gg,λs ay=>?_,ih,gA⟩;have:=ig s ay;unfold vO at this;simp only[amn,aPH,aPT,uG]at this;omega
 omega
theorem Eh{n:Nat}:nG n s=true<->(0<=om s/\om s<=99)/\(0<=r1 s/\r1 s<=(n:Int) - 1)/\(0<=Bw s/\Bw s<=9999)/\(0<=xz s/\xz s<=9)/\(0<=kK s/\kK s<=99)/\(fC s=1\/fC s=2/\kK s=0):=by
 unfold nG;simp only[amn,uG,aPO,amq,and_assoc]
theorem iQ.awq(h:iQ c):∃ m,xE c.2.1 m:=by
 obtain⟨E,_⟩:=Ec c.2.1 [] [] .nil;rw[aQi]at E;obtain⟨m,_,fw⟩:=E h.Eb;grind
theorem iQ.T5(h:iQ c):(hg c).length<=12:=by
 obtain⟨m,fw⟩:=h.awq;have E:=awh fw (MB h.lC).2;have L:=aP0 (λs:bF=>!c.2.2.1.contains s.1) (iP c.2.1);have:=h.eC;unfold hg;omega
theorem HZ(h:s∈iP l):s∈l:=by
 unfold iP at h;grind
theorem awr(h:s∈hg c):s∈c.2.1:=HZ (List.mem_filter.1 h).1
theorem iQ.Ei(h:iQ c)(ay:s∈hg c):nG c.1.length s=true:=h.kZ s (awr ay)
def r5(c:bd)(w:z1'):Prop:=w.length=c.1.length/\∀ n∈w,-30<=n/\n<=30
variable {w:z1'}
theorem r5.at(h:r5 c w)(aD:iQ c)(ay:s∈hg c):0<=r1 s/\r1 s<(w.length:Int)/\-30<=w.getD (r1 s).toNat 0/\w.getD (r1 s).toNat 0<=30:=by
 have E:=(Eh.1 (aD.Ei ay)).2.1;have ah:r1 s<(w.length:Int):=by rw[h.1];omega
 exact⟨E.1,ah,h.2 _ (Bo E.1 ah)⟩
theorem H0(h:iQ c)(w:z1')(u:Int):(cM c w u).length<=12:=by
 unfold cM ri;rw[Mv,aPJ];exact aPG (aP0 _ _) h.T5
variable {e:b1}
theorem H2{u:Int}(h:e∈cM c w u):e.1∈hg c/\xz e.1=u/\e.2=Bw e.1+w.getD (r1 e.1).toNat 0:=by
 unfold cM at h;rw[aer]at h;unfold ri at h;grind
theorem aeK(i:Nat):Int.tmod (i:Int) 2=((i % 2:Nat):Int):=by
 rfl
theorem aws(l:List b1)(i:Nat):(decide ((i:Int) > 0)&&decide ((l.getD i bL).2=(l.getD (i - 1) bL).2)||decide (fC (l.getD i bL).1≠1+((i % 2:Nat):Int)))=!tl l i:=by
 unfold tl;simp
def o2(a b:Int)(s:z12'):Int:=max 0 (min (b - 1) s.2 - max a s.1+1)
def oo(cl:z4')(a b:Int):Int:=cl.foldl (λn s=>n - o2 a b s) (b - a)
def aeL(cl:z4'):Prop:=cl.length<=4/\∀ s∈cl,0<=s.1/\s.1<=s.2/\s.2<=9999
theorem iQ.T6(h:iQ c):aeL c.2.2.2.1:=by
 refine⟨h.n4,λs ay=>?_⟩;have:=h.ji;unfold D' at this;obtain⟨i,G,rfl⟩:=List.mem_iff_getElem.1 ay;simp_all[lN,uG]
abbrev Ej(x:bd×Int×Int):Prop:=aeL x.1.2.2.2.1/\-100<=x.2.1/\x.2.1<=x.2.2/\x.2.2<=11000
variable {a:Int}{s:z12'}{b:Int}
theorem awt(aW:-100<=a)(U:b<=11000)(ay:0<=s.1/\s.1<=s.2/\s.2<=9999):0<=o2 a b s/\o2 a b s<=20000:=by
 unfold o2;omega
variable {n:Int}
theorem awu:(if n > 0 then n else 0)=max 0 n:=by omega
theorem awv:(if a<b then a else b)=min b a:=by omega
theorem aww:(if a<b then a else b)=min a b:=by omega
theorem awx:(if a > b then a else b)=max b a:=by omega
theorem awy:(if a > b then a else b)=max a b:=by omega
abbrev y3:aN:=⟨.au lq (.au bH bH),bH,Ej,λx=>oo x.1.2.2.2.1 x.2.1 x.2.2⟩
theorem awz(x):a6 (adY x) (y3.sh x):=bx λh=>by
 obtain⟨c,a,b⟩:=x;obtain⟨⟨E,L⟩,ak,aZ,bP⟩:=h;change -100<=a at ak;change a<=b at aZ;change b<=11000 at bP;change c.2.2.2.1.length<=4 at E;unfold adY bz bo a8 aQ bK bY sK bc bS cD;have xr:=bp (n:=b - a);rw[e6 c.2.2.2.1 (λi n=>(a,b,n,c.2.2.2.1,(c.2.2.2.1.length:Int),(i:Int),())) (λs n=>.next (n - o2 a b s)) (λn=>.next (n,())) (λi n=>-(20000*i)<=n/\n<=20000) (b - a) ?_ ?_ ?_ ?_]
 ·rw[ee,aK];rfl
 ·grind
 ·omega
 ·intro i G n aA;have ay:=L _ (amm G);have hc:=awt     ak bP ay;have hw:=bp (n:=i+1);refine⟨?_,λbf eg=>?_⟩
  ·simp only[ct,dP G,d_ G,dt G,cj,dd,hw];have cf:=bp (n:=b - 1);have dL:=bp (n:=min (b - 1) c.2.2.2.1[i].2 - max a c.2.2.2.1[i].1);have hG:=bp (n:=min (b - 1) c.2.2.2.1[i].2 - max a c.2.2.2.1[i].1+1);have H3:=bp (n:=n - o2 a b c.2.2.2.1[i]);simp only[cf,aww,awy,dL,hG];rw[show max (min (b - 1) c.2.2.2.1[i].2 - max a c.2.2.2.1[i].1+1) 0=o2 a b c.2.2.2.1[i] from Int.max_comm _ _,H3];rfl
  grind
 simp
def oq(t:uF)(m:Int):Int:=if m>=t.2.2.2.2.1 then t.2.2.2.2.2.1 else min t.2.2.2.1 ((max 0 (m - t.1)+t.2.1 - 1) / t.2.1*t.2.2.1)
abbrev BB(x:uF×Int):Prop:=r2 x.1=true/\-100000<=x.2/\x.2<=20000
abbrev y4:aN:=⟨.au TQ bH,bH,BB,λx=>oq x.1 x.2⟩
variable {t:uF}
theorem MD:r2 t=true<->(0<=t.1/\t.1<=9999)/\(1<=t.2.1/\t.2.1<=9999)/\(1<=t.2.2.2.2.1/\t.2.2.2.2.1<=9999)/\(0<=t.2.2.1/\t.2.2.1<=100000)/\(0<=t.2.2.2.1/\t.2.2.2.1<=100000)/\(0<=t.2.2.2.2.2.1/\t.2.2.2.2.2.1<=100000)/\(0<=t.2.2.2.2.2.2/\t.2.2.2.2.2.2<=100000):=by
 grind [r2,uG]
variable {m:Int}
theorem aeM(h:BB (t,m)):0<=(max 0 (m - t.1)+t.2.1 - 1) / t.2.1/\(max 0 (m - t.1)+t.2.1 - 1) / t.2.1<=30000/\0<=(max 0 (m - t.1)+t.2.1 - 1) / t.2.1*t.2.2.1/\(max 0 (m - t.1)+t.2.1 - 1) / t.2.1*t.2.2.1<=3000000000:=by
 obtain⟨E,L,ak⟩:=h;obtain⟨cw,b2,ef,gj,gg,ig,ih⟩:=(MD (t:=t)).1 E;have cY:0<=(max 0 (m - t.1)+t.2.1 - 1) / t.2.1:=Int.ediv_nonneg (by omega) (by omega);have fe:(max 0 (m - t.1)+t.2.1 - 1) / t.2.1<=max 0 (m - t.1)+t.2.1 - 1:=Int.ediv_le_self _ (by omega);have iV:(max 0 (m - t.1)+t.2.1 - 1) / t.2.1<=30000:=by omega
 refine⟨cY,iV,Int.mul_nonneg cY gj.1,?_⟩;calc (max 0 (m - t.1)+t.2.1 - 1) / t.2.1*t.2.2.1<=30000*100000:=Int.mul_le_mul iV gj.2 gj.1 (by omega)
  _=3000000000:=by decide
theorem awA(h:BB (t,m)):0<=oq t m/\oq t m<=100000:=by
 grind [aeM,MD,oq]
theorem awB(x):a6 (adN x) (y4.sh x):=bx λh=>by
 obtain⟨t,m⟩:=x;have hu:=aeM h;obtain⟨E,L,ak⟩:=h;obtain⟨cw,b2,ef,gj,gg,ig,ih⟩:=(MD (t:=t)).1 E;have dL:=bp (n:=max 0 (m - t.1)+t.2.1);grind [bp,adN,oq,awu,bb]
def jr(c:bd)(w:z1')(u:Int):List b1:=if jd (cM c w u)=true then cM c w u else []
def qv(l:List b1)(minute:Int):z12':=l.foldl (λb e=>if e.2<=minute then (if fC e.1=2 then (-1,e.2) else (kK e.1,e.2)) else b) (-1,0)
def ME(c:bd)(w:z1')(minute:Int):Int:=((fP 0 9).foldl (λn u=>if (qv (jr c w u) minute).1>=0 then n+1 else n) (0:Int))
def xF(l:List b1):List (b1×b1):=l.zip (l.drop 1)
def H4(cl:z4')(kZ:Int)(l:List b1):Option Int:=((xF l).find? λp=>om p.1.1 == kZ&&fC p.1.1 == 1).map λp=>oo cl p.1.2 p.2.2
def na(c:bd)(w:z1')(kZ:Int):Option Int:=(fP 0 9).findSome? λu=>H4 c.2.2.2.1 kZ (jr c w u)
variable {l:List b1}
theorem awC(h:i+1<(hf kq l).length):(hf kq l)[i].2<=(hf kq l)[i+1].2:=by
 have:=List.pairwise_iff_getElem.1 (avZ l) i (i+1) (by omega) h (by omega);omega
theorem MF(aD:iQ c)(L:r5 c w){u:Int}(he:e∈cM c w u):-30<=e.2/\e.2<=10029:=by
 obtain⟨E,_,ak⟩:=H2 he;have aM:=(L.at aD E).2.2;have aS:=(Eh.1 (aD.Ei E)).2.2.1;omega
theorem H5{u:Int}(he:e∈jr c w u):e∈cM c w u:=by
 grind [jr]
theorem awD{u:Int}(h:i+1<(jr c w u).length):(jr c w u)[i].2<=(jr c w u)[i+1].2:=by
 have key:∀ l,jr c w u=l->∀ (h:i+1<l.length),l[i].2<=l[i+1].2:=by
  intro l ah h;unfold jr at ah;split at ah
  ·subst ah;exact awC h
  grind
 grind
theorem aeN{c:bd}(aD:iQ c){w:z1'}(L:r5 c w){u:Int}{i:Nat}(h:i+1<(jr c w u).length):Ej (c,(jr c w u)[i].2,(jr c w u)[i+1].2):=by
 have ak:=MF aD L (H5 (amm (by omega:i<(jr c w u).length)));have aZ:=MF aD L (H5 (amm h));exact⟨aD.T6,show -100<=(jr c w u)[i].2 by omega,awD h,show (jr c w u)[i+1].2<=11000 by omega⟩
theorem awE(h:i<(xF l).length):∃ L:i+1<l.length,(xF l)[i]=(l[i],l[i+1]):=by
 grind [xF]
theorem awF(h:b<=s.1):o2 a b s=0:=by unfold o2;omega
def vT:z4'->Prop
 | []=>True
 | s::r=>s.1<=s.2/\(∀ t∈r,s.2<t.1)/\vT r
theorem T7:∀ (cl:z4') (a b n:Int),cl.foldl (λn s=>n - o2 a b s) n=n - (cl.map (o2 a b)).sum
 | [],a,b,n=>by simp
 | s::r,a,b,n=>by simp;rw[T7 r];omega
theorem aeO:∀ (cl:z4') (a b:Int),vT cl->a<=b->(cl.map (o2 a b)).sum<=b - a
 | [],a,b,_,h=>by grind
 | s::r,a,b,⟨E,L,ak⟩,h=>by
  by_cases U:s.2+1<=b
  ·have aO:=aeO r (max a (s.2+1)) b ak (by omega);grind [o2,List.map_congr_left]
  ·have e:∀ l:z4',(∀ t∈l,b<=t.1)->(l.map (o2 a b)).sum=0:=by
    intro l;induction l with
    | nil=>simp
    | cons t l aO=>
     grind [awF]
   grind [o2]
theorem aeP:∀ (cl:z4'),(∀ i,(h:i+1<cl.length)->cl[i].2<cl[i+1].1)->(∀ s∈cl,s.1<=s.2)->vT cl
 | [],_,_=>trivial
 | s::r,h,L=>by
  have D:=aeP r (λi G=>by have:=h (i+1) (by grind);grind) λt aG=>L t (by grind);refine⟨L s (by simp),?_,D⟩;cases r with
  | nil=>simp
  | cons t r=>
   have aV:=h 0 (by simp);simp at aV;intro u hu;rcases List.mem_cons.1 hu with rfl | hu
   ·omega
   ·have:=D.2.1 u hu;grind
theorem iQ.awG(h:iQ c):vT c.2.2.2.1:=by
 have hc:=h.ji;unfold D' at hc;rw[aP4]at hc;refine aeP _ (λi G=>?_) λs ay=>(h.T6.2 s ay).2.1;have:=hc (i+1) (by grind);grind [lN]
variable {cl:z4'}
theorem awH(h:vT cl)(HY:a<=b):0<=oo cl a b:=by
 simp_all[oo,T7,aeO]
theorem aeQ:∀ (cl:z4') (a b:Int),0<=(cl.map (o2 a b)).sum
 | [],_,_=>by simp
 | s::r,a,b=>by
  have:=aeQ r a b;grind [o2]
theorem awI{cl:z4'}{a b:Int}:oo cl a b<=b - a:=by
 unfold oo;rw[T7];have:=aeQ cl a b;omega
theorem awJ{kZ:Int}(h:H4 cl kZ l=some m):∃ i,∃ G:i+1<l.length,l[i].1.1=kZ/\fC l[i].1=1/\m=oo cl l[i].2 l[i+1].2:=by
 unfold H4 at h;rw[aP3]at h;obtain⟨p,aj,rfl⟩:=h;obtain⟨i,G,rfl⟩:=List.mem_iff_getElem.1 (aQj aj);obtain⟨dH,e⟩:=awE G;grind
theorem aeR(aD:iQ c)(L:r5 c w){kZ:Int}(h:na c w kZ=some m):0<=m/\m<=11000:=by
 obtain⟨u,_,hu⟩:=List.exists_of_findSome?_eq_some h;obtain⟨i,G,_,_,rfl⟩:=awJ hu;have aj:=aeN aD L G;have hm:=awH aD.awG aj.2.2.1;have aZ:=MF aD L (H5 (amm G));have bP:=@awI c.2.2.2.1 (jr c w u)[i].2 (jr c w u)[i+1].2;grind
def T8(c:bd)(w:z1')(awK:Int):Int:=(hg c).foldl (λn s=>if (fC s=1/\kK s=awK)/\(na c w (om s)).isSome=true then n+oq c.2.2.2.2 ((na c w (om s)).getD 0) else n) 0
def Ek(c:bd)(kZ:Int):Bool:=(hg c).any λs=>om s == kZ&&fC s == 1
def vU(c:bd)(w:z1'):Bool:=(List.range w.length).all λi=>cH (w.getD i 0) (c.1.getD i (0,0)).1 (c.1.getD i (0,0)).2
def kM(c:bd)(w:z1'):Bool:=decide (w.length=c.1.length)&&vU c w&&(fP 0 9).all λu=>jd (cM c w u)
theorem aeS(aD:iQ c)(ah:w.length=c.1.length)(h:vU c w=true):r5 c w:=by
 refine⟨ah,λn aA=>?_⟩;obtain⟨i,G,rfl⟩:=List.mem_iff_getElem.1 aA;unfold vU at h;rw[aP4]at h;have E:=h i (by grind);rw[xD G,xD (by omega),uG]at E;have:=aD.clk _ (amm (by omega:i<c.1.length));omega
def ml:z4'->Nat
 | []=>1
 | s::r=>(s.2 - s.1+1).toNat*ml r
def pJ(c:bd):z4'->z1'->List (z1')
 | [],w=>if kM c w=true then [w] else []
 | s::r,w=>(fP s.1 s.2).flatMap λn=>pJ c r (w++[n])
theorem T9{af bet:Type}(f:af->List bet)(k:Nat):∀ (l:List af),(∀ x∈l,(f x).length<=k)->(l.flatMap f).length<=l.length*k
 | [],_=>by simp
 | x::l,h=>by
  simp only[aQn];have:=T9 f k l λy a_=>h y (by grind);grind
theorem T_(c:bd):∀ (r:z4') (w:z1'),(pJ c r w).length<=ml r
 | [],w=>by grind [pJ,ml]
 | s::r,w=>by
  unfold pJ ml;have:=T9 (λn=>pJ c r (w++[n])) (ml r) (fP s.1 s.2) λn _=>T_ c r _;grind [DP]
theorem aeT{af bet:Type}(f:af->List bet):∀ (l:List af) (b:List bet),l.foldl (λb x=>b++f x) b=b++l.flatMap f
 | [],b=>by simp
 | x::l,b=>by simp only[aPY,aQd];rw[aeT f l,aQG]
abbrev dE(c:bd):List (z1'):=pJ c c.1 []
def awL(c:bd):Prop:=dJ c=0->ml c.1<=60
def jL(c:bd):Prop:=avN c/\awL c
theorem jL.iL(h:jL c):mL c:=by
 obtain⟨⟨E,L,ak,aZ⟩,_⟩:=h;exact⟨by omega,by omega,by omega,by omega⟩
def fQ(c:bd)(b:Bool):List (z1')×Int:=if dJ c≠0 then ([],dJ c) else if b=false then ([],1) else if dE c=[] then ([],3) else (dE c,0)
theorem T'(c:bd):∀ (r:z4') (w x:z1'),x∈pJ c r w->kM c x=true
 | [],w,x,h=>by
  grind [pJ]
 | s::r,w,x,h=>by
  unfold pJ at h;rw[aQ4]at h;obtain⟨n,_,aA⟩:=h;exact T' c r _ x aA
theorem H6(h:dJ c=0)(hw:kM c w=true):r5 c w:=by
 grind [kM,aeS,rj]
theorem MG(hw:kM c w=true){u:Int}(hu:0<=u/\u<=9):jd (cM c w u)=true:=by
 grind [kM,vI]
theorem awM{b:Bool}(h:w∈(fQ c b).1):dJ c=0/\w∈dE c/\kM c w=true/\r5 c w:=by
 grind [fQ,T',H6]
def MH:Option (z12')->Int->z12'
 | none,n=>(n,n)
 | some s,n=>(min s.1 n,max s.2 n)
def BC(l:z1'):Option (z12'):=l.foldl (λo n=>some (MH o n)) none
def xG(l:z1'):z12':=(BC l).getD (0,0)
theorem awN(a b c:Int):dv.sh (a,b,c)=mpure (cH a b c):=rfl
def nH(c:bd)(kZ:Int):z19':=if (fQ c (Ek c kZ)).2≠0 then ([],(fQ c (Ek c kZ)).2) else if (fQ c (Ek c kZ)).1.filterMap (λw=>na c w kZ)=[] then ([],3) else ((fQ c (Ek c kZ)).1.filterMap (λw=>na c w kZ),0)
def Ua(c:bd)(n:Int):z17':=(xG (nH c n).1,(nH c n).2)
abbrev MI:aN:=⟨.au lq bH,.au o0 bH,λx=>jL x.1,λx=>Ua x.1 x.2⟩
def Ub(c:bd)(n:Int):z17':=(xG ((nH c n).1.map λm=>oq c.2.2.2.2 m),(nH c n).2)
abbrev MJ:aN:=⟨.au lq bH,.au o0 bH,λx=>jL x.1,λx=>Ub x.1 x.2⟩
def MK(c:bd)(g:Int):z17':=(xG ((fQ c (cH g 0 99)).1.map λw=>T8 c w g),(fQ c (cH g 0 99)).2)
abbrev ML:aN:=⟨.au lq bH,.au o0 bH,λx=>jL x.1,λx=>MK x.1 x.2⟩
def MM(c:bd)(t:Int):z17':=(xG ((fQ c (cH t 0 9999)).1.map λw=>ME c w t*c.2.2.2.2.2.2.2.2.2.2),(fQ c (cH t 0 9999)).2)
abbrev MN:aN:=⟨.au lq bH,.au o0 bH,λx=>jL x.1,λx=>MM x.1 x.2⟩
def y5(u t:Int):Bool:=cH u 0 9&&cH t 0 9999
def Uc(c:bd)(u t:Int):z1':=(fQ c (y5 u t)).1.map λw=>(qv (jr c w u) t).1
def vV(c:bd)(u t:Int):z19':=((fP (-1) 99).filter λg=>(Uc c u t).contains g,(fQ c (y5 u t)).2)
abbrev MO:aN:=⟨.au lq (.au bH bH),.au hK bH,λx=>jL x.1,λx=>vV x.1 x.2.1 x.2.2⟩
def H7(c:bd)(w:z1')(u t:Int):Bool:=decide ((qv (jr c w u) t).1>=0)&&decide (oo c.2.2.2.1 (qv (jr c w u) t).2 t>=c.2.2.2.2.2.2.2.2.1)
def rk(c:bd)(l:List (z1'))(u t:Int):Nat:=(l.filter λw=>H7 c w u t).length
def vW(c:bd)(t:Int):z1'×z19':=
 if (fQ c (cH t 0 9999)).2≠0 then ([],[],(fQ c (cH t 0 9999)).2)
 else ((fP 0 9).filter (λu=>decide (rk c (fQ c (cH t 0 9999)).1 u t=(fQ c (cH t 0 9999)).1.length)),(fP 0 9).filter (λu=>decide (rk c (fQ c (cH t 0 9999)).1 u t > 0)),0)
abbrev MP:aN:=⟨.au lq bH,.au hK (.au hK bH),λx=>jL x.1,λx=>vW x.1 x.2⟩
theorem Ud:∀ (l:List b1) (t:Int) (b:z12'),(∀ e∈l,(0<=kK e.1))->(l.foldl (λb e=>if e.2<=t then (if fC e.1=2 then (-1,e.2) else (kK e.1,e.2)) else b) b=b\/∃ e∈l,e.2<=t/\l.foldl (λb e=>if e.2<=t then (if fC e.1=2 then (-1,e.2) else (kK e.1,e.2)) else b) b=(if fC e.1=2 then (-1,e.2) else (kK e.1,e.2)))
 | [],t,b,_=>.inl rfl
 | x::l,t,b,h=>by
  by_cases ao:x.2<=t
  ·rcases Ud l t (if fC x.1=2 then (-1,x.2) else (kK x.1,x.2)) λe he=>h e (by grind) with E | ⟨e,he,E,L⟩<;>grind
  ·rcases Ud l t b λe he=>h e (by grind) with E | ⟨e,he,E,L⟩<;>grind
theorem awO(aD:iQ c)(L:r5 c w){u t:Int}(aG:t<=9999)(h:(qv (jr c w u) t).1>=0):Ej (c,(qv (jr c w u) t).2,t):=by
 rcases Ud (jr c w u) t (-1,0) (λe he=>((Eh.1 (aD.Ei (H2 (H5 he)).1)).2.2.2.2.1).1) with E | ⟨e,he,E,ak⟩
 ·unfold qv at h;grind
 ·have:=MF aD L (H5 he);have bt:(qv (jr c w u) t).2=e.2:=by
   unfold qv;grind
  exact⟨aD.T6,by grind,by grind,show t<=11000 by omega⟩
abbrev mE(z:j6):bd:=(z.1,z.2.1,z.2.2.1,z.2.2.2.1,z.2.2.2.2.1,z.cu,z.ft,z.h2,z.kX,z.mh,z.mD)
abbrev Ue(z:j6):List bF:=z.jc
abbrev aeU(z:j6):List (Option ha):=z.oi
abbrev H8(c:bd)(l:List bF)(t:List (Option ha)):j6:=(c.1,c.2.1,c.2.2.1,c.2.2.2.1,c.2.2.2.2.1,c.2.2.2.2.2.1,c.2.2.2.2.2.2.1,c.2.2.2.2.2.2.2.1,c.2.2.2.2.2.2.2.2.1,c.2.2.2.2.2.2.2.2.2.1,c.2.2.2.2.2.2.2.2.2.2,l,t,())
def xH(l:List bF)(w:z1')(u:Int):List b1:=(l.filter λs=>decide (xz s=u)).map λs=>(s,Bw s+w.getD (r1 s).toNat 0)
theorem awP{l:List bF}(h:i<l.length)(u:Int):xH (l.take (i+1)) w u=if l[i].2.2.2.2.1=u then xH (l.take i) w u++[(l[i],Bw l[i]+w.getD (r1 l[i]).toNat 0)] else xH (l.take i) w u:=by
 unfold xH;rw[aQF,ams h,aRa,aQh,aPZ];grind
theorem aeV(l:List bF)(w:z1')(u:Int):(xH l w u).length<=l.length:=by
 unfold xH;grind
abbrev pK(c:bd)(w:z1'):List (List b1):=[cM c w 0,cM c w 1,cM c w 2,cM c w 3,cM c w 4,cM c w 5,cM c w 6,cM c w 7,cM c w 8,cM c w 9]
def vY(c:bd)(w:z1'):Bool:=(fP 0 9).all λu=>jd (cM c w u)
theorem awQ(c:bd)(w:z1'):vY c w=(jd (cM c w 0)&&(jd (cM c w 1)&&(jd (cM c w 2)&&(jd (cM c w 3)&&(jd (cM c w 4)&&(jd (cM c w 5)&&(jd (cM c w 6)&&(jd (cM c w 7)&&(jd (cM c w 8)&&jd (cM c w 9)))))))))):=by
 unfold vY;rw[show fP 0 9=[0,1,2,3,4,5,6,7,8,9] from by decide];simp
abbrev awR(x:z1'×j6):Prop:=dJ (mE x.2)=0/\r5 (mE x.2) x.1/\Ue x.2=hg (mE x.2)
def xI(x:z1'×j6):M (Option ha×Bool×j6):=eF (awR x) (if vY (mE x.2) x.1=true then (some (x.1,pK (mE x.2) x.1),true,x.2) else (none,false,x.2))
theorem awS{bk:Type}{body:Int×Int×Int×bk->M (aF (Int×Int×Int×bk) rho)}(l:List b1){z:bk}(bad qw:rho)
  (U:∀ i,i<l.length->body (a,n,(i:Int),z)=mpure (if (!tl l i)=true then .done bad else .next (a,n,((i+1:Nat):Int),z)))
  (he:body (a,n,(l.length:Int),z)=mpure (.done qw)):dG body (a,n,0,z)=mpure (if jd l=true then qw else bad):=by
 rw[ev (List.range l.length) (λi (_:Unit)=>(a,n,(i:Int),z)) (λi b=>if (!tl l i)=true then .done bad else .next b) (λ_=>qw) () ?_ ?_ ?_]
 ·rw[mf (q:=tl l) _ _ (λ_=>rfl)];rfl
 ·rfl
 ·intro i G b;have G:i<l.length:=by grind
  rw[U i G,aPC];cases tl l i<;>rfl
 grind
theorem aeW{X:Type}(ah:l.length<=12)(G:i<l.length)(an:k=1+((i % 2:Nat):Int))(aI B:M X):TP l l[i] i k aI B=if (!tl l i)=true then aI else B:=by
 unfold TP;have C2:=aws l i;rw[Bool.or_comm,xD G]at C2;have aB:(decide (l[i].1.2.2.2.1≠k)||decide ((i:Int) > 0)&&decide (l[i].2=(List.getD l (Int.toNat (IntKind.wrap .i64 ((i:Int) - 1))) ((0,0,0,0,0,0),0)).2))=!tl l i:=by
  rw[<-C2,an];rcases Nat.eq_zero_or_pos i with aV | aV
  ·simp_all
  ·rw[bp (n:=(i:Int) - 1),show ((i:Int) - 1).toNat=i - 1 from by omega]
 rw[aB];have bP:decide ((i:Int) > 0)=true->(0<=IntKind.wrap .i64 ((i:Int) - 1)/\IntKind.wrap .i64 ((i:Int) - 1)<Int.ofNat (List.length l)):=λh=>by
  have h:=aP6 h;rw[bp (n:=(i:Int) - 1),ct];omega
 simp_all
theorem awT(h:l.length<=12):D7 (th.sh,l,())=mpure (hf kq l,()):=bN ⟨h,rfl⟩ _
theorem awU{l:List bF}(ah:l.length<=12)(ay:∀ s∈l,nG c.1.length s=true)(hw:r5 c w)(G:i<l.length):0<=l[i].2.2.2.2.1/\l[i].2.2.2.2.1<=9/\(0<=l[i].2.1/\l[i].2.1<(w.length:Int))/\IntKind.wrap .i64 (l[i].2.2.1+w.getD l[i].2.1.toNat 0)=l[i].2.2.1+w.getD l[i].2.1.toNat 0:=by
 have h:=Eh.1 (ay _ (amm G));have E:r1 l[i]<(w.length:Int):=by rw[hw.1];omega
 have L:=hw.2 _ (Bo (d:=0) h.2.1.1 E);have ak:=h.2.2.1;have aZ:=h.2.2.2.1;exact⟨aZ.1,aZ.2,⟨h.2.1.1,E⟩,bp (by grind) (by grind)⟩
abbrev qx(f:Nat->List b1)(c:j6):qu:=(f 0,f 1,f 2,f 3,f 4,f 5,f 6,f 7,f 8,f 9,c)
theorem Uf{f g:Nat->List b1}(h:∀ u,u<10->f u=g u)(c:j6):qx f c=qx g c:=by
 simp only[qx,h 0 (by decide),h 1 (by decide),h 2 (by decide),h 3 (by decide),h 4 (by decide),h 5 (by decide),h 6 (by decide),h 7 (by decide),h 8 (by decide),h 9 (by decide)]
theorem Ug(f:Nat->List b1)(c:j6):∀ k,k<10->oZ k (qx f c)=f k
 | 0,_ | 1,_ | 2,_ | 3,_ | 4,_ | 5,_ | 6,_ | 7,_ | 8,_ | 9,_=>rfl
 | k+10,h=>by omega
theorem aeX(f:Nat->List b1)(c:j6)(v:List b1):∀ k,k<10->Mq k v (qx f c)=qx (λj=>if j=k then v else f j) c
 | 0,_ | 1,_ | 2,_ | 3,_ | 4,_ | 5,_ | 6,_ | 7,_ | 8,_ | 9,_=>rfl
 | k+10,h=>by omega
theorem aeY{X:Type}(f:Nat->M X){v:Int}{u:Nat}(h:v=(u:Int)):∀ {n:Nat},u<=n->Ms f v n=f u
 | 0,hu=>by
  obtain rfl:u=0:=by omega
  rfl
 | n+1,hu=>by
  unfold Ms;simp only[kV,ct,h];by_cases e:u=n+1
  ·rw[if_pos (by omega),e]
  ·rw[if_neg (by omega)];exact aeY f rfl (by omega)
theorem awV(mz:∀ u,(cM c w u).length<=12){z:j6}{g:Nat->List b1}{k:Nat}(an:k<10)(aD:g k=cM c w k) :
  dG (Mr k) (Int.ofNat k,Int.ofNat (List.length (cM c w k)),0,w,qx g z)=mpure (if jd (cM c w k)=true then .next (Int.ofNat k,w,qx g z) else .done (.done (none,false,z))):=by
 have aB:oZ k (qx g z)=cM c w k:=(Ug g z k an).trans aD;refine awS (cM c w k) _ _ (λi G=>?_) ?_
 ·have hw:=bp (n:=(i:Int)+1) (by omega) (by have:=mz k;omega);unfold Mr;simp only[ct,dP G,if_true,aB,dt G,d_ G,cj];rcases Nat.mod_two_eq_zero_or_one i with hm | hm
  ·have aw:decide (Int.tmod (i:Int) 2=1)=false:=by rw[aeK,hm];rfl
   simp only[aw,aml,aPA,Fz,aK,cK];rw[bb (by decide),aB];refine (aeW (mz k) G (by rw[hm];rfl) _ _).trans ?_;simp only[dd,hw];cases tl (cM c w k) i<;>rfl
  ·have aw:decide (Int.tmod (i:Int) 2=1)=true:=by rw[aeK,hm];rfl
   simp only[aw,if_true,Fz,aK,cK];rw[bb (by decide),aB];refine (aeW (mz k) G (by rw[hm];rfl) _ _).trans ?_;simp only[dd,hw];cases tl (cM c w k) i<;>rfl
 ·unfold Mr;simp
theorem aeZ{c:bd}{w:z1'}(hlen:∀ u,(ri c w u).length<=12)(mz:∀ u,(cM c w u).length<=12){z:j6}:∀ n k,k+n=10->
  HS D7 th.sh n k (w,qx (λu=>if u<k then cM c w u else ri c w u) z)=mpure (if ((List.range' k n).all λu=>jd (cM c w u))=true then .next (w,qx (λu=>cM c w u) z) else .done (none,false,z))
 | 0,k,h=>by
  unfold HS;rw[Uf (g:=λu=>cM c w u) λu hu=>if_pos (by omega)];rfl
 | n+1,k,h=>by
  have an:k<10:=by omega
  have ay:D7 (th.sh,ri c w k,())=mpure (cM c w k,()):=awT (hlen k);have hw:=bp (n:=(k:Int)+1);have bt:Mq k (cM c w k) (qx (λu=>if u<k then cM c w u else ri c w u) z)=qx (λu=>if u<k+1 then cM c w u else ri c w u) z:=by
   rw[aeX _ _ _ _ an];exact Uf (λu hu=>by
    by_cases e:u=k
    ·subst e;simp
    ·by_cases bt:u<k
     ·simp[e,bt,show u<k+1 by omega]
     ·simp[e,bt,show ¬u<k+1 by omega]) _
  unfold HS;dsimp only;rw[bb (by simp only[ct];omega),Ug _ _ _ an,if_neg (Nat.lt_irrefl k),ay,aK];simp only[bt];rw[awV mz an (if_pos (aQl k)),aK,aRm,aQq];cases jd (cM c w k) with
  | false=>rfl
  | true=>
   simp only[if_true,aQP,cK];rw[bb (by simp only[ct,dd,hw];omega)];exact aeZ hlen mz n (k+1) (by omega)
theorem Uh(x):a6 (aek vM.sh D7 th.sh x) (xI x):=bx λh=>by
 obtain⟨w,z⟩:=x;obtain⟨E,L,ak⟩:=h;change dJ (mE z)=0 at E;change r5 (mE z) w at L;change z.jc=hg (mE z) at ak;show _=mpure (if vY (mE z) w=true then (some (w,pK (mE z) w),true,z) else (none,false,z));generalize ur:mE z=c at *
 have aD:=rj E;have ah:=aD.T5;have qO:∀ s∈hg c,nG c.1.length s=true:=λs ay=>aD.Ei ay;have aA:=aD.eB;have hlen:∀ u,(ri c w u).length<=12:=λu=>aPG (aeV (hg c) w u) ah;have mz:∀ u,(cM c w u).length<=12:=λu=>H0 aD w u;have r6:∀ u,xH z.jc w u=ri c w u:=λu=>by rw[ak];rfl
 rw[<-ak]at ah qO;clear ak;unfold aek bz cm bo a8 aQ bY bc bS;rw[show vM.sh w=mpure w from bN (show w.length<=3000000 by have:=L.1;omega) _];simp only[aK,cK,cj];refine (congrArg (λm=>aq m _) (ev z.jc (λi (_:Unit)=>(w,z.jc,(z.jc.length:Int),(i:Int),w,qx (λu=>xH (z.jc.take i) w u) z)) (λ_ b=>.next b) (λ_=>.next (w,qx (λu=>ri c w u) z)) () ?_ ?_ ?_)).trans ?_
 ·simp only[ct,List.take_zero];rfl
 ·intro i G b;obtain⟨aM,aS,b4,hZ⟩:=awU (c:=c) ah qO L G;have hw:=bp (n:=(i:Int)+1);have gK:∀ u,cb (Add.add (xH (z.jc.take i) w u).length (Add.add 0 1)):=λu=>kL (by have:=aeV (z.jc.take i) w u;rw[aQm]at this;simp only[kV];omega);obtain⟨u,hu⟩:∃ u:Nat,z.jc[i].2.2.2.2.1=(u:Int):=⟨z.jc[i].2.2.2.2.1.toNat,by omega⟩
  have awW:u<=9:=by omega
  simp only[ct,dP G,if_true,d_ G,dt G,cj];rw[bb (show (0<=z.jc[i].2.2.2.2.1/\z.jc[i].2.2.2.2.1<((10:Nat):Int)) from⟨aM,by omega⟩),aeY _ hu awW];unfold aej;simp only[d_ G,ct,Ug _ _ u (show u<10 by omega),aeX _ _ _ u (show u<10 by omega)];rw[bb trivial,bb (by omega),bb b4,bb (gK _),bb trivial,bb (by omega),aK,cK];simp only[dd,hw,hZ];refine congrArg (λq=>mpure (aF.next (w,z.jc,(z.jc.length:Int),((i:Int)+1),w,q))) ?_;refine Uf (λj aJ=>?_) _;rw[awP G,hu];by_cases e:j=u
  ·subst e;rw[if_pos rfl,if_pos rfl,<-hu]
  ·rw[if_neg e,if_neg (by omega)]
 ·intro b;simp only[aQc,r6];simp
 ·rw[ee,aK,cK];have bL:=aeZ (c:=c) (w:=w) hlen mz (z:=z) 10 0 rfl;rw[bb (by decide)];rw[show (λu:Nat=>if u<0 then cM c w u else ri c w u)=λu:Nat=>ri c w u from funext λu=>if_neg (Nat.not_lt_zero u)]at bL;rw[bL,aK];have aB:((List.range' 0 10).all λu=>jd (cM c w u))=vY c w:=by
   rw[awQ];simp[List.range']
  rw[aB];cases vY c w<;>rfl
abbrev k0(c:bd)(w:z1'):Option ha:=some (w,pK c w)
abbrev awX(f:Nat)(x:z1'×j6):Prop:=dJ (mE x.2)=0/\Ue x.2=hg (mE x.2)/\x.1.length<=(mE x.2).1.length/\(mE x.2).1.length<x.1.length+f/\vU (mE x.2) x.1=true/\(aeU x.2).length+ml ((mE x.2).1.drop x.1.length)<=60
def BD(f:Nat)(x:z1'×j6):M j6:=eF (awX f x) (H8 (mE x.2) (Ue x.2) (aeU x.2++(pJ (mE x.2) ((mE x.2).1.drop x.1.length) x.1).map (k0 (mE x.2))))
theorem awY(x):¬(BD 0 x).fm:=λh=>by have E:=h.2.2.1;have L:=h.2.2.2.1;omega
theorem awZ:vU c (w++[n])=(vU c w&&cH n (c.1.getD w.length (0,0)).1 (c.1.getD w.length (0,0)).2):=by
 grind [vU]
theorem aw0(ah:w.length=c.1.length)(h:vU c w=true):kM c w=vY c w:=by
 grind [kM,vY]
set_option maxHeartbeats 1000000 in
theorem aw1(f:Nat)(x):a6 (aem (BD f) xI x) (BD (f+1) x):=bx λh=>by
 obtain⟨w,a0,cw,b2,ef,gj,gg,ig,ih,jY,gA,jy,l,t,u⟩:=x;obtain⟨E,L,ak,aZ,bP,ej⟩:=h;change dJ (a0,cw,b2,ef,gj,gg,ig,ih,jY,gA,jy)=0 at E;change l=hg (a0,cw,b2,ef,gj,gg,ig,ih,jY,gA,jy) at L;change w.length<=a0.length at ak;change a0.length<w.length+(f+1) at aZ;change vU (a0,cw,b2,ef,gj,gg,ig,ih,jY,gA,jy) w=true at bP;change t.length+ml (a0.drop w.length)<=60 at ej;show _=mpure (H8 (a0,cw,b2,ef,gj,gg,ig,ih,jY,gA,jy) l (t++(pJ (a0,cw,b2,ef,gj,gg,ig,ih,jY,gA,jy) (a0.drop w.length) w).map (k0 (a0,cw,b2,ef,gj,gg,ig,ih,jY,gA,jy))));have aD:=rj E;have aA:a0.length<=3:=aD.eB;unfold aem bz cm bg bo a8 aQ pD bc eD bS;simp only[Prod.cu,Prod.ft,Prod.h2,Prod.kX,Prod.mh,Prod.mD,Prod.jc,Prod.oi,Prod.qs,Prod.vJ,Prod.Bs,Prod.HO,Prod.TD,Prod.TE,Prod.TF,ct,cj];by_cases ah:w.length=a0.length
 ·rw[if_pos (by simp only[amq];omega)];have aw2:r5 (a0,cw,b2,ef,gj,gg,ig,ih,jY,gA,jy) w:=aeS aD ah bP;have ar:xI (w,a0,cw,b2,ef,gj,gg,ig,ih,jY,gA,jy,l,t,())=mpure (if vY (a0,cw,b2,ef,gj,gg,ig,ih,jY,gA,jy) w=true then (k0 (a0,cw,b2,ef,gj,gg,ig,ih,jY,gA,jy) w,true,a0,cw,b2,ef,gj,gg,ig,ih,jY,gA,jy,l,t,()) else (none,false,a0,cw,b2,ef,gj,gg,ig,ih,jY,gA,jy,l,t,())):=bN ⟨E,aw2,L⟩ _;rw[ar,aK,ah,List.drop_length];unfold pJ;rw[aw0 ah bP];cases an:vY (a0,cw,b2,ef,gj,gg,ig,ih,jY,gA,jy) w with
  | true=>
   rw[if_pos rfl,if_pos rfl,bb (kL (by simp only[kV];omega)),aK,cK];rfl
  | false=>
   simp only[aml,aPA,aK,cK,List.map_nil,aPN]
 ·have dk:w.length<a0.length:=by omega
  rw[if_neg (by simp only[amq];omega),bb (show (0:Int)<=(w.length:Int)/\(w.length:Int)<(a0.length:Int) by omega)];rw[aPE dk]at ej ⊢;simp only[aPQ,xD dk];have ay:=aD.clk _ (amm dk);change -30<=a0[w.length].1/\a0[w.length].1<=a0[w.length].2/\a0[w.length].2<=30 at ay;have qy:a0.getD w.length (0,0)=a0[w.length]:=xD dk;generalize a0[w.length]=s at *
  unfold ml at ej;have H9:∀ n (ts:List (Option ha)),s.1<=n->n<=s.2->ts.length+ml (a0.drop (w.length+1))<=60->BD f (w++[n],a0,cw,b2,ef,gj,gg,ig,ih,jY,gA,jy,l,ts,())=mpure (H8 (a0,cw,b2,ef,gj,gg,ig,ih,jY,gA,jy) l (ts++(pJ (a0,cw,b2,ef,gj,gg,ig,ih,jY,gA,jy) (a0.drop (w.length+1)) (w++[n])).map (k0 (a0,cw,b2,ef,gj,gg,ig,ih,jY,gA,jy)))):=by
   intro n ts aM aS b4;refine (bN ⟨E,L,?_,?_,?_,?_⟩ _).trans (congrArg mpure ?_)
   ·show H8 (a0,cw,b2,ef,gj,gg,ig,ih,jY,gA,jy) l (ts++(pJ (a0,cw,b2,ef,gj,gg,ig,ih,jY,gA,jy) (a0.drop (w++[n]).length) (w++[n])).map (k0 (a0,cw,b2,ef,gj,gg,ig,ih,jY,gA,jy)))=_;rw[aP1,aQQ]
   ·show (w++[n]).length<=a0.length;simp;omega
   ·show a0.length<(w++[n]).length+f;simp;omega
   ·show vU (a0,cw,b2,ef,gj,gg,ig,ih,jY,gA,jy) (w++[n])=true;rw[awZ,bP];show (true&&cH n (a0.getD w.length (0,0)).1 (a0.getD w.length (0,0)).2)=true;rw[qy,aQP];exact uG.2 ⟨aM,aS⟩
   ·show ts.length+ml (a0.drop (w++[n]).length)<=60;rw[aP1,aQQ];exact b4
  rw[e6 (fP s.1 s.2) (λi (ts:List (Option ha))=>(w,(w.length:Int),s.1+(i:Int),a0,cw,b2,ef,gj,gg,ig,ih,jY,gA,jy,l,ts,())) (λn ts=>.next (ts++(pJ (a0,cw,b2,ef,gj,gg,ig,ih,jY,gA,jy) (a0.drop (w.length+1)) (w++[n])).map (k0 (a0,cw,b2,ef,gj,gg,ig,ih,jY,gA,jy)))) (λts=>(a0,cw,b2,ef,gj,gg,ig,ih,jY,gA,jy,l,ts,())) (λi ts=>ts.length<=t.length+i*ml (a0.drop (w.length+1))) t ?_ ?_ ?_ ?_]
  ·rw[ee,aeT (f:=λn=>(pJ (a0,cw,b2,ef,gj,gg,ig,ih,jY,gA,jy) (a0.drop (w.length+1)) (w++[n])).map (k0 (a0,cw,b2,ef,gj,gg,ig,ih,jY,gA,jy)))];rw[<-List.map_flatMap];rfl
  ·rw[Int.natCast_zero,Int.add_zero]
  ·simp
  ·intro i G ts ar;rw[DP]at G;have hw:=bp (n:=s.1+(i:Int)+1);have aw:decide (s.1+(i:Int)<=s.2)=true:=by simpa using (by omega:s.1+(i:Int)<=s.2)
   have hle:=T_ (a0,cw,b2,ef,gj,gg,ig,ih,jY,gA,jy) (a0.drop (w.length+1)) (w++[s.1+(i:Int)]);have aw3:ts.length+ml (a0.drop (w.length+1))<=60:=by
    have:(i+1)*ml (a0.drop (w.length+1))<=(s.2 - s.1+1).toNat*ml (a0.drop (w.length+1)):=amt _ (by omega);rw[Nat.succ_mul]at this;omega
   refine⟨?_,λbf eg=>?_⟩
   ·simp only[aPQ,qy,aw,if_true,dd,hw,HL,aQc];rw[bb (by omega),bb ⟨by omega,by omega,trivial,by omega⟩,bb ⟨by simp only[kV];omega,kL (by simp only[kV];omega)⟩,H9 _ ts (by omega) (by omega) aw3,aK];simp only[aF.pF];rw[show s.1+((i+1:Nat):Int)=s.1+(i:Int)+1 from by omega]
   ·simp only[aF.next.injEq,HL]at eg;subst eg;rw[aP1,aPJ,Nat.succ_mul];omega
  ·intro ts ar;rw[DP];have aw:decide (s.1+(((s.2 - s.1+1).toNat:Nat):Int)<=s.2)=false:=by simpa using (by omega:s.2<s.1+(((s.2 - s.1+1).toNat:Nat):Int))
   simp only[aPQ,qy,aw,aml,aPA,aK];rw[bb (by omega)]
abbrev xJ:bd:=([],[],[],[],0,0,0,0,0,0,0)
abbrev El:aN:=⟨.au ja (.bM lq),dY,λx=>∃ c:bd,x.2=some c/\c.2.2.1.length<2 ^ 63,λx=>(x.2.getD xJ).2.2.1.contains (om x.1)⟩
theorem Ui(x):a6 (ad0 r3.sh x) (El.sh x):=bx λh=>by
 obtain⟨s,o⟩:=x;obtain⟨c,hc,h⟩:=h;subst hc;unfold ad0;simp only[amx];rw[show r3.sh (c.2.2.1,s.1)=mpure (c.2.2.1.contains s.1) from bN h _,aK]
abbrev xK(c:bd):h1:=(c,hg c,(dE c).map (k0 c))
def H_(c:bd)(f:Option h1->M Bool):Bool:=(f (some (c,hg c,[]))).val false
def hL(c:bd)(b:Bool):Option h1×Int:=if dJ c≠0 then (none,dJ c) else if b=false then (none,1) else if dE c=[] then (none,3) else (some (xK c),0)
abbrev o3:aN:=⟨.au lq (.fn (.bM vL) .bool),.au (.bM vL) bH,λx=>jL x.1/\(dJ x.1=0->∃ b,x.2 (some (x.1,hg x.1,[]))=mpure b),λx=>hL x.1 (H_ x.1 x.2)⟩
theorem aw4(aD:iQ c):MC ((λs=>El.sh (s,some c)),iP c.2.1,())=mpure ((0,(hg c).length),hg c++List.replicate ((iP c.2.1).length - (hg c).length) lP,()):=by
 have ae:∀ s,El.sh (s,some c)=mpure (c.2.2.1.contains s.1):=λs=>bN ⟨c,rfl,by have:=aD.lf;omega⟩ _;have e:((iP c.2.1).filter λs=>!(El.sh (s,some c)).val false)=hg c:=by
  simp_all[hg]
 have:=awe c.2.1;refine (bN ⟨show (iP c.2.1).length<2 ^ 63 by omega,λs _=>⟨_,ae s⟩⟩ _).trans (congrArg mpure ?_);grind
set_option maxHeartbeats 1000000 in
theorem Uj(x):a6 (adG jX.sh MA MC (BD 5) El.sh x) (o3.sh x):=bx λh=>by
 obtain⟨c,f⟩:=x;obtain⟨h,ax⟩:=h;change jL c at h;change dJ c=0->∃ b,f (some (c,hg c,[]))=mpure b at ax;unfold adG cm bo aQ pD bc;show _=mpure (hL c (H_ c f));unfold hL;rw[show jX.sh c=mpure (dJ c) from bN h.iL _];simp only[aK,amq];by_cases hc:dJ c=0
 ·simp only[hc,ne_eq,not_true_eq_false,aPA];have aD:=rj hc;obtain⟨b,U⟩:=ax hc;have E:=aD.eB;have hid:=MB aD.lC;rw[show MA (c.2.1,())=mpure (true,iP c.2.1,()) from bN ⟨hid,(Ed _).2 aD.Eb⟩ _,aK];simp only[cj];rw[aw4 aD,aK];have tk:List.drop 0 (List.take (hg c).length (hg c++List.replicate ((iP c.2.1).length - (hg c).length) lP))=hg c:=by
   rw[List.drop_zero,List.take_left]
  simp only[tk];unfold H_;simp only[U,kp,aK];cases b with
  | false=>simp
  | true=>
   simp only[aP9,aml,aPA,aK,cK,reduceCtorEq];simp only[Prod.cu,Prod.ft,Prod.h2,Prod.kX,Prod.mh,Prod.mD,Prod.jc,Prod.oi,Prod.qs,Prod.vJ,Prod.Bs,Prod.HO,Prod.TD,Prod.TE,Prod.TF,tk];have qy:BD 5 ([],c.1,c.2.1,c.2.2.1,c.2.2.2.1,c.2.2.2.2.1,c.2.2.2.2.2.1,c.2.2.2.2.2.2.1,c.2.2.2.2.2.2.2.1,c.2.2.2.2.2.2.2.2.1,c.2.2.2.2.2.2.2.2.2.1,c.2.2.2.2.2.2.2.2.2.2,hg c,[],())=mpure (H8 c (hg c) ((dE c).map (k0 c))):=bN ⟨hc,rfl,aPK _,show c.1.length<0+5 by omega,rfl,show 0+ml c.1<=60 by have:=h.2 hc;omega⟩ _;rw[qy,aK];simp only[ct,aPJ];by_cases aG:dE c=[]
   ·simp[aG]
   ·have:¬((dE c).length:Int)=0:=λe=>aG (aPU (by omega));simp only[this,aG,aPA]
 ·simp only[hc,ne_eq,not_false_eq_true,if_true]
def Em(l:List (Option ha))(f:Option ha->M (z28')):Option (z12'):=BC (l.filterMap λt=>if ((f t).val (0,false)).2=true then some ((f t).val (0,false)).1 else none)
abbrev En:aN:=⟨.au (.bM vL) (.fn (.bM Bu) (.au bH .bool)),.au o0 .bool,λx=>∃ b:h1,x.1=some b/\b.2.2.length<=60/\∀ t∈b.2.2,∃ r,x.2 t=mpure r,λx=>((Em (x.1.getD (xJ,[],[])).2.2 x.2).getD (0,0),(Em (x.1.getD (xJ,[],[])).2.2 x.2).isSome)⟩
theorem ae0{af bet hj:Type}(g:af->Option bet)(h:hj->bet->hj):∀ (l:List af) (b:hj),l.foldl (λb x=>(g x).elim b λy=>h b y) b=(l.filterMap g).foldl h b
 | [],b=>rfl
 | x::l,b=>by
  simp;rw[ae0 g h l];grind
theorem aw5(x):a6 (adP x) (En.sh x):=bx λh=>by
 obtain⟨o,f⟩:=x;obtain⟨b,U,ah,ax⟩:=h;subst U;unfold adP bz cm bg bo a8 aQ bY sK bc bS;simp only[aPP,cj,amx];change ∀ t∈b.2.2,∃ r,f t=mpure r at ax;generalize b.2.2=l at *
 rw[ev l (λi o=>(f,o.isSome,l,(l.length:Int),(i:Int),o.getD (0,0),())) (λt o=>.next ((if ((f t).val (0,false)).2=true then some ((f t).val (0,false)).1 else none).elim o λn=>some (MH o n))) (λo=>.next (o.isSome,o.getD (0,0),())) none ?_ ?_ ?_]
 ·rw[ee,ae0 (λt=>if ((f t).val (0,false)).2=true then some ((f t).val (0,false)).1 else none) (λo n=>some (MH o n)),aK];rfl
 ·rfl
 ·intro i G o;have hw:=bp (n:=i+1);obtain⟨r,D⟩:=ax _ (amm G);simp only[ct,dP G,d_ G,dt G,D];obtain⟨n,cB⟩:=r;cases cB with
  | false=>simp_all
  | true=>
   cases o with
   | none=>simp  [hw];rfl
   | some s=>
    simp  [hw];rw[awv,awx];rfl
 simp
section
variable {af:Type}
def ae1(x:Nat×List (Int×af)×(Nat×(z1'->Prop)×z1'×Bool)×Unit):M ((Nat×(z1'->Prop)×z1'×Bool)×Unit):=
 aq (mpure ()) λy=>dG (λ(A:Nat×(Nat×(z1'->Prop)×z1'×Bool)×(Option (Int×af)×List (Int×af))×Unit)=>
 aq (K1 A.2.2.1.2) λy=>if Option.isSome y=true then aq (ag (Option.isSome (qg A.2.2.1.1 A.2.2.1.2 y)=true) (mpure ())) λcg
 =>aq (ag (A.1=A.2.1.1/\A.2.1.2.2.2=false/\∃ (T:z1'),A.2.1.2.1 (A.2.1.2.2.1++Option.getD (Option.map (λx=>x.1) (qg
 A.2.2.1.1 A.2.2.1.2 y)) 0::T)) (mM λx=>True)) λei=>if (!ei)=true then aq (mpure ((A.2.1.1,A.2.1.2.1,A.2.1.2.2.1++
 [Option.getD (Option.map (λx=>x.1) (qg A.2.2.1.1 A.2.2.1.2 y)) 0],!ei),())) λr=>mpure (aF.done r) else mpure (aF.next (A.1,(A.2.1.1,A.2.1.2.1,A.2.1.2.2.1++[Option.getD (Option.map (λx=>x.1) (qg A.2.2.1.1 A.2.2.1.2 y)) 0],!ei),(qg A.2.2.1.1 A.2.2.1.2 y,GJ A.2.2.1.2 y),())) else aq (mpure (A.2.1,())) λr=>mpure (aF.done r)) (x.1,x.2.2.1,(none,x.2.1),())
theorem ae2{bet:Type}:∀ (l:List bet) (i:Nat) (h:i<l.length),(l[i]::l.eraseIdx i).Perm l
 | x::l,0,_=>.refl _
 | x::l,i+1,h=>by
  exact (List.Perm.swap x _ _).trans ((ae2 l i (by grind)).cons x)
theorem ae3(l:Nat)(m:List (Int×af)):c6 (ae1 (l,m,(l,lM (some m),[],false),())) λy=>y.1.2.2.2=false->lM (some m) y.1.2.2.1:=by
 unfold ae1;rw[aK];refine zX (λA=>∃ p c b6,A=(l,(l,lM (some m),p,false),(c,b6),())/\(m.map (·.1)).Perm (p++b6.map (·.1))) (λA=>A.2.2.1.2.length) ?_ _ ⟨[],none,m,rfl,.refl _⟩;rintro A ⟨p,c,b6,rfl,aj⟩;rw[fD];refine⟨trivial,λy a_=>?_⟩;cases y with
 | none=>
  have D:b6=[]:=a_;grind [aK,dF,xC]
 | some i=>
  have G:i<b6.length:=a_;have aA:qg c b6 (some i)=some b6[i]:=ams G;have D:GJ b6 (some i)=b6.eraseIdx i:=rfl;have yy:(m.map (·.1)).Perm (p++b6[i].1::(b6.eraseIdx i).map (·.1)):=aj.trans (List.Perm.append_left p ((ae2 b6 i G).symm.map (·.1)));simp only[aPP,if_true,aA,cj,aK,aQ9,amx];rw[fD,h6];refine⟨⟨trivial,trivial,(b6.eraseIdx i).map (·.1),xC.2 yy⟩,⟨true,trivial⟩,λb _=>?_⟩;grind [dF]
end
theorem aw6(l:Nat)(m:z4'):c6 (TN (l,m,(l,lM (some m),[],false),())) λy=>y.1.2.2.2=false->lM (some m) y.1.2.2.1:=ae3 l m
theorem aw7(l:Nat)(m:List (Int×bF)):c6 (TO (l,m,(l,lM (some m),[],false),())) λy=>y.1.2.2.2=false->lM (some m) y.1.2.2.1:=ae3 l m
def dH(cl:z4'):List b1->List b1
 | a::b::r=>(a.1,oo cl a.2 b.2)::dH cl r
 | _=>[]
def Ia(c:bd)(hF:List (List b1)):Prop:=hF.length=10/\∀ l∈hF,l.length<=12/\∀ i,(h:i+1<l.length)->Ej (c,l[i].2,l[i+1].2)
def uI(c:bd)(hF:List (List b1)):List b1:=hF.flatMap (dH c.2.2.2.1)
def vZ(x:Option (Option ha)×Option (Option h1))(ab:List b1):Prop:=∃ t b,x.1=some (some t)/\x.2=some (some b)/\Ia b.1 t.2/\ab=uI b.1 t.2
theorem aw8(h:i+1<l.length):dH cl (l.drop i)=(l[i].1,oo cl l[i].2 l[i+1].2)::dH cl (l.drop (i+2)):=by
 rw[aPE (by omega),aPE h];rfl
theorem aw9(h:¬i+1<l.length):dH cl (l.drop i)=[]:=by
 have:(l.drop i).length<=1:=by grind
 match h:l.drop i with
 | []=>rfl
 | [_]=>rfl
 | _::_::_=>grind
set_option maxHeartbeats 1000000 in
theorem aw_(fM:Nat)(t:ha)(b:h1)(h:Ia b.1 t.2):c6 (Mp y3.sh (fM,some t,some b,(fM,vZ (some (some t),some (some b)),[],false),())) λy=>y.1.2.2.2=false->vZ (some (some t),some (some b)) y.1.2.2.1:=by
 obtain⟨E,L⟩:=h;have ux:∀ ab,vZ (some (some t),some (some b)) ab<->ab=uI b.1 t.2:=λab=>⟨λ⟨dN,bf,aB,bt,_,e⟩=>by cases aB;cases bt;exact e,λe=>⟨t,b,rfl,rfl,⟨E,L⟩,e⟩⟩
 generalize vZ (some (some t),some (some b))=S at *
 unfold Mp e0 iA bz cm bo a8 cS iO bY pD bc bS dB vG;simp only[aPP,cj,amx];refine zX (λA=>∃ (u:Nat),u<=10/\A=(fM,some b,t.2,(u:Int),(fM,S,(t.2.take u).flatMap (dH b.1.2.2.2.1),false),())) (λA=>(10 - A.2.2.2.1).toNat) ?_ _ ⟨0,by omega,rfl⟩;rintro A ⟨u,hu,rfl⟩;by_cases GX:u<10
 ·have aw:decide ((u:Int)<10)=true:=by simpa using (by omega:(u:Int)<10)
  have vF:u<t.2.length:=by omega
  have aw':=bp (n:=(u:Int)+1);have hm:=amm vF;obtain⟨ak,aZ⟩:=L _ hm;simp only[aw,if_true,d_ vF];rw[bb (show (0:Int)<=(u:Int)/\(u:Int)<Int.ofNat 10 by rw[ct];omega)];have gu:uI b.1 t.2=(t.2.take u).flatMap (dH b.1.2.2.2.1)++(dH b.1.2.2.2.1 t.2[u]++(t.2.drop (u+1)).flatMap (dH b.1.2.2.2.1)):=by
   unfold uI;conv=>lhs;rw[<-aQL u t.2,aPE vF]
   simp only[List.flatMap_append,aQd]
  generalize axa:t.2[u]=lR at *
  generalize (t.2.drop (u+1)).flatMap (dH b.1.2.2.2.1)=R at *
  generalize jU:(t.2.take u).flatMap (dH b.1.2.2.2.1)=P at *
  have axb:(t.2.take (u+1)).flatMap (dH b.1.2.2.2.1)=P++dH b.1.2.2.2.1 lR:=by
   rw[aQF,ams vF,aRa,List.flatMap_append,jU,axa];simp
  rw[fD];refine (zX (p:=λz=>match z with | .next z=>z=(fM,some b,t.2,(u:Int),(fM,S,P++dH b.1.2.2.2.1 lR,false),()) | .done z=>(match z with | .next _=>False | .done y=>y.1.2.2.2=true)) (λA=>∃ (i:Nat) (Q:List b1),i<=lR.length+1/\Q++dH b.1.2.2.2.1 (lR.drop i)=dH b.1.2.2.2.1 lR/\A=(fM,some b,lR,(i:Int),t.2,(u:Int),(fM,S,P++Q,false),())) (λA=>(20 - A.2.2.2.1).toNat) ?_ _ ⟨0,[],by omega,by simp,by simp⟩).mono λz bA=>?_
  ·rintro A ⟨i,Q,sL,ql,rfl⟩;have hw:=bp (n:=(i:Int)+1);have gF:=bp (n:=(i:Int)+2);by_cases G:i+1<lR.length
   ·have ae4:i<lR.length:=by omega
    have aw:decide ((i:Int)+1<(lR.length:Int))=true:=by simpa using (by omega:(i:Int)+1<(lR.length:Int))
    have c8:(0:Int)<=(i:Int)+1/\(i:Int)+1<(lR.length:Int):=⟨by omega,by omega⟩
    have j8:lR.getD ((i:Int)+1).toNat ((0,0,0,0,0,0),0)=lR[i+1]:=by
     rw[show ((i:Int)+1).toNat=i+1 from by omega,xD G]
    have em:y3.sh (b.1,lR[i].2,lR[i+1].2)=mpure (oo b.1.2.2.2.1 lR[i].2 lR[i+1].2):=bN (aZ i G) _;simp only[Prod.cu,Prod.ft,ct,dd,hw,aw,if_true,d_ ae4,dt ae4,c8,j8,aPP,amx,em,tG,kp,aQJ,cj,aRd];rw[fD,h6];have df:=aw8 (cl:=b.1.2.2.2.1) G;refine⟨⟨trivial,trivial,dH b.1.2.2.2.1 (lR.drop (i+2))++R,(ux _).2 ?_⟩,⟨true,trivial⟩,λy _=>?_⟩
    ·rw[gu,<-ql,df];simp
    ·cases y with
     | false=>
      simp only[aQu,if_true,aK];exact dF.2 rfl
     | true=>
      simp only[aP9,aml,aPA,gF];refine dF.2 ⟨⟨i+2,Q++[(lR[i].1,oo b.1.2.2.2.1 lR[i].2 lR[i+1].2)],by omega,?_,?_⟩,?_⟩
      ·rw[<-ql,df];simp
      ·rw[aQG];rfl
      ·show (20 - ((i:Int)+2)).toNat<(20 - (i:Int)).toNat;omega
   ·have aw:decide ((i:Int)+1<(lR.length:Int))=false:=by simpa using (by omega:(lR.length:Int)<=(i:Int)+1)
    simp only[ct,dd,hw,aw,aml,aPA,aK];refine dF.2 ?_;rw[aw9 G,aPN]at ql;show (fM,some b,t.2,(u:Int),(fM,S,P++Q,false),())=_;rw[ql]
  ·cases z with
   | next z=>
    have bA:z=_:=bA;subst bA;simp only[cK,dd,aw'];refine dF.2 ⟨⟨u+1,by omega,?_⟩,?_⟩
    ·rw[axb];rfl
    ·show (10 - ((u:Int)+1)).toNat<(10 - (u:Int)).toNat;omega
   | done z=>
    cases z with
    | next z=>exact absurd bA id
    | done y=>
     have bA:y.1.2.2.2=true:=bA;simp only[uD];refine dF.2 λh=>?_;rw[bA]at h;cases h
 ·have A8:u=10:=by omega
  subst A8;simp only[show decide (((10:Nat):Int)<10)=false from by decide,aml,aPA,aK];refine dF.2 λ_=>(ux _).2 ?_;show (t.2.take 10).flatMap _=_;rw[<-E,aQc];rfl
abbrev Eo:aN:=⟨.au (.bM vL) (.bM Bu),.cE (.au ja bH),λ_=>True,λx=>vZ (some x.2,some x.1)⟩
theorem axc(x):a6 (avm vZ x) (Eo.sh x):=bx λ_=>rfl
end Go.Fer.H
namespace Go.Fer.H
theorem Ep{af bet:Type}{f:af->bet}:∀ {l:List af},(l.map f).Nodup->∀ {a b:af},a∈l->b∈l->f a=f b->a=b
 | [],_,a,b,aW,_,_=>by grind
 | x::l,aA,a,b,aW,U,e=>by
  rw[aPS,aQ0]at aA;rcases List.mem_cons.1 aW with E | E<;>rcases List.mem_cons.1 U with L | L
  ·grind
  ·grind
  ·grind
  ·exact Ep aA.2 E L e
theorem axd{l m:z1'}(h:l.Perm m):l.sum=m.sum:=by
 induction h with
 | nil=>rfl
 | cons x _ aO=>grind
 | swap x y l=>grind
 | trans _ _ E L=>omega
variable {l:List b1}
theorem Uk(h:jd l=true){i:Nat}(G:i<l.length):fC l[i].1=1+((i % 2:Nat):Int)/\(0<i->l[i].2≠(l.getD (i - 1) bL).2):=by
 unfold jd at h;rw[aP4]at h;have:=h i (by grind);unfold tl at this;grind
theorem ae5(cl:z4'):∀ l:List b1,(∀ i,(h:i<l.length)->fC l[i].1=1+((i % 2:Nat):Int))->dH cl l=((xF l).filter λp=>fC p.1.1 == 1).map λp=>(p.1.1,oo cl p.1.2 p.2.2)
 | [],_=>rfl
 | [_],_=>rfl
 | [a,b],h=>by
  have aW:fC a.1=1:=h 0 (by simp);simp[dH,xF,aW]
 | a::b::c::r,h=>by
  have aW:fC a.1=1:=h 0 (by simp);have U:fC b.1=2:=h 1 (by simp);have aO:=ae5 cl (c::r) λi G=>by
   have:=h (i+2) (by grind);grind
  have e:xF (a::b::c::r)=(a,b)::(b,c)::xF (c::r):=rfl;rw[e,List.filter_cons_of_pos (by grind),List.filter_cons_of_neg (by grind),aPS,<-aO];rfl
abbrev pL(c:bd)(w:z1'):List b1:=uI c (pK c w)
theorem MQ(c:bd)(w:z1'):pL c w=(fP 0 9).flatMap λu=>dH c.2.2.2.1 (cM c w u):=by
 rfl
variable {c:bd}{w:z1'}
theorem Ul(hw:kM c w=true){u:Int}(hu:0<=u/\u<=9):jr c w u=cM c w u:=by
 unfold jr;rw[if_pos (MG hw hu)]
theorem axe{cl:z4'}(h:jd l=true)(kZ:Int):H4 cl kZ l=((dH cl l).find? λp=>p.1.1 == kZ).map (·.2):=by
 rw[ae5 cl l λi G=>(Uk h G).1];unfold H4;rw[List.find?_map,List.find?_filter,Option.map_map];refine congrArg _ (congrArg (λf=>(xF l).find? f) ?_);grind
theorem ae6{af bet:Type}{f g:af->Option bet}:∀ {l:List af},(∀ x∈l,f x=g x)->l.findSome? f=l.findSome? g
 | [],_=>rfl
 | x::l,h=>by
  rw[List.findSome?_cons,List.findSome?_cons,h x (by simp),ae6 λy a_=>h y (by grind)]
theorem Um(hw:kM c w=true)(kZ:Int):na c w kZ=((pL c w).find? λp=>p.1.1 == kZ).map (·.2):=by
 unfold na;rw[MQ,List.find?_flatMap,List.map_findSome?];refine ae6 λu hu=>?_;have hu:=vI.1 hu;rw[Ul hw hu,axe (MG hw hu)];rfl
theorem ae7(aD:iQ c)(hw:kM c w=true):Ia c (pK c w):=by
 have L:=H6 aD.T3 hw;have key:∀ u:Int,0<=u/\u<=9->(cM c w u).length<=12/\∀ i,(h:i+1<(cM c w u).length)->Ej (c,(cM c w u)[i].2,(cM c w u)[i+1].2):=by
  intro u hu;have:=Ul hw hu;refine⟨H0 aD w u,?_⟩;have k:=λi=>@aeN c aD w L u i;simp only[this]at k;exact k
 refine⟨rfl,λl ah=>?_⟩;simp only[pK,aQN,List.not_mem_nil,or_false]at ah;rcases ah with rfl | rfl | rfl | rfl | rfl | rfl | rfl | rfl | rfl | rfl<;>exact key _ (by omega)
theorem ae8{cl:z4'}:∀ {l:List b1} {p:b1},p∈dH cl l->∃ i,∃ h:i+1<l.length,i % 2=0/\p=(l[i].1,oo cl l[i].2 l[i+1].2)
 | [],_,h=>by simp[dH]at h
 | [_],_,h=>by simp[dH]at h
 | a::b::r,p,h=>by
  unfold dH at h;rcases List.mem_cons.1 h with rfl | h
  ·exact⟨0,by simp,rfl,rfl⟩
  ·obtain⟨i,G,L,e⟩:=ae8 h;exact⟨i+2,by grind,by omega,e⟩
theorem ae9(cl:z4'):∀ l:List b1,((dH cl l).map (·.1)).Sublist (l.map (·.1))
 | []=>.slnil
 | [_]=>List.nil_sublist _
 | a::b::r=>by
  unfold dH;simp only[aPS];exact ((ae9 cl r).cons _).cons_cons _
theorem ae_(l:List bF):((iP l).map (·.1)).Nodup:=by
 unfold iP;have key:∀ ab:z1',ab.Nodup->((ab.filterMap λid=>l.find? λs=>s.1 == id).map (·.1)).Nodup/\∀ k∈(ab.filterMap λid=>l.find? λs=>s.1 == id).map (·.1),k∈ab:=by
  grind
 refine (key _ ?_).1;unfold fP;show List.Pairwise _ _;rw[aQ2];exact (aQI).imp λh=>by omega
theorem Un(c:bd):((hg c).map (·.1)).Nodup:=by
 unfold hg;exact (ae_ c.2.1).sublist (List.filter_sublist.map _)
theorem Uo{a b:bF}(aW:a∈hg c)(U:b∈hg c)(h:a.1=b.1):a=b:=by
 exact Ep (Un c) aW U h
theorem ae'(c:bd)(w:z1')(u:Int):((cM c w u).map (·.1)).Perm ((hg c).filter λs=>decide (xz s=u)):=by
 unfold cM ri;refine ((HW kq _).map _).trans ?_;rw[aQE];exact List.Perm.of_eq (List.map_id' _)
variable {p:b1}
theorem afa(h:p∈pL c w):∃ u,0<=u/\u<=9/\∃ i,∃ G:i+1<(cM c w u).length,i % 2=0/\p=((cM c w u)[i].1,oo c.2.2.2.1 (cM c w u)[i].2 (cM c w u)[i+1].2):=by
 rw[MQ,aQ4]at h;obtain⟨u,hu,aj⟩:=h;obtain⟨i,G,L,e⟩:=ae8 aj;exact⟨u,(vI.1 hu).1,(vI.1 hu).2,i,G,L,e⟩
theorem Er(h:p∈pL c w):p.1∈hg c:=by
 obtain⟨u,_,_,i,G,_,rfl⟩:=afa h;exact (H2 (amm (by omega:i<(cM c w u).length))).1
theorem axf(hw:kM c w=true)(h:p∈pL c w):fC p.1=1:=by
 obtain⟨u,E,L,i,G,ak,rfl⟩:=afa h;have:=(Uk (MG hw ⟨E,L⟩) (by omega:i<(cM c w u).length)).1;grind
theorem Up(c:bd)(w:z1'):((pL c w).map (·.1)).Nodup:=by
 have hc:(hg c).Nodup:=by
  have:=Un c;exact List.Pairwise.of_map _ (λa b h e=>h (by rw[e])) this
 have hu:∀ u,((dH c.2.2.2.1 (cM c w u)).map (·.1)).Nodup/\∀ s∈(dH c.2.2.2.1 (cM c w u)).map (·.1),xz s=u:=by
  intro u;have ay:=ae9 c.2.2.2.1 (cM c w u);have aj:=ae' c w u;grind
 rw[MQ,List.map_flatMap];have key:∀ ab:z1',ab.Nodup->(ab.flatMap λu=>(dH c.2.2.2.1 (cM c w u)).map (·.1)).Nodup/\∀ s∈(ab.flatMap λu=>(dH c.2.2.2.1 (cM c w u)).map (·.1)),xz s∈ab:=by
  grind
 refine (key _ ?_).1;unfold fP;show List.Pairwise _ _;rw[aQ2];exact (aQI).imp λh=>by omega
theorem afb{af:Type}(BE:af->Int):∀ (l:List af) (n:Int),l.foldl (λn x=>n+BE x) n=n+(l.map BE).sum
 | [],n=>by simp
 | x::l,n=>by simp only[aPY,aPS,List.sum_cons];rw[afb BE l];omega
variable {af:Type}
theorem axg{f g:af->Int}{l:List af}(h:∀ x∈l,f x=g x):(l.map f).sum=(l.map g).sum:=by rw[aPF h]
theorem axh{psiq:b1->Int}:∀ (C:List bF) (H:List b1),(C.map (·.1)).Nodup->(H.map (·.1)).Nodup->(∀ p∈H,p.1∈C)->(C.map λs=>(((H.find? λp=>p.1.1 == s.1).map psiq).getD 0)).sum=(H.map psiq).sum:=by
 intro C H kC po uf;have e:(H.map psiq).sum=((C.filterMap λs=>H.find? λp=>p.1.1 == s.1).map psiq).sum:=by
  refine axd (List.Perm.map psiq ?_);have axi:H.Nodup:=List.Pairwise.of_map _ (λa b h e=>h (by rw[e])) po;refine (aQK axi ?_).2 λp=>?_
  ·have:∀ C:List bF,(C.map (·.1)).Nodup->(C.filterMap λs=>H.find? λp=>p.1.1 == s.1).Nodup/\∀ q∈(C.filterMap λs=>H.find? λp=>p.1.1 == s.1),q.1.1∈C.map (·.1):=by
    grind
   grind
  ·rw[List.mem_filterMap];constructor
   ·intro aj;refine⟨p.1,uf p aj,?_⟩;have hex:(H.find? λq=>q.1.1 == p.1.1).isSome=true:=List.find?_isSome.2 ⟨p,aj,by simp⟩;obtain⟨q,bq⟩:=Option.isSome_iff_exists.1 hex;have Ib:q.1.1=p.1.1:=by grind
    have y6:=aQj bq;have A7:q.1=p.1:=Ep kC (uf q y6) (uf p aj) Ib;have:q=p:=Ep po y6 aj A7;grind
   grind
 rw[e];have:∀ C:List bF,(C.map λs=>(((H.find? λp=>p.1.1 == s.1).map psiq).getD 0)).sum=((C.filterMap λs=>H.find? λp=>p.1.1 == s.1).map psiq).sum:=by
  intro C;induction C with
  | nil=>rfl
  | cons s C aO=>
   grind
 grind
def y7(c:bd)(g:Int)(p:b1):Int:=if kK p.1=g then oq c.2.2.2.2 p.2 else 0
theorem axj(hw:kM c w=true)(g:Int):T8 c w g=((pL c w).map (y7 c g)).sum:=by
 rw[<-axh (psiq:=y7 c g) (hg c) (pL c w) (Un c) (Up c w) λp aj=>Er aj];unfold T8;have e:(λ(n:Int) (s:bF)=>if (fC s=1/\kK s=g)/\(na c w (om s)).isSome=true then n+oq c.2.2.2.2 ((na c w (om s)).getD 0) else n)=λn s=>n+(if (fC s=1/\kK s=g)/\(na c w (om s)).isSome=true then oq c.2.2.2.2 ((na c w (om s)).getD 0) else 0):=by
  grind
 rw[e,afb,aRj];refine axg λs ay=>?_;rw[Um hw];cases ax:(pL c w).find? λp=>p.1.1 == om s with
 | none=>simp
 | some p=>
  have aj:=aQj ax;have E:p.1.1=s.1:=by grind
  have L:p.1=s:=Uo (Er aj) ay E;have ak:=axf hw aj;rw[L]at ak;simp only[aQ9,amx,aPP,aQ7,ak,aRq,y7,L]
theorem Es(c:bd)(b:Bool):((fQ c b).2≠0/\(fQ c b).1=[]/\hL c b=(none,(fQ c b).2))\/(fQ c b=(dE c,0)/\dJ c=0/\b=true/\hL c b=(some (xK c),0)):=by
 unfold fQ hL;grind
theorem Uq{af bet:Type}{f g:af->Option bet}:∀ {l:List af},(∀ x∈l,f x=g x)->l.filterMap f=l.filterMap g
 | [],_=>rfl
 | x::l,h=>by
  rw[List.filterMap_cons,List.filterMap_cons,h x (by simp),Uq λy a_=>h y (by grind)]
theorem afc:xG []=(0,0):=rfl
theorem axk(ab:List af)(P:af->Option ha)(f:Option ha->M (z28'))(v:af->z28')(h:∀ w∈ab,f (P w)=mpure (v w)):Em (ab.map P) f=BC (ab.filterMap λw=>if (v w).2=true then some (v w).1 else none):=by
 unfold Em;rw[List.filterMap_map];refine congrArg BC (Uq λw hw=>?_);simp_all
theorem afd(BE:af->Int)(ab:List af):(ab.filterMap λw=>if ((BE w,true):z28').2=true then some ((BE w,true):z28').1 else none)=ab.map BE:=by
 simp
theorem Ur(ah:(dE c).length<=60){f:Option ha->M (z28')}{v:z1'->z28'}(h:∀ w∈dE c,f (k0 c w)=mpure (v w)):En.sh (some (xK c),f)=mpure ((BC ((dE c).filterMap λw=>if (v w).2=true then some (v w).1 else none)).getD (0,0),(BC ((dE c).filterMap λw=>if (v w).2=true then some (v w).1 else none)).isSome):=by
 refine (bN ⟨xK c,rfl,show ((dE c).map (k0 c)).length<=60 by grind,λt aG=>?_⟩ _).trans (congrArg mpure ?_)
 ·show ((Em ((dE c).map (k0 c)) f).getD (0,0),(Em ((dE c).map (k0 c)) f).isSome)=_;rw[axk _ _ f v h]
 grind
theorem axl:∀ {l:z1'},(BC l).isSome=!l.isEmpty:=by
 intro l;have key:∀ (l:z1') (o:Option (z12')),o.isSome=true->(l.foldl (λo n=>some (MH o n)) o).isSome=true:=by
  intro l;induction l<;>grind
 cases l with
 | nil=>rfl
 | cons n l=>exact key l _ rfl
theorem Ic{f:Option h1->M Bool}{b:Bool}(h:jL c)(ax:dJ c=0->f (some (c,hg c,[]))=mpure b):o3.sh (c,f)=mpure (hL c b):=by
 refine (bN ⟨h,λhc=>⟨b,ax hc⟩⟩ _).trans (congrArg mpure ?_);show hL c (H_ c f)=hL c b;unfold hL H_;simp_all
theorem Ie(h:jL c)(hc:dJ c=0):(dE c).length<=60:=aPG (T_ c _ _) (h.2 hc)
theorem y8(h:w∈dE c):kM c w=true:=T' c _ _ _ h
abbrev Et:aN:=⟨.au ja (.bM bH),dY,λx=>∃ k:Int,x.2=some k/\True,λx=>decide (om x.1=x.2.getD 0)&&decide (fC x.1=1)⟩
theorem axm(x):a6 (avr x) (Et.sh x):=bx λ_=>rfl
abbrev Us:aN:=⟨.au (.bM vL) (.bM bH),dY,λx=>∃ (b:h1) (k:Int),x.2=some k/\x.1=some b/\b.2.1.length<2 ^ 63,λx=>(x.1.getD (xJ,[],[])).2.1.any λs=>om s == x.2.getD 0&&fC s == 1⟩
theorem axn(x):a6 (ad1 (h4 ja).sh Et.sh x) (Us.sh x):=bx λh=>by
 obtain⟨o,k⟩:=x;obtain⟨b,_,_,U,h⟩:=h;subst U;unfold ad1;simp only[aPP,cj,amx];have ae:∀ s,Et.sh (s,some (k.getD 0))=mpure (decide (om s=k.getD 0)&&decide (fC s=1)):=λs=>bN ⟨_,rfl,trivial⟩ _;rw[show (h4 ja).sh (b.2.1,λs=>Et.sh (s,some (k.getD 0)))=mpure (b.2.1.any λs=>(Et.sh (s,some (k.getD 0))).val false) from bN ⟨h,λs _=>⟨_,ae s⟩⟩ _,aK];refine congrArg mpure ?_;refine congrArg (λp=>b.2.1.any p) ?_;funext s;rw[ae,kp];rfl
theorem afe{f:Int->M Int}{n:Int}:∀ (ab:List b1),(∀ p∈ab,p.1.1=n->∃ v,f p.2=mpure v)->
  kl (λ(A:Int×(Int->M Int)×Int×Bool×Unit) (y:bF×Int)=>aq (if decide (y.1.1=A.1)=true then aq (A.2.1 y.2) λy=>mpure (dS.ret,y,true,()) else mpure
 (dS.normal,A.2.2.1,A.2.2.2.1,())) λp=>mpure (p.1,A.1,A.2.1,p.2.1,p.2.2.1,())) ab (n,f,0,false,())=(ab.find? λp=>p.1.1 == n).elim (mpure (dS.normal,n,f,0,false,())) λp=>mpure (dS.ret,n,f,(f p.2).val 0,true,())
 | [],_=>rfl
 | p::ab,h=>by
  unfold kl;by_cases aj:p.1.1=n
  ·obtain⟨v,ae⟩:=h p (by simp) aj;simp_all
  ·have aO:=afe ab λq bq=>h q (by grind);simp_all
abbrev Ut:aN:=⟨.au (.bM Bu) (.au (.bM (.bM vL)) (.au (.bM bH) (.bM (.fn bH bH)))),.au bH .bool,λx=>∃ (t:ha) (b:h1) (n:Int) (f:Int->M Int),x=(some t,some (some b),some n,some f)/\Ia b.1 t.2/\∀ p∈uI b.1 t.2,p.1.1=n->∃ v,f p.2=mpure v,λx=>((uI ((x.2.1.getD none).getD (xJ,[],[])).1 (x.1.getD ([],[])).2).find? λp=>p.1.1 == x.2.2.1.getD 0).elim (0,false) λp=>(((x.2.2.2.getD λ_=>dZ) p.2).val 0,true)⟩
theorem axo(x):a6 (ad2 Eo.sh x) (Ut.sh x):=rU λh=>by
 obtain⟨t,b,n,f,rfl,E,L⟩:=h;unfold ad2 bo;simp only[amx];rw[show Eo.sh (some b,some t)=mpure (vZ (some (some t),some (some b))) from rfl,aK,fD];refine⟨⟨_,t,b,rfl,rfl,E,rfl⟩,λab kn=>?_⟩;obtain⟨dN,bf,aB,bt,_,rfl⟩:=kn;cases aB;cases bt;rw[afe     _ L];cases (uI b.1 t.2).find? λp=>p.1.1 == n with
 | none=>simp;exact dF.2 rfl
 | some p=>simp;exact dF.2 rfl
abbrev Eu:aN:=⟨.au lq (.au bH (.fn bH bH)),.au o0 bH,λx=>jL x.1/\∀ w∈dE x.1,∀ m,dJ x.1=0->na x.1 w x.2.1=some m->∃ v,x.2.2 m=mpure v,λx=>(xG ((nH x.1 x.2.1).1.map λm=>(x.2.2 m).val 0),(nH x.1 x.2.1).2)⟩
theorem axp(x):a6 (adL o3.sh En.sh Us.sh Ut.sh x) (Eu.sh x):=bx λh=>by
 obtain⟨c,n,f⟩:=x;obtain⟨h,ax⟩:=h;unfold adL bo;show _=mpure (xG ((nH c n).1.map λm=>(f m).val 0),(nH c n).2);unfold nH;rw[Ic (b:=Ek c n) h λhc=>bN ⟨(c,hg c,[]),n,rfl,rfl,by have:=(rj hc).T5;grind⟩ _];rcases Es c (Ek c n) with⟨E,L,ak⟩ | ⟨E,L,ak,aZ⟩
 ·rw[ak];simp only[aK];rw[if_pos (by grind),if_pos E];rfl
 ·rw[E,aZ];simp only[aK];have aD:=rj L;rw[Ur   (Ie h L) λw hw=>?_,aK]
  ·have e:((dE c).filterMap λw=>if ((na c w n).elim ((0,false)) λm=>((f m).val 0,true)).2=true then some ((na c w n).elim ((0,false)) λm=>((f m).val 0,true)).1 else none)=((dE c).filterMap λw=>na c w n).map λm=>(f m).val 0:=by
    rw[List.map_filterMap];refine Uq λw _=>?_;cases na c w n<;>rfl
   rw[e,axl];generalize (dE c).filterMap (λw=>na c w n)=l;cases l<;>rfl
  ·have aG:=y8 hw;have Gp:=Um aG n;refine (bN ⟨(w,pK c w),xK c,n,f,rfl,ae7 aD aG,λp aj Uu=>?_⟩ _).trans (congrArg mpure ?_)
   ·show ((pL c w).find? λp=>p.1.1 == n).elim (0,false) (λp=>((f p.2).val 0,true))=_;rw[Gp];cases (pL c w).find? λp=>p.1.1 == n<;>rfl
   ·have hex:((pL c w).find? λq=>q.1.1 == n).isSome=true:=List.find?_isSome.2 ⟨p,aj,by grind⟩;obtain⟨q,bq⟩:=Option.isSome_iff_exists.1 hex;have Ib:q.1.1=n:=by grind
    have y6:=aQj bq;have ay:=Uo (Er y6) (Er aj) (Ib.trans Uu.symm);have:=Ep (Up c w) y6 aj ay;grind
abbrev BF:aN:=⟨bH,bH,λ_=>True,λx=>x⟩
theorem axq(x):a6 (avl x) (BF.sh x):=bx λ_=>rfl
theorem axr(x):a6 (adA Eu.sh BF.sh x) (MI.sh x):=bx λh=>by
 obtain⟨c,n⟩:=x;unfold adA;rw[show Eu.sh (c,n,BF.sh)=mpure (xG ((nH c n).1.map λm=>(BF.sh m).val 0),(nH c n).2) from bN ⟨h,λ_ _ m _ _=>⟨m,rfl⟩⟩ _];simp;unfold Ua;have:((nH c n).1.map λm=>(BF.sh m).val 0)=(nH c n).1:=by
  have:(λm=>(BF.sh m).val 0)=λm=>m:=by
   funext m;exact kp
  simp_all
 grind
abbrev BG:aN:=⟨.au bH (.bM lq),bH,λx=>∃ c:bd,x.2=some c/\BB (c.2.2.2.2,x.1),λx=>oq (x.2.getD xJ).2.2.2.2 x.1⟩
theorem axs(x):a6 (adM y4.sh x) (BG.sh x):=bx λh=>by
 obtain⟨m,q⟩:=x;obtain⟨c,hc,h⟩:=h;subst hc;unfold adM;simp only[amx];rw[show y4.sh (c.2.2.2.2,m)=mpure (oq c.2.2.2.2 m) from bN h _,aK]
theorem aff(aD:iQ c)(hw:kM c w=true){n m:Int}(hm:na c w n=some m):BG.sh (m,some c)=mpure (oq c.2.2.2.2 m):=by
 have:=aeR aD (H6 aD.T3 hw) hm;exact bN ⟨c,rfl,aD.T4,show -100000<=m by omega,show m<=20000 by omega⟩ _
theorem axt{n m:Int}(hm:m∈(nH c n).1):dJ c=0/\∃ w,kM c w=true/\w∈dE c/\na c w n=some m:=by
 unfold nH at hm;split at hm
 ·grind
 ·split at hm
  ·grind
  ·rw[List.mem_filterMap]at hm;obtain⟨w,hw,he⟩:=hm;obtain⟨E,L,ak,_⟩:=awM hw;grind
theorem axu(x):a6 (adz Eu.sh BG.sh x) (MJ.sh x):=bx λh=>by
 obtain⟨c,n⟩:=x;unfold adz;rw[show Eu.sh (c,n,λm=>BG.sh (m,some c))=mpure (xG ((nH c n).1.map λm=>(BG.sh (m,some c)).val 0),(nH c n).2) from bN ⟨h,λw hw m hc hm=>⟨_,aff (rj hc) (y8 hw) hm⟩⟩ _];simp;unfold Ub;have:((nH c n).1.map λm=>(BG.sh (m,some c)).val 0)=(nH c n).1.map λm=>oq c.2.2.2.2 m:=by
  refine aPF λm hm=>?_;obtain⟨hc,w,hw,_,he⟩:=axt hm;rw[aff (rj hc) hw he,kp]
 grind
abbrev Uv:aN:=⟨.au (.bM vL) (.bM bH),dY,λx=>∃ k:Int,x.2=some k/\True,λx=>cH (x.2.getD 0) 0 99⟩
theorem axv(x):a6 (adR D2.sh x) (Uv.sh x):=bx λ_=>by
 unfold adR;rw[show D2.sh (x.2.getD 0)=mpure (cH (x.2.getD 0) 0 99) from rfl,aK]
abbrev Uw:aN:=⟨.au (.bM Bu) (.au (.bM (.bM vL)) (.au (.bM bH) (.bM lq))),.au bH .bool,λx=>∃ (t:ha) (b:h1) (n:Int) (c:bd),x=(some t,some (some b),some n,some c)/\Ia b.1 t.2/\(uI b.1 t.2).length<=1000/\∀ p∈uI b.1 t.2,BB (c.2.2.2.2,p.2),λx=>(((uI ((x.2.1.getD none).getD (xJ,[],[])).1 (x.1.getD ([],[])).2).map (y7 (x.2.2.2.getD xJ) (x.2.2.1.getD 0))).sum,true)⟩
theorem Ux{c:bd}{n:Int}:∀ (ab:List b1) (a:Int),(∀ p∈ab,BB (c.2.2.2.2,p.2))->0<=a->a+100000*(ab.length:Int)<=1000000000->
  kl (λ(A:Int×bd×Int×Unit) (y:bF×Int)=>aq (if decide (y.1.2.2.2.2.2=A.1)=true then ag (y4.sh (A.2.1.2.2.2.2,y.2)).fm (mpure (dS.normal,IntKind.wrap
 .i64 (Add.add A.2.2.1 (M.val (y4.sh (A.2.1.2.2.2.2,y.2)) 0)),())) else mpure (dS.normal,A.2.2.1,())) λp=>mpure (p.1,A.1,A.2.1,p.2.1,())) ab (n,c,a,())=mpure (dS.normal,n,c,a+(ab.map (y7 c n)).sum,())
 | [],a,_,_,_=>by simp[kl]
 | p::ab,a,h,aV,E=>by
  unfold kl;simp  at E;by_cases aj:p.1.2.2.2.2.2=n
  ·have U:=awA (h p (by simp));have ae:y4.sh (c.2.2.2.2,p.2)=mpure (oq c.2.2.2.2 p.2):=bN (h p (by simp)) _;have hw:=bp (n:=a+oq c.2.2.2.2 p.2);have aO:=Ux   (n:=n) ab (a+oq c.2.2.2.2 p.2) (λq bq=>h q (by grind)) (by omega) (by omega);simp only[aj,aRd,if_true,ae,tG,kp,cj,dd,aK];simp only[dd]at aO;rw[aPS];rw[show y7 c n p=oq c.2.2.2.2 p.2 from if_pos aj];grind
  ·have aO:=Ux   (n:=n) ab a (λq bq=>h q (by grind)) aV (by omega);simp only[aj,aQe,aml,aPA,aK];rw[aO,aPS,List.sum_cons];rw[show y7 c n p=0 from if_neg aj,aRj]
theorem axw(x):a6 (adT y4.sh Eo.sh x) (Uw.sh x):=rU λh=>by
 obtain⟨t,b,n,c,rfl,E,L,ak⟩:=h;unfold adT e0 bo dB vG;simp only[amx];rw[show Eo.sh (some b,some t)=mpure (vZ (some (some t),some (some b))) from rfl,aK,fD];refine⟨⟨_,t,b,rfl,rfl,E,rfl⟩,λab kn=>?_⟩;obtain⟨dN,bf,aB,bt,_,rfl⟩:=kn;cases aB;cases bt;rw[Ux _ 0 ak (by omega) (by omega)];simp;exact dF.2 rfl
theorem afg(cl:z4'):∀ l:List b1,(dH cl l).length<=l.length
 | []=>by simp[dH]
 | [_]=>by simp[dH]
 | a::b::r=>by unfold dH;simp;have:=afg cl r;omega
theorem axx(aD:iQ c)(w:z1'):(pL c w).length<=1000:=by
 rw[MQ];have:=T9 (λu=>dH c.2.2.2.1 (cM c w u)) 12 (fP 0 9) λu _=>aPG (afg _ _) (H0 aD w u);rw[show (fP 0 9).length=10 from by decide]at this;omega
theorem axy(aD:iQ c)(hw:kM c w=true)(aj:p∈pL c w):BB (c.2.2.2.2,p.2):=by
 have hex:((pL c w).find? λq=>q.1.1 == p.1.1).isSome=true:=List.find?_isSome.2 ⟨p,aj,by simp⟩;obtain⟨q,bq⟩:=Option.isSome_iff_exists.1 hex;have Ib:q.1.1=p.1.1:=by grind
 have y6:=aQj bq;have:=Ep (Up c w) y6 aj (Uo (Er y6) (Er aj) Ib);have ae:na c w p.1.1=some p.2:=by rw[Um hw,bq,this];rfl
 have:=aeR aD (H6 aD.T3 hw) ae;exact⟨aD.T4,show -100000<=p.2 by omega,show p.2<=20000 by omega⟩
theorem axz(x):a6 (adC o3.sh En.sh Uv.sh Uw.sh x) (ML.sh x):=bx λh=>by
 obtain⟨c,g⟩:=x;unfold adC bo;show _=mpure (MK c g);unfold MK;rw[Ic (b:=cH g 0 99) h λhc=>bN ⟨g,rfl,trivial⟩ _];rcases Es c (cH g 0 99) with⟨E,L,ak⟩ | ⟨E,L,ak,aZ⟩
 ·rw[L];simp  [afc];grind
 ·rw[E,aZ];simp;have aD:=rj L;rw[Ur   (Ie h L) λw hw=>?_,aK,afd]
  ·rfl
  ·have aG:=y8 hw;refine (bN ⟨(w,pK c w),xK c,g,c,rfl,ae7 aD aG,axx aD w,λp aj=>axy aD aG aj⟩ _).trans (congrArg mpure ?_);show (((pL c w).map (y7 c g)).sum,true)=_;rw[axj aG]
def o4(t:Int):List b1->b1×Bool->b1×Bool
 | [],b=>b
 | e::l,b=>o4 t l (if e.2<=t then (e,decide (fC e.1=1)) else b)
def je(l:List b1)(t:Int):b1×Bool:=o4 t l (bL,false)
variable {b:b1×Bool}{t:Int}{e:b1}
theorem afh(h:e.2<=t):o4 t (e::l) b=o4 t l (e,decide (fC e.1=1)):=by rw[o4,if_pos h]
theorem afi(h:¬e.2<=t):o4 t (e::l) b=o4 t l b:=by rw[o4,if_neg h]
theorem afj(t:Int):∀ (l:List b1) (b:b1×Bool),l.foldl (λb e=>if e.2<=t then (e,decide (fC e.1=1)) else b) b=o4 t l b
 | [],_=>rfl
 | e::l,b=>afj t l _
theorem axA(l:List b1)(t:Int)(h:∀ e∈l,fC e.1=1\/fC e.1=2):qv l t=(if (je l t).2=true then kK (je l t).1.1 else -1,(je l t).1.2):=by
 have key:∀ (l:List b1) (b:b1×Bool),(∀ e∈l,fC e.1=1\/fC e.1=2)->l.foldl (λb e=>if e.2<=t then (if fC e.1=2 then (-1,e.2) else (kK e.1,e.2)) else b) (if b.2=true then kK b.1.1 else -1,b.1.2)=(if (o4 t l b).2=true then kK (o4 t l b).1.1 else -1,(o4 t l b).1.2):=by
  intro l;induction l with
  | nil=>intro b _;rfl
  | cons e l aO=>
   intro b h;rw[aPY];by_cases he:e.2<=t
   ·rw[afh he,<-aO (e,decide (fC e.1=1)) λx ao=>h x (by grind),if_pos he];grind
   ·rw[afi he,if_neg he];grind
 exact key l (bL,false) h
theorem afk(l:List b1)(t:Int):je l t=(bL,false)\/((je l t).1∈l/\(je l t).1.2<=t/\(je l t).2=decide (fC (je l t).1.1=1)):=by
 have key:∀ (l:List b1) (b:b1×Bool),o4 t l b=b\/((o4 t l b).1∈l/\(o4 t l b).1.2<=t/\(o4 t l b).2=decide (fC (o4 t l b).1.1=1)):=by
  intro l;induction l with
  | nil=>intro b;exact .inl rfl
  | cons e l aO=>
   intro b;by_cases he:e.2<=t
   ·rw[afh he];grind
   ·rw[afi he];grind
 exact key l (bL,false)
abbrev Uy(t:ha):Prop:=t.2.length=10/\∀ l∈t.2,l.length<=12
abbrev BH:aN:=⟨.au (.bM Bu) (.au bH bH),.au Mt .bool,λx=>∃ t:ha,x.1=some t/\Uy t/\0<=x.2.1/\x.2.1<=9,λx=>je ((x.1.getD ([],[])).2.getD x.2.1.toNat []) x.2.2⟩
theorem axB(x):a6 (adJ x) (BH.sh x):=bx λh=>by
 obtain⟨o,u,m⟩:=x;obtain⟨t,E,⟨L,ak⟩,aZ,bP⟩:=h;change o=some t at E;change 0<=u at aZ;change u<=9 at bP;subst E;unfold adJ b3 bz cm bo a8 aQ bY bc bS;show _=mpure (je (t.2.getD u.toNat []) m);simp only[aPP,cj,amx];rw[bb (show (0:Int)<=u/\u<Int.ofNat 10 by grind)];have hm:t.2.getD u.toNat []∈t.2:=Bo aZ (by omega);have ah:=ak _ hm;generalize t.2.getD u.toNat []=l at *
 rw[ev l (λi (b:b1×Bool)=>(m,b.2,l,(l.length:Int),(i:Int),bL,b.1,())) (λe b=>.next (if e.2<=m then (e,decide (fC e.1=1)) else b)) (λb=>.next (b.2,bL,b.1,())) (bL,false) ?_ ?_ ?_]
 ·rw[ee,aK,afj];rfl
 ·rfl
 ·intro i G b;have hw:=bp (n:=(i:Int)+1);simp only[Prod.cu,Prod.ft,ct,dP G,if_true,d_ G,dt G,cj,dd,hw,aF.pF,amq];by_cases he:l[i].2<=m
  ·simp_all
  ·simp only[he,aPA,aK,cK,hw];rfl
 simp
theorem afl(c:bd)(w:z1'){u:Int}(aV:0<=u)(h:u<=9):(pK c w).getD u.toNat []=cM c w u:=by
 have hu:u=0\/u=1\/u=2\/u=3\/u=4\/u=5\/u=6\/u=7\/u=8\/u=9:=by omega
 rcases hu with rfl | rfl | rfl | rfl | rfl | rfl | rfl | rfl | rfl | rfl<;>rfl
theorem afm(aD:iQ c)(w:z1'):Uy (w,pK c w):=by
 refine⟨rfl,λl ah=>?_⟩;simp only[pK,aQN,List.not_mem_nil,or_false]at ah;rcases ah with rfl | rfl | rfl | rfl | rfl | rfl | rfl | rfl | rfl | rfl<;>exact H0 aD w _
theorem afn(aD:iQ c)(w:z1'){u:Int}(aV:0<=u)(h:u<=9):BH.sh (k0 c w,u,t)=mpure (je (cM c w u) t):=by
 refine (bN ⟨_,rfl,afm aD w,aV,h⟩ _).trans (congrArg mpure ?_);show je ((pK c w).getD u.toNat []) t=_;rw[afl c w aV h]
theorem axC(aD:iQ c){u:Int}(he:e∈cM c w u):fC e.1=1\/fC e.1=2/\kK e.1=0:=(Eh.1 (aD.Ei (H2 he).1)).2.2.2.2.2
theorem Uz(aD:iQ c){u:Int}(he:e∈cM c w u):0<=kK e.1/\kK e.1<=99:=(Eh.1 (aD.Ei (H2 he).1)).2.2.2.2.1
theorem MR(aD:iQ c)(hw:kM c w=true){u:Int}(hu:0<=u/\u<=9)(t:Int):qv (jr c w u) t=(if (je (cM c w u) t).2=true then kK (je (cM c w u) t).1.1 else -1,(je (cM c w u) t).1.2)/\(decide ((qv (jr c w u) t).1>=0)=(je (cM c w u) t).2):=by
 have e:=axA (cM c w u) t λe he=>(axC aD he).imp id And.left;rw[Ul hw hu];refine⟨e,?_⟩;rw[e];cases U:(je (cM c w u) t).2 with
 | false=>simp
 | true=>
  simp only[if_true,amq];rcases afk (cM c w u) t with h | ⟨h,_⟩
  ·grind
  ·exact (Uz aD h).1
abbrev Ev:aN:=⟨.au (.bM vL) (.bM bH),dY,λx=>∃ k:Int,x.2=some k/\True,λx=>cH (x.2.getD 0) 0 9999⟩
theorem afo(x):a6 (adO Bx.sh x) (Ev.sh x):=bx λ_=>by
 unfold adO;rw[show Bx.sh (x.2.getD 0)=mpure (cH (x.2.getD 0) 0 9999) from rfl,aK]
theorem axD(x):a6 (avp Bx.sh x) (Ev.sh x):=afo x
def If(t:ha)(m p:Int):Int:=(fP 0 9).foldl (λn u=>if (je (t.2.getD u.toNat []) m).2=true then n+p else n) 0
abbrev UA:aN:=⟨.au (.bM Bu) (.au (.bM bH) (.bM lq)),.au bH .bool,λx=>∃ (t:ha) (m:Int) (c:bd),x=(some t,some m,some c)/\Uy t/\0<=c.2.2.2.2.2.2.2.2.2.2/\c.2.2.2.2.2.2.2.2.2.2<=100000,λx=>(If (x.1.getD ([],[])) (x.2.1.getD 0) (x.2.2.getD xJ).2.2.2.2.2.2.2.2.2.2,true)⟩
theorem axE(x):a6 (adQ BH.sh x) (UA.sh x):=bx λh=>by
 obtain⟨t,m,c,rfl,E,L,ak⟩:=h;unfold adQ e0 cm bg bo bK bY bc;simp only[amx];show _=mpure (If t m c.2.2.2.2.2.2.2.2.2.2,true);rw[e6 (fP 0 9) (λi (n:Int)=>(some t,m,c,n,(i:Int),())) (λu n=>.next (if (je (t.2.getD u.toNat []) m).2=true then n+c.2.2.2.2.2.2.2.2.2.2 else n)) (λn=>.next (n,())) (λi n=>0<=n/\n<=100000*(i:Int)) 0 ?_ ?_ ?_ ?_]
 ·rw[ee,aK];rfl
 ·rfl
 ·omega
 ·intro i G n aA;have G:i<10:=by simpa [fP]using G
  have hw:=bp (n:=(i:Int)+1);have gF:=bp (n:=n+c.2.2.2.2.2.2.2.2.2.2);have aw:decide ((i:Int)<10)=true:=by grind
  refine⟨?_,λbf eg=>?_⟩
  ·simp only[aw,if_true,HL,aRj];rw[show BH.sh (some t,(i:Int),m)=mpure (je (t.2.getD ((i:Int)).toNat []) m) from bN ⟨t,rfl,E,by simp,by grind⟩ _];simp only[aK,dd,hw,gF,aF.pF];by_cases an:(je (t.2.getD ((i:Int)).toNat []) m).2=true
   ·simp only[an,if_true,aK,cK,hw];rfl
   ·simp only[an,aml,aPA,aK,cK,hw];rfl
  grind
 ·intro n aA;have:(fP 0 9).length=10:=by decide
  simp[this]
theorem axF(aD:iQ c)(hw:kM c w=true)(m:Int):If (w,pK c w) m c.2.2.2.2.2.2.2.2.2.2=ME c w m*c.2.2.2.2.2.2.2.2.2.2:=by
 unfold If ME;have key:∀ (ab:z1') (n:Int),(∀ u∈ab,0<=u/\u<=9)->ab.foldl (λn u=>if (je ((pK c w).getD u.toNat []) m).2=true then n+c.2.2.2.2.2.2.2.2.2.2 else n) (n*c.2.2.2.2.2.2.2.2.2.2)=(ab.foldl (λn u=>if (qv (jr c w u) m).1>=0 then n+1 else n) n)*c.2.2.2.2.2.2.2.2.2.2:=by
  intro ab;induction ab with
  | nil=>simp
  | cons u ab aO=>
   intro n h;have hu:=h u (by simp);obtain⟨_,L⟩:=MR aD hw hu m;simp only[aPY];rw[afl c w hu.1 hu.2];grind
 have:=key (fP 0 9) 0 λu hu=>vI.1 hu;grind
theorem axG(x):a6 (adB o3.sh En.sh Ev.sh UA.sh x) (MN.sh x):=bx λh=>by
 obtain⟨c,t⟩:=x;change jL c at h;unfold adB bo;show _=mpure (MM c t);unfold MM;rw[Ic (b:=cH t 0 9999) h λhc=>bN ⟨t,rfl,trivial⟩ _];rcases Es c (cH t 0 9999) with⟨E,L,ak⟩ | ⟨E,L,ak,aZ⟩
 ·rw[L,ak];simp only[aK,List.map_nil,afc];grind
 ·rw[E,aZ];simp only[aK];rw[if_neg (by simp)];have aD:=rj L;have aj:=(MD.1 aD.T4).2.2.2.2.2.2;rw[Ur (v:=λw=>(ME c w t*c.2.2.2.2.2.2.2.2.2.2,true)) (Ie h L) λw hw=>?_,aK,afd]
  ·rfl
  ·refine (bN ⟨(w,pK c w),t,c,rfl,afm aD w,aj.1,aj.2⟩ _).trans (congrArg mpure ?_);show (If (w,pK c w) t c.2.2.2.2.2.2.2.2.2.2,true)=_;rw[axF aD (y8 hw)]
theorem afp(p:z12')(m:z4')(k v:Int):g_ (p::m) k v=if decide (k=p.1)=true then (p.1,v)::m else p::g_ m k v:=rfl
theorem UB(k v:Int):∀ m:z4',((m.map (·.1)).Nodup->((g_ m k v).map (·.1)).Nodup)/\∀ x,x∈(g_ m k v).map (·.1)<->x∈m.map (·.1)\/x=k
 | []=>by
  rw[show g_ [] k v=[(k,v)] from rfl];simp
 | p::m=>by
  obtain⟨E,L⟩:=UB k v m;grind [afp]
theorem afq(k v:Int){B:Int}:∀ m:z4',(∀ p∈m,0<=p.2/\p.2<=B)->0<=v/\v<=B->∀ p∈g_ m k v,0<=p.2/\p.2<=B
 | [],_,ae,p,aj=>by
  rw[show g_ [] k v=[(k,v)] from rfl]at aj;grind
 | q::m,h,ae,p,aj=>by
  rw[afp]at aj;split at aj
  ·grind
  ·rcases List.mem_cons.1 aj with rfl | aj
   ·grind
   ·exact afq k v m (λx ao=>h x (by grind)) ae p aj
def o5(c:bd)(w:z1')(u t:Int):Int:=if (je (cM c w u) t).2=true then kK (je (cM c w u) t).1.1 else -1
def BI(m:z4')(k:Int):Int:=Option.getD (Option.map (λx=>x.2) (List.find? (λp=>decide (k=p.1)) m)) 0
structure Ew(ab:z1')(i:Nat)(m:z4'):Prop where
 ko:(m.map (·.1)).Nodup
 mem:∀ x,x∈m.map (·.1)<->x∈ab
 val:∀ p∈m,0<=p.2/\p.2<=(i:Int)
theorem Ew.add{ab:z1'}{i:Nat}{m:z4'}(h:Ew ab i m)(k:Int)(G:i<=60):IntKind.wrap .i64 (BI m k+1)=BI m k+1/\Ew (ab++[k]) (i+1) (g_ m k (BI m k+1)):=by
 have U:0<=BI m k/\BI m k<=i:=by
  unfold BI;cases ax:m.find? λp=>decide (k=p.1) with
  | none=>simp
  | some p=>exact h.val p (aQj ax)
 refine⟨bp,(UB _ _ _).1 h.ko,λx=>?_,afq _ _ _ (λp aj=>by have:=h.val p aj;omega) (by omega)⟩;rw[(UB _ _ _).2,h.mem];simp
theorem axH(aD:iQ c)(hw:kM c w=true){u:Int}(hu:0<=u/\u<=9):((cM c w u).filter λe=>fC e.1 == 1).length<=11:=by
 have ah:=H0 aD w u;by_cases aN2:(cM c w u).length=12
 ·have E:=(Uk (MG hw hu) (by omega:1<(cM c w u).length)).1;have hm:=amm (by omega:1<(cM c w u).length);have:((cM c w u).filter λe=>fC e.1 == 1).length<(cM c w u).length:=by
   refine List.length_filter_lt_length_iff_exists.2 ⟨_,hm,by grind⟩
  omega
 grind
theorem axI(c:bd)(w w':z1')(u:Int):(((cM c w u).filter λe=>fC e.1 == 1).map (·.1)).Perm (((cM c w' u).filter λe=>fC e.1 == 1).map (·.1)):=by
 have e:∀ w,((cM c w u).filter λe=>fC e.1 == 1).map (·.1)=((cM c w u).map (·.1)).filter λs=>fC s == 1:=λw=>by rw[List.filter_map];rfl
 grind [ae']
theorem UC(c:bd)(w:z1')(u t:Int):o5 c w u t=-1\/∃ s∈((cM c w u).filter λe=>fC e.1 == 1).map (·.1),o5 c w u t=kK s:=by
 grind [o5,afk]
theorem axJ(aD:iQ c){u:Int}(hu:0<=u/\u<=9){K:z1'}(aA:K.Nodup)(kG:∀ x∈K,x∈(dE c).map λw=>o5 c w u t):K.length<=12:=by
 cases aT:dE c with
 | nil=>
  cases K with
  | nil=>simp
  | cons x K=>have:=kG x (by simp);grind
 | cons ep T=>
  have xr:kM c ep=true:=y8 (by grind);have uf:K ⊆ -1::(((cM c ep u).filter λe=>fC e.1 == 1).map (·.1)).map kK:=by
   intro x ao;obtain⟨w,hw,rfl⟩:=List.mem_map.1 (kG x ao);rcases UC c w u t with h | ⟨s,ay,h⟩
   ·grind
   ·rw[h];exact amr _ (aQa ((axI c w ep u).mem_iff.1 ay))
  have:=aA.length_le_of_subset uf;grind [axH]
abbrev UD:aN:=⟨.au (.bM vL) (.au (.bM bH) (.bM bH)),dY,λx=>∃ a b:Int,x.2=(some a,some b),λx=>y5 (x.2.1.getD 0) (x.2.2.getD 0)⟩
theorem axK(x):a6 (adH dv.sh Bx.sh x) (UD.sh x):=bx λ_=>by
 unfold adH b_;rw[awN,aK,show Bx.sh (x.2.2.getD 0)=mpure (cH (x.2.2.getD 0) 0 9999) from rfl,lK,aK,xw];rfl
theorem afr(aD:iQ c)(hw:kM c w=true){u:Int}(hu:0<=u/\u<=9)(t:Int):(qv (jr c w u) t).1=o5 c w u t:=by rw[(MR aD hw hu t).1];rfl
theorem axL(x):a6 (ady o3.sh BH.sh vN.sh My.sh UD.sh x) (MO.sh x):=rU λh=>by
 obtain⟨c,u,t⟩:=x;change jL c at h;unfold ady b3 hi bz cm bg bo a8 aQ bY bc bS;show c6 _ λy=>y=vV c u t;unfold vV Uc;rw[Ic (b:=y5 u t) h λhc=>bN ⟨u,t,rfl⟩ _];rcases Es c (y5 u t) with⟨E,L,ak⟩ | ⟨E,L,ak,aZ⟩
 ·simp_all[dF]
 ·rw[aZ];simp only[aK];rw[if_neg (by simp)];have aD:=rj L;have b5:(0<=u/\u<=9)/\0<=t/\t<=9999:=by
   grind [y5,uG]
  have hu:=b5.1;have hlen:=Ie h L;simp only[aPP,cj];rw[fD];refine (zX (p:=λz=>∃ m,z=.next (m,())/\Ew ((dE c).map λw=>o5 c w u t) 60 m) (λA=>∃ (i:Nat) (m:z4'),i<=(dE c).length/\A=((dE c).map (k0 c),(((dE c).map (k0 c)).length:Int),(i:Int),u,t,m,())/\Ew (((dE c).take i).map λw=>o5 c w u t) i m) (λA=>((dE c).length - A.2.2.1).toNat) ?_ _ ⟨0,[],aPK _,rfl,⟨.nil,by simp,by simp⟩⟩).mono ?_
  ·rintro A ⟨i,m,sL,rfl,bm⟩;by_cases G:i<(dE c).length
   ·have dH:i<((dE c).map (k0 c)).length:=by grind
    have hw:=bp (n:=i+1);obtain⟨cw,b2⟩:=bm.add (o5 c (dE c)[i] u t) (by omega);have tk:((dE c).take (i+1)).map (λw=>o5 c w u t)=((dE c).take i).map (λw=>o5 c w u t)++[o5 c (dE c)[i] u t]:=by
     grind [List.take_add_one]
    simp only[ct,dP dH,d_ dH,dt dH,cj,aQp];rw[afn aD _ hu.1 hu.2,aK];have fin:∀ k,k=o5 c (dE c)[i] u t->(∃ (n2:Nat) (dp:z4'),n2<=(dE c).length/\(((dE c).map (k0 c),(((dE c).map (k0 c)).length:Int),IntKind.wrap .i64 (i+1),u,t,g_ m k (IntKind.wrap .i64 (BI m k+1)),()))=((dE c).map (k0 c),(((dE c).map (k0 c)).length:Int),(n2:Int),u,t,dp,())/\Ew (((dE c).take n2).map λw=>o5 c w u t) n2 dp)/\((dE c).length - IntKind.wrap .i64 (i+1)).toNat<((dE c).length - (i:Int)).toNat:=by
     grind
    cases U:(je (cM c (dE c)[i] u) t).2 with
    | true=>
     simp only[if_true];rw[aK];exact dF.2 (fin _ (by grind [o5]))
    | false=>
     simp only[aml,aPA];rw[aK];exact dF.2 (fin (-1) (by grind [o5]))
   ·have axM:i=(dE c).length:=by omega
    subst axM;simp;refine dF.2 ⟨m,rfl,bm.ko,?_,λp aj=>by have:=bm.val p aj;omega⟩;have:=bm.mem;grind
  ·rintro z ⟨m,rfl,bm⟩;rw[cK];rw[show My.sh m=mpure (lM (some m)) from rfl,aK];have uJ:m.length<=12:=by
    have:=axJ aD hu   bm.ko λx ao=>(bm.mem x).1 ao;grind
   rw[show vN.sh (lM (some m))=mpure (hf jq (m.map (·.1))) from (bN (aew (by omega)) _).trans (congrArg mpure aex),aK];refine dF.2 ?_;have aB:hf jq (m.map (·.1))=(fP (-1) 99).filter λg=>((dE c).map λw=>(qv (jr c w u) t).1).contains g:=by
    have axN:=aPF λw hw=>afr aD (y8 hw) hu t;rw[axN];have G:(fP (-1) 99).Pairwise (·<·):=by
     grind [fP,List.pairwise_lt_range]
    refine D4 ((G.filter _).imp λh=>Int.le_of_lt h) ((aQK bm.ko ((G.filter _).imp λh=>by omega)).2 λk=>?_);rw[bm.mem,List.mem_filter,vI];simp only[List.contains_iff_mem];refine⟨λan=>⟨?_,an⟩,λan=>an.2⟩;obtain⟨w,hw,rfl⟩:=List.mem_map.1 an;rcases UC c w u t with h | ⟨s,ay,h⟩
    ·omega
    ·obtain⟨e,he,rfl⟩:=List.mem_map.1 ay;have:=Uz aD (List.mem_filter.1 he).1;omega
   grind
def UE(c:bd)(l:List b1)(t:Int):Bool:=(je l t).2&&decide (oo c.2.2.2.1 (je l t).1.2 t>=c.2.2.2.2.2.2.2.2.1)
theorem axO(aD:iQ c)(hw:kM c w=true){u:Int}(hu:0<=u/\u<=9)(t:Int):UE c (cM c w u) t=H7 c w u t:=by
 grind [MR,UE,H7]
theorem axP(x):a6 (adF o3.sh BH.sh y3.sh Ev.sh x) (MP.sh x):=bx λh=>by
 obtain⟨c,t⟩:=x;change jL c at h;unfold adF bz cm bo a8 aQ bK bY bc eD bS vG;show _=mpure (vW c t);unfold vW;rw[Ic (b:=cH t 0 9999) h λhc=>bN ⟨t,rfl,trivial⟩ _];rcases Es c (cH t 0 9999) with⟨E,L,ak⟩ | ⟨E,L,ak,aZ⟩
 ·simp_all
 ·rw[E,aZ];simp only[aK];have aD:=rj L;have aG:=uG.1 ak;have hlen:=Ie h L;have aT:∀ w∈dE c,kM c w=true:=λw hw=>y8 hw;rw[e6 (fP 0 9) (λi b=>(some (xK c),(i:Int),c,t,b.1,b.2,())) (λu b=>.next (if decide (rk c (dE c) u t=(dE c).length)=true then b.1++[u] else b.1,if decide (rk c (dE c) u t > 0)=true then b.2++[u] else b.2)) (λb=>.next (b.1,b.2,())) (λi b=>b.1.length<=i/\b.2.length<=i) ([],[]) ?_ (by simp) ?_ ?_]
  ·rw[ee];have key:∀ (p q:Int->Bool) (l:z1') (a b:z1'),l.foldl (λz u=>(if p u=true then z.1++[u] else z.1,if q u=true then z.2++[u] else z.2)) (a,b)=(a++l.filter p,b++l.filter q):=by
    intro p q l;induction l with
    | nil=>simp
    | cons u l aO=>
     simp;grind
   rw[key (λu=>decide (rk c (dE c) u t=(dE c).length)) (λu=>decide (rk c (dE c) u t > 0))];simp
  ·rfl
  ·intro i G b gK;have G:=by simpa [fP]using G
   have hw:=bp (n:=i+1);have aw:decide ((i:Int)<10)=true:=by grind
   refine⟨?_,λbf eg=>?_⟩
   ·simp only[aw,HL,aRj,aPP,cj];rw[e6 (dE c) (λk (n:Nat)=>(some (xK c),(i:Int),(n:Int),(i:Int),(dE c).map (k0 c),(((dE c).map (k0 c)).length:Int),(k:Int),c,t,b.1,b.2,())) (λw n=>.next (if H7 c w i t=true then n+1 else n)) (λn=>.next (some (xK c),i,n,i,c,t,b.1,b.2,())) (λk n=>n<=k) 0 ?_ (by simp) ?_ ?_]
    ·rw[ee];have key:∀ (l:List (z1')) (n:Nat),l.foldl (λn w=>if H7 c w i t=true then n+1 else n) n=n+rk c l i t:=by
      intro l;induction l with
      | nil=>intro n;rfl
      | cons w l aO=>
       grind [rk]
     rw[key,aQs,aK,cK];have JK:((dE c).map (k0 c)).length=(dE c).length:=aPJ _;simp only[ct];have fx:cb (Add.add b.1.length (Add.add 0 1)):=kL (by grind);have gB:cb (Add.add b.2.length (Add.add 0 1)):=kL (by grind);have d1:decide ((rk c (dE c) i t:Int) > 0)=decide (rk c (dE c) i t > 0):=by simp
     have d2:decide ((rk c (dE c) i t)=((dE c).length:Int))=decide (rk c (dE c) i t=(dE c).length):=by grind
     rw[d1];cases E:decide (rk c (dE c) i t > 0)<;>cases L:decide (rk c (dE c) i t=(dE c).length)<;>
      simp only[if_true,aml,aPA,bb fx,bb gB,aK,cK,aPP,cj,amx,JK,d2,L,dd,hw]<;>rfl
    ·rfl
    ·intro k an n aA;have o1:k<((dE c).map (k0 c)).length:=by grind
     have hw:=bp (n:=k+1);have gF:=bp (n:=n+1);have mx:=aT _ (amm an);have lS:=H6 L mx;have hu:0<=(i:Int)/\(i:Int)<=9:=by omega
     have w4:=axO aD mx hu t;obtain⟨cf,dL⟩:=MR aD mx hu t;refine⟨?_,λbf eg=>?_⟩
     ·simp only[ct,dP o1,d_ o1,dt o1,dd,aQp];rw[afn aD _ hu.1 hu.2,aK,<-w4];unfold UE;cases U:(je (cM c (dE c)[k] i) t).2 with
      | true=>
       have Kc:Ej (c,(je (cM c (dE c)[k] i) t).1.2,t):=by
        have:=awO aD lS aG.2 (u:=i)   (by grind);grind
       have axQ:y3.sh (c,(je (cM c (dE c)[k] i) t).1.2,t)=mpure (oo c.2.2.2.1 (je (cM c (dE c)[k] i) t).1.2 t):=bN Kc _;simp only[axQ,tG,kp,aQP,forall_const,cj,aRq];by_cases hm:oo c.2.2.2.1 (je (cM c (dE c)[k] i) t).1.2 t>=c.2.2.2.2.2.2.2.2.1
       ·simp_all
       ·simp only[hm,aQe,aml,aPA,aK,cK,hw];rfl
      | false=>
       simp_all
     grind
    simp
   grind
  ·intro b gK;rfl
variable (axR:bd->M Bool) (aN3:Int->M Bool) (axS:Unit->M Bool) (UF:bd×Int×Int->M (z19')) (afs:bd->M bd) (aN4:bd×Unit->M (Int×Int×Int×Int×Int×Int×Int×z4'×List bF×z1'×z4'×Unit)) (aN5:z19'->M Bool) (axT:z1'×z1'->M Bool) (UG aft:bd×Int->M (z17')) (auQ:uF×Int->M Int) (aN6:(Int×Int)×z12'->M Bool) (afu:bd×Int->M (z17')) (au8:bd->M (List bF)) (UH:bd×Int->M (z17')) (UI:bd->M Bool) (Bt HQ:bd->M Int) (aN7:bd×Int×Int->M (z19')) (aN8 aN9 aN_ aN' aOa aOb:bd×Int->M (z17')) (axU:bd×bd->M Bool) (afv aOc:bd×Int->M (z1'×z19')) (aOd:Unit->M bd)
def afw(x:bd):M Bool:=
 if c' (aQ x.1) 20||c' (aQ x.2.1) 40||c' (aQ x.2.2.1) 60||c' (aQ x.2.2.2.1) 40 then h0 else aq (HQ x) λy=>bo (y≠0) gp (bK (λA=>letI d:=A.2.2.1;letI c:=bz d.1 A.2.1 (0,0);fO A.2.1 d.1 (bS A.2.1 d.1 (bc (IntKind.wrap .i64 (A.1*a8 (cD c.2 c.1)),a8 A.2.1,d,()))) (bY (A.1,()))) (1,0,x,()) (λA=>mpure (c' A.1 60)))
end Go.Fer.H
namespace Go.Fer.H
def ot(c:bd):Bool:=decide (c.1.length > 20)||decide (c.2.1.length > 40)||decide (c.2.2.1.length > 60)||decide (c.2.2.2.1.length > 40)||(decide (dJ c=0)&&decide (ml c.1 > 60))
theorem afx:∀ (l:z4') (n:Nat),l.foldl (λn s=>n*(s.2 - s.1+1).toNat) n=n*ml l
 | [],n=>by simp[ml]
 | s::l,n=>by simp  [ml];rw[afx l,Nat.mul_assoc]
abbrev y9:aN:=⟨lq,dY,mL,ot⟩
theorem axV(x):a6 (afw jX.sh x) (y9.sh x):=bx λh=>by
 unfold afw c' fO bz bo a8 aQ bK bY bc gp h0 bS cD;show _=mpure (ot x);by_cases ay:(decide ((x.1.length) > 20)||decide ((x.2.1.length) > 40)||decide ((x.2.2.1.length) > 60)||decide ((x.2.2.2.1.length) > 40))=true
 ·unfold ot;grind
 ·rw[show jX.sh x=mpure (dJ x) from bN h _,aK];have e:ot x=(decide (dJ x=0)&&decide (ml x.1 > 60)):=by
   unfold ot;grind
  by_cases hc:dJ x=0
  ·have aD:=rj hc;have aA:=aD.eB;rw[e6 x.1 (λi (n:Nat)=>((n:Int),(i:Int),x,())) (λs n=>.next (n*(s.2 - s.1+1).toNat)) (λn=>.next (n,())) (λi n=>n<=61 ^ i) 1 ?_ ?_ ?_ ?_]
   ·rw[ee,afx,aK,cK];grind
   ·rfl
   ·simp
   ·intro i G n jj;have an:=aD.clk _ (amm G);have hw:=bp (n:=i+1);have cf:=bp (n:=x.1[i].2 - x.1[i].1);have dL:=bp (n:=x.1[i].2 - x.1[i].1+1);have yv:((n*(x.1[i].2 - x.1[i].1+1).toNat))=n*(x.1[i].2 - x.1[i].1+1):=by
     grind
    have hm:n*(x.1[i].2 - x.1[i].1+1).toNat<=61 ^ (i+1):=by
     exact aRe jj (by omega)
    have LS:n*(x.1[i].2 - x.1[i].1+1).toNat<=61 ^ 4:=aPG hm (aQT (by omega) (by omega));have hG:=bp (n:=n*(x.1[i].2 - x.1[i].1+1));simp_all
   simp
  grind
theorem axW{c:bd}(h:ot c=false):jL c:=by
 unfold ot at h;simp  at h;exact⟨⟨by omega,by omega,by omega,by omega⟩,λhc=>by omega⟩
end Go.Fer.H
