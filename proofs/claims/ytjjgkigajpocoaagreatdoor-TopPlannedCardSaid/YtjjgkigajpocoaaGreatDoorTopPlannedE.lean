/- Part 5 of the proof of TopPlanned: shallow programs of Go functions, and what they compute. No condition. -/
import Derived.Test.YtjjgkigajpocoaaGreatDoorTopPlannedD
noncomputable section
set_option linter.unusedVariables false
set_option linter.unusedSimpArgs false
namespace Go.Fer
abbrev oV:Type:=z23'
abbrev me:Type:=z24'
abbrev D1:Type:=z15'
abbrev bJ:Type:=b2×z1'×List oV×List me×List D1×Int
abbrev at6:Type:=z3'×List (List (z17'))×Int×z3'×Int×z1'×List oV×List me×List D1×Unit
abbrev fU:Type:=bJ×z4'×z7'
variable (HK:bJ×Bool->M (Option fU×Int)) (HL:bJ->M Int) (at7:bJ×Bool->M (z12')) (aNv:bJ×Int->M Bool) (aNw:Int×Int×z5'×Unit->M ((z21')×z5'×Unit)) (aNx:z5'×Unit->M (z5'×Unit)) (acM:bJ->M (bJ)) (D0:z11'->M Int) (aua:bJ->M Bool) (Mj:z11'->M Int) (acN aub:bJ×Int->M Bool) (Mq:bJ->M Int) (aNy:bJ×Int->M Bool) (auc:bJ->M Int) (aNz:bJ×Int->M (bJ)) (aud:bJ->M (z12')) (r7:z15'->M Bool) (aue:bJ×Int×Int×Int×Int×z1'->M Bool) (auf:z24'->M Bool) (aNA:bJ×List (List (z1'))×z1'->M Int) (aNB:bJ->M (List (List (z1')))) (aNC:bJ×Int->M Bool) (aND:(z24')×z23'->M Int) (aug auh:bJ×z1'->M Bool) (aNE:bJ×Bool->M Int) (aNF:bJ×List (List (z1'))×z1'->M Bool) (aNG:bJ×Int×Int->M (z1')) (aNH:bJ×z1'->M (List (z1'))) (aNI:bJ×z1'->M Int) (Mi:z18'->M Bool) (acO:Option fU->M (z1')) (Mo:b2×Int->M (z22')) (Mp:b2×Int×Int×Int->M (z12')) (acP:z4'×Int->M (z4')) (acQ:z1'×z25'->M (z14')) (DZ:z12'->M (z12')) (Tr:Option fU×z1'->M (z5'×Bool)) (Ts:Option fU×z5'->M Int) (aNJ:bJ×List (List (z1'))×z1'->M (List (Int×z1')×Bool)) (aNK:List (Int×z1')×z5'->M Int) (aNL:bJ->M (z5')) (aNM:b2×Int×Int->M (z1')) (acR:z18'->M Bool) (Tc:z11'->M Int) (aNN:List (Int×z1')×z5'->M Bool) (aui:z18'->M (z1')) (Tt:Option fU×z1'->M Bool) (acS:bJ×z1'->M Bool) (Mr:Option fU×z1'->M Int) (aNO:(Int×z1')×z5'->M (List (z5'))) (at4:b2×Int×Int×Int->M (z12')) (tf:z15'->M Bool) (Bq:Int->M Bool) (acT:z1'×(Int->M Bool)->M Bool) (Tu:Int->M Bool) (Mm:z1'×(Int->M Bool)->M Bool) (auj:List oV×(z23'->M Bool)->M Bool) (auk:List me×(z24'->M Bool)->M Bool) (aul:z5'×(z15'->M Bool)->M Bool) (aum:(z23')×Option b2->M Bool) (aun:(z15')×Option b2->M Bool) (auo:z24'->M Bool) (aup:Int->M Bool) (auq:Int×Option b2×Option (z23')->M Bool) (aNP:List oV×(z23'->M Bool)->M Int) (aNQ:List me×(z24'->M Bool)->M Int) (aNR:z5'×(z15'->M Bool)->M Int) (Tv:Option fU×(z12')×Int×Int×Int->M Bool) (acU:Option fU×z5'×Int×z4'×z1'×Unit->M (Bool×z4'×z14')) (acV:(z24')×z23'->M Int) (Ms:Option fU×z1'×Int×Nat×(Nat×(List (z1')->Prop)×List (z1')×Bool)×Unit->M (Bool×(Nat×(List (z1')->Prop)×List (z1')×Bool)×Unit)) (Bp:z18'->M Bool)
def acW(x:bJ):M (z12'):=
 aq (at7 (x,true)) λy=>mpure y
def acX(aur:Option fU->Prop)(aus:Option fU->List (z1'))(Tr:Option fU×z1'->M (z5'×Bool))(aut:Option fU×z5'->M Bool)(Ts:Option fU×z5'->M Int)(x:bJ):M (z12'):=
 aq (HK (x,true)) λy=>bm (y.2≠0) (mpure (0,y.2)) (ae (aur y.1) (aq (kl (λA (y:z1')=>aq (aq (Tr (A.1,y)) (λcn=>cf (!(!cn.2)) (aut (A.1,cn.1)) false λdZ=>bD (!cn.2||!dZ) (mpure (dS.normal,A.1,A.2.1,())) (aq (Ts (A.1,cn.1)) (λie=>bD (decide (A.2.1=-1)||fT ie A.2.1) (mpure (dS.normal,A.1,ie,())) (mpure (dS.normal,A.1,A.2.1,())))))) λp=>mpure (p.1,p.2.1,p.2.2.1,())) (aus y.1) (y.1,-1,())) (λp=>letI b:=decide (p.2.2.1=-1);yD (bD b (mpure (0,3)) (mpure (p.2.2.1,0))) (λid=>if id=0 then bD b (mpure (0,3)) (mpure (p.2.2.1,0)) else d') d' p.1)))
def acY(x:bJ×Int):M (z18'):=
 letI c:=HK (x.1,m_ (acN x));dE (acN x) (dE c (bm ((M.val c (none,0)).2≠0) (mpure ([],(M.val c (none,0)).2)) (aq (acQ ([-1],aR x.1.2.2.2.1,())) (λy=>bQ (λA=>letI e:=A.2.2.2;letI d:=List.set e.2.2.1 A.1.toNat e.1;bm (e.1<A.2.2.1) (cB (bU A.1 e.2.2.1 (aq (Tt (A.2.1,d)) (λy=>bD y (eB e.2.1 (be (A.1,A.2.1,A.2.2.1,e.1,e.2.1++[e.1],d,()))) (be (A.1,A.2.1,A.2.2.1,e.1,e.2.1,d,()))))) (λA=>be (A.1,A.2.1,A.2.2.1,bf A.2.2.2.1,A.2.2.2.2.1,A.2.2.2.2.2.1,()))) (bY (e.2.1,()))) (x.2,(M.val c (none,0)).1,aR x.1.2.2.1,0,[],y.1,()) λA=>mpure (A.1,0)))))
def acZ(x:bJ):M Int:=
 aq (D0 x.1) λy=>bm (y≠0) (mpure y) (aq (aua x) (λy=>if !y then mpure 80 else mpure 0))
def ac0(x:bJ):M Int:=
 letI h:=e6 (aR x.2.1) (aR x.1.1)||dp (aR x.2.2.1) 8||dp (aR x.2.2.2.1) 6||dp (aR x.2.2.2.2.1) 8;aq (Mj x.1) λy=>if e6 y 0 then mpure y else cf (!h) (r7 (x.2.2.2.2.2,0,99)) false λy=>bD (h||!y) (mpure 80) (bQ (λA=>fw A.1 A.2.1.2.1 (aq (r7 (bw A.2.1.2.1 A.1 0,0,10)) (λy=>bD (!y) (cS 80) (be (bf A.1,A.2.1,())))) (bY (A.2.1,()))) (0,x,()) (λA=>bQ (λA=>letI j:=aue (A.2.1,bw A.2.1.2.2.1 A.1 (0,0,0,0,[]));fw A.1 A.2.1.2.2.1 (dE j (bD (pE j) (cS 80) (be (bf A.1,A.2.1,())))) (bY (A.2.1,()))) (0,A.1,()) λA=>bQ (λA=>fw A.1 A.2.1.2.2.2.1 (aq (auf (bw A.2.1.2.2.2.1 A.1 ([],(0,0),0,0,0))) (λy=>bD (!y) (cS 80) (be (bf A.1,A.2.1,())))) (bY (A.2.1,()))) (0,A.1,()) λA=>bQ (λA=>letI i:=bw A.2.1.2.2.2.2.1 A.1 (0,0,0);fw A.1 A.2.1.2.2.2.2.1 (aq (r7 (i.1,0,99)) (λy=>cf (!(!y)) (r7 (i.2.1,0,cE (aR A.2.1.1.1) 1)) false λcn=>cf (!(!y||!cn)) (r7 (i.2.2,1,10)) false λdZ=>bD (!y||!cn||!dZ) (cS 80) (be (bf A.1,A.2.1,())))) (bY ())) (0,A.1,()) λA=>mpure 0))
def ac1(x:bJ):M (z18'):=
 aq (HK (x,true)) λy=>bm (y.2≠0) (mpure ([],y.2)) (aq (acO y.1) (λy=>mpure (y,0)))
def ac2(x:bJ×z1'):M (z12'):=
 letI b:=HK (x.1,m_ (acS x));letI a:=M.val b (none,0);dE (acS x) (dE b (bm (a.2≠0) (mpure (0,a.2)) (aq (Tt (a.1,x.2)) (λy=>if !y then mpure (0,3) else aq (Mr (a.1,x.2)) λy=>mpure (y,0)))))
def ac3(x:bJ×Bool):M (z12'):=
 aq (HK x) λy=>bm (y.2≠0) (mpure (0,y.2)) (aq (acO y.1) (λcn=>aq (Mr (y.1,cn)) λy=>mpure (y,0)))
def Tw(x:bJ×Bool):M (Option fU×Int):=
 letI z2:=x.1.1.2;letI lL:=x.1.2.2;aq (HL x.1) λy=>bm (y≠0) (mpure (none,y)) (if !x.2 then mpure (none,1) else cB (bm (aR x.1.2.1 > 0) (aq (Mo (x.1.1,0)) (λy=>bm (y.2≠0) (pD (none,y.2)) (be (x.1,[],x.1.1.1,z2.1,z2.2.1,z2.2.2,x.1.2.1,lL.1,lL.2.1,lL.2.2.1,lL.2.2.2,())))) (be (x.1,[],x.1.1.1,z2.1,z2.2.1,z2.2.2,x.1.2.1,lL.1,lL.2.1,lL.2.2.1,lL.2.2.2,()))) λA=>letI aT:=A.2.2.2.2.2;bQ (λA=>letI s2:=A.2.2;letI nx:=s2.2.2.2.2;letI cO:=nx.2.2.2;bm (A.2.1<A.1) (bQ (λA=>letI qY:=A.2.2.2;letI c2:=qY.2.2;letI t1:=c2.2.2.2;letI d2:=t1.2.2.2.2;letI d3:=d2.2.2;bm (c2.1<qY.2.1) (cB (bU c2.1 qY.1 (dA (λA=>letI eh:=A.2.2;letI fc:=eh.2.2;letI jf:=fc.2.2;letI cq:=jf.2.2;letI c_:=cq.2.2.1;letI i2:=cq.2.2.2;letI v1:=i2.2.2.2;letI eG:=v1.2.2.2;bm (cq.1<jf.2.1) (cB (aq (Mp (cq.2.1.1,A.1,A.2.1,cq.1)) (λy=>bm (y.1=1) (ae True (ae (True/\True/\True) (ae True (be (A.1,A.2.1,eh.1,eh.2.1,fc.1,fc.2.1,jf.1,jf.2.1,cq.1,cq.2.1,yS c_ (A.1,A.2.1,cq.1) (bf ((hg (λp=>b7 A.1 p.1.1&&(b7 A.2.1 p.1.2.1&&b7 cq.1 p.1.2.2)) c_).getD 0)),i2.1,i2.2.1,i2.2.2.1,v1.1,v1.2.1,v1.2.2.1,eG.1,eG.2.1,eG.2.2.1,()))))) (be (A.1,A.2.1,eh.1,eh.2.1,fc.1,fc.2.1,jf.1,jf.2.1,cq.1,cq.2.1,c_,i2.1,i2.2.1,i2.2.2.1,v1.1,v1.2.1,v1.2.2.1,eG.1,eG.2.1,eG.2.2.1,())))) (λA=>letI bX:=A.2.2.2.2.2;letI mw:=bX.2.2.2.2;letI og:=mw.2.2.2.2.2;be (A.1,A.2.1,A.2.2.1,A.2.2.2.1,A.2.2.2.2.1,bX.1,bX.2.1,bX.2.2.1,bf bX.2.2.2.1,mw.1,mw.2.1,mw.2.2.1,mw.2.2.2.1,mw.2.2.2.2.1,og.1,og.2.1,og.2.2.1,og.2.2.2.1,og.2.2.2.2.1,og.2.2.2.2.2.1,()))) (bY (A.1,eh.1,eh.2.1,fc.1,fc.2.1,jf.1,cq.2.1,c_,i2.1,i2.2.1,i2.2.2.1,v1.1,v1.2.1,v1.2.2.1,eG.1,eG.2.1,eG.2.2.1,()))) (A.1,c2.1,A.2.1,A.2.2.1,qY.1,qY.2.1,c2.1,aR (bw qY.1 c2.1 []),0,c2.2.1,c2.2.2.1,t1.1,t1.2.1,t1.2.2.1,t1.2.2.2.1,d2.1,d2.2.1,d3.1,d3.2.1,d3.2.2.1,()))) (λA=>letI ao:=A.2.2.2.2;letI b4:=ao.2.2.2.2;letI dN:=b4.2.2.2.2;be (A.1,A.2.1,A.2.2.1,A.2.2.2.1,ao.1,bf ao.2.1,ao.2.2.1,ao.2.2.2.1,b4.1,b4.2.1,b4.2.2.1,b4.2.2.2.1,dN.1,dN.2.1,dN.2.2.1,dN.2.2.2.1,dN.2.2.2.2.1,()))) (bY (A.2.1,A.2.2.1,c2.2.1,c2.2.2.1,t1.1,t1.2.1,t1.2.2.1,t1.2.2.2.1,d2.1,d2.2.1,d3.1,d3.2.1,d3.2.2.1,()))) (A.2.1,A.1,A.2.1,s2.1.1.2.1,aR s2.1.1.2.1,0,s2.1,s2.2.1,s2.2.2.1,s2.2.2.2.1,nx.1,nx.2.1,nx.2.2.1,cO.1,cO.2.1,cO.2.2.1,cO.2.2.2.1,()) (λA=>letI f3:=A.2.2.2;letI bz:=f3.2.2.2;letI j2:=bz.2.2.2;be (A.1,bf A.2.1,A.2.2.1,f3.1,f3.2.1,f3.2.2.1,bz.1,bz.2.1,bz.2.2.1,j2.1,j2.2.1,j2.2.2.1,j2.2.2.2.1,()))) (bY (s2.1,s2.2.1,s2.2.2.1,s2.2.2.2.1,nx.1,nx.2.1,nx.2.2.1,cO.1,cO.2.1,cO.2.2.1,cO.2.2.2.1,()))) (aR A.1.2.1,0,A.1,A.2.1,A.2.2.1,A.2.2.2.1,A.2.2.2.2.1,aT.1,aT.2.1,aT.2.2.1,aT.2.2.2.1,aT.2.2.2.2.1,aT.2.2.2.2.2.1,()) λA=>letI gD:=A.2.2.2.2.2;bQ (λA=>letI xa:=A.2.2;letI f2:=xa.2.2;letI iy:=acP ([(xa.1,0)],bw A.1 xa.1 0);letI h_:=f2.2.2.2.2;letI gS:=h_.2.2.2.2;bm (xa.1<A.2.1) (bU xa.1 A.1 (ae True (dE iy (ae (cb (Add.add gS.2.2.1.length (M.val iy []).length)) (ae True (be (A.1,A.2.1,bf xa.1,xa.2.1,f2.1,f2.2.1,f2.2.2.1,f2.2.2.2.1,h_.1,h_.2.1,h_.2.2.1,h_.2.2.2.1,gS.1,gS.2.1,gS.2.2.1++M.val iy [],()))))))) (bY (xa.2.1,f2.1,f2.2.1,f2.2.2.1,f2.2.2.2.1,h_.1,h_.2.1,h_.2.2.1,h_.2.2.2.1,gS.1,gS.2.1,gS.2.2.1,()))) (A.1.2.1,aR A.1.2.1,0,A.1,A.2.1,A.2.2.1,A.2.2.2.1,A.2.2.2.2.1,gD.1,gD.2.1,gD.2.2.1,gD.2.2.2.1,gD.2.2.2.2.1,gD.2.2.2.2.2.1,[],()) λA=>letI ei:=A.2.2.2.2.2;letI an:=ei.2.2.2;bQ (λA=>letI L:=A.2.2;letI c3:=L.2.2.2;letI c7:=bw A.1 L.1 (0,0,0);letI cj:=c3.2.2;letI fQ:=cj.2.2.2.2;letI s1:=acP ([(c7.2.1,c7.1)],c7.2.2);bm (L.1<A.2.1) (bU L.1 A.1 (ae True (dE s1 (ae (cb (Add.add fQ.2.2.1.length (M.val s1 []).length)) (ae True (be (A.1,A.2.1,bf L.1,L.2.1,L.2.2.1,c3.1,c3.2.1,cj.1,cj.2.1,cj.2.2.1,cj.2.2.2.1,fQ.1,fQ.2.1,fQ.2.2.1++M.val s1 [],()))))))) (bY (L.2.1,L.2.2.1,c3.1,c3.2.1,cj.1,cj.2.1,cj.2.2.1,cj.2.2.2.1,fQ.1,fQ.2.1,fQ.2.2.1,()))) (A.1.2.2.2.2.1,aR A.1.2.2.2.2.1,0,A.2.1,A.2.2.1,A.2.2.2.1,A.2.2.2.2.1,ei.1,ei.2.1,ei.2.2.1,an.1,an.2.1,an.2.2.1,an.2.2.2.1,()) λA=>letI m2:=A.2.2.2.2.2;mpure (some (((A.2.1,A.2.2.1,A.2.2.2.1,A.2.2.2.2.1),m2.1,m2.2.1,m2.2.2.1,m2.2.2.2.1,m2.2.2.2.2.1),m2.2.2.2.2.2.1,A.1),0))
def Tx(x:Option fU×z1'):M (z5'×Bool):=
 bQ (λA=>letI z:=A.1.isSome;letI u:=A.2.1;letI s:=A.2.2;letI o:=s.2.1;letI m:=(A.1.getD ((([],[],0,[]),[],[],[],[],0),[],[])).1.2.2;letI q:=bw m.2.1 o ([],(0,0),0,0,0);letI p:=bw m.1 (bw u o 0) (0,0,0,0,[]);bm (o<s.1) (cB (bU o u (bm (bw u o (0:Int)<0) (be (A.1,u,s.1,o,s.2.2.1,())) (ae z (bU o m.2.1 (ae z (bU (bw u o 0) m.1 (cB (aq (acV (q,p)) (λy=>bm (y=0) (iM (iM (cS ([],false)))) (bm (y=2) (ae z (be (A.1,cE q.2.2.2.1 m.2.2.2,u,s.1,o,s.2.2.1,p,()))) (be (A.1,q.2.2.2.1,u,s.1,o,s.2.2.1,p,()))))) (λA=>letI t:=A.2.2.2.2;bm (A.2.1<0) (iM (cS ([],false))) (dA (λA=>letI v:=A.2.2.2;letI n:=v.2.2;letI w:=n.2.2;bm (w.1<n.2.1) (bU w.1 n.1 (eB w.2.1 (be (A.1,A.2.1,A.2.2.1,v.1,v.2.1,n.1,n.2.1,bf w.1,w.2.1++[(w.2.2.1.2.2.2.1,bw n.1 w.1 0,A.2.1)],w.2.2.1,())))) (bY (A.1,A.2.2.1,v.1,v.2.1,w.2.1,()))) (A.1,A.2.1,A.2.2.1,A.2.2.2.1,t.1,t.2.2.1.2.2.2.2,aR t.2.2.1.2.2.2.2,0,t.2.1,t.2.2.1,())))))))))) (λA=>be (A.1,A.2.1,A.2.2.1,bf A.2.2.2.1,A.2.2.2.2.1,()))) (bY (s.2.2.1,()))) (x.1,x.2,aR x.2,0,[],()) λA=>mpure (A.1,true)
def Ty(x:Option fU×z5'):M Bool:=
 bQ (λA=>letI d:=A.2.2.2.1;bm (d<A.2.2.1) (cB (bU d A.2.1 (cB (ae A.1.isSome (dA (λA=>letI c:=A.2.2.2.2;bm (c.2.2.1<c.2.1) (cf (!A.2.1) (Tv (A.1,(c.2.2.1,0),c.2.2.2.1)) false (λy=>be (A.1,A.2.1||y,A.2.2.1,A.2.2.2.1,c.1,c.2.1,bf c.2.2.1,c.2.2.2.1,()))) (bY (A.1,A.2.1,A.2.2.1,A.2.2.2.1,c.1,()))) (A.1,false,A.2.1,A.2.2.1,d,aR (A.1.getD ((([],[],0,[]),[],[],[],[],0),[],[])).1.2.1,0,bw A.2.1 d (0,0,0),()))) (λA=>if !A.2.1 then iM (cS false) else be (A.1,A.2.2.1,A.2.2.2.1,A.2.2.2.2.1,())))) (λA=>be (A.1,A.2.1,A.2.2.1,bf A.2.2.2.1,()))) (bY ())) (x.1,x.2,aR x.2,0,()) λA=>iX
def Tz(x:Option fU×z5'):M Int:=
 ae x.1.isSome (aq (acQ ([-1],aR (x.1.getD ((([],[],0,[]),[],[],[],[],0),[],[])).2.1,())) (λy=>bQ (λA=>letI b:=A.2.2.2;bm (b.2.1<b.1) (cB (aq (acU (A.1,A.2.1,b.2.1,[],b.2.2.1,())) (λy=>if !y.1 then be (A.1,A.2.1,bf A.2.2.1,b.1,b.2.1,y.2.2.1,()) else be (A.1,A.2.1,A.2.2.1,b.1,b.2.1,y.2.2.1,()))) (λA=>be (A.1,A.2.1,A.2.2.1,A.2.2.2.1,bf A.2.2.2.2.1,A.2.2.2.2.2.1,()))) (bY (A.2.2.1,()))) (x.1,x.2,0,aR x.2,0,y.1,()) λA=>mpure A.1))
def ac4(x:bJ×Int):M Bool:=
 aq (tf (x.2,0,cE (aR x.1.2.2.2.1) 1)) λy=>mpure y
def auu(x:z18'):M (z1'):=
 cB (bm (x.2<0) (ae False (ae False (be (x.1,x.2,())))) (be (x.1,x.2,()))) λA=>aq (DZ (IntKind.wrap .u64 (aR A.1),IntKind.wrap .u64 A.2.1)) λy=>cB (if dp y.1 0||dp y.2 9223372036854775807 then ae False (ae False (be (A.1,y.2,()))) else be (A.1,y.2,())) λA=>letI h:=IntKind.wrap .i64 A.2.1;letI m:=h.toNat;letI k:=A.1.take ((List.replicate m (0:Int)).length-0);ae (0<=h/\h=h/\cb m) (ae True (bQ (λA=>letI l:=aR A.2.1;letI j:=l.toNat-A.1.toNat;letI i:=A.2.1.take A.1.toNat;bm (A.1<l) (ae (0<=A.1/\A.1<=l/\l<=l) (ae ((0:Int)<=0/\0<=A.1/\A.1<=l) (ae True (be (eZ A.1 (Int.ofNat (if j<=i.length then j else i.length)),i++i.take j++A.2.1.drop (Add.add A.1.toNat (i.take j).length),()))))) (bY (A.2.1,()))) (Int.ofNat (if (List.replicate m (0:Int)).length-0<=A.1.length then (List.replicate m (0:Int)).length-0 else A.1.length),[]++k++(List.replicate m (0:Int)).drop (Add.add 0 k.length),()) (λA=>mpure A.1)))
def ac5(x:Option fU×z1'):M Bool:=
 aq (Tr x) λy=>cf y.2 (Ts (x.1,y.1)) 0 λcn=>mpure (y.2&&b7 cn 0)
def ac6(x:bJ):M Bool:=
 letI j:=x.2.2.2;letI h:=decide (aR x.2.1=aR x.1.1);cf h (Mm (x.2.1,aup)) false λy=>letI i:=h&&!y&&hS (aR x.2.2.1) 8;cf i (auj (x.2.2.1,λjo=>aum (jo,some x.1))) false λcn=>letI f:=i&&!cn&&hS (aR j.1) 6;cf f (auk (j.1,auo)) false λdZ=>letI g:=f&&!dZ&&hS (aR j.2.1) 8;cf g (aul (j.2.1,λjo=>aun (jo,some x.1))) false λie=>cf (g&&!ie) (Tu j.2.2) false λoW=>mpure (g&&!ie&&oW)
def auv(x:z15'):M Bool:=
 mpure (hS x.2.1 x.1&&hS x.1 x.2.2)
def ac7(x:bJ×Int×Int×Int×Int×z1'):M Bool:=
 letI e:=x.2.2.2.2;letI d:=acR (e.2,cE (aR (bw x.1.1.2.1 e.1 [])) 1);aq (r7 (x.2.1,0,99)) λy=>cf (!(!y)) (r7 (x.2.2.1,0,99)) false λcn=>cf (!(!y||!cn)) (r7 (x.2.2.2.1,0,99)) false λdZ=>cf (!(!y||!cn||!dZ)) (r7 (e.1,0,cE (aR x.1.1.2.1) 1)) false λie=>bD (!y||!cn||!dZ||!ie) h' (bU e.1 x.1.1.2.1 (dE d (mpure (m_ d))))
def ac8(x:z24'):M Bool:=
 aq (r7 (aR x.1,1,8)) λy=>cf y (acR (x.1,99)) false λcn=>letI b:=y&&cn&&hS 0 x.2.1.1&&hS x.2.1.1 x.2.1.2&&hS x.2.1.2 99;cf b (r7 (x.2.2.1,0,99)) false λdZ=>cf (b&&dZ) (r7 (x.2.2.2.1,0,99)) false λie=>cf (b&&dZ&&ie) (r7 (x.2.2.2.2,0,100000)) false λoW=>mpure (b&&dZ&&ie&&oW)
def ac9(x:bJ×Int):M Bool:=
 aq (tf (x.2,0,cE (aR x.1.2.2.1) 1)) λy=>mpure y
def ac_(x:(z24')×z23'):M Int:=
 aq (Bp (x.1.1,x.2.1)) λy=>cf (!(!y)) (tf (x.2.2.1,x.1.2.1)) false λcn=>if !y||!cn then mpure 0 else bm (x.2.2.2.1=x.1.2.2.1) (mpure 1) (bm (x.2.2.2.1=0) (mpure 2) (mpure 0))
def TA(auw:Option fU->Prop)(auy:Option fU->List (z1'))(x:Option fU):M (z1'):=
 ae x.isSome (aq (aui ([-1],aR (x.getD ((([],[],0,[]),[],[],[],[],0),[],[])).1.2.2.2.1)) (λy=>ae (auw x) (aq (kl (λA (y:z1')=>letI f:=Tt (A.1,y);letI e:=Mr (A.1,y);letI d:=Mr (A.1,A.2.1);letI c:=decide (vJ e > vJ d);letI g:=c=true;aq (dE e (dE d (ae (g->(g/\g/\True)/\f.e3/\True) (ae (True/\(g->g)) (if c&&m_ f then mpure (dS.normal,A.1,y,()) else mpure (dS.normal,A.1,A.2.1,())))))) λp=>mpure (p.1,p.2.1,p.2.2.1,())) (auy x) (x,y,())) (λp=>yD (mpure p.2.2.1) (λid=>if id=0 then mpure p.2.2.1 else d') d' p.1))))
def ac'(x:bJ×z1'):M Bool:=
 bQ (λA=>letI h:=A.2.2.2;letI g:=decide (bw A.2.1 h.1 (0:Int)≠-1);bm (h.1<A.2.2.1) (bU h.1 A.2.1 (cf g (aub (h.2.1,bw A.2.1 h.1 0)) false (λy=>letI i:=(g&&!(!y))=true;ae (i->(i/\True/\i)/\((0:Int)<=0/\0<=h.1/\h.1<=aR A.1)/\True) (cf (g&&!(!y)) (Bp (A.1.take h.1.toNat,bw A.2.1 h.1 0)) false (λcn=>if g&&(!y||cn) then cS false else be (A.1,A.2.1,A.2.2.1,bf h.1,h.2.1,())))))) (bY (A.1,h.2.1,()))) (x.2,x.2,aR x.2,0,x.1,()) λA=>mpure (decide (aR A.1=aR A.2.1.2.2.2.1))
def TB(x:Option fU×z1'):M Int:=
 bQ (λA=>letI f:=A.2.2;letI e:=(A.1.getD ((([],[],0,[]),[],[],[],[],0),[],[])).1.2.2.2.1;letI d:=f.2.2.1;bm (d<f.2.1) (cB (bU d f.1 (bm (bw f.1 d (0:Int)≠-1) (ae A.1.isSome (bU d e (be (A.1,eZ A.2.1 (bw e d ([],(0,0),0,0,0)).2.2.2.2,f.1,f.2.1,d,())))) (be (A.1,A.2.1,f.1,f.2.1,d,())))) (λA=>be (A.1,A.2.1,A.2.2.1,A.2.2.2.1,eZ A.2.2.2.2.1 1,()))) (bY (A.2.1,()))) (x.1,0,x.2,aR x.2,0,()) λA=>mpure A.1
def auz(x:z4'×Int):M (z4'):=
 cB (bm (x.2<0) (ae False (ae False (be (x.1,x.2,())))) (be (x.1,x.2,()))) λA=>aq (DZ (IntKind.wrap .u64 (aR A.1),IntKind.wrap .u64 A.2.1)) λy=>cB (if dp y.1 0||dp y.2 9223372036854775807 then ae False (ae False (be (A.1,y.2,()))) else be (A.1,y.2,())) λA=>letI h:=IntKind.wrap .i64 A.2.1;letI m:=h.toNat;letI k:=A.1.take ((List.replicate m ((0:Int),(0:Int))).length-0);ae (0<=h/\h=h/\cb m) (ae True (bQ (λA=>letI l:=aR A.2.1;letI j:=l.toNat-A.1.toNat;letI i:=A.2.1.take A.1.toNat;bm (A.1<l) (ae (0<=A.1/\A.1<=l/\l<=l) (ae ((0:Int)<=0/\0<=A.1/\A.1<=l) (ae True (be (eZ A.1 (Int.ofNat (if j<=i.length then j else i.length)),i++i.take j++A.2.1.drop (Add.add A.1.toNat (i.take j).length),()))))) (bY (A.2.1,()))) (Int.ofNat (if (List.replicate m ((0:Int),(0:Int))).length-0<=A.1.length then (List.replicate m ((0:Int),(0:Int))).length-0 else A.1.length),[]++k++(List.replicate m ((0:Int),(0:Int))).drop (Add.add 0 k.length),()) (λA=>mpure A.1)))
def ada(x:Option fU×(z12')×Int×Int×Int):M Bool:=
 letI f:=hS x.2.1.2 x.2.2.2.2;letI d:=f=true;letI e:=d->d/\True/\True;ae (d->d/\x.1.isSome/\True) (ae e (ae e (ae e (ae e (ae e (ae (d->(d/\d/\d/\True)/\True/\True) (ae (d->(d/\d)/\True/\True) (ae (d->(d/\True)/\True/\True) (ae (True/\(d->d)) (mpure (f&&dp ((hg (λp=>b7 x.2.1.1 p.1.1&&(b7 x.2.2.1 p.1.2.1&&b7 x.2.2.2.1 p.1.2.2)) (x.1.getD ((([],[],0,[]),[],[],[],[],0),[],[])).2.2).getD (0:Int)) 0)))))))))))
def auA(x:z15'):M Bool:=
 mpure (hS x.2.1 x.1&&hS x.1 x.2.2)
def adb(x:(z23')×Option b2):M Bool:=
 letI d:=x.2.getD ([],[],0,[]);aq (Bq x.1.1) λy=>cf (!(!y)) (Bq x.1.2.1) false λcn=>cf (!(!y||!cn)) (Bq x.1.2.2.1) false λdZ=>letI c:=!y||!cn||!dZ;cf (!c) (tf (x.1.2.2.2.1,0,cE (aR d.2.1) 1)) false λie=>cf (!(c||!ie)) (acT (x.1.2.2.2.2,λjo=>auq (jo,some d,some x.1))) false λoW=>mpure (c||!ie||!oW)
def ade(x:Int):M Bool:=
 aq (tf (x,0,99)) λy=>mpure y
def adf(x:z1'×(Int->M Bool)):M Bool:=
 bQ (λA=>letI h:=A.2.2;letI f:=h.2.2.1;bm (f<h.2.1) (bU f h.1 (aq (A.2.1 (bw h.1 f 0)) (λy=>letI g:=(!(!y)&&dp f 0)=true;ae (g->(g/\g)/\(0<=cE f 1/\cE f 1<aR A.1)/\True) (if !y||dp f 0&&decide (bw h.1 f 0<=bw A.1 (cE f 1) 0) then cS false else be (A.1,A.2.1,h.1,h.2.1,bf f,()))))) (bY ())) (x.1,x.2,x.1,aR x.1,0,()) λA=>iX
def adg(x:Int×Option b2×Option (z23')):M Bool:=
 letI d:=(x.2.1.getD ([],[],0,[])).2.1;letI c:=(x.2.2.getD (0,0,0,0,[])).2.2.2.1;bU c d (aq (tf (x.1,0,cE (aR (bw d c [])) 1)) (λy=>mpure y))
def adh(x:z24'):M Bool:=
 aq (tf (aR x.1,1,8)) λy=>cf (!(!y)) (acT (x.1,Bq)) false λcn=>cf (!(!y||!cn)) (Bq x.2.1.1) false λdZ=>cf (!(!y||!cn||!dZ)) (Bq x.2.1.2) false λie=>letI b:=!y||!cn||!dZ||!ie||dp x.2.1.1 x.2.1.2;cf (!b) (Bq x.2.2.1) false λoW=>cf (!(b||!oW)) (Tu x.2.2.2.1) false λHM=>cf (!(b||!oW||!HM)) (tf (x.2.2.2.2,0,100000)) false λTC=>mpure (b||!oW||!HM||!TC)
def adi(x:Int):M Bool:=
 aq (tf (x,0,99)) λy=>mpure y
def adj(x:(z15')×Option b2):M Bool:=
 aq (Tu x.1.1) λy=>cf (!(!y)) (tf (x.1.2.1,0,cE (aR (x.2.getD ([],[],0,[])).1) 1)) false λcn=>cf (!(!y||!cn)) (tf (x.1.2.2,1,10)) false λdZ=>mpure (!y||!cn||!dZ)
def adk(x:Int):M Bool:=
 aq (tf (x,0,10)) λy=>mpure (!y)
def adl(x:z18'):M Bool:=
 bQ (λA=>letI p:=A.2.2.1;letI t:=(0<=p/\p<aR A.1)/\True;letI q:=decide (bw A.1 p (0:Int)<0);letI o:=(!q)=true;letI m:=q||dp (bw A.1 p 0) A.2.1;letI s:=(!m)=true;letI n:=(!m&&dp p 0)=true;letI u:=n->n/\True/\True;fw p A.1 (ae (o->(o/\o)/\t) (ae (o->o/\True/\True) (ae (o->(o/\o)/\True/\True) (ae (True/\(q=false->o)) (ae (s->(s/\True)/\True/\True) (ae (s->True/\True/\s) (ae (n->(n/\n)/\t) (ae u (ae (n->(n/\True)/\True/\True) (ae (n->(n/\n)/\(0<=cE p 1/\cE p 1<aR A.1)/\True) (ae u (ae (n->(n/\n)/\True/\True) (ae (s->(s/\(dp p 0=true->n))/\True/\True) (ae (True/\(m=false->s)) (if m||dp p 0&&decide (bw A.1 p 0<=bw A.1 (cE p 1) 0) then cS false else be (A.1,A.2.1,bf p,())))))))))))))))) (bY ())) (x.1,x.2,0,()) λA=>iX
def Mt(x:Option fU×Nat×(Nat×(List (z1')->Prop)×List (z1')×Bool)×Unit):M ((Nat×(List (z1')->Prop)×List (z1')×Bool)×Unit):=
 aq (Ms (x.1,[],1,x.2.1,x.2.2.1,())) λy=>mpure (y.2.1,())
def Mu(x:Option fU×Nat×(Nat×(List (z1')->Prop)×List (z1')×Bool)×Unit):M ((Nat×(List (z1')->Prop)×List (z1')×Bool)×Unit):=
 aq (Ms (x.1,[],0,x.2.1,x.2.2.1,())) λy=>mpure (y.2.1,())
def TD(x:Option fU×z5'×Int×z4'×z1'×Unit):M (Bool×z4'×z14'):=
 letI k:=(x.1.getD ((([],[],0,[]),[],[],[],[],0),[],[])).2.1;aq (ae x.1.isSome (dA (λA=>letI o:=A.2.1;letI i:=A.2.2;letI c:=i.2.2.2;letI m:=c.2.2.1;letI l:=c.1.toNat;letI j:=Option.map (λx=>x.2) (List.find? (λp=>decide (c.1=p.1)) c.2.1);letI g:=0<=c.1/\c.1<Int.ofNat m.length;letI f:=(A.1,i.2.1.getD l (0,0),o.getD i.1.toNat (0,0,0));letI d:=gX c.2.1 c.1 (IntKind.wrap .i64 (Add.add (j.getD 0) 1));letI b:=decide (m.getD l (0:Int)=-1);letI h:=(!b)=true;letI a:=decide (j.getD (0:Int) > 0);letI e:=(!a)=true;letI q:=e->e/\True/\True;if decide (c.1<i.2.2.1) then aq (ae (0<=c.1/\c.1<Int.ofNat i.2.1.length) (ae (e->(e/\e)/\(0<=i.1/\i.1<Int.ofNat o.length)/\True) (ae q (ae (e->(e/\e/\e/\True)/\(Tv f).e3/\True) (ae q (ae (True/\(a=false->e)) (if a||!(M.val (Tv f) false) then mpure (.aw (A.1,o,i.1,i.2.1,i.2.2.1,c.1,c.2.1,m,())) else ae g (ae (h->(h/\h)/\g/\True) (if h then ae (h/\h/\h/\h/\h/\True) (aq (acU (A.1,o,m.getD l 0,d,m,())) (λy=>if b||y.1 then ae (0<=c.1/\c.1<Int.ofNat y.2.2.1.length) (aq (aq (aq (mpure (true,y.2.1,List.set y.2.2.1 l i.1,())) (λr=>mpure (.aV r))) (λr=>mpure (.aV r))) (λr=>mpure (.aV r))) else mpure (.aw (A.1,o,i.1,i.2.1,i.2.2.1,c.1,y.2.1,y.2.2.1,())))) else ae (True/\(b=false->false=true)) (if b||false then ae g (aq (aq (aq (mpure (true,d,List.set m l i.1,())) (λr=>mpure (.aV r))) (λr=>mpure (.aV r))) (λr=>mpure (.aV r))) else mpure (.aw (A.1,o,i.1,i.2.1,i.2.2.1,c.1,d,m,())))))))))))) (aJ.fC (λA=>letI n:=A.2.2.2;mpure (.aw (A.1,A.2.1,A.2.2.1,n.1,n.2.1,IntKind.wrap .i64 (Add.add n.2.2.1 1),n.2.2.2.1,n.2.2.2.2.1,())))) else aq (mpure (.aw (c.2.1,m,()))) λr=>mpure (.aV r)) (x.1,x.2.1,x.2.2.1,k,Int.ofNat k.length,0,x.2.2.2.1,x.2.2.2.2.1,()))) (aJ.fC (λA=>mpure (false,A.1,A.2.1,())))
def TE(x:Option fU×z1'×Int×Nat×(Nat×(List (z1')->Prop)×List (z1')×Bool)×Unit):M (Bool×(Nat×(List (z1')->Prop)×List (z1')×Bool)×Unit):=
 letI aE:=x.2.2.2.2.1;letI cr:=(x.1.getD ((([],[],0,[]),[],[],[],[],0),[],[])).1.2.2;ae x.1.isSome (bm (aR x.2.1=aR cr.2.1) (aq (ae (x.2.2.2.1=aE.1/\aE.2.2.2=false/\(∃ (T:List (z1')),aE.2.1 (aE.2.2.1++x.2.1::T))) (mN (λx=>True))) (λy=>mpure (y,(aE.1,aE.2.1,aE.2.2.1++[x.2.1],!y),()))) (cB (ae x.1.isSome (dA (λA=>letI aM:=A.2.1;letI i1:=A.2.2;letI dt:=(A.1.getD ((([],[],0,[]),[],[],[],[],0),[],[])).1.2.2.2.1;letI v:=i1.2.2;letI E:=v.2.2.2;letI z:=Bp (aM,E.1);letI w:=acV (bw dt v.1 ([],(0,0),0,0,0),bw v.2.1 E.1 (0,0,0,0,[]));letI t:=pE z=true;letI f1:=t->t/\True/\True;bm (E.1<v.2.2.1) (cB (bU E.1 v.2.1 (dE z (ae (t->t/\A.1.isSome/\True) (ae f1 (ae f1 (ae f1 (ae (t->(t/\t)/\(0<=v.1/\v.1<aR dt)/\True) (ae f1 (ae (t->(t/\t/\True)/\w.e3/\True) (ae (t->(t/\True)/\True/\True) (ae (True/\(m_ z=false->t)) (bD (m_ z||b7 (M.val w (0:Int)) 0) (be (A.1,aM,i1.1,i1.2.1,v.1,v.2.1,v.2.2.1,E.1,E.2.1,())) (ae ((0:Int)<=0/\0<=v.1/\v.1=v.1/\v.1<=aR aM) (ae (0<Add.add 0 1/\cb (Add.add (aM.take v.1.toNat).length (Add.add 0 1))) (aq (Ms (A.1,aM.take v.1.toNat++[E.1],i1.1,i1.2.1,E.2.1,())) (λy=>bD (!y.1) (iM (cS (false,y.2.1,()))) (be (A.1,aM,i1.1,i1.2.1,v.1,v.2.1,v.2.2.1,E.1,y.2.1,())))))))))))))))))) (λA=>letI mC:=A.2.2.2.2;be (A.1,A.2.1,A.2.2.1,A.2.2.2.1,mC.1,mC.2.1,mC.2.2.1,bf mC.2.2.2.1,mC.2.2.2.2.1,()))) (bY (A.1,aM,i1.1,i1.2.1,v.1,E.2.1,()))) (x.1,x.2.1,x.2.2.1,x.2.2.2.1,aR x.2.1,cr.1,aR cr.1,0,aE,()))) (λA=>letI d1:=A.2.2.2.2;letI fq:=A.2.1.take d1.1.toNat;letI cT:=Ms (A.1,fq++[-1],A.2.2.1,A.2.2.2.1,d1.2.1,());letI u:=b7 A.2.2.1 0;letI bG:=(!u)=true;ae (bG->(bG/\True/\bG/\bG)/\((0:Int)<=0/\0<=d1.1/\d1.1=d1.1/\d1.1<=aR A.2.1)/\True) (bD (!u) (ae (bG/\bG) (ae (0<Add.add 0 1/\cb (Add.add fq.length (Add.add 0 1))) (bD (!u) (ae (bG/\bG/\bG/\True) (aq cT (λy=>mpure (u||y.1,y.2.1,())))) (ae (True/\(u=false->false=true)) (mpure (u||false,d1.2.1,())))))) (bD (!u) (ae (bG/\false=true/\bG/\bG/\True) (aq cT (λy=>mpure (u||y.1,y.2.1,())))) (ae (True/\(u=false->false=true)) (mpure (u||false,d1.2.1,()))))))))
def auB(x:z1'×z25'):M (z14'):=
 cB (bm (x.2.1<0) (ae False (ae False (be (x.1,x.2.1,())))) (be (x.1,x.2.1,()))) λA=>aq (DZ (IntKind.wrap .u64 (aR A.1),IntKind.wrap .u64 A.2.1)) λy=>cB (if dp y.1 0||dp y.2 9223372036854775807 then ae False (ae False (be (A.1,y.2,()))) else be (A.1,y.2,())) λA=>letI h:=IntKind.wrap .i64 A.2.1;letI m:=h.toNat;letI k:=A.1.take ((List.replicate m (0:Int)).length-0);ae (0<=h/\h=h/\cb m) (ae True (bQ (λA=>letI l:=aR A.2.1;letI j:=l.toNat-A.1.toNat;letI i:=A.2.1.take A.1.toNat;bm (A.1<l) (ae (0<=A.1/\A.1<=l/\l<=l) (ae ((0:Int)<=0/\0<=A.1/\A.1<=l) (ae True (be (eZ A.1 (Int.ofNat (if j<=i.length then j else i.length)),i++i.take j++A.2.1.drop (Add.add A.1.toNat (i.take j).length),()))))) (bY (A.2.1,()))) (Int.ofNat (if (List.replicate m (0:Int)).length-0<=A.1.length then (List.replicate m (0:Int)).length-0 else A.1.length),[]++k++(List.replicate m (0:Int)).drop (Add.add 0 k.length),()) (λA=>mpure (A.1,()))))
end Go.Fer
namespace Go.Fer.H
set_option maxRecDepth 100000
abbrev bI:Type:=z19'
abbrev uJ:Type:=Int×z19'
abbrev bg:Type:=z4'×List bI×z1'×z4'×uJ
abbrev b3:Type:=bI×Int
abbrev gY:Type:=z1'×List (List b3)
abbrev h0:Type:=bg×List bI×List (Option gY)
abbrev j5:Type:=z4'×List bI×z1'×z4'×Int×Int×Int×Int×Int×Int×Int×List bI×List (Option gY)×Unit
abbrev gX(l:z4')(a b:Int):z4':=oG (k:=.int .i64) (v:=.int .i64) l a b
abbrev iY:V:=.ad (.ar (.int .i64) (.ar (.int .i64) (.ar (.int .i64) (.ar (.int .i64) (.ar (.int .i64) (.int .i64))))))
abbrev nK(l:List (Int×bI))(a:Int)(b:bI):List (Int×bI):=oG (k:=.int .i64) (v:=iY) l a b
abbrev auC:List UInt8:=0::1::(List.replicate 2 2++(List.replicate 4 3++(List.replicate 8 4++(List.replicate 16 5++(List.replicate 32 6++(List.replicate 64 7++List.replicate 128 8))))))
variable {hs:Type}{ht:Type}{hv:Type}{hx:Type}{hy:Type}{gZ:Type}{g_:Type}
abbrev _root_.Prod.cv(x:hs×ht×hv×hx×hy×gZ×g_):gZ:=x.2.2.2.2.2.1
variable {hI:Type}
abbrev _root_.Prod.fE(x:hs×ht×hv×hx×hy×gZ×g_×hI):g_:=x.2.2.2.2.2.2.1
variable {h2:Type}
abbrev _root_.Prod.h1(x:hs×ht×hv×hx×hy×gZ×g_×hI×h2):hI:=x.2.2.2.2.2.2.2.1
variable {iF:Type}
abbrev _root_.Prod.kT(x:hs×ht×hv×hx×hy×gZ×g_×hI×h2×iF):h2:=x.2.2.2.2.2.2.2.2.1
variable {iZ:Type}
abbrev _root_.Prod.na(x:hs×ht×hv×hx×hy×gZ×g_×hI×h2×iF×iZ):iF:=x.2.2.2.2.2.2.2.2.2.1
variable {jI:Type}
abbrev _root_.Prod.mD(x:hs×ht×hv×hx×hy×gZ×g_×hI×h2×iF×iZ×jI):iZ:=x.2.2.2.2.2.2.2.2.2.2.1
variable {j6:Type}
abbrev _root_.Prod.i_(x:hs×ht×hv×hx×hy×gZ×g_×hI×h2×iF×iZ×jI×j6):jI:=x.2.2.2.2.2.2.2.2.2.2.2.1
variable {kG:Type}
abbrev _root_.Prod.pI(x:hs×ht×hv×hx×hy×gZ×g_×hI×h2×iF×iZ×jI×j6×kG):j6:=x.2.2.2.2.2.2.2.2.2.2.2.2.1
variable {lu:Type}
abbrev _root_.Prod.qw(x:hs×ht×hv×hx×hy×gZ×g_×hI×h2×iF×iZ×jI×j6×kG×lu):kG:=x.2.2.2.2.2.2.2.2.2.2.2.2.2.1
variable {mf:Type}
abbrev _root_.Prod.vM(x:hs×ht×hv×hx×hy×gZ×g_×hI×h2×iF×iZ×jI×j6×kG×lu×mf):lu:=x.2.2.2.2.2.2.2.2.2.2.2.2.2.2.1
variable {nb:Type}
abbrev _root_.Prod.HN(x:hs×ht×hv×hx×hy×gZ×g_×hI×h2×iF×iZ×jI×j6×kG×lu×mf×nb):mf:=x.2.2.2.2.2.2.2.2.2.2.2.2.2.2.2.1
variable {oh:Type}
abbrev _root_.Prod.HO(x:hs×ht×hv×hx×hy×gZ×g_×hI×h2×iF×iZ×jI×j6×kG×lu×mf×nb×oh):nb:=x.2.2.2.2.2.2.2.2.2.2.2.2.2.2.2.2.1
variable {pJ:Type}
abbrev _root_.Prod.HP(x:hs×ht×hv×hx×hy×gZ×g_×hI×h2×iF×iZ×jI×j6×kG×lu×mf×nb×oh×pJ):oh:=x.2.2.2.2.2.2.2.2.2.2.2.2.2.2.2.2.2.1
variable {rr:Type}
abbrev _root_.Prod.TF(x:hs×ht×hv×hx×hy×gZ×g_×hI×h2×iF×iZ×jI×j6×kG×lu×mf×nb×oh×pJ×rr):pJ:=x.2.2.2.2.2.2.2.2.2.2.2.2.2.2.2.2.2.2.1
variable {tg:Type}
abbrev _root_.Prod.HQ(x:hs×ht×hv×hx×hy×gZ×g_×hI×h2×iF×iZ×jI×j6×kG×lu×mf×nb×oh×pJ×rr×tg):rr:=x.2.2.2.2.2.2.2.2.2.2.2.2.2.2.2.2.2.2.2.1
variable {vN:Type}
abbrev _root_.Prod.auD(x:hs×ht×hv×hx×hy×gZ×g_×hI×h2×iF×iZ×jI×j6×kG×lu×mf×nb×oh×pJ×rr×tg×vN):tg:=x.2.2.2.2.2.2.2.2.2.2.2.2.2.2.2.2.2.2.2.2.1
variable {yU:Type}
abbrev _root_.Prod.auE(x:hs×ht×hv×hx×hy×gZ×g_×hI×h2×iF×iZ×jI×j6×kG×lu×mf×nb×oh×pJ×rr×tg×vN×yU):vN:=x.2.2.2.2.2.2.2.2.2.2.2.2.2.2.2.2.2.2.2.2.2.1
variable {D2:Type}
abbrev _root_.Prod.TG(x:hs×ht×hv×hx×hy×gZ×g_×hI×h2×iF×iZ×jI×j6×kG×lu×mf×nb×oh×pJ×rr×tg×vN×yU×D2):yU:=x.2.2.2.2.2.2.2.2.2.2.2.2.2.2.2.2.2.2.2.2.2.2.1
abbrev _root_.Prod.auF{Mv:Type}(x:hs×ht×hv×hx×hy×gZ×g_×hI×h2×iF×iZ×jI×j6×kG×lu×mf×nb×oh×pJ×rr×tg×vN×yU×D2×Mv):D2:=x.2.2.2.2.2.2.2.2.2.2.2.2.2.2.2.2.2.2.2.2.2.2.2.1
abbrev _root_.Prod.TH{Mv auG:Type}(x:hs×ht×hv×hx×hy×gZ×g_×hI×h2×iF×iZ×jI×j6×kG×lu×mf×nb×oh×pJ×rr×tg×vN×yU×D2×Mv×auG):Mv:=x.2.2.2.2.2.2.2.2.2.2.2.2.2.2.2.2.2.2.2.2.2.2.2.2.1
variable (HR:bg×(Option h0->M Bool)->M (Option h0×Int)) (TI:Option gY×Int×Int->M (b3×Bool)) (TJ:(z1'->Prop)->M (z1')) (auH:z4'->M (z1'->Prop)) (auI:Option h0×Option Int×Option Int->M Bool) (adm:bg×Int×(Int->M Int)->M (z22')) (auJ:Int×Option bg->M Int) (auK:Int->M Int) (auL:List bI->M (List bI)) (auM:bg->M Bool) (TK:List bI->M (List bI×Bool)) (auN:bg->M Bool) (adn:bI×Int×Int×Int×Int×Int×Int->M Bool) (auO:uJ×Int->M Int) (auP:z18'->M Bool) (aNS:bg×Bool->M (List (z1')×Int)) (qx:z15'->M Bool) (aNT:(z12')×z27'->M (z12')) (aNU:bg×Int->M (z18')) (aNV aNW:bg×z1'×Int->M Int) (ado:bg×Int×Int->M Int) (auQ:Option h0×Option Int->M Bool) (aNX:bg×z1'×Int×Int->M (z12')) (aNY:bg×Int×Int->M Int) (Br:bg->M Int) (auR:List bI×Unit->M (Bool×List bI×Unit)) (auS:(z19'->M Bool)×List bI×Unit->M ((z21')×List bI×Unit)) (adp:z1'×j5->M (j5)) (auT:bI×Option bg->M Bool) (TL:z14'->M (z14')) (auU:(z1'->Prop)×Unit->M (z14')) (TM:Option h0×(Option gY->M (z27'))->M ((z12')×Bool)) (auV:Option h0×Option Int->M Bool) (auW:Option gY×Option Int×Option bg->M (z27')) (auX:Option h0×Option Int->M Bool) (auY:Option gY×Option (Option h0)×Option Int×Option bg->M (z27')) (aNZ:Option h0×Option Int×Option bg->M Bool) (aN0:Option gY×Option Int->M (z27')) (auZ:Option h0×Option Int->M Bool) (au0:Option gY×Option (Option h0)×Option Int×Option (Int->M Int)->M (z27')) (Mi:z18'->M Bool) (adq:uJ×Int->M Int) (adr:Option h0×Option gY->M (List b3->Prop)) (th:z15'->M Bool) (TN:Int->M Bool) (ads:List bI×(z19'->M Bool)->M Bool) (au1:Int×z19'->M Bool) (Mm:z1'×(Int->M Bool)->M Bool) (au2:bI×Option bg->M Bool) (au3:Int->M Bool) (adt:List (Int×bI)->M (z1'->Prop)) (au4:Int×z19'->M Bool) (au5:bg×Int×Int×Int×Int×Int×Int->M Bool) (HS:bg->M Int) (r6:z15'->M Bool) (aN1:bg×Int->M Bool) (au6:bg->M (List bI)) (aN2:bg×z1'×Int->M Int) (Bp:z18'->M Bool) (acp:z18'->M Int) (au7:bI×Option Int->M Bool) (adu:List bI×(z19'->M Bool)->M Int) (au8:bg×Int×Int×Int×Int×Int×Int->M Bool) (Mw:Int->M Bool) (atJ:z1'×(Int->M Bool)->M Int) (aN3:bg×z1'->M (List (z1'))) (aN4:bg×z1'->M Bool) (aN5:bg×z1'×Int->M (List b3×Bool)) (adv:Int->M Bool) (au9:z12'->M Int) (au_:(z1'->Prop)×Unit->M (z14')) (aN6:z12'->M Bool) (au':z1'->M (z1')) (ava:(b3×bI×Int->M Int)×List b3×Unit->M (List b3×Unit)) (avb:b3×bI×Int->M Int) (aN7:z33'->M (z14')) (avc:Int×Int×(b3×bI×Int->M Int)×List b3×Unit->M (List b3×Unit)) (avd:z1'×j5->M (Option gY×Bool×j5)) (aN8:Int×z33'->M (z14')) (ave:Int->M Int) (avf:Int×Int×Int×(b3×bI×Int->M Int)×List b3×Unit->M (List b3×Unit))
def adw(x:bg×Int×Int):M (z18'):=
 aq (HR (x.1,λjo=>auI (jo,some x.2.1,some x.2.2))) λy=>letI c:=(y.1.getD (([],[],[],[],0,0,0,0,0,0,0),[],[])).2.2;bm (y.2≠0) (mpure ([],y.2)) (cB (ae y.1.isSome (dA (λA=>letI d:=A.2.2;bm (d.1<A.2.1) (cB (bU d.1 A.1 (aq (TI (bw A.1 d.1 none,d.2.1,d.2.2.1)) (λy=>bD y.2 (be (A.1,A.2.1,d.1,d.2.1,d.2.2.1,gX A.cv y.1.1.2.2.2.2.2 (bf ((hg (λp=>b7 y.1.1.2.2.2.2.2 p.1) A.cv).getD 0)),())) (be (A.1,A.2.1,d.1,d.2.1,d.2.2.1,gX A.cv (-1) (bf ((hg (λp=>b7 (-1) p.1) A.cv).getD 0)),()))))) (λA=>be (A.1,A.2.1,bf A.2.2.1,A.2.2.2.1,A.2.2.2.2.1,A.cv,()))) (bY (A.cv,()))) (c,aR c,0,x.2.1,x.2.2,[],()))) (λA=>aq (auH A.1) λy=>aq (TJ y) λy=>mpure (y,0)))
def adx(x:bg×Int):M (z22'):=
 aq (adm (x.1,x.2,λjo=>auJ (jo,some x.1))) λy=>mpure y
def ady(x:bg×Int):M (z22'):=
 aq (adm (x.1,x.2,auK)) λy=>mpure y
def adz(x:bg×Int):M (z22'):=
 aq (HR (x.1,λjo=>auV (jo,some x.2))) λy=>bm (y.2≠0) (mpure ((0,0),y.2)) (aq (TM (y.1,λjo=>auW (jo,some x.2,some x.1))) (λy=>mpure (y.1,0)))
def adA(x:bg×Int):M (z22'):=
 aq (HR (x.1,λjo=>auX (jo,some x.2))) λy=>bm (y.2≠0) (mpure ((0,0),y.2)) (aq (TM (y.1,λjo=>auY (jo,some y.1,some x.2,some x.1))) (λy=>mpure (y.1,0)))
def adB(x:bg):M Int:=
 aq (auM x) λy=>bD (!y) (mpure 90) (aq (TK x.2.1) (λy=>bD (!y.2) (mpure 91) (mpure 0)))
def adC(x:bg):M Int:=
 aq (auN x) λy=>bD (!y) (mpure 90) (bQ (λA=>iA A.1 A.2.1.2.1 (bQ (λA=>letI e:=A.2.2.1.2.1;letI d:=adn (bw e A.2.1 (0,0,0,0,0,0),bw e A.1 (0,0,0,0,0,0));bm (A.2.1<A.1) (bU A.2.1 e (bU A.1 e (dE d (bD (m_ d) (iM (iM (cS 91))) (be (A.1,bf A.2.1,A.2.2.1,())))))) (bY (A.1,A.2.2.1,()))) (A.1,0,A.2.1,()) (λA=>be (bf A.1,A.2.1,()))) (bY ())) (0,x,()) (λA=>mpure 0))
def adD(x:bg×Int):M (z1'×z18'):=
 aq (HR (x.1,λjo=>auQ (jo,some x.2))) λy=>bm (y.2≠0) (mpure ([],[],y.2)) (bQ (λA=>letI h:=(A.1.getD (([],[],[],[],0,0,0,0,0,0,0),[],[])).2.2;bm (A.2.1<10) (cB (cB (ae A.1.isSome (dA (λA=>letI j:=A.2.2.2;bm (A.fE<A.cv) (cB (bU A.fE j.2.1 (aq (TI (bw j.2.1 A.fE none,A.2.1,A.kT)) (λy=>letI k:=ado (A.h1,y.1.2,A.kT);letI g:=y.2=true;letI i:=g->g/\True/\True;ae i (ae (g->(g/\g/\g/\True)/\k.e3/\True) (ae i (ae i (ae (g->(g/\g)/\True/\True) (ae (True/\(g->g)) (if y.2&&decide (vJ k>=A.h1.kT) then be (A.1,A.2.1,bf A.2.2.1,j.1,j.2.1,A.cv,A.fE,A.h1,A.kT,A.na,A.mD,()) else be (A.1,A.2.1,A.2.2.1,j.1,j.2.1,A.cv,A.fE,A.h1,A.kT,A.na,A.mD,())))))))))) (λA=>be (A.1,A.2.1,A.2.2.1,A.2.2.2.1,A.2.2.2.2.1,A.cv,bf A.fE,A.h1,A.kT,A.na,A.mD,()))) (bY (A.1,A.2.1,A.2.2.1,j.1,A.h1,A.kT,A.na,A.mD,()))) (A.1,A.2.1,0,A.2.1,h,aR h,0,A.2.2.1,A.2.2.2.1,A.2.2.2.2.1,A.cv,()))) (λA=>letI l:=A.2.2;cB (bm (l.1 > 0) (eB A.h1 (be (A.1,A.2.1,l.1,l.2.1,l.2.2.1,A.cv,A.fE,A.h1++[A.2.1],()))) (be (A.1,A.2.1,l.1,l.2.1,l.2.2.1,A.cv,A.fE,A.h1,()))) λA=>letI m:=A.2.2.2;ae A.1.isSome (bm (A.2.2.1=aR (A.1.getD (([],[],[],[],0,0,0,0,0,0,0),[],[])).2.2) (eB A.fE (be (A.1,m.1,m.2.1,A.cv,A.fE++[A.2.1],A.h1,()))) (be (A.1,m.1,m.2.1,A.cv,A.fE,A.h1,()))))) (λA=>be (A.1,bf A.2.1,A.2.2.1,A.2.2.2.1,A.2.2.2.2.1,A.cv,()))) (bY (A.2.2.2.2.1,A.cv,()))) (y.1,0,x.1,x.2,[],[],()) (λA=>mpure (A.1,A.2.1,0)))
def adE(x:bg×(Option h0->M Bool)):M (Option h0×Int):=
 aq (Br x.1) λy=>bm (y≠0) (mpure (none,y)) (aq (auR (x.1.2.1,())) (λy=>ae True (ae True (aq (auS (λjo=>auT (jo,some x.1),y.2.1,())) (λy=>ae True (cB (aq (x.2 (some (x.1,List.drop y.1.1 (y.2.1.take y.1.2),[]))) (λcn=>if !cn then pD (none,1) else be (x.1.1,x.1.2.1,x.1.2.2.1,x.1.2.2.2.1,x.1.2.2.2.2.1,x.1.cv,x.1.fE,x.1.h1,x.1.kT,x.1.na,x.1.2.2.2.2.2.2.2.2.2.2,y.1,y.2.1,[],()))) (λA=>aq (adp ([],A.1,A.2.1,A.2.2.1,A.2.2.2.1,A.2.2.2.2.1,A.cv,A.fE,A.h1,A.kT,A.na,A.mD,List.drop A.i_.1 (A.pI.take A.i_.2),A.qw,())) λy=>ae True (bm (aR y.pI=0) (mpure (none,3)) (mpure (some ((y.1,y.2.1,y.2.2.1,y.2.2.2.1,y.2.2.2.2.1,y.cv,y.fE,y.h1,y.kT,y.na,y.mD),y.i_,y.pI),0))))))))))
def adF(x:Option h0×Option Int×Option Int):M Bool:=
 aq (th (x.2.1.getD 0,0,9)) λy=>cf y (TN (x.2.2.getD 0)) false λcn=>mpure (y&&cn)
def avg(x:z15'):M Bool:=
 mpure (hS x.2.1 x.1&&hS x.1 x.2.2)
def adG(x:Int):M Bool:=
 aq (th (x,0,9999)) λy=>mpure y
def adH(x:Option gY×Int×Int):M (b3×Bool):=
 letI f:=bw (x.1.getD ([],[[],[],[],[],[],[],[],[],[],[]])).2 x.2.1 [];cB (ae x.1.isSome (ae (0<=x.2.1/\x.2.1<Int.ofNat 10) (dA (λ(A:Int×Bool×List b3×Int×Int×b3×b3×Unit)=>letI g:=A.2.2;letI h:=g.2.2.1;letI e:=bw g.1 h ((0,0,0,0,0,0),0);bm (h<g.2.1) (cB (bU h g.1 (bm (e.2<=A.1) (be (A.1,b7 e.1.2.2.2.1 1,g.1,g.2.1,h,A.cv,e,())) (be (A.1,A.2.1,g.1,g.2.1,h,A.cv,A.fE,())))) (λA=>be (A.1,A.2.1,A.2.2.1,A.2.2.2.1,bf A.2.2.2.2.1,A.cv,A.fE,()))) (bY (A.2.1,A.cv,A.fE,()))) (x.2.2,false,f,aR f,0,((0,0,0,0,0,0),0),((0,0,0,0,0,0),0),())))) λA=>mpure (A.2.2.1,A.1)
def adI(x:z1'->Prop):M (z1'):=
 aq (auU (x,())) λy=>aq (TL (y.1,())) λy=>mpure y.1
def avh(avi:Option (z4')->z1'->Prop)(x:z4'):M (z1'->Prop):=
 mpure (avi (some x))
def adJ(x:bg×Int×(Int->M Int)):M (z22'):=
 aq (HR (x.1,λjo=>auZ (jo,some x.2.1))) λy=>bm (y.2≠0) (mpure ((0,0),y.2)) (aq (TM (y.1,λjo=>au0 (jo,some y.1,some x.2.1,some x.2.2))) (λy=>if !y.2 then mpure ((0,0),3) else mpure (y.1,0)))
def adK(x:Int×Option bg):M Int:=
 aq (adq ((x.2.getD ([],[],[],[],0,0,0,0,0,0,0)).2.2.2.2,x.1)) λy=>mpure y
def adL(x:uJ×Int):M Int:=
 letI e:=x.1.2;letI d:=IntKind.wrap .i64 (e.2.1*IntKind.wrap .i64 (Int.tdiv (cE (eZ (vn (cE x.2 x.1.1) 0) e.1) 1) e.1));bm (x.2>=e.2.2.2.1) (mpure x.1.cv) (ae (e.1≠0) (mpure (if d<e.2.2.1 then d else e.2.2.1)))
def avj(x:Int):M Int:=
 mpure x
def adM(x:Option h0×Option Int):M Bool:=
 aq (TN (x.2.getD 0)) λy=>mpure y
def adN(x:Option h0×(Option gY->M (z27'))):M ((z12')×Bool):=
 letI e:=(x.1.getD (([],[],[],[],0,0,0,0,0,0,0),[],[])).2.2;cB (ae x.1.isSome (dA (λA=>letI d:=A.2.2;letI f:=d.2.2.1;bm (f<d.2.1) (cB (bU f d.1 (aq (A.1 (bw d.1 f none)) (λy=>bD (!y.2) (be (A.1,A.2.1,d.1,d.2.1,f,A.cv,())) (bD (!A.2.1) (be (A.1,true,d.1,d.2.1,f,(y.1,y.1),())) (be (A.1,A.2.1,d.1,d.2.1,f,(if y.1<A.cv.1 then y.1 else A.cv.1,vn y.1 A.cv.2),())))))) (λA=>be (A.1,A.2.1,A.2.2.1,A.2.2.2.1,bf A.2.2.2.2.1,A.cv,()))) (bY (A.2.1,A.cv,()))) (x.2,false,e,aR e,0,(0,0),()))) λA=>mpure (A.2.1,A.1)
def adO(x:Option gY×Option Int×Option bg):M (z27'):=
 bQ (λA=>letI b:=A.2.2.2;bm (b.2.1<10) (cB (aq (TI (A.1,b.2.1,A.2.1)) (λy=>bD y.2 (be (A.1,A.2.1,A.2.2.1,eZ b.1 A.2.2.1.2.2.2.2.2.2.2.2.2.2,b.2.1,())) (be (A.1,A.2.1,A.2.2.1,b.1,b.2.1,())))) (λA=>be (A.1,A.2.1,A.2.2.1,A.2.2.2.1,eZ A.2.2.2.2.1 1,()))) (bY (b.1,()))) (x.1,x.2.1.getD 0,x.2.2.getD ([],[],[],[],0,0,0,0,0,0,0),0,0,()) λA=>mpure (A.1,true)
def adP(x:Option h0×Option Int):M Bool:=
 aq (Mw (x.2.getD 0)) λy=>mpure y
def adQ(x:Int):M Bool:=
 aq (th (x,0,99)) λy=>mpure y
def adR(x:Option gY×Option (Option h0)×Option Int×Option bg):M (z27'):=
 aq (adr (x.2.1.getD none,x.1)) λy=>aq (mN y) λab=>aq (kl (λA (y:bI×Int)=>letI b:=adq (A.2.1.2.2.2.2,y.2);aq (bm (y.1.2.2.2.2.2=A.1) (dE b (mpure (dS.normal,eZ A.2.2.1 (vJ b),()))) (mpure (dS.normal,A.2.2.1,()))) λp=>mpure (p.1,A.1,A.2.1,p.2.1,())) ab (x.2.2.1.getD 0,x.2.2.2.getD ([],[],[],[],0,0,0,0,0,0,0),0,())) λp=>yD (mpure (p.2.2.2.1,true)) (λid=>if id=0 then mpure (p.2.2.2.1,true) else d') d' p.1
def avk(avl:Option (Option gY)×Option (Option h0)->List b3->Prop)(x:Option h0×Option gY):M (List b3->Prop):=
 mpure (avl (some x.2,some x.1))
def adS(x:bg):M Bool:=
 letI q:=dp (aR x.1) 3||dp (aR x.2.1) 12||dp (aR x.2.2.1) 12||dp (aR x.2.2.2.1) 4;cf (!q) (au1 x.2.2.2.2) false λy=>bD (q||!y) h' (bQ (λA=>letI cT:=A.2.2;letI z:=bw A.1 cT.1 (0,0);bm (cT.1<A.2.1) (bU cT.1 A.1 (aq (th (z.1,-30,z.2)) (λy=>bD (!y||dp z.2 30) (cS false) (be (A.1,A.2.1,bf cT.1,cT.2.1,()))))) (bY (cT.2.1,()))) (x.1,aR x.1,0,x,()) (λA=>bQ (λA=>letI cr:=A.2.2.2.1;letI s:=A.2.2.1;letI w:=bw A.1 s (0,0);letI o:=th (w.1,0,w.2);letI t:=(!(pE o))=true;letI n:=pE o||dp w.2 9999;letI v:=(!n)=true;letI p:=(!n&&dp s 0)=true;letI u:=p->p/\True/\True;bm (s<A.2.1) (bU s A.1 (dE o (ae (t->t/\True/\True) (ae (t->(t/\True)/\True/\True) (ae (True/\(pE o=false->t)) (ae (v->(v/\True)/\True/\True) (ae (v->True/\True/\v) (ae u (ae u (ae (p->(p/\True)/\True/\True) (ae (p->(p/\p)/\(0<=cE s 1/\cE s 1<aR cr.2.2.2.1)/\True) (ae u (ae u (ae (p->(p/\p)/\True/\True) (ae (v->(v/\(dp s 0=true->p))/\True/\True) (ae (True/\(n=false->v)) (bD (n||dp s 0&&hS w.1 (bw cr.2.2.2.1 (cE s 1) (0,0)).2) (cS false) (be (A.1,A.2.1,bf s,cr,()))))))))))))))))))) (bY (cr,()))) (A.1.2.2.2.1,aR A.1.2.2.2.1,0,A.1,()) λA=>aq (ads (A.1.2.1,λx=>au2 (x,some A.1))) λy=>cf (!y) (Mm (A.1.2.2.1,au3)) false λcn=>mpure (!y&&!cn)))
def avm(x:List bI):M (List bI×Bool):=
 bQ (λ(A:List bI×Int×Int×List (Int×bI)×Unit)=>letI i:=A.2.2.1;letI g:=A.2.2.2.1;letI f:=bw A.1 i (0,0,0,0,0,0);bm (i<A.2.1) (bU i A.1 (if (hg (λp=>b7 f.1 p.1) g).isSome&&!(b7 ((hg (λp=>b7 f.1 p.1) g).getD (0,0,0,0,0,0)).1 f.1&&(b7 ((hg (λp=>b7 f.1 p.1) g).getD (0,0,0,0,0,0)).2.1 f.2.1&&(b7 ((hg (λp=>b7 f.1 p.1) g).getD (0,0,0,0,0,0)).2.2.1 f.2.2.1&&(b7 ((hg (λp=>b7 f.1 p.1) g).getD (0,0,0,0,0,0)).2.2.2.1 f.2.2.2.1&&(b7 ((hg (λp=>b7 f.1 p.1) g).getD (0,0,0,0,0,0)).2.2.2.2.1 f.2.2.2.2.1&&b7 ((hg (λp=>b7 f.1 p.1) g).getD (0,0,0,0,0,0)).2.2.2.2.2 f.2.2.2.2.2))))) then cS ([],false) else be (A.1,A.2.1,bf i,nK g f.1 f,()))) (bY (g,()))) (x,aR x,0,[],()) λA=>cB (aq (adt A.1) (λy=>aq (TJ y) λy=>dA (λA=>letI h:=A.2.2;bm (h.1<A.2.1) (bU h.1 A.1 (eB h.2.1 (be (A.1,A.2.1,bf h.1,h.2.1++[(hg (λp=>b7 (bw A.1 h.1 0) p.1) h.2.2.1).getD (0,0,0,0,0,0)],h.2.2.1,())))) (bY (h.2.1,()))) (y,aR y,0,[],A.1,()))) λA=>mpure (A.1,true)
def adT(x:bg):M Bool:=
 letI cr:=dp (aR x.1) 3||dp (aR x.2.1) 12||dp (aR x.2.2.1) 12||dp (aR x.2.2.2.1) 4;cf (!cr) (au4 x.2.2.2.2) false λy=>bD (cr||!y) h' (bQ (λA=>letI i1:=A.2.1;letI w:=bw i1.1 A.1 (0,0);letI E:=qx (w.1,-30,w.2);letI s:=pE E;letI v:=(!s)=true;letI f1:=v->v/\True/\True;fw A.1 i1.1 (bU A.1 i1.1 (dE E (ae f1 (ae (v->(v/\v)/\(0<=A.1/\A.1<aR i1.1)/\True) (ae f1 (ae f1 (ae (v->(v/\True)/\True/\True) (ae (True/\(s=false->v)) (bD (s||dp w.2 30) (cS false) (be (bf A.1,i1,()))))))))))) (bY (i1,()))) (0,x,()) (λA=>bQ (λA=>letI bG:=au5 (A.2.1,bw A.2.1.2.1 A.1 (0,0,0,0,0,0));fw A.1 A.2.1.2.1 (dE bG (bD (pE bG) (cS false) (be (bf A.1,A.2.1,())))) (bY (A.2.1,()))) (0,A.1,()) λA=>bQ (λA=>fw A.1 A.2.1.2.2.1 (aq (qx (bw A.2.1.2.2.1 A.1 0,0,99)) (λy=>bD (!y) (cS false) (be (bf A.1,A.2.1,())))) (bY (A.2.1,()))) (0,A.1,()) λA=>bQ (λA=>letI aM:=cE A.1 1;letI mC:=dp A.1 0;letI dt:=A.2.1.2.2.2.1;letI z:=bw dt A.1 (0,0);letI t:=qx (z.1,0,z.2);letI cT:=(!(pE t))=true;letI q:=pE t||dp z.2 9999;letI aE:=(!q)=true;letI u:=(!q&&mC)=true;letI d1:=u->u/\True/\True;fw A.1 dt (dE t (ae (cT->cT/\True/\True) (ae (cT->(cT/\True)/\True/\True) (ae (True/\(pE t=false->cT)) (ae (aE->(aE/\True)/\True/\True) (ae (aE->True/\True/\aE) (ae d1 (ae d1 (ae (u->(u/\True)/\True/\True) (ae (u->(u/\u)/\(0<=aM/\aM<aR dt)/\True) (ae d1 (ae d1 (ae (u->(u/\u)/\True/\True) (ae (aE->(aE/\(mC=true->u))/\True/\True) (ae (True/\(q=false->aE)) (bD (q||mC&&hS z.1 (bw dt aM (0,0)).2) (cS false) (be (bf A.1,A.2.1,())))))))))))))))))) (bY ())) (0,A.1,()) λA=>iX))
def adU(x:bI×Int×Int×Int×Int×Int×Int):M Bool:=
 mpure (b7 x.1.1 x.2.1&&!(b7 x.1.1 x.2.1&&(b7 x.1.2.1 x.2.2.1&&(b7 x.1.2.2.1 x.2.2.2.1&&(b7 x.1.2.2.2.1 x.2.2.2.2.1&&(b7 x.1.2.2.2.2.1 x.cv&&b7 x.1.2.2.2.2.2 x.2.2.2.2.2.2))))))
def adV(x:z15'):M Bool:=
 aq (r6 x) λy=>mpure y
def avn(x:Option h0×Option Int):M Bool:=
 aq (TN (x.2.getD 0)) λy=>mpure y
def adW(x:bg×Int×Int):M Int:=
 bQ (λA=>letI e:=A.2.2.2;letI d:=bw e.1 A.cv (0,0);bm (A.cv<e.2.1) (bU A.cv e.1 (be (A.1,A.2.1,cE A.2.2.1 (vn (bf (cE (if cE A.2.1 1<d.2 then cE A.2.1 1 else d.2) (vn A.1 d.1))) 0),e.1,e.2.1,bf A.cv,()))) (bY (A.2.2.1,()))) (x.2.1,x.2.2,cE x.2.2 x.2.1,x.1.2.2.2.1,aR x.1.2.2.2.1,0,()) λA=>mpure A.1
def adX(x:z4'):M (z4'):=
 aq (mN (λb=>b=true->x=[])) λy=>bD y (mpure []) (iW x (mpure ([]++x)))
def adY(x:bI×Option bg):M Bool:=
 aq (Bp ((x.2.getD ([],[],[],[],0,0,0,0,0,0,0)).2.2.1,x.1.1)) λy=>mpure y
def adZ(x:Option h0×Option Int):M Bool:=
 ae x.1.isSome (aq (ads ((x.1.getD (([],[],[],[],0,0,0,0,0,0,0),[],[])).2.1,λjo=>au7 (jo,some (x.2.getD 0)))) (λy=>mpure y))
def avo(x:List bI×(z19'->M Bool)):M Bool:=
 aq (adu x) λy=>mpure (decide (y>=0))
def avp(x:bI×Option Int):M Bool:=
 mpure (b7 x.1.1 (x.2.getD 0)&&b7 x.1.2.2.2.1 1)
def ad0(x:Option gY×Option (Option h0)×Option Int×Option (Int->M Int)):M (z27'):=
 aq (adr (x.2.1.getD none,x.1)) λy=>aq (mN y) λab=>aq (kl (λA (y:bI×Int)=>aq (bm (y.1.1=A.1) (aq (A.2.1 y.2) (λy=>mpure (dS.ret,y,true,()))) (mpure (dS.normal,A.2.2.1,A.2.2.2.1,()))) λp=>mpure (p.1,A.1,A.2.1,p.2.1,p.2.2.1,())) ab (x.2.2.1.getD 0,x.2.2.2.getD λx=>{ e3:=False,a_:=λx=>False },0,false,())) λp=>yD (mpure (0,false)) (λid=>if id=0 then mpure (0,false) else d') (mpure (p.2.2.2.1,p.2.2.2.2.1)) p.1
def ad1(x:Int×z19'):M Bool:=
 bQ (λA=>bm (A.2.1<A.1) (bU A.2.1 A.2.2.2.1 (aq (th (bw A.2.2.2.1 A.2.1 0,0,100000)) (λy=>if !y then cS false else be (A.1,bf A.2.1,A.2.2.1,A.2.2.2.1,())))) (bY (A.2.2.1,()))) (Int.ofNat (Add.add (Add.add (Add.add (Add.add 0 1) 1) 1) 1),0,x,[x.2.2.1,x.2.2.2.1,x.cv,x.2.2.2.2.2.2],()) λA=>aq (th (A.1.1,0,9999)) λy=>cf y (th (A.1.2.1,1,9999)) false λcn=>cf (y&&cn) (th (A.1.2.2.2.2.1,1,9999)) false λdZ=>mpure (y&&cn&&dZ)
def ad2(x:bI×Option bg):M Bool:=
 aq (au8 (x.2.getD ([],[],[],[],0,0,0,0,0,0,0),x.1)) λy=>mpure (!y)
def ad3(x:bg×Int×Int×Int×Int×Int×Int):M Bool:=
 letI f:=x.2.2.2.2;letI d:=b7 f.1 1||b7 f.1 2&&b7 f.2.2 0;cf d (Mw x.2.1) false λy=>cf (d&&y) (Mw f.2.2) false λcn=>cf (d&&y&&cn) (th (x.2.2.1,0,cE (aR x.1.1) 1)) false λdZ=>letI e:=d&&y&&cn&&dZ;cf e (th (x.2.2.2.1,0,9999)) false λie=>cf (e&&ie) (th (x.cv,0,9)) false λoW=>mpure (e&&ie&&oW)
def ad4(x:Int):M Bool:=
 aq (Mw x) λy=>mpure (!y)
def avq(avr:Option (List (Int×bI))->z1'->Prop)(x:List (Int×bI)):M (z1'->Prop):=
 mpure (avr (some x))
def ad5(x:Int×z19'):M Bool:=
 aq (qx (x.1,0,9999)) λy=>cf y (qx (x.2.1,1,9999)) false λcn=>cf (y&&cn) (qx (x.2.2.2.2.1,1,9999)) false λdZ=>cf (y&&cn&&dZ) (qx (x.2.2.1,0,100000)) false λie=>letI b:=y&&cn&&dZ&&ie;cf b (qx (x.2.2.2.1,0,100000)) false λoW=>cf (b&&oW) (qx (x.cv,0,100000)) false λHM=>cf (b&&oW&&HM) (qx (x.2.2.2.2.2.2,0,100000)) false λTC=>mpure (b&&oW&&HM&&TC)
def ad6(x:bg×Int×Int×Int×Int×Int×Int):M Bool:=
 letI d:=x.2.2.2.2;aq (qx (x.2.1,0,99)) λy=>cf (!(!y)) (qx (x.2.2.1,0,cE (aR x.1.1) 1)) false λcn=>cf (!(!y||!cn)) (qx (x.2.2.2.1,0,9999)) false λdZ=>letI c:=!y||!cn||!dZ;cf (!c) (qx (x.cv,0,9)) false λie=>cf (!(c||!ie)) (qx (d.2.2,0,99)) false λoW=>bD (c||!ie||!oW) h' (mpure (b7 d.1 1||b7 d.1 2&&b7 d.2.2 0))
def ad7(aN9:Int->M Int)(avs:Int->M Int)(x:Int):M Int:=
 aq (avs x) λy=>mpure y
def avt(x:List bI×(z19'->M Bool)):M Int:=
 bQ (λA=>letI b:=A.2.2.2.1;bm (b<A.2.2.1) (bU b A.1 (aq (A.2.1 (bw A.1 b (0,0,0,0,0,0))) (λy=>bD y (cS b) (be (A.1,A.2.1,A.2.2.1,bf b,()))))) (bY ())) (x.1,x.2,aR x.1,0,()) λA=>mpure (-1)
def HT(x:Int):M Int:=
 cB (bm (x>=4294967296) (ae ((0:Int)<=32) (be (lg .u64 x 32,32,()))) (be (x,0,()))) λA=>cB (bm (A.1>=65536) (ae ((0:Int)<=16) (be (lg .u64 A.1 16,eZ A.2.1 16,()))) (be (A.1,A.2.1,()))) λA=>cB (bm (A.1>=256) (ae ((0:Int)<=8) (be (lg .u64 A.1 8,eZ A.2.1 8,()))) (be (A.1,A.2.1,()))) λA=>letI b:=IntKind.wrap .u8 A.1;ae (0<=b/\b<Int.ofNat 256) (mpure (eZ A.2.1 (IntKind.wrap .i64 (Int.ofNat (auC.getD b.toNat 0).1.1.1))))
def ad8(x:z1'):M (z1'):=
 aq (mN (λb=>b=true->x=[])) λy=>bD y (mpure []) (iW x (mpure ([]++x)))
def ad9(x:b3×bI×Int):M Int:=
 aq (au9 (x.1.2,x.2.2)) λy=>mpure y
def ad_(x:z12'):M Int:=
 aq (adv x.1) λy=>aq (adv x.2) λcn=>bD y (bD cn (mpure 0) (mpure (-1))) (bD cn (mpure 1) (bm (x.1<x.2) (mpure (-1)) (bm (x.1 > x.2) (mpure 1) (mpure 0))))
def ad'(x:Int):M Bool:=
 mpure (e6 x x)
def aea(x:(z1'->Prop)×Unit):M (z14'):=
 aq (mN x.1) λab=>aq (kl (λA (y:Int)=>aq (eB A.1 (mpure (dS.normal,A.1++[y],()))) λp=>mpure (p.1,p.2.1,())) ab ([],())) λp=>yD (mpure (p.2.1,())) (λid=>if id=0 then mpure (p.2.1,()) else d') d' p.1
def aeb(x:(z1'->Prop)×Unit):M (z14'):=
 aq (au_ (x.1,())) λy=>mpure (y.1,())
def aec(x:(z19'->M Bool)×List bI×Unit):M ((z21')×List bI×Unit):=
 aq (adu (x.2.1,x.1)) λy=>bm (y=-1) (mpure ((0,x.2.1.length),x.2.1,())) (bQ (λA=>letI l:=A.2.2.1;letI i:=A.2.2.2.1;letI m:=bw i l (0,0,0,0,0,0);iA l i (cB (bU l i (aq (A.1 m) (λy=>if !y then bU A.2.1 i (be (A.1,bf A.2.1,l,List.set i A.2.1.toNat m,())) else be (A.1,A.2.1,l,i,())))) (λA=>be (A.1,A.2.1,bf A.2.2.1,A.2.2.2.1,()))) (bY (A.2.1,i,()))) (x.1,y,bf y,x.2.1,()) (λA=>letI k:=A.1.toNat;letI j:=aR A.2.1;letI h:=A.2.1.take k++List.replicate (j.toNat-k) (0,0,0,0,0,0)++A.2.1.drop (Add.add k (List.replicate (j.toNat-k) ((0,0,0,0,0,0):bI)).length);ae (0<=A.1/\A.1<=j/\j<=j) (ae True (ae ((0:Int)<=0/\0<=A.1/\A.1<=aR h) (mpure ((Int.toNat 0,k),h,()))))))
def Mx(x:Nat×Option gY×Option h0×(Nat×(List b3->Prop)×List b3×Bool)×Unit):M ((Nat×(List b3->Prop)×List b3×Bool)×Unit):=
 ae x.2.1.isSome (dA (λA=>letI n:=A.2.2.2;bm (n.1<10) (cB (ae (0<=n.1/\n.1<Int.ofNat 10) (dA (λ(A:Nat×Option h0×List b3×Int×List (List b3)×Int×(Nat×(List b3->Prop)×List b3×Bool)×Unit)=>letI o:=A.fE;letI l:=A.2.2;letI p:=l.2.1;letI k:=bw l.1 p ((0,0,0,0,0,0),0);letI j:=ado ((A.2.1.getD (([],[],[],[],0,0,0,0,0,0,0),[],[])).1,k.2,(bw l.1 (bf p) ((0,0,0,0,0,0),0)).2);iA (bf p) l.1 (bU p l.1 (ae A.2.1.isSome (bU p l.1 (bU (bf p) l.1 (dE j (aq (ae (A.1=o.1/\o.2.2.2=false/\(∃ (T:List b3),o.2.1 (o.2.2.1++(k.1,vJ j)::T))) (mN (λx=>True))) (λy=>letI m:=(o.1,o.2.1,o.2.2.1++[(k.1,vJ j)],!y);if !y then iM (cS (m,())) else be (A.1,A.2.1,l.1,eZ p 2,l.2.2.1,A.cv,m,())))))))) (bY (A.1,A.2.1,l.2.2.1,A.cv,o,()))) (A.1,A.2.1,bw A.2.2.1 n.1 [],0,A.2.2.1,n.1,n.2.1,()))) (λA=>be (A.1,A.2.1,A.2.2.1,bf A.2.2.2.1,A.2.2.2.2.1,()))) (pD (n.2.1,()))) (x.1,x.2.2.1,(x.2.1.getD ([],[[],[],[],[],[],[],[],[],[],[]])).2,0,x.2.2.2.1,()))
def aed(x:Int×Int×(b3×bI×Int->M Int)×List b3×Unit):M (List b3×Unit):=
 dA (λA=>letI t:=A.2.2.2;bm (t.1<A.2.1) (bQ (λ(A:Int×Int×(b3×bI×Int->M Int)×Int×Int×List b3×Unit)=>letI u:=A.2.2;letI q:=A.cv;letI n:=u.2.2.1;letI v:=dp n A.1;letI s:=bw q n ((0,0,0,0,0,0),0);letI p:=cE n 1;letI o:=bw q p ((0,0,0,0,0,0),0);letI w:=List.set q n.toNat o;letI m:=v=true;letI z:=m->m/\True/\True;ae (m->(m/\m)/\(0<=n/\n<aR q)/\True) (ae z (ae (m->(m/\True)/\True/\True) (ae (m->(m/\m)/\(0<=p/\p<aR q)/\True) (ae z (ae (m->m/\m/\m/\True) (cf v (u.1 (s,o)) 0 (λy=>if v&&fT y 0 then bU p q (bU n q (bU n q (bU p w (be (A.1,A.2.1,u.1,u.2.1,p,List.set w p.toNat s,()))))) else bY (A.1,A.2.1,u.1,u.2.1,q,()))))))))) (A.1,A.2.1,A.2.2.1,t.1,t.1,t.2.1,()) (λA=>be (A.1,A.2.1,A.2.2.1,bf A.2.2.2.1,A.2.2.2.2.1,()))) (pD (t.2.1,()))) (x.1,x.2.1,x.2.2.1,bf x.1,x.2.2.2.1,())
def TO(x:Nat×z4'×(Nat×(z1'->Prop)×z1'×Bool)×Unit):M ((Nat×(z1'->Prop)×z1'×Bool)×Unit):=
 aq (mpure ()) λy=>dA (λA=>letI f:=A.2.1;letI e:=A.2.2.1;aq (K_ e.2) λy=>bD y.isSome (aq (ae (qj e.1 e.2 y).isSome (mpure ())) (λcn=>aq (ae (A.1=f.1/\f.2.2.2=false/\(∃ (T:z1'),f.2.1 (f.2.2.1++(Option.map (λx=>x.1) (qj e.1 e.2 y)).getD 0::T))) (mN (λx=>True))) λdZ=>letI d:=(f.1,f.2.1,f.2.2.1++[(Option.map (λx=>x.1) (qj e.1 e.2 y)).getD 0],!dZ);bD (!dZ) (pD (d,())) (be (A.1,d,(qj e.1 e.2 y,GF e.2 y),())))) (pD (f,()))) (x.1,x.2.2.1,(none,x.2.1),())
def TP(x:Nat×List (Int×bI)×(Nat×(z1'->Prop)×z1'×Bool)×Unit):M ((Nat×(z1'->Prop)×z1'×Bool)×Unit):=
 aq (mpure ()) λy=>dA (λA=>letI f:=A.2.1;letI e:=A.2.2.1;aq (K_ e.2) λy=>bD y.isSome (aq (ae (qj e.1 e.2 y).isSome (mpure ())) (λcn=>aq (ae (A.1=f.1/\f.2.2.2=false/\(∃ (T:z1'),f.2.1 (f.2.2.1++(Option.map (λx=>x.1) (qj e.1 e.2 y)).getD 0::T))) (mN (λx=>True))) λdZ=>letI d:=(f.1,f.2.1,f.2.2.1++[(Option.map (λx=>x.1) (qj e.1 e.2 y)).getD 0],!dZ);bD (!dZ) (pD (d,())) (be (A.1,d,(qj e.1 e.2 y,GF e.2 y),())))) (pD (f,()))) (x.1,x.2.2.1,(none,x.2.1),())
def avu(x:List bI×Unit):M (Bool×List bI×Unit):=
 bQ (λ(A:List bI×Int×Int×List (Int×bI)×Unit)=>letI i:=A.2.2.1;letI g:=A.2.2.2.1;letI f:=bw A.1 i (0,0,0,0,0,0);bm (i<A.2.1) (bU i A.1 (if (hg (λp=>b7 f.1 p.1) g).isSome&&!(b7 ((hg (λp=>b7 f.1 p.1) g).getD (0,0,0,0,0,0)).1 f.1&&(b7 ((hg (λp=>b7 f.1 p.1) g).getD (0,0,0,0,0,0)).2.1 f.2.1&&(b7 ((hg (λp=>b7 f.1 p.1) g).getD (0,0,0,0,0,0)).2.2.1 f.2.2.1&&(b7 ((hg (λp=>b7 f.1 p.1) g).getD (0,0,0,0,0,0)).2.2.2.1 f.2.2.2.1&&(b7 ((hg (λp=>b7 f.1 p.1) g).getD (0,0,0,0,0,0)).2.2.2.2.1 f.2.2.2.2.1&&b7 ((hg (λp=>b7 f.1 p.1) g).getD (0,0,0,0,0,0)).2.2.2.2.2 f.2.2.2.2.2))))) then cS (false,[],()) else be (A.1,A.2.1,bf i,nK g f.1 f,()))) (bY (g,()))) (x.1,aR x.1,0,[],()) λA=>cB (aq (adt A.1) (λy=>aq (TJ y) λy=>dA (λA=>letI h:=A.2.2;bm (h.1<A.2.1) (bU h.1 A.1 (eB h.2.1 (be (A.1,A.2.1,bf h.1,h.2.1++[(hg (λp=>b7 (bw A.1 h.1 0) p.1) h.2.2.1).getD (0,0,0,0,0,0)],h.2.2.1,())))) (bY (h.2.1,()))) (y,aR y,0,[],A.1,()))) λA=>mpure (true,A.1,())
abbrev qy:Type:=List b3×List b3×List b3×List b3×List b3×List b3×List b3×List b3×List b3×List b3×j5
def oX:Nat->qy->List b3
 | 0,r=>r.1
 | 1,r=>r.2.1
 | 2,r=>r.2.2.1
 | 3,r=>r.2.2.2.1
 | 4,r=>r.2.2.2.2.1
 | 5,r=>r.2.2.2.2.2.1
 | 6,r=>r.2.2.2.2.2.2.1
 | 7,r=>r.2.2.2.2.2.2.2.1
 | 8,r=>r.2.2.2.2.2.2.2.2.1
 | 9,r=>r.2.2.2.2.2.2.2.2.2.1
 | _,_=>[]
def My:Nat->List b3->qy->qy
 | 0,v,r=>(v,r.2)
 | 1,v,r=>(r.1,v,r.2.2)
 | 2,v,r=>(r.1,r.2.1,v,r.2.2.2)
 | 3,v,r=>(r.1,r.2.1,r.2.2.1,v,r.2.2.2.2)
 | 4,v,r=>(r.1,r.2.1,r.2.2.1,r.2.2.2.1,v,r.2.2.2.2.2)
 | 5,v,r=>(r.1,r.2.1,r.2.2.1,r.2.2.2.1,r.2.2.2.2.1,v,r.2.2.2.2.2.2)
 | 6,v,r=>(r.1,r.2.1,r.2.2.1,r.2.2.2.1,r.2.2.2.2.1,r.2.2.2.2.2.1,v,r.2.2.2.2.2.2.2)
 | 7,v,r=>(r.1,r.2.1,r.2.2.1,r.2.2.2.1,r.2.2.2.2.1,r.2.2.2.2.2.1,r.2.2.2.2.2.2.1,v,r.2.2.2.2.2.2.2.2)
 | 8,v,r=>(r.1,r.2.1,r.2.2.1,r.2.2.2.1,r.2.2.2.2.1,r.2.2.2.2.2.1,r.2.2.2.2.2.2.1,r.2.2.2.2.2.2.2.1,v,r.2.2.2.2.2.2.2.2.2)
 | 9,v,r=>(r.1,r.2.1,r.2.2.1,r.2.2.2.1,r.2.2.2.2.1,r.2.2.2.2.2.1,r.2.2.2.2.2.2.1,r.2.2.2.2.2.2.2.1,r.2.2.2.2.2.2.2.2.1,v,r.2.2.2.2.2.2.2.2.2.2)
 | _,_,r=>r
abbrev aee(r:qy):j5:=r.2.2.2.2.2.2.2.2.2.2
def TQ{X:Type}(l:List b3)(x:b3)(i k:Int)(aI B:M X):M X:=
 letI z:=decide (i > 0);letI y:=IntKind.wrap .i64 (i-1);letI n:=decide (x.1.2.2.2.1≠k);letI m:=(!n)=true;letI b:=(!n&&z)=true;letI c:=b->b/\True/\True;ae (m->(m/\True)/\True/\True) (ae (m->True/\True/\m) (ae c (ae (b->(b/\True)/\True/\True) (ae (b->(b/\b)/\(0<=y/\y<Int.ofNat (List.length l))/\True) (ae c (ae c (ae (b->(b/\b)/\True/\True) (ae (m->(m/\(z=true->b))/\True/\True) (ae (True/\(n=false->m)) (if (n||z&&decide (x.2=(List.getD l (Int.toNat y) ((0,0,0,0,0,0),0)).2))=true then aI else B))))))))))
def Mz(k:Nat)(A:Int×Int×Int×z1'×qy):M (aJ (Int×Int×Int×z1'×qy) (aJ (Int×z1'×qy) (aJ (z1'×qy) (Option gY×Bool×j5)))):=
 letI i:=A.2.2.1;letI l:=oX k A.2.2.2.2;letI x:=List.getD l (Int.toNat i) ((0,0,0,0,0,0),0);if decide (i<A.2.1)=true then ae (0<=i/\i<Int.ofNat (List.length l)) (aq (ae ((2:Int)≠0) (if decide (Int.tmod i (2:Int)=1)=true then mpure (aJ.aw (i,2,A.1,A.2.1,i,x,A.2.2.2)) else mpure (aJ.aw (i,1,A.1,A.2.1,i,x,A.2.2.2)))) (aJ.fC (λ(bl:Int×Int×Int×Int×Int×b3×z1'×qy)=>letI r:=bl.2.2.2.2.2.2.2;TQ (oX k r) bl.2.2.2.2.2.1 bl.1 bl.2.1 (aq (aq (aq (mpure (none,false,aee r)) (λr=>mpure (aJ.aV r))) (λr=>mpure (aJ.aV r))) λr=>mpure (aJ.aV r)) (mpure (aJ.aw (bl.2.2.1,bl.2.2.2.1,IntKind.wrap .i64 (Add.add bl.2.2.2.2.1 1),bl.2.2.2.2.2.2)))))) else aq (mpure (aJ.aw (A.1,A.2.2.2))) λr=>mpure (aJ.aV r)
def HU(aef:(b3×bI×Int->M Int)×List b3×Unit->M (List b3×Unit))(aeg:b3×bI×Int->M Int):Nat->Nat->z1'×qy->M (aJ (z1'×qy) (Option gY×Bool×j5))
 | 0,_,s=>mpure (.aw s)
 | n+1,k,s=>aq (ae (0<=Int.ofNat k/\Int.ofNat k<Int.ofNat 10) (aq (aef (aeg,oX k s.2,())) (λy=>dA (Mz k) (Int.ofNat k,Int.ofNat (List.length y.1),0,s.1,My k y.1 s.2)))) (aJ.fC (λ(bl:Int×z1'×qy)=>ae (IntKind.wrap .i64 (Add.add bl.1 1)=Int.ofNat (k+1)) (HU aef aeg n (k+1) bl.2)))
def MA{X:Type}(f:Nat->M X)(v:Int):Nat->M X
 | 0=>f 0
 | n+1=>if v=Int.ofNat (Add.add n 1) then f (n+1) else MA f v n
def aeh{X:Type}(A:z1'×List bI×Int×Int×z1'×qy)(u:Nat):M (aJ (z1'×List bI×Int×Int×z1'×qy) X):=
 letI a:=List.getD A.2.1 (Int.toNat A.2.2.2.1) (0,0,0,0,0,0);letI r:=A.2.2.2.2.2;letI p:=0<=Int.ofNat u/\Int.ofNat u<Int.ofNat 10;ae True (ae p (ae (0<=a.2.1/\a.2.1<Int.ofNat (List.length A.1)) (ae (cb (Add.add (List.length (oX u r)) (Add.add 0 1))) (ae True (ae p (mpure (aJ.aw (A.1,A.2.1,A.2.2.1,A.2.2.2.1,A.2.2.2.2.1,My u (oX u r++[((a.1,a.2.1,a.2.2.1,a.2.2.2.1,Int.ofNat u,a.2.2.2.2.2),IntKind.wrap .i64 (Add.add a.2.2.1 (List.getD A.1 (Int.toNat a.2.1) 0)))]) r))))))))
def aei(x:z1'×j5):M (Option gY×Bool×j5):=
 cB (aq (au' x.1) (λy=>be (x.1,y,x.2.1,x.2.2.1,x.2.2.2.1,x.2.2.2.2.1,x.cv,x.fE,x.h1,x.kT,x.na,x.mD,x.i_,x.pI,x.qw,[],[],[],[],[],[],[],[],[],[],()))) λA=>cB (ae True (dA (λA=>letI d:=A.2.2.2;letI b:=(bw A.2.1 d.1 (0,0,0,0,0,0)).2.2.2.2.1;bm (d.1<A.2.2.1) (cB (bU d.1 A.2.1 (ae (0<=b/\b<Int.ofNat 10) (MA (aeh A) b 9))) (λA=>be (A.1,A.2.1,A.2.2.1,bf A.2.2.2.1,A.2.2.2.2))) (bY d.2)) (A.1,A.qw,aR A.qw,0,A.2.1,A.HN,A.HO,A.HP,A.TF,A.HQ,A.auD,A.auE,A.TG,A.auF,A.TH,A.2.2.1,A.2.2.2.1,A.2.2.2.2.1,A.cv,A.fE,A.h1,A.kT,A.na,A.mD,A.i_,A.pI,A.qw,A.vM,()))) λA=>cB (ae True (ae (0=Int.ofNat 0) (HU ava avb 10 0 A))) λA=>letI c:=A.2;mpure (some (A.1,[oX 0 c,oX 1 c,oX 2 c,oX 3 c,oX 4 c,oX 5 c,oX 6 c,oX 7 c,oX 8 c,oX 9 c]),true,aee c)
def aej(x:Int×Int×Int×(b3×bI×Int->M Int)×List b3×Unit):M (List b3×Unit):=
 dA (λA=>bm (cE A.2.1 A.1<=12) (aq (avc (A.1,A.2.1,A.2.2.2.1,A.fE,())) (λy=>pD (y.1,()))) d') (x.1,x.2.1,x.2.2.1,x.2.2.2.1,true,true,x.2.2.2.2.1,())
def aek(x:z1'×j5):M (j5):=
 letI g:=aR x.1;ae True (bm (g=aR x.2.1) (cB (aq (avd (x.1,x.2.1,x.2.2.1,x.2.2.2.1,x.2.2.2.2.1,x.cv,x.fE,x.h1,x.kT,x.na,x.mD,x.i_,x.pI,x.qw,())) (λy=>bD y.2.1 (ae True (eB y.vM (ae True (be (y.2.2.1,y.2.2.2.1,y.2.2.2.2.1,y.cv,y.fE,y.h1,y.kT,y.na,y.mD,y.i_,y.pI,y.qw,y.vM++[y.1],()))))) (be (y.2.2.1,y.2.2.2.1,y.2.2.2.2.1,y.cv,y.fE,y.h1,y.kT,y.na,y.mD,y.i_,y.pI,y.qw,y.vM,())))) (λA=>mpure (A.1,A.2.1,A.2.2.1,A.2.2.2.1,A.2.2.2.2.1,A.cv,A.fE,A.h1,A.kT,A.na,A.mD,A.i_,A.pI,()))) (ae True (bU g x.2.1 (dA (λA=>letI f:=A.2;letI h:=A.1.take f.1.toNat;ae True (bU f.1 f.2.2.1 (bm (f.2.1<=(bw f.2.2.1 f.1 (0,0)).2) (ae ((0:Int)<=0/\0<=f.1/\f.1=f.1/\f.1<=aR A.1) (ae (0<Add.add 0 1/\cb (Add.add h.length (Add.add 0 1))) (aq (adp (h++[f.2.1],f.2.2.1,f.2.2.2.1,A.cv,A.fE,A.h1,A.kT,A.na,A.mD,A.i_,A.pI,A.qw,A.vM,A.HN,())) (λy=>be (A.1,f.1,bf f.2.1,y.1,y.2.1,y.2.2.1,y.2.2.2.1,y.2.2.2.2.1,y.cv,y.fE,y.h1,y.kT,y.na,y.mD,y.i_,y.pI,()))))) (pD (f.2.2.1,f.2.2.2.1,A.cv,A.fE,A.h1,A.kT,A.na,A.mD,A.i_,A.pI,A.qw,A.vM,A.HN,()))))) (x.1,g,(bw x.2.1 g (0,0)).1,x.2.1,x.2.2.1,x.2.2.2.1,x.2.2.2.2.1,x.cv,x.fE,x.h1,x.kT,x.na,x.mD,x.i_,x.pI,x.qw,())))))
def avv(x:(b3×bI×Int->M Int)×List b3×Unit):M (List b3×Unit):=
 aq (ave (IntKind.wrap .u64 (aR x.2.1))) λy=>aq (avf (0,aR x.2.1,y,x.1,x.2.1,())) λy=>mpure (y.1,())
end Go.Fer.H
namespace Go.Fer.H
abbrev bK:V:=.int .i64
abbrev dY:V:=.bool
abbrev ha:V:=.slice bK
abbrev oY:V:=.ad (.ar bK bK)
abbrev TR:V:=.ad (.ar bK (.ar bK (.ar bK (.ar bK (.ar bK (.ar bK bK))))))
abbrev lv:V:=.ad (.ar (.slice oY) (.ar (.slice iY) (.ar ha (.ar (.slice oY) TR))))
abbrev MB:V:=.ad (.ar iY bK)
abbrev Bs:V:=.ad (.ar ha (.array 10 (.slice MB)))
abbrev vO:V:=.ad (.ar lv (.ar (.slice iY) (.slice (.bO Bs))))
attribute [simp] vK S8 xC e4 Fz Pz iE kF r2 mc oe cY uG dm kE S7 aJ.pF
section
variable {ag:Type}
def Bt(d:ag)(x:List ag×(ag->M Bool)):M Int:=
 aq (dA (λ(A:List ag×(ag->M Bool)×Int×Int×Unit)=>if decide (A.2.2.2.1<A.2.2.1)=true then ae (0<=A.2.2.2.1/\
 A.2.2.2.1<Int.ofNat (List.length A.1)) (aq (A.2.1 (List.getD A.1 (Int.toNat A.2.2.2.1) d)) λy=>if y=true then aq (aq (mpure
 A.2.2.2.1) λr=>mpure (aJ.aV r)) λr=>mpure (aJ.aV r) else mpure (aJ.aw (A.1,A.2.1,A.2.2.1,IntKind.wrap .i64 (Add.add
 A.2.2.2.1 1),()))) else aq (mpure (aJ.aw ())) λr=>mpure (aJ.aV r)) (x.1,x.2,Int.ofNat (List.length x.1),0,())) (aJ.fC λ(A
 : Unit)=>mpure (-1))
def HV(c:List ag×(ag->M Bool)->M Int)(x:List ag×(ag->M Bool)):M Bool:=aq (c x) λy=>mpure (decide (y>=0))
def jJ(p:ag->Bool):List ag->Int->Int
 | [],_=>-1
 | x::l,i=>if p x=true then i else jJ p l (i+1)
theorem D3(p:ag->Bool):∀ (l:List ag) (i:Int),0<=i->(decide (jJ p l i>=0))=l.any p
 | [],i,_=>by rfl
 | x::l,i,h=>by
  simp  [jJ];by_cases al:p x=true
  ·grind
  ·have:=D3 p l (i+1) (by omega);grind
theorem D4(p:ag->Bool):∀ (l:List ag) (i:Int),fa (λx (i:Int)=>if p x=true then (.aV (.aV i):aJ Int (aJ Unit Int)) else .aw (i+1)) (λ_=>.aw ()) l i=if l.any p=true then .aV (jJ p l i) else .aw ()
 | [],i=>by rfl
 | x::l,i=>by
  simp  [fa,jJ];by_cases al:p x=true
  ·grind
  ·have:=D4 p l (i+1);grind
theorem HW{p:ag->Bool}:∀ (l:List ag) (i:Int),¬l.any p=true->jJ p l i=-1
 | [],_,_=>rfl
 | x::l,i,aC=>by
  simp only[aQE,aPU,not_or]at aC;simp  [jJ,aC.1,aPH];exact HW l _ aC.2
theorem TS(d:ag)(l:List ag)(f:ag->M Bool)(h:l.length<2 ^ 63)(ay:∀ y∈l,∃ b,f y=mpure b):Bt d (l,f)=mpure (jJ (λy=>(f y).val false) l 0):=by
 unfold Bt;rw[e2 l (λi b=>(l,f,(l.length:Int),b,())) (λy i=>if (f y).val false=true then (.aV (.aV i)) else .aw (i+1)) (λ_=>.aw ()) (λi b=>b=(i:Int)) 0 ?_ ?_ ?_ ?_]
 ·rw[D4 (λy=>(f y).val false)];by_cases aY:(l.any λy=>(f y).val false)=true
  ·simp[aY]
  ·have:jJ (λy=>(f y).val false) l 0=-1:=by
    have:∀ (l:List ag) (i:Int),¬(l.any λy=>(f y).val false)=true->jJ (λy=>(f y).val false) l i=-1:=by
     intro l;induction l with
     | nil=>intro i _;rfl
     | cons x l aP=>
      simp  [jJ,aPH];grind
    grind
   simp[aY,this]
 ·rfl
 ·rfl
 ·intro i G b U;subst U;have hw:=bs (n:=i+1);refine⟨?_,λbj ef=>?_⟩
  ·obtain⟨b,U⟩:=ay _ (amk G);simp only[cC,dQ G,if_true,ed G,dK G,cp,U,kF,aN,dm,hw];split<;>rfl
  grind
 simp
end
abbrev kU(e:V):aO:=⟨.ar (.slice e) (.fn e .bool),bK,λx=>x.1.length<2 ^ 63/\∀ y∈x.1,∃ b,x.2 y=mpure b,λx=>jJ (λy=>(x.2 y).val false) x.1 0⟩
theorem ti(e:V)(x):a8 (Bt e.dU x) ((kU e).sh x):=bx λh=>TS e.dU x.1 x.2 h.1 h.2
abbrev h3(e:V):aO:=⟨.ar (.slice e) (.fn e .bool),dY,λx=>x.1.length<2 ^ 63/\∀ y∈x.1,∃ b,x.2 y=mpure b,λx=>x.1.any λy=>(x.2 y).val false⟩
theorem tj(e:V)(x):a8 (HV (kU e).sh x) ((h3 e).sh x):=bx λh=>by
 unfold HV;simp only[aO.sh,e4];rw[bc (by omega)];exact congrArg mpure (D3 (λy=>(x.2 y).val false) x.1 0 (by omega))
abbrev oi(s:bI):Int:=s.1
abbrev r8(s:bI):Int:=s.2.1
abbrev Bu(s:bI):Int:=s.2.2.1
abbrev fx(s:bI):Int:=s.2.2.2.1
abbrev xF(s:bI):Int:=s.2.2.2.2.1
abbrev kH(s:bI):Int:=s.2.2.2.2.2
def lD(c:bg):Prop:=c.1.length<2 ^ 63/\c.2.1.length<2 ^ 63/\c.2.2.1.length<2 ^ 63/\c.2.2.2.1.length<2 ^ 63
def cJ(n a7 G:Int):Bool:=decide (a7<=n)&&decide (n<=G)
theorem uK{n a7 G:Int}:cJ n a7 G=true<->a7<=n/\n<=G:=by simp[cJ]
def r9(t:uJ):Bool:=cJ t.1 0 9999&&cJ t.2.1 1 9999&&cJ t.2.2.2.2.1 1 9999&&cJ t.2.2.1 0 100000&&cJ t.2.2.2.1 0 100000&&cJ t.2.2.2.2.2.1 0 100000&&cJ t.2.2.2.2.2.2 0 100000
def nL(n:Nat)(s:bI):Bool:=cJ (oi s) 0 99&&cJ (r8 s) 0 ((n:Int) - 1)&&cJ (Bu s) 0 9999&&cJ (xF s) 0 9&&cJ (kH s) 0 99&&(decide (fx s=1)||decide (fx s=2)&&decide (kH s=0))
abbrev dy:aO:=⟨.ar bK (.ar bK bK),dY,λ_=>True,λx=>cJ x.1 x.2.1 x.2.2⟩
theorem avw(x):a8 (adV dy.sh x) (dy.sh x):=bx λ_=>by
 unfold adV;simp[aO.sh]
theorem avx(x):a8 (avg x) (dy.sh x):=bx λ_=>rfl
abbrev Bv:aO:=⟨bK,dY,λ_=>True,λx=>cJ x 0 9999⟩
theorem avy(x):a8 (adG dy.sh x) (Bv.sh x):=bx λ_=>by
 unfold adG;simp[aO.sh]
abbrev D5:aO:=⟨bK,dY,λ_=>True,λx=>cJ x 0 99⟩
theorem avz(x):a8 (adQ dy.sh x) (D5.sh x):=bx λ_=>by
 unfold adQ;simp[aO.sh]
abbrev yV:aO:=⟨TR,dY,λ_=>True,λx=>r9 x⟩
theorem avA(x):a8 (ad5 dy.sh x) (yV.sh x):=bx λ_=>by
 unfold ad5 cf;show _=mpure (r9 x);unfold r9;simp only[aO.sh,oe];simp
theorem avB(x):a8 (ad1 dy.sh x) (yV.sh x):=bx λ_=>by
 unfold ad1 cf bw bm bf bQ cS bY be bU;rw[eH [x.2.2.1,x.2.2.2.1,x.2.2.2.2.2.1,x.2.2.2.2.2.2] (λi (_)=>(4,(i:Int),x,[x.2.2.1,x.2.2.2.1,x.2.2.2.2.2.1,x.2.2.2.2.2.2],())) (λy b=>if (!cJ y 0 100000)=true then .aV (.aV false) else .aw b) (λ_=>.aw (x,())) () ?_ ?_ ?_]
 ·rw[m'   _ _ (λ_=>rfl)];show _=mpure (r9 x);unfold r9;simp  [aO.sh,oe];cases E:cJ x.1 0 9999<;>cases L:cJ x.2.1 1 9999<;>cases an:cJ x.2.2.2.2.1 1 9999<;>cases cJ x.2.2.1 0 100000<;>cases cJ x.2.2.2.1 0 100000<;>cases cJ x.2.2.2.2.2.1 0 100000<;>cases cJ x.2.2.2.2.2.2 0 100000<;>simp[E,L,an]
 ·rfl
 ·intro i G b;have d_:i<4:=by omega
  have hw:=bs (n:=i+1);have E:decide ((i:Int)<4)=true:=by grind
  simp only[E,cC,ed G,dK G,cp,aO.sh,sE,aN,dm,hw];exact pG (mk:=λ(_)=>((4),((i+1):Int),x,[x.2.2.1,x.2.2.2.1,x.2.2.2.2.2.1,x.2.2.2.2.2.2],()))
 simp
abbrev Bw:aO:=⟨.ar lv iY,dY,λx=>x.1.1.length<2 ^ 63,λx=>nL x.1.1.length x.2⟩
theorem avC(x):a8 (ad6 dy.sh x) (Bw.sh x):=bx λh=>by
 have hw:=bs (n:=(x.1.1.length) - 1);unfold ad6 b7 cf bD aR h' cE;show _=mpure (nL x.1.1.length x.2);unfold nL;simp only[aO.sh,sE,aN,oe,hw];grind
theorem avD(x):a8 (ad3 dy.sh D5.sh x) (Bw.sh x):=bx λh=>by
 have hw:=bs (n:=(x.1.1.length) - 1);unfold ad3 b7 cf aR cE;show _=mpure (nL x.1.1.length x.2);unfold nL;simp  [aO.sh,hw];grind
abbrev HX:aO:=⟨.ar iY (.bO lv),dY,λx=>∃ c:bg,x.2=some c/\c.1.length<2 ^ 63,λx=>!nL (x.2.getD ([],[],[],[],0,0,0,0,0,0,0)).1.length x.1⟩
theorem avE(x):a8 (ad2 Bw.sh x) (HX.sh x):=bx λh=>by
 obtain⟨c,hc,h⟩:=h;unfold ad2;simp  [aO.sh,e4];simp_all
abbrev D6:aO:=⟨bK,dY,λ_=>True,λx=>!cJ x 0 99⟩
theorem avF(x):a8 (ad4 D5.sh x) (D6.sh x):=bx λ_=>by
 unfold ad4;simp[aO.sh]
theorem avG(a b:bI):(decide (a.1=b.1)&&(decide (a.2.1=b.2.1)&&(decide (a.2.2.1=b.2.2.1)&&(decide (a.2.2.2.1=b.2.2.2.1)&&(decide (a.2.2.2.2.1=b.2.2.2.2.1)&&decide (a.2.2.2.2.2=b.2.2.2.2.2))))))=decide (a=b):=by
 grind
def xG(a b:bI):Bool:=decide (oi a=oi b)&&!decide (a=b)
abbrev MC:aO:=⟨.ar iY iY,dY,λ_=>True,λx=>xG x.1 x.2⟩
theorem avH(x):a8 (adU x) (MC.sh x):=bx λ_=>by
 have h:=avG x.1 x.2;unfold adU b7;show _=mpure (xG x.1 x.2);unfold xG;grind
abbrev r_:aO:=⟨.ar ha bK,dY,λx=>x.1.length<2 ^ 63,λx=>x.1.contains x.2⟩
theorem avI(x):a8 (avt x) ((kU iY).sh x):=ti iY x
theorem avJ(x):a8 (avo (kU iY).sh x) ((h3 iY).sh x):=tj iY x
abbrev vP:aO:=⟨ha,ha,λx=>x.length<=3000000,λx=>x⟩
theorem i'{n:Nat}(h:n<65536):cb n:=by unfold cb;omega
theorem avK(x):a8 (ad8 x) (vP.sh x):=td λh=>by
 unfold ad8 bD iW;rw[fN];refine⟨⟨false,by simp⟩,λb U=>?_⟩;cases b with
 | true=>rw[U rfl];exact dO.2 rfl
 | false=>
  exact h5.2 ⟨by simp  [cb];omega,dO.2 (by simp)⟩
abbrev avL(c:bg):Prop:=c.1.length<=20/\c.2.1.length<=40/\c.2.2.1.length<=60/\c.2.2.2.1.length<=40
abbrev TT:aO:=⟨bK,dY,λ_=>True,λ_=>false⟩
theorem avM(x):a8 (ad' x) (TT.sh x):=bx λ_=>by simp[ad']
abbrev TU:aO:=⟨.ar bK bK,bK,λ_=>True,λx=>if x.1<x.2 then -1 else if x.1 > x.2 then 1 else 0⟩
theorem avN(x):a8 (ad_ TT.sh x) (TU.sh x):=bx λ_=>by
 unfold ad_ bD bm;simp  [aO.sh,amp];grind
abbrev tk:aO:=⟨.ar MB MB,bK,λ_=>True,λx=>if x.1.2<x.2.2 then -1 else if x.1.2 > x.2.2 then 1 else 0⟩
theorem avO(x):a8 (ad9 TU.sh x) (tk.sh x):=bx λ_=>by
 unfold ad9;simp  [aO.sh,aN]
abbrev TV:aO:=⟨.int .u64,bK,λx=>0<=x/\x<=12,λx=>(HT x).val 0⟩
theorem avP(x):a8 (HT x) (TV.sh x):=bx λh=>by
 have key:∃ v,HT x=mpure v:=by
  change (0)<=x/\x<=12 at h;unfold HT eZ cB bm be;have aE:¬(x>=4294967296):=by omega
  have bz:¬(x>=65536):=by omega
  have c_:¬(x>=256):=by omega
  have bV:IntKind.wrap .u8 x=x:=by
   show (if (false&&decide (x % 2 ^ 8>=(2 ^ (8 - 1))))=true then x % 2 ^ 8 - 2 ^ 8 else x % 2 ^ 8)=x;grind
  have mq:0<=x/\x<Int.ofNat 256:=⟨h.1,by grind⟩
  simp only[amp,aE,bz,c_,aPH,aN,cY,bV,bc mq];grind
 obtain⟨v,af⟩:=key;simp_all
abbrev TW:aO:=⟨.int .u64,bK,λx=>0<=x/\x<=12,λx=>(HT x).val 0⟩
theorem avQ(f)(x):a8 (ad7 f TV.sh x) (TW.sh x):=bx λh=>by
 unfold ad7;simp  [aO.sh];simp_all
end Go.Fer.H
namespace Go.Fer.H
section
variable {ag:Type} (d:ag) (lt:ag->ag->Bool)
def yW(l:List ag):Nat->List ag
 | 0=>l
 | k+1=>if lt (l.getD (k+1) d) (l.getD k d)=true then yW ((l.set (k+1) (l.getD k d)).set k (l.getD (k+1) d)) k else l
def r'(e:ag):List ag->List ag
 | []=>[e]
 | a::r=>if lt e a=true then a::r' e r else e::a::r
def xH(l:List ag):List ag:=l.foldl (λr e=>r' lt e r) []
def hb(l:List ag):List ag:=(xH lt l).reverse
theorem ael:∀ (r:List ag) (e:ag) (R:List ag),yW d lt (r.reverse++e::R) r.length=(r' lt e r).reverse++R
 | [],e,R=>rfl
 | a::r,e,R=>by
  have aE:((a::r).reverse++e::R).getD (r.length+1) d=e:=by
   simp
  have bz:((a::r).reverse++e::R).getD r.length d=a:=by
   simp
  show yW d lt ((a::r).reverse++e::R) (r.length+1)=_;unfold yW;rw[aE,bz];unfold r';split
  ·have c_:(((a::r).reverse++e::R).set (r.length+1) a).set r.length e=r.reverse++e::(a::R):=by
    simp
   rw[c_,ael r e (a::R)];simp
  simp
theorem TX(e:ag):∀ r:List ag,(r' lt e r).Perm (e::r)
 | []=>.refl _
 | a::r=>by
  unfold r';split
  ·exact ((TX e r).cons a).trans (List.Perm.swap e a r)
  rfl
theorem aem:∀ (l r:List ag),(l.foldl (λr e=>r' lt e r) r).Perm (l++r)
 | [],r=>.refl _
 | x::l,r=>by
  refine (aem l _).trans ?_;refine ((TX lt x r).append_left l).trans ?_;simp
theorem aen(l:List ag):(xH lt l).Perm l:=by
 have:=aem lt l [];rwa [aPT]at this
theorem HY(l:List ag):(hb lt l).Perm l:=(List.reverse_perm _).trans (aen lt l)
theorem aeo(l:List ag):(xH lt l).length=l.length:=(aen lt l).length_eq
theorem MD(l:List ag):(hb lt l).length=l.length:=(HY lt l).length_eq
theorem aep{l:List ag}{x:ag}:x∈hb lt l<->x∈l:=(HY lt l).mem_iff
theorem avR(l:List ag)(e:ag):xH lt (l++[e])=r' lt e (xH lt l):=by simp[xH]
def uL(l:List ag)(n:Nat):List ag:=(xH lt (l.take n)).reverse++l.drop n
theorem avS(l:List ag):uL lt l 1=l:=by
 cases l<;>rfl
theorem avT(l:List ag):uL lt l l.length=hb lt l:=by simp[uL,hb]
theorem avU(l:List ag)(n:Nat)(h:n<=l.length):(uL lt l n).length=l.length:=by
 simp[uL,aeo];omega
theorem avV{l:List ag}{n:Nat}(h:n<l.length):yW d lt (uL lt l n) n=uL lt l (n+1):=by
 have aE:(xH lt (l.take n)).length=n:=by rw[aeo];grind
 have:=ael d lt (xH lt (l.take n)) l[n] (l.drop (n+1));rw[aE]at this;unfold uL;rw[aPM h,this,aQH,ams h,aRg,avR]
theorem TY(dv:∀ a b,lt a b=false->lt b a=true\/lt b a=false)(aS:∀ a b c:ag,lt a b=false->lt b c=false->lt a c=false)(avW:∀ a b,lt a b=true->lt b a=false)(e:ag):∀ r:List ag,r.Pairwise (λa b=>lt a b=false)->(r' lt e r).Pairwise (λa b=>lt a b=false)
 | [],_=>by simp[r']
 | a::r,h=>by
  rw[List.pairwise_cons]at h;unfold r';split
  ·refine List.pairwise_cons.2 ⟨λx al=>?_,TY dv aS avW e r h.2⟩;rcases List.mem_cons.1 ((TX lt e r).mem_iff.1 al) with rfl | al<;>grind
  ·refine List.pairwise_cons.2 ⟨λx al=>?_,List.pairwise_cons.2 h⟩;grind
end
def jq(a b:Int):Bool:=decide (a<b)
def kp(a b:b3):Bool:=decide (a.2<b.2)
theorem aeq:∀ (l r:z1'),r.Pairwise (λa b=>jq a b=false)->(l.foldl (λr e=>r' jq e r) r).Pairwise (λa b=>jq a b=false)
 | [],r,h=>h
 | x::l,r,h=>aeq l _ (TY jq (λa b _=>by simp) (λa b c E L=>by simp[jq]at *;omega) (λa b h=>by simp[jq]at *;omega) x r h)
theorem TZ(l:z1'):(hb jq l).Pairwise (·<=·):=by
 have:=aeq l [] .nil;unfold hb;rw[List.pairwise_reverse];exact this.imp λh=>by simp[jq]at h;omega
theorem aer:∀ (l r:List b3),r.Pairwise (λa b=>kp a b=false)->(l.foldl (λr e=>r' kp e r) r).Pairwise (λa b=>kp a b=false)
 | [],r,h=>h
 | x::l,r,h=>aer l _ (TY kp (λa b _=>by simp) (λa b c E L=>by simp[kp]at *;omega) (λa b h=>by simp[kp]at *;omega) x r h)
theorem avX(l:List b3):(hb kp l).Pairwise λa b=>a.2<=b.2:=by
 have:=aer l [] .nil;unfold hb;rw[List.pairwise_reverse];exact this.imp λh=>by simp[kp]at h;omega
theorem D7{l m:z1'}(h:m.Pairwise (·<=·))(ai:l.Perm m):hb jq l=m:=
 List.Perm.eq_of_pairwise (λa b _ _ E L=>by omega) (TZ l) h ((HY jq l).trans ai)
theorem aes{l m:z1'}(ai:l.Perm m):hb jq l=hb jq m:=D7 (TZ m) (ai.trans (HY jq m).symm)
variable {ag:Type}
theorem avY{d:ag}{lt:ag->ag->Bool}{A rho:Type}{body:A->M (aJ A rho)}{s0:A}(mk:Nat->List ag->A)(fin:List ag->rho)(iC:Nat)(fJ:List ag)(qq:s0=mk iC fJ)(AA:iC<fJ.length)
  (az:∀ k l,l.length=fJ.length->k<fJ.length->body (mk k l)=mpure (if 0<k/\lt (l.getD k d) (l.getD (k - 1) d)=true then .aw (mk (k - 1) ((l.set k (l.getD (k - 1) d)).set (k - 1) (l.getD k d))) else .aV (fin l))) :
  dA body s0=mpure (fin (yW d lt fJ iC)):=by
 have key:∀ k l,l.length=fJ.length->k<fJ.length->dA body (mk k l)=mpure (fin (yW d lt l k)):=by
  intro k;induction k with
  | zero=>
   intro l ah ak;exact u7 (by rw[az 0 l ah ak];rfl)
  | succ k aP=>
   intro l ah ak;unfold yW;by_cases h:lt (l.getD (k+1) d) (l.getD k d)=true
   ·rw[if_pos h,CD (s':=mk k ((l.set (k+1) (l.getD k d)).set k (l.getD (k+1) d)))]<;>grind
   ·exact u7 (by grind)
 grind
theorem T0{l:List ag}{d:ag}{k:Nat}:l.getD ((k:Int) - 1).toNat d=l.getD (k - 1) d:=by
 simp
theorem avZ{l:List ag}{d:ag}{k:Nat}:l.getD ((k:Int)).toNat d=l.getD k d:=by rfl
theorem av0{A rho:Type}{c:Bool}{p:Prop}[Decidable p](h:c=decide p){x y:M (aJ A rho)}{a b:aJ A rho}(E:p->x=mpure a)(L:¬p->y=mpure b):(if c=true then x else y)=mpure (if p then a else b):=by
 grind
def ME(x:Int×Int×(b3×bI×Int->M Int)×List b3×Unit):M (List b3×Unit):=eE (x.1=0/\x.2.1=(x.2.2.2.1.length:Int)/\x.2.2.2.1.length<=12/\x.2.2.1=tk.sh) (hb kp x.2.2.2.1,())
theorem av1(x):a8 (aed x) (ME x):=bx λh=>by
 obtain⟨a,b,f,l,u⟩:=x;obtain⟨E,L,an,a6⟩:=h;change b=l.length at L;change l.length<=12 at an;subst E;subst L;subst a6;unfold aed dp fT cf bw bm bf aR bQ bY pD be bU cE;rw[eH (List.range (l.length - 1)) (λi (_)=>(0,(l.length:Int),tk.sh,((i+1:Nat):Int),uL kp l (i+1),())) (λ_ _=>.aw ()) (λ_=>(hb kp l,())) () ?_ ?_ ?_]
 ·rw[ec]
 ·rw[avS];rfl
 ·intro i G _;have G:i+1<l.length:=by grind
  have ah:=avU kp l (i+1) (by omega);have hw:=bs (n:=((i+1:Nat))+1);have ax:decide (((i+1:Nat))<(l.length:Int))=true:=by grind
  simp only[ax];rw[avY (d:=((0,0,0,0,0,0),0)) (lt:=kp) (λk m=>(0,(l.length:Int),tk.sh,((i+1:Nat):Int),(k:Int),m,())) (λm=>.aw (0,l.length,tk.sh,((i+1:Nat)),m,())) (i+1) (uL kp l (i+1)) rfl (by omega) ?_]
  ·simp only[aN,cY,dm,hw,avV ((0,0,0,0,0,0),0) kp G];rfl
  ·intro k m hm ak;have gz:0<k->IntKind.wrap .i64 (k - 1)=k - 1:=λ_=>bs;by_cases AA:0<k
   ·have ai:decide ((k:Int) > 0)=true:=by grind
    have cq:(0)<=(k:Int)/\k<Int.ofNat m.length:=⟨by omega,by grind⟩
    have c7:(0)<=(k:Int) - 1/\k - 1<Int.ofNat m.length:=⟨by omega,by omega⟩
    have fL:(0)<=k - 1/\k - 1<Int.ofNat (m.set k (m.getD (k - 1) ((0,0,0,0,0,0),0))).length:=⟨by omega,by grind⟩
    simp only[ai,gz AA,cq,c7,forall_const,aRs,cp,aO.sh,sE,oe,aN,T0,aPV,fL];refine av0   ?_ (λ_=>?_) (λ_=>rfl)
    ·simp  [kp,amp];grind
    grind
   ·have Bx:k=0:=by omega
    subst Bx;simp[yz]
 ·intro _;have e:uL kp l (l.length - 1+1)=hb kp l:=by
   cases l with
   | nil=>rfl
   | cons x r=>exact avT kp (x::r)
  have ax:decide (((l.length - 1+1:Nat))<(l.length:Int))=false:=by grind
  simp only[aQ6,ax,aml,aPH,e,aN]
def MF(x:Int×Int×Int×(b3×bI×Int->M Int)×List b3×Unit):M (List b3×Unit):=eE (x.1=0/\x.2.1=(x.2.2.2.2.1.length:Int)/\x.2.2.2.2.1.length<=12/\x.2.2.2.1=tk.sh) (hb kp x.2.2.2.2.1,())
theorem av2(x):a8 (aej ME x) (MF x):=bx λh=>by
 obtain⟨a,b,c,f,l,u⟩:=x;obtain⟨E,L,an,a6⟩:=h;change b=l.length at L;change l.length<=12 at an;subst E;subst L;subst a6;unfold aej bm pD cE;refine u7 ?_;have hw:=bs (n:=l.length - 0);have ax:decide ((l.length:Int) - 0<=12)=true:=by grind
 unfold ME;simp_all
theorem av3{n:Int}(h:0<=n)(L:n<=12):IntKind.wrap .u64 n=n:=by
 show (if (false&&decide (n % 2 ^ 64>=(2 ^ (64 - 1))))=true then n % 2 ^ 64 - 2 ^ 64 else n % 2 ^ 64)=n;grind
def D8(x:z14'):M (z14'):=eE (x.1.length<4611686018427387904) (hb jq x.1,())
def D9(x:(b3×bI×Int->M Int)×List b3×Unit):M (List b3×Unit):=eE (x.2.1.length<=12/\x.1=tk.sh) (hb kp x.2.1,())
theorem av4(x):a8 (avv TW.sh MF x) (D9 x):=bx λh=>by
 obtain⟨f,l,u⟩:=x;obtain⟨h,a6⟩:=h;change l.length<=12 at h;have hw:=av3 (n:=l.length) (by omega) (by omega);show aq (eE (0<=IntKind.wrap .u64 l.length/\IntKind.wrap .u64 l.length<=12) _) _=_;rw[e4,bc (by omega)];unfold MF;simp_all
def D_(x:(z1'->Prop)×Unit):M (z14'):=⟨(∃ ab,x.1 ab)/\∀ ab,x.1 ab->ab.length<60000,λy=>x.1 y.1⟩
theorem aet:∀ (ab acc:z1'),ab.length+acc.length<60000->kl (λ(A:z14') (y:Int)=>aq (ae (cb (Add.add (List.length A.1) (Add.add 0 1))) (mpure (dS.normal,A.1++[y],()))) λp=>mpure (p.1,p.2.1,())) ab (acc,())=mpure (.normal,acc++ab,())
 | [],acc,_=>by simp[kl]
 | x::ab,acc,h=>by
  unfold kl;rw[bc (i' (by grind))];simp only[aN];rw[aet ab (acc++[x]) (by grind)];simp
theorem av5(x):a8 (aea x) (D_ x):=λh=>by
 obtain⟨S,u⟩:=x;obtain⟨E,L⟩:=h;show c' _ _;unfold aea eB;rw[fN];refine⟨E,λab kn=>?_⟩;have kn:S ab:=kn;show c' (aq (kl _ ab ([],())) _) _;rw[aet ab [] (by grind)];simp;exact dO.2 kn
theorem av6(x):a8 (aeb D_ x) (D_ x):=λh=>by
 show c' _ _;unfold aeb;rw[fN];exact⟨h,λy ba=>dO.2 ba⟩
open Classical in
def D'(S:z1'->Prop):z1':=if h:∃ ab,S ab then hb jq h.choose else []
abbrev vQ:aO:=⟨.cG bK,ha,λS=>(∃ ab,S ab)/\(∀ ab gb,S ab->S gb->ab.Perm gb)/\∀ ab,S ab->ab.length<60000,λS=>D' S⟩
theorem av7(x):a8 (adI D8 D_ x) (vQ.sh x):=td λh=>by
 obtain⟨E,L,an⟩:=h;unfold adI;rw[fN];refine⟨⟨E,λab kn=>by grind⟩,λy ba=>?_⟩;show c' (aq (eE _ _) _) _;rw[e4,h5];refine⟨Nat.lt_trans (an _ ba) (by decide),dO.2 ?_⟩;show hb jq y.1=D' x;unfold D';rw[dif_pos E];exact aes (L _ _ ba E.choose_spec)
theorem av8{S:z1'->Prop}{ab:z1'}(h:S ab)(L:∀ ab gb,S ab->S gb->ab.Perm gb):D' S=hb jq ab:=by
 have E:∃ ab,S ab:=⟨ab,h⟩
 unfold D';rw[dif_pos E];exact aes (L _ _ E.choose_spec h)
def lQ(x:Option (List (Int×ag)))(ab:z1'):Prop:=∃ m,x=some m/\(m.map (·.1)).Perm ab
abbrev MG:aO:=⟨.map bK bK,.cG bK,λ_=>True,λx=>lQ (some x)⟩
theorem av9(x):a8 (avh lQ x) (MG.sh x):=bx λ_=>rfl
abbrev Ea:aO:=⟨.map bK iY,.cG bK,λ_=>True,λx=>lQ (some x)⟩
theorem av_(x):a8 (avq lQ x) (Ea.sh x):=bx λ_=>rfl
theorem xI{m:List (Int×ag)}{ab:z1'}:lQ (some m) ab<->(m.map (·.1)).Perm ab:=⟨λ⟨dw,h,k⟩=>by grind,λh=>⟨m,rfl,h⟩⟩
theorem aeu{m:List (Int×ag)}(h:m.length<60000):vQ.pre (lQ (some m)):=
 ⟨⟨_,xI.2 (.refl _)⟩,λab gb E L=>(xI.1 E).symm.trans (xI.1 L),λab kn=>by rw[<-(xI.1 kn).length_eq];grind⟩
theorem aev{m:List (Int×ag)}:D' (lQ (some m))=hb jq (m.map (·.1)):=
 av8 (xI.2 (.refl _)) λab gb E L=>(xI.1 E).symm.trans (xI.1 L)
end Go.Fer.H
namespace Go.Fer.H
def vR(s:z12'):Bool:=cJ s.1 (-30) s.2&&!decide (s.2 > 30)
def lR(l:z4')(i:Nat):Bool:=cJ (l.getD i (0,0)).1 0 (l.getD i (0,0)).2&&!decide ((l.getD i (0,0)).2 > 9999)&&!(decide (0<i)&&decide ((l.getD i (0,0)).1<=(l.getD (i - 1) (0,0)).2))
def Eb(l:z4'):Bool:=(List.range l.length).all (lR l)
def vS(c:bg):Bool:=!(decide ((c.1.length:Int) > 3)||decide ((c.2.1.length:Int) > 12)||decide ((c.2.2.1.length:Int) > 12)||decide ((c.2.2.2.1.length:Int) > 4))&&r9 c.2.2.2.2
def lS(c:bg):Bool:=vS c&&c.1.all vR&&c.2.1.all (nL c.1.length)&&c.2.2.1.all (λn=>cJ n 0 99)&&Eb c.2.2.2.1
abbrev yX:aO:=⟨lv,dY,lD,λc=>lS c⟩
variable {rho:Type}
theorem MH{A bet:Type}{mk:bet->A}{b:bet}{q:Bool}{r:rho}{m:M (aJ A rho)}(E:q=true->m=mpure (.aw (mk b)))(L:q=false->m=mpure (.aV r)):m=mpure (aJ.pF mk (if (!q)=true then .aV r else .aw b)):=by
 cases q
 ·exact L rfl
 ·exact E rfl
variable {ag:Type}
theorem aew{a t:Bool}{m n:ag}:(if (a||!(if (!a)=true then t else false))=true then m else n)=if (!a&&t)=true then n else m:=by grind
theorem av'(x):a8 (adT dy.sh yV.sh Bw.sh x) (yX.sh x):=bx λh=>by
 obtain⟨aM,aT,b5,hC⟩:=h;unfold adT dp hS fw cf bw bD bf aR bQ cS bY be h' iX bU dE cE pE;show _=mpure (lS x);simp only[aO.sh,yV,sE,oe,aN,cC,aew];unfold lS;rw[show (!(decide ((x.1.length:Int) > 3)||decide ((x.2.1.length:Int) > 12)||decide ((x.2.2.1.length:Int) > 12)||decide ((x.2.2.2.1.length:Int) > 4))&&r9 x.2.2.2.2)=vS x from rfl];cases U:vS x with
 | false=>rfl
 | true=>
  rw[if_pos rfl];rw[eH x.1 (λi (_:Unit)=>((i:Int),x,())) (λy b=>if (!vR y)=true then .aV (.aV false) else .aw b) (λ_=>.aw (x,())) () ?_ ?_ ?_]
  ·rw[m' (q:=vR) _ _ (λ_=>rfl)];cases hc:x.1.all vR with
   | false=>simp
   | true=>
    simp only[if_true,aN,cY];rw[eH x.2.1 (λi (_:Unit)=>((i:Int),x,())) (λy b=>if (!nL x.1.length y)=true then .aV (.aV false) else .aw b) (λ_=>.aw (x,())) () ?_ ?_ ?_]
    ·rw[m' (q:=nL x.1.length) _ _ (λ_=>rfl)];cases ax:x.2.1.all (nL x.1.length) with
     | false=>simp
     | true=>
      simp only[if_true,aN,cY];rw[eH x.2.2.1 (λi (_:Unit)=>((i:Int),x,())) (λy b=>if (!cJ y 0 99)=true then .aV (.aV false) else .aw b) (λ_=>.aw (x,())) () ?_ ?_ ?_]
      ·rw[m' (q:=λn=>cJ n 0 99) _ _ (λ_=>rfl)];cases he:x.2.2.1.all (λn=>cJ n 0 99) with
       | false=>simp
       | true=>
        simp only[if_true,aN,cY];rw[eH (List.range x.2.2.2.1.length) (λi (_:Unit)=>((i:Int),x,())) (λy b=>if (!lR x.2.2.2.1 y)=true then .aV (.aV false) else .aw b) (λ_=>.aw ()) () ?_ ?_ ?_]
        ·rw[m' (q:=lR x.2.2.2.1) _ _ (λ_=>rfl)];unfold Eb;cases (List.range x.2.2.2.1.length).all (lR x.2.2.2.1)<;>simp
        ·rfl
        ·intro i G b;have G:i<x.2.2.2.1.length:=by grind
         have hw:=bs (n:=(i:Int)+1);have gz:=bs (n:=(i:Int) - 1);have j7:x.2.2.2.1.getD i (0,0)=x.2.2.2.1[i]:=by grind
         have vT:(decide ((i:Int) > 0))=decide (0<i):=by simp
         have D:decide (0<i)=true->((0:Int)<=(i:Int) - 1/\(i:Int) - 1<(x.2.2.2.1.length:Int)):=λh=>by grind
         refine MH (mk:=λ(_:Unit)=>(((i+1:Nat):Int),x,())) (b:=b) ?_ ?_<;>intro bB<;>
         ·simp only[aPJ,lR,j7]at bB;simp only[cC,dQ G,if_true,ed G,dK G,cp,aO.sh,dy,sE,tK,kF,dm,hw,gz,vT,T0,aPJ];revert bB;generalize cJ x.2.2.2.1[i].1 0 x.2.2.2.1[i].2=cT;generalize decide (x.2.2.2.1[i].2 > 9999)=fc;generalize decide (x.2.2.2.1[i].1<=(x.2.2.2.1.getD (i - 1) (0,0)).2)=jf;revert D;generalize decide (0<i)=u6;intro D;cases u6
          ·cases cT<;>cases fc<;>cases jf<;>simp
          ·have D:=D rfl;cases cT<;>cases fc<;>cases jf<;>simp[D,(by omega:(1:Int)<=(i:Int))]
        simp
      ·rfl
      ·intro i G b;have hw:=bs (n:=(i:Int)+1);simp only[cC,dQ G,if_true,ed G,dK G,cp,aO.sh,dy,sE,aN,dm,hw];exact pG (mk:=λ(_:Unit)=>(((i+1:Nat):Int),x,()))
      simp
    ·rfl
    ·intro i G b;have hw:=bs (n:=(i:Int)+1);simp only[cC,dQ G,if_true,ed G,dK G,cp,aO.sh,Bw,r2,iE,aN,dm,hw];rw[bc aM];exact pG (mk:=λ(_:Unit)=>(((i+1:Nat):Int),x,()))
    simp
  ·rfl
  ·intro i G b;have hw:=bs (n:=(i:Int)+1);refine MH (mk:=λ(_:Unit)=>(((i+1:Nat):Int),x,())) (b:=b) ?_ ?_<;>intro bB<;>
   ·simp only[vR]at bB;simp only[cC,dQ G,if_true,ed G,dK G,cp,aO.sh,dy,sE,tK,kF,dm,hw];revert bB;generalize cJ x.1[i].1 (-30) x.1[i].2=cT;generalize decide (x.1[i].2 > 30)=fc;simp_all
  simp
theorem aex{p:ag->Bool}(l:List ag):(l.any λy=>!p y)=!l.all p:=by grind
theorem awa(x):a8 (adS dy.sh (h3 iY).sh yV.sh (h3 bK).sh HX.sh D6.sh x) (yX.sh x):=bx λh=>by
 obtain⟨aM,aT,b5,hC⟩:=h;unfold adS dp hS cf bw bD bm bf aR bQ cS bY be h' bU dE cE pE;show _=mpure (lS x);simp only[show yV.sh x.2.2.2.2=mpure (r9 x.2.2.2.2) from rfl,oe,aN,cC,aew];unfold lS;rw[show (!(decide ((x.1.length:Int) > 3)||decide ((x.2.1.length:Int) > 12)||decide ((x.2.2.1.length:Int) > 12)||decide ((x.2.2.2.1.length:Int) > 4))&&r9 x.2.2.2.2)=vS x from rfl];cases U:vS x with
 | false=>rfl
 | true=>
  rw[if_pos rfl];rw[eH x.1 (λi (_:Unit)=>(x.1,(x.1.length:Int),(i:Int),x,())) (λy b=>if (!vR y)=true then .aV (.aV false) else .aw b) (λ_=>.aw (x,())) () ?_ ?_ ?_]
  ·rw[m' (q:=vR) _ _ (λ_=>rfl)];cases hc:x.1.all vR with
   | false=>simp
   | true=>
    simp only[if_true,aN,cY];rw[eH (List.range x.2.2.2.1.length) (λi (_:Unit)=>(x.2.2.2.1,(x.2.2.2.1.length:Int),(i:Int),x,())) (λy b=>if (!lR x.2.2.2.1 y)=true then .aV (.aV false) else .aw b) (λ_=>.aw (x,())) () ?_ ?_ ?_]
    ·rw[m' (q:=lR x.2.2.2.1) _ _ (λ_=>rfl)];unfold Eb;cases ax:(List.range x.2.2.2.1.length).all (lR x.2.2.2.1) with
     | false=>simp
     | true=>
      simp only[if_true,aN,cY];have aE:(h3 iY).sh (x.2.1,λy=>HX.sh (y,some x))=mpure (!x.2.1.all (nL x.1.length)):=by
       have ay:∀ y,HX.sh (y,some x)=mpure (!nL x.1.length y):=λy=>bP ⟨x,rfl,aM⟩ _;refine (bP ⟨aT,λy _=>⟨_,ay y⟩⟩ _).trans ?_;refine congrArg mpure ?_;rw[<-aex];simp_all
      have bz:(h3 bK).sh (x.2.2.1,D6.sh)=mpure (!x.2.2.1.all (λn=>cJ n 0 99)):=by
       refine (bP ⟨b5,λy _=>⟨_,rfl⟩⟩ _).trans ?_;refine congrArg mpure ?_;rw[<-aex];show (x.2.2.1.any λy=>(D6.sh y).val false)=_;simp only[show ∀ y,D6.sh y=mpure (!cJ y 0 99) from λ_=>rfl,kF]
      rw[aE,bz];simp only[aN,oe];grind
    ·rfl
    ·intro i G b;have G:i<x.2.2.2.1.length:=by grind
     have hw:=bs (n:=(i:Int)+1);have gz:=bs (n:=(i:Int) - 1);have j7:x.2.2.2.1.getD i (0,0)=x.2.2.2.1[i]:=by grind
     have vT:(decide ((i:Int) > 0))=decide (0<i):=by simp
     have D:decide (0<i)=true->((0:Int)<=(i:Int) - 1/\(i:Int) - 1<(x.2.2.2.1.length:Int)):=λh=>by grind
     refine MH (mk:=λ(_:Unit)=>(x.2.2.2.1,(x.2.2.2.1.length:Int),((i+1:Nat):Int),x,())) (b:=b) ?_ ?_<;>intro bB<;>
     ·simp only[aPJ,lR,j7]at bB;simp only[cC,dQ G,if_true,ed G,dK G,cp,aO.sh,dy,sE,tK,kF,dm,hw,gz,vT,T0,aPJ];revert bB;generalize cJ x.2.2.2.1[i].1 0 x.2.2.2.1[i].2=cT;generalize decide (x.2.2.2.1[i].2 > 9999)=fc;generalize decide (x.2.2.2.1[i].1<=(x.2.2.2.1.getD (i - 1) (0,0)).2)=jf;revert D;generalize decide (0<i)=u6;intro D;cases u6
      ·cases cT<;>cases fc<;>cases jf<;>simp
      ·have D:=D rfl;cases cT<;>cases fc<;>cases jf<;>simp[D,(by omega:(1:Int)<=(i:Int))]
    simp
  ·rfl
  ·intro i G b;have hw:=bs (n:=(i:Int)+1);refine MH (mk:=λ(_:Unit)=>(x.1,(x.1.length:Int),((i+1:Nat):Int),x,())) (b:=b) ?_ ?_<;>intro bB<;>
   ·simp only[vR]at bB;simp only[cC,dQ G,if_true,ed G,dK G,cp,aO.sh,dy,sE,aN,dm,hw];grind
  simp
abbrev lT:bI:=(0,0,0,0,0,0)
def nc(l:List bI):Bool:=(List.range l.length).any λi=>(List.range i).any λk=>xG (l.getD k lT) (l.getD i lT)
def dH(c:bg):Int:=if lS c=true then (if nc c.2.1=true then 91 else 0) else 90
abbrev jV:aO:=⟨lv,bK,lD,λc=>dH c⟩
variable {i:Nat}
theorem xJ{l:List ag}{d:ag}(h:i<l.length):l.getD i d=l[i]:=by grind
theorem awb(x):a8 (adC yX.sh MC.sh x) (jV.sh x):=bx λh=>by
 obtain⟨aM,aT,b5,hC⟩:=id h;unfold adC iA bw bD bm bf bQ cS iM bY be bU dE m_;show _=mpure (dH x);rw[show yX.sh x=mpure (lS x) from bP h _];unfold dH;cases lS x with
 | false=>simp
 | true=>
  simp only[aN,aQm,aml,aPH,if_true];rw[eH (List.range x.2.1.length) (λi (_:Unit)=>((i:Int),x,())) (λi b=>if ((List.range i).any λk=>xG (x.2.1.getD k lT) (x.2.1.getD i lT))=true then .aV (.aV 91) else .aw b) (λ_=>.aw ()) () ?_ ?_ ?_]
  ·rw[uH];unfold nc;cases (List.range x.2.1.length).any λi=>(List.range i).any λk=>xG (x.2.1.getD k lT) (x.2.1.getD i lT)<;>simp
  ·rfl
  ·intro i G b;have G:i<x.2.1.length:=by grind
   have hw:=bs (n:=(i:Int)+1);have ax:decide ((i:Int)<Int.ofNat x.2.1.length)=true:=dQ G;simp only[ax,if_true,aPJ];rw[eH (List.range i) (λk (_:Unit)=>((i:Int),(k:Int),x,())) (λk b=>if xG (x.2.1.getD k lT) (x.2.1.getD i lT)=true then .aV (.aV (.aV (.aV 91))) else .aw b) (λ_=>(.aw ((i:Int),x,()):aJ (Int×bg×Unit) (aJ (Int×bg×Unit) (aJ Unit Int)))) () ?_ ?_ ?_]
   ·rw[uH];cases (List.range i).any λk=>xG (x.2.1.getD k lT) (x.2.1.getD i lT)<;>simp[hw]
   ·rfl
   ·intro k ak b;have ak:k<i:=by grind
    have oj:k<x.2.1.length:=by omega
    have hw:=bs (n:=(k:Int)+1);have ax:decide ((k:Int)<(i:Int))=true:=by grind
    simp only[ax,if_true,cC,dK oj,dK G,cp,aO.sh,MC,sE,tK,kF,aN,dm,hw,aPJ,avZ];exact pG (mk:=λ(_:Unit)=>((i:Int),((k+1:Nat):Int),x,()))
   simp
  simp
def iN(l:List bI):List bI:=(fM 0 99).filterMap λid=>l.find? λs=>s.1 == id
def hd(c:bg):List bI:=(iN c.2.1).filter λs=>!c.2.2.1.contains s.1
theorem awc(l:List bI):(iN l).length<=100:=by
 refine aPL (List.length_filterMap_le _ _) ?_;rw[show (fM 0 99).length=100 from by decide];omega
def lU(m:List (Int×bI))(k:Int):Option bI:=(m.find? λp=>decide (k=p.1)).map (·.2)
def mg(m:List (Int×bI)):z1':=m.map (·.1)
theorem T1(p:Int×bI)(m:List (Int×bI))(k:Int)(v:bI):nK (p::m) k v=if decide (k=p.1)=true then (p.1,v)::m else p::nK m k v:=rfl
theorem T2(k:Int)(v:bI):nK [] k v=[(k,v)]:=rfl
theorem aey(k:Int)(v:bI):∀ m:List (Int×bI),(nK m k v).length<=m.length+1
 | []=>by rw[T2];simp
 | p::m=>by
  rw[T1];split
  ·simp
  ·simp;exact aey k v m
theorem T3(k:Int)(v:bI)(x:Int):∀ m:List (Int×bI),lU (nK m k v) x=if x=k then some v else lU m x
 | []=>by
  rw[T2];by_cases h:x=k<;>simp[lU]
 | p::m=>by
  rw[T1];have aP:=T3 k v x m;unfold lU at aP ⊢;grind
theorem HZ(k:Int)(v:bI):∀ m:List (Int×bI),((mg m).Nodup->(mg (nK m k v)).Nodup)/\∀ x,x∈mg (nK m k v)<->x∈mg m\/x=k
 | []=>by rw[T2];simp[mg]
 | p::m=>by
  obtain⟨E,L⟩:=HZ k v m;rw[T1];by_cases h:k=p.1
  ·subst h;simp;refine⟨λh=>h,λx=>?_⟩;show x∈p.1::mg m<->x∈p.1::mg m\/x=p.1;grind
  ·simp  [h,aPH];refine⟨λaC=>?_,λx=>?_⟩
   ·show (p.1::mg (nK m k v)).Nodup;have xb:(p.1::mg m).Nodup:=aC;grind
   ·show x∈p.1::mg (nK m k v)<->x∈p.1::mg m\/x=k;grind
variable {m:List (Int×bI)}{k:Int}
theorem aez:k∈mg m<->(lU m k).isSome=true:=by
 unfold lU mg;simp
def Ec(l:List bI):Prop:=∀ a∈l,∀ b∈l,a.1=b.1->a=b
def tl(l:List bI)(k:Int):Option bI:=l.find? λs=>s.1 == k
def vU:List bI->List (Int×bI)->Option (List (Int×bI))
 | [],m=>some m
 | s::l,m=>if ((lU m s.1).isSome&&!decide ((lU m s.1).getD lT=s))=true then none else vU l (nK m s.1 s)
structure xK(P:List bI)(m:List (Int×bI)):Prop where
 rp:∀ k,lU m k=tl P k
 ko:(mg m).Nodup
 Ed:Ec P
 tm:m.length<=P.length
variable {l:List bI}{s:bI}
theorem aeA(h:tl l k=some s):s∈l/\s.1=k:=by
 unfold tl at h;grind
theorem awd(h:tl l k=none):∀ s∈l,s.1≠k:=by
 unfold tl at h;grind
theorem xK.nil:xK [] []:=⟨λ_=>rfl,.nil,λa h=>by simp,amn _⟩
theorem Ee:∀ (l P:List bI) (m:List (Int×bI)),xK P m->(Ec (P++l)->∃ dw,vU l m=some dw/\xK (P++l) dw)/\(¬Ec (P++l)->vU l m=none)
 | [],P,m,h=>by simp;exact⟨λ_=>⟨m,rfl,h⟩,λaC=>absurd h.Ed aC⟩
 | s::l,P,m,h=>by
  unfold vU;rw[h.rp];cases ay:tl P s.1 with
  | some o=>
   obtain⟨au,G⟩:=aeA ay;by_cases he:o=s
   ·have:=Ee l (P++[o]) (nK m o.1 o) ⟨λk=>?_,(HZ _ _ _).1 h.ko,?_,?_⟩
    ·grind
    ·rw[T3,h.rp];unfold tl at ay ⊢;grind
    ·intro a aY b U H0;simp  at aY U;exact h.Ed a (aY.elim id λe=>e ▸ au) b (U.elim id λe=>e ▸ au) H0
    ·have hm:=aez.2 (by rw[h.rp,ay];rfl);have ah:=by
      have E:=(HZ o.1 o m).1 h.ko;have L:mg (nK m o.1 o) ⊆ mg m:=λx al=>by
       rcases ((HZ o.1 o m).2 x).1 al with al | al<;>grind
      exact E.length_le_of_subset L
     have:=h.tm;simp  [mg]at ah;grind
   ·simp only[aPS,amx,he,aQj,aQu,Bool.and_self,if_true];refine⟨λaC=>absurd (aC o (by grind) s (by simp) G) he,λ_=>trivial⟩
  | none=>
   have:=Ee l (P++[s]) (nK m s.1 s) ⟨λk=>?_,(HZ _ _ _).1 h.ko,?_,?_⟩
   ·grind
   ·rw[T3,h.rp];unfold tl at ay ⊢;grind
   ·have ay:=awd ay;intro a aY b U H0;simp  at aY U;rcases aY with aY | rfl<;>rcases U with U | rfl
    ·exact h.Ed a aY b U H0
    ·grind
    ·grind
    ·rfl
   ·have:=aey s.1 s m;have:=h.tm;grind
theorem Ef(l:List bI):nc l=false<->Ec l:=by
 unfold nc xG;rw[<-Bool.not_eq_true,List.any_eq_true];constructor
 ·intro h a aY b U H0;obtain⟨i,G,rfl⟩:=List.mem_iff_getElem.1 aY;obtain⟨k,ak,rfl⟩:=List.mem_iff_getElem.1 U;by_cases he:l[i]=l[k]
  ·omega
  ·exfalso;have eM:i≠k:=λe=>he (by grind);rcases Nat.lt_or_gt_of_ne eM with dv | dv
   ·refine h ⟨k,by grind,List.any_eq_true.2 ⟨i,by grind,?_⟩⟩;grind
   ·refine h ⟨i,by grind,List.any_eq_true.2 ⟨k,by grind,?_⟩⟩;grind
 ·rintro h ⟨i,G,ak⟩;obtain⟨k,ak,hc⟩:=List.any_eq_true.1 ak;simp  at G ak;rw[xJ G,xJ (by omega)]at hc;simp  at hc;exact hc.2 (h _ (amk _) _ (amk _) hc.1)
theorem awe:nc l=true<->¬Ec l:=by rw[<-Ef];simp
theorem aeB(h:xK l m)(hid:∀ s∈l,cJ s.1 0 99=true):(hb jq (mg m)).map (λk=>(lU m k).getD lT)=iN l:=by
 have aE:hb jq (mg m)=(fM 0 99).filter λk=>(tl l k).isSome:=by
  refine D7 ?_ ?_
  ·refine aQ8 _ ?_;unfold fM;rw[aQ7];exact (aQJ).imp λh=>by omega
  ·refine (aQL h.ko ?_).2 λk=>?_
   ·refine aQ8 _ ?_;unfold fM;rw[aQ7];exact (aQJ).imp λh=>by omega
   ·rw[aez,h.rp,List.mem_filter,vL];refine⟨λaz=>⟨?_,az⟩,λaz=>az.2⟩;obtain⟨s,az⟩:=Option.isSome_iff_exists.1 az;obtain⟨E,L⟩:=aeA az;exact L ▸ uK.1 (hid s E)
 unfold iN;have:∀ ab:z1',(ab.filter λk=>(tl l k).isSome).map (λk=>(lU m k).getD lT)=ab.filterMap λid=>l.find? λs=>s.1 == id:=by
  intro ab;induction ab with
  | nil=>rfl
  | cons k ab aP=>
   have e:(l.find? λs=>s.1 == k)=tl l k:=rfl;cases ay:tl l k with
   | none=>grind
   | some s=>
    have j8:(lU m k).getD lT=s:=by rw[h.rp,ay];rfl
    grind
 grind
theorem awf(h:xK l m)(hid:∀ s∈l,cJ s.1 0 99=true):(iN l).length<=l.length:=by
 rw[<-aeB h hid,aPW,MD,mg,aPW];exact h.tm
theorem aeC{rho:Type}{r:rho}{fin:List (Int×bI)->rho}:∀ (l:List bI) (m:List (Int×bI)),fa (λs m=>if ((lU m s.1).isSome&&!decide ((lU m s.1).getD lT=s))=true then .aV r else .aw (nK m s.1 s)) fin l m=match vU l m with | none=>r | some dw=>fin dw
 | [],m=>rfl
 | s::l,m=>by
  simp only[fa,vU];by_cases h:((lU m s.1).isSome&&!decide ((lU m s.1).getD lT=s))=true
  ·grind
  ·simp only[h,aPH];exact aeC l _
def By(l:List bI):Prop:=l.length<=24/\∀ s∈l,cJ s.1 0 99=true
abbrev Eg:aO:=⟨.slice iY,.ar (.slice iY) .bool,By,λl=>if nc l=true then ([],false) else (iN l,true)⟩
theorem awg{Bz:z1'}(h:Bz.length<=24) :
 dA (λ(A:z1'×Int×Int×List bI×List (Int×bI)×Unit)=>if decide (A.2.2.1<A.2.1)=true then ae (0<=A.2.2.1/\A.2.2.1<Int.ofNat (List.length A.1)) (ae (cb
 (Add.add (List.length A.2.2.2.1) (Add.add 0 1))) (mpure (aJ.aw (A.1,A.2.1,IntKind.wrap .i64 (Add.add A.2.2.1 1),A.2.2.2.1++[Option.getD
 (Option.map (λx=>x.2) (List.find? (λp=>decide (List.getD A.1 (Int.toNat A.2.2.1) 0=p.1)) A.2.2.2.2.1)) (0,0,0,0,0,0)],A.2.2.2.2.1,())))) else aq (mpure (aJ.aw (A.2.2.2.1,()))) λr=>mpure (aJ.aV r)) (Bz,Int.ofNat (List.length Bz),0,[],m,())=mpure (aJ.aw (Bz.map (λk=>(lU m k).getD lT),()):aJ (List bI×Unit) rho):=by
 rw[e2 Bz (λi b=>(Bz,(Bz.length:Int),(i:Int),b,m,())) (λk b=>.aw (b++[(lU m k).getD lT])) (λb=>.aw (b,())) (λi b=>b.length=i) [] ?_ ?_ ?_ ?_]
 ·rw[ec,r4];rfl
 ·rfl
 ·rfl
 ·intro i G b U;have hw:=bs (n:=i+1);refine⟨?_,λbj ef=>?_⟩
  ·simp only[cC,dQ G,ed G,dK G,cp,dm,hw];rw[bc (i' (by grind))];rfl
  grind
 simp
variable {hh:Type}
def vV(R:M hh):List bI×Int×Int×List (Int×bI)×Unit->M (aJ (List bI×Int×Int×List (Int×bI)×Unit) (aJ (List (Int×bI)×Unit) hh)):=λ(A:List bI×Int×Int×List (Int×bI)×Unit)=>if decide (A.2.2.1<A.2.1)=true then ae (0<=A.2.2.1/\A.2.2.1 <
 Int.ofNat (List.length A.1)) (if (Option.isSome (Option.map (λx=>x.2) (List.find? (λp=>decide ((List.getD A.1 (Int.toNat A.2.2.1) (0,0,0,0,0,0)).1=p.1)) A.2.2.2.1))&&!(decide ((Option.getD (Option.map (λx=>x.2) (List.find? (λp=>decide ((List.getD A.1 (Int.toNat A.2.2.1)
 (0,0,0,0,0,0)).1=p.1)) A.2.2.2.1)) (0,0,0,0,0,0)).1=(List.getD A.1 (Int.toNat A.2.2.1) (0,0,0,0,0,0)).1)&&(decide ((Option.getD
 (Option.map (λx=>x.2) (List.find? (λp=>decide ((List.getD A.1 (Int.toNat A.2.2.1) (0,0,0,0,0,0)).1=p.1)) A.2.2.2.1)) (0,0,0,0,0,0)).2.1=(List.getD A.1 (Int.toNat A.2.2.1) (0,0,0,0,0,0)).2.1)&&(decide ((Option.getD (Option.map (λx=>x.2) (List.find? (λp=>
 decide ((List.getD A.1 (Int.toNat A.2.2.1) (0,0,0,0,0,0)).1=p.1)) A.2.2.2.1)) (0,0,0,0,0,0)).2.2.1=(List.getD A.1 (Int.toNat A.2.2.1)
 (0,0,0,0,0,0)).2.2.1)&&(decide ((Option.getD (Option.map (λx=>x.2) (List.find? (λp=>decide ((List.getD A.1 (Int.toNat A.2.2.1) (0,0,0,0,0,0)).1=p.1)) A.2.2.2.1)) (0,0,0,0,0,0)).2.2.2.1=(List.getD A.1 (Int.toNat A.2.2.1) (0,0,0,0,0,0)).2.2.2.1)&&(decide
 ((Option.getD (Option.map (λx=>x.2) (List.find? (λp=>decide ((List.getD A.1 (Int.toNat A.2.2.1) (0,0,0,0,0,0)).1=p.1)) A.2.2.2.1))
 (0,0,0,0,0,0)).2.2.2.2.1=(List.getD A.1 (Int.toNat A.2.2.1) (0,0,0,0,0,0)).2.2.2.2.1)&&decide ((Option.getD (Option.map (λx=>x.2)
 (List.find? (λp=>decide ((List.getD A.1 (Int.toNat A.2.2.1) (0,0,0,0,0,0)).1=p.1)) A.2.2.2.1)) (0,0,0,0,0,0)).2.2.2.2.2=(List.getD
 A.1 (Int.toNat A.2.2.1) (0,0,0,0,0,0)).2.2.2.2.2)))))))=true then aq (aq R λr=>mpure (aJ.aV r)) λr=>
 mpure (aJ.aV r) else mpure (aJ.aw (A.1,A.2.1,IntKind.wrap .i64 (Add.add A.2.2.1 1),nK A.2.2.2.1 (List.getD A.1 (Int.toNat A.2.2.1)
 (0,0,0,0,0,0)).1 (List.getD A.1 (Int.toNat A.2.2.1) (0,0,0,0,0,0)),()))) else aq (mpure (aJ.aw (A.2.2.2.1,()))) λr=>mpure
 (aJ.aV r)
theorem aeD{R:M hh}(ah:l.length<=24)(G:i<l.length)(m:List (Int×bI)):vV R (l,(l.length:Int),(i:Int),m,())=if ((lU m l[i].1).isSome&&!decide ((lU m l[i].1).getD lT=l[i]))=true then aq (aq R λr=>mpure (aJ.aV r)) λr=>mpure (aJ.aV r) else mpure (.aw (l,(l.length:Int),((i+1:Nat):Int),nK m l[i].1 l[i],())):=by
 have hw:=bs (n:=i+1);unfold vV;simp only[cC,ed G,dK G,cp,dm];rw[show (Option.map (λx=>x.2) (List.find? (λp=>decide (l[i].1=p.1)) m))=lU m l[i].1 from rfl];grind
theorem aeE{R:M hh}(m:List (Int×bI)):vV R (l,(l.length:Int),(l.length:Int),m,())=mpure (.aV (.aw (m,()))):=by
 unfold vV;simp
def Eh(k:List bI->M hh):List (Int×bI)×Unit->M hh:=λ(A:List (Int×bI)×Unit)=>aq (aq
 (Ea.sh A.1) λy=>aq (vQ.sh y) λy=>dA (λ(A:z1'×Int×Int×List bI×
 List (Int×bI)×Unit)=>if decide (A.2.2.1<A.2.1)=true then ae (0<=A.2.2.1/\A.2.2.1<Int.ofNat (List.length A.1)) (ae (cb
 (Add.add (List.length A.2.2.2.1) (Add.add 0 1))) (mpure (aJ.aw (A.1,A.2.1,IntKind.wrap .i64 (Add.add A.2.2.1 1),A.2.2.2.1++[Option.getD
 (Option.map (λx=>x.2) (List.find? (λp=>decide (List.getD A.1 (Int.toNat A.2.2.1) 0=p.1)) A.2.2.2.2.1)) (0,0,0,0,0,0)],A.2.2.2.2.1,())))) else aq (mpure (aJ.aw (A.2.2.2.1,()))) λr=>mpure (aJ.aV r)) (y,Int.ofNat (List.length y),0,[],A.1,())) (aJ.fC λ(A
 : List bI×Unit)=>k A.1)
theorem awh(fk:xK l m)(hid:By l)(k:List bI->M hh):Eh k (m,())=k (iN l):=by
 obtain⟨ah,hid⟩:=hid;have ai:vQ.pre (lQ (some m)):=aeu (by have:=fk.tm;omega);have e:vQ.sh (lQ (some m))=mpure (hb jq (mg m)):=by
  refine (bP ai _).trans (congrArg mpure ?_);exact aev
 unfold Eh;rw[show Ea.sh m=mpure (lQ (some m)) from rfl,aN,e,aN,awg (by rw[MD,mg,aPW];have:=fk.tm;omega),aN,cY,aeB fk hid]
theorem aeF(l:List bI)(h:By l)(hc:nc l=false)(k:List bI->M hh)(R:M hh) :
  aq (dA (vV R) (l,Int.ofNat (List.length l),0,[],())) (aJ.fC (Eh k))=k (iN l):=by
 have aC:=(Ef l).1 hc;obtain⟨E,_⟩:=Ee l [] [] .nil;rw[aQk]at E;obtain⟨m,hm,fk⟩:=E aC;have key:dA (vV R) (l,Int.ofNat (List.length l),0,[],())=mpure (.aw (m,())):=by
  have gen:∀ (k:Nat) (i:Nat) (dw:List (Int×bI)),l.length - i=k->i<=l.length->vU (l.drop i) dw=some m->xK (l.take i) dw->dA (vV R) (l,l.length,i,dw,())=mpure (.aw (m,())):=by
   intro k;induction k with
   | zero=>
    intro i dw ak G au _;have:i=l.length:=by omega
    subst this;simp  [vU]at au;subst au;exact u7 (aeE _)
   | succ k aP=>
    intro i dw ak G au SP;have G:i<l.length:=by omega
    rw[aPM G]at au;unfold vU at au;split at au
    ·grind
    ·rename_i Gj;refine (CD ((aeD h.1 G dw).trans (if_neg Gj))).trans ?_;obtain⟨dt,_⟩:=Ee [l[i]] (l.take i) dw SP;have tn:l.take i++[l[i]]=l.take (i+1):=by simp
     rw[tn]at dt;obtain⟨aN_,aE,bz⟩:=dt λa aY b U=>aC a (aP0 aY) b (aP0 U);simp  [vU]at aE;grind
  exact gen l.length 0 [] rfl (aPR _) hm .nil
 rw[key,aN,cY,awh fk h]
theorem awi(l:List bI)(h:By l)(hc:nc l=true)(k:List bI->M hh)(r:hh) :
  aq (dA (vV (mpure r)) (l,Int.ofNat (List.length l),0,[],())) (aJ.fC (Eh k))=mpure r:=by
 rw[eH l (λi m=>(l,(l.length:Int),(i:Int),m,())) (λs m=>if ((lU m s.1).isSome&&!decide ((lU m s.1).getD lT=s))=true then (.aV (.aV r)) else .aw (nK m s.1 s)) (λm=>.aw (m,())) [] ?_ ?_ ?_]
 ·rw[aeC];obtain⟨_,L⟩:=Ee l [] [] .nil;rw[L (awe.1 hc)];simp
 ·rfl
 ·intro i G m;rw[aeD h.1 G m,aN,aN];exact acd (mk:=λm=>(l,(l.length:Int),((i+1):Int),m,()))
 ·intro m;exact aeE m
theorem awj(x):a8 (avm vQ.sh Ea.sh x) (Eg.sh x):=bx λh=>by
 show aq (dA (vV (mpure ([],false))) (x,Int.ofNat (List.length x),0,[],())) (aJ.fC (Eh λa=>mpure (a,true)))=mpure (if nc x=true then ([],false) else (iN x,true));cases hc:nc x with
 | true=>exact awi x h hc _ _
 | false=>exact aeF x h hc _ _
def MI(x:List bI×Unit):M (Bool×List bI×Unit):=eE (By x.1/\nc x.1=false) (true,iN x.1,())
theorem awk(x):a8 (avu vQ.sh Ea.sh x) (MI x):=bx λh=>by
 show aq (dA (vV (mpure (false,[],()))) (x.1,Int.ofNat (List.length x.1),0,[],())) (aJ.fC (Eh λa=>mpure (true,a,())))=_;exact aeF x.1 h.1 h.2 _ _
variable {c:bg}
theorem MJ(h:lS c=true):By c.2.1:=by
 unfold lS vS at h;simp only[amm,aPZ,aPO,aQo,aPX]at h;obtain⟨⟨⟨⟨⟨bA,_⟩,_⟩,L⟩,_⟩,_⟩:=h;refine⟨by omega,λs az=>?_⟩;have:=L s az;unfold nL at this;grind
theorem awl(x):a8 (adB yX.sh Eg.sh x) (jV.sh x):=bx λh=>by
 unfold adB bD;show _=mpure (dH x);rw[show yX.sh x=mpure (lS x) from bP h _];unfold dH;cases hc:lS x with
 | false=>simp
 | true=>
  rw[show Eg.sh x.2.1=mpure (if nc x.2.1=true then ([],false) else (iN x.2.1,true)) from bP (MJ hc) _];cases nc x.2.1<;>simp
def MK(x:(bI->M Bool)×List bI×Unit):M ((z21')×List bI×Unit):=eE (x.2.1.length<2 ^ 63/\∀ y∈x.2.1,∃ b,x.1 y=mpure b)
 ((0,(x.2.1.filter λs=>!(x.1 s).val false).length),(x.2.1.filter λs=>!(x.1 s).val false)++List.replicate (x.2.1.length - (x.2.1.filter λs=>!(x.1 s).val false).length) lT,())
theorem aeG{ag:Type}(p:ag->Bool):∀ (l:List ag) (i:Int),(l.any p=true->∃ k:Nat,∃ h:k<l.length,jJ p l i=i+k/\p l[k]=true/\(∀ y∈l.take k,p y=false))
 | [],i,h=>by grind
 | x::l,i,h=>by
  unfold jJ;by_cases al:p x=true
  ·grind
  ·have oH:p x=false:=by grind
   simp only[aQE,oH]at h;obtain⟨k,ak,E,L,an⟩:=aeG p l (i+1) h;refine⟨k+1,by grind,by grind,by grind,?_⟩;grind
theorem awm(x):a8 (aec (kU iY).sh x) (MK x):=bx λh=>by
 obtain⟨f,l,u⟩:=x;obtain⟨E,L⟩:=h;change l.length<2 ^ 63 at E;change ∀ y∈l,∃ b,f y=mpure b at L;unfold aec iA bw cB bm bf aR bQ bY be bU;rw[show (kU iY).sh (l,f)=mpure (jJ (λy=>(f y).val false) l 0) from bP ⟨E,L⟩ _];rw[aN];by_cases aY:(l.any λy=>(f y).val false)=true
 ·obtain⟨k,ak,aE,bz,c_⟩:=aeG (λy=>(f y).val false) l 0 aY;have hw:=bs (n:=k+1);rw[aE];generalize bB:(λs=>!(f s).val false)=q at *
  have awn:∀ s,(!(f s).val false)=q s:=λs=>by grind
  have tn:l.take k=(l.take k).filter q:=by
   rw[List.filter_eq_self.2];grind
  have Ei:(l.take (k+1)).filter q=l.take k:=by
   rw[aQH,ams ak,aQw];grind
  rw[eH (l.drop (k+1)) (λi (_)=>(f,(((l.take (k+1+i)).filter q).length:Int),((k+1+i:Nat):Int),(l.take (k+1+i)).filter q++l.drop ((l.take (k+1+i)).filter q).length,())) (λ_ u=>.aw u) (λ_=>.aw (((l.filter q).length),l.filter q++l.drop (l.filter q).length,())) () ?_ ?_ ?_]
  ·rw[ec];have hlen:(l.filter q).length<=l.length:=aQe _ _;have hp:(l.filter q++l.drop (l.filter q).length).length=l.length:=by grind
   simp only[aN,cY,cC,hp];rw[bc (by omega)];simp only[cp,aPV];have aeH:List.take (l.filter q).length (l.filter q++l.drop (l.filter q).length)=l.filter q:=List.take_left;rw[aeH];refine (bc ⟨by omega,by omega,by grind⟩ _).trans ?_;refine congrArg mpure (Prod.ext rfl (Prod.ext ?_ rfl));exact (congrArg (λz=>_++z) (List.drop_eq_nil_iff.2 (by simp))).trans (aPT _)
  ·rw[aRm,dm,hw];refine Prod.ext rfl (Prod.ext ?_ (Prod.ext ?_ (Prod.ext ?_ rfl)))
   ·grind
   ·rfl
   ·rw[Ei,aQl,Nat.min_eq_left (by omega),aQ1]
  ·intro i G _;have G:k+1+i<l.length:=by grind
   have hle:((l.take (k+1+i)).filter q).length<=k+i:=by
    rw[List.take_add,aQw,Ei];grind
   have dv:((l.take (k+1+i)).filter q).length<l.length:=by omega
   have oZ:((l.take (k+1+i)).filter q++l.drop ((l.take (k+1+i)).filter q).length).length=l.length:=by grind
   have hw:=bs (n:=((k+1+i))+1);have gz:=bs (n:=(((l.take (k+1+i)).filter q).length)+1) (by omega) (by omega);have dR:k+1+i<((l.take (k+1+i)).filter q++l.drop ((l.take (k+1+i)).filter q).length).length:=by omega
   have Kq:((l.take (k+1+i)).filter q).length<((l.take (k+1+i)).filter q++l.drop ((l.take (k+1+i)).filter q).length).length:=by omega
   have j7:((l.take (k+1+i)).filter q++l.drop ((l.take (k+1+i)).filter q).length)[k+1+i]=l[k+1+i]:=by
    rw[aQP (by omega)];grind
   obtain⟨b,U⟩:=L _ (amk G);have af:q l[k+1+i]=!b:=by rw[<-awn,U,kF]
   have tn:(l.take (k+1+(i+1))).filter q=(l.take (k+1+i)).filter q++(if (!b)=true then [l[k+1+i]] else []):=by
    rw[show k+1+(i+1)=k+1+i+1 from rfl,aQH,ams G,aRg,aQw,List.filter_cons,af,List.filter_nil]
   simp only[cC,dQ dR,ed dR,dK dR,dK Kq,j7,U,gz];cases b with
   | true=>
    simp  at tn ⊢;grind
   | false=>
    simp  at tn ⊢;have es:(List.filter q (List.take (k+1+i) l)++List.drop (List.filter q (List.take (k+1+i) l)).length l).set (List.filter q (List.take (k+1+i) l)).length l[k+1+i]=(l.take (k+1+(i+1))).filter q++l.drop ((l.take (k+1+(i+1))).filter q).length:=by
     rw[tn,List.set_append_right _ _ (amn _),Nat.sub_self,aPM dv,List.set_cons_zero];simp
    grind
  ·intro _;have ah:(l.drop (k+1)).length=l.length - (k+1):=by simp
   have bN:k+1+(l.drop (k+1)).length=l.length:=by omega
   simp only[bN,aQc];rw[if_neg (by grind),aN]
 ·rw[HW _ _ aY];have:(l.filter λs=>!(f s).val false)=l:=by
   simp_all
  simp  [this,aPT]
abbrev bN:b3:=((0,0,0,0,0,0),0)
def rs(c:bg)(w:z1')(u:Int):List b3:=((hd c).filter λs=>decide (xF s=u)).map λs=>(s,Bu s+w.getD (r8 s).toNat 0)
def cL(c:bg)(w:z1')(u:Int):List b3:=hb kp (rs c w u)
def tp(l:List b3)(i:Nat):Bool:=!(decide (0<i)&&decide ((l.getD i bN).2=(l.getD (i - 1) bN).2))&&decide (fx (l.getD i bN).1=1+((i % 2:Nat):Int))
def ja(l:List b3):Bool:=(List.range l.length).all (tp l)
structure iO(c:bg):Prop where
 T4:dH c=0
 eA:c.1.length<=3
 eG:c.2.1.length<=12
 lk:c.2.2.1.length<=12
 n4:c.2.2.2.1.length<=4
 lI:lS c=true
 Ed:Ec c.2.1
 T5:r9 c.2.2.2.2=true
 clk:∀ s∈c.1,-30<=s.1/\s.1<=s.2/\s.2<=30
 kV:∀ s∈c.2.1,nL c.1.length s=true
 jh:Eb c.2.2.2.1=true
theorem ru(h:dH c=0):iO c:=by
 have aW:=h;unfold dH at h;split at h
 ·rename_i hc;split at h
  ·omega
  ·rename_i aC;have pA:=hc;unfold lS vS at hc;simp only[amm,aPZ,aPO,aQo,aPX]at hc;obtain⟨⟨⟨⟨⟨⟨⟨⟨cr,b4⟩,eh⟩,gi⟩,gf⟩,ih⟩,ij⟩,jW⟩,gC⟩:=hc;refine⟨aW,by omega,by omega,by omega,by omega,pA,(Ef _).1 (by grind),gf,λs az=>?_,ij,gC⟩;have:=ih s az;unfold vR at this;simp only[amm,aPO,aPX,uK]at this;omega
 omega
theorem Ej{n:Nat}:nL n s=true<->(0<=oi s/\oi s<=99)/\(0<=r8 s/\r8 s<=(n:Int) - 1)/\(0<=Bu s/\Bu s<=9999)/\(0<=xF s/\xF s<=9)/\(0<=kH s/\kH s<=99)/\(fx s=1\/fx s=2/\kH s=0):=by
 unfold nL;simp only[amm,uK,aPU,amp,and_assoc]
theorem iO.awo(h:iO c):∃ m,xK c.2.1 m:=by
 obtain⟨E,_⟩:=Ee c.2.1 [] [] .nil;rw[aQk]at E;obtain⟨m,_,fk⟩:=E h.Ed;grind
theorem iO.T6(h:iO c):(hd c).length<=12:=by
 obtain⟨m,fk⟩:=h.awo;have E:=awf fk (MJ h.lI).2;have L:=aQe (λs:bI=>!c.2.2.1.contains s.1) (iN c.2.1);have:=h.eG;unfold hd;omega
theorem H2(h:s∈iN l):s∈l:=by
 unfold iN at h;grind
theorem awp(h:s∈hd c):s∈c.2.1:=H2 (List.mem_filter.1 h).1
theorem iO.Ek(h:iO c)(az:s∈hd c):nL c.1.length s=true:=h.kV s (awp az)
def sa(c:bg)(w:z1'):Prop:=w.length=c.1.length/\∀ n∈w,-30<=n/\n<=30
variable {w:z1'}
theorem sa.at(h:sa c w)(aD:iO c)(az:s∈hd c):0<=r8 s/\r8 s<(w.length:Int)/\-30<=w.getD (r8 s).toNat 0/\w.getD (r8 s).toNat 0<=30:=by
 have E:=(Ej.1 (aD.Ek az)).2.1;have ah:r8 s<(w.length:Int):=by rw[h.1];omega
 exact⟨E.1,ah,h.2 _ (Bn E.1 ah)⟩
theorem H3(h:iO c)(w:z1')(u:Int):(cL c w u).length<=12:=by
 unfold cL rs;rw[MD,aPW];exact aPL (aQe _ _) h.T6
variable {e:b3}
theorem H4{u:Int}(h:e∈cL c w u):e.1∈hd c/\xF e.1=u/\e.2=Bu e.1+w.getD (r8 e.1).toNat 0:=by
 unfold cL at h;rw[aep]at h;unfold rs at h;grind
theorem aeI(i:Nat):Int.tmod (i:Int) 2=((i % 2:Nat):Int):=by
 rfl
theorem awq(l:List b3)(i:Nat):(decide ((i:Int) > 0)&&decide ((l.getD i bN).2=(l.getD (i - 1) bN).2)||decide (fx (l.getD i bN).1≠1+((i % 2:Nat):Int)))=!tp l i:=by
 unfold tp;simp
def o0(a b:Int)(s:z12'):Int:=max 0 (min (b - 1) s.2 - max a s.1+1)
def om(cl:z4')(a b:Int):Int:=cl.foldl (λn s=>n - o0 a b s) (b - a)
def aeJ(cl:z4'):Prop:=cl.length<=4/\∀ s∈cl,0<=s.1/\s.1<=s.2/\s.2<=9999
theorem iO.T7(h:iO c):aeJ c.2.2.2.1:=by
 refine⟨h.n4,λs az=>?_⟩;have:=h.jh;unfold Eb at this;obtain⟨i,G,rfl⟩:=List.mem_iff_getElem.1 az;simp_all[lR,uK]
abbrev El(x:bg×Int×Int):Prop:=aeJ x.1.2.2.2.1/\-100<=x.2.1/\x.2.1<=x.2.2/\x.2.2<=11000
variable {a:Int}{s:z12'}{b:Int}
theorem awr(aY:-100<=a)(U:b<=11000)(az:0<=s.1/\s.1<=s.2/\s.2<=9999):0<=o0 a b s/\o0 a b s<=20000:=by
 unfold o0;omega
variable {n:Int}
theorem aws:(if n > 0 then n else 0)=max 0 n:=by omega
theorem awt:(if a<b then a else b)=min b a:=by omega
theorem awu:(if a<b then a else b)=min a b:=by omega
theorem awv:(if a > b then a else b)=max b a:=by omega
theorem aww:(if a > b then a else b)=max a b:=by omega
abbrev yY:aO:=⟨.ar lv (.ar bK bK),bK,El,λx=>om x.1.2.2.2.1 x.2.1 x.2.2⟩
theorem awx(x):a8 (adW x) (yY.sh x):=bx λh=>by
 obtain⟨c,a,b⟩:=x;obtain⟨⟨E,L⟩,an,a6,bS⟩:=h;change -100<=a at an;change a<=b at a6;change b<=11000 at bS;change c.2.2.2.1.length<=4 at E;unfold adW bw bm bf aR bQ bY vn be bU cE;have xy:=bs (n:=b - a);rw[e2 c.2.2.2.1 (λi n=>(a,b,n,c.2.2.2.1,(c.2.2.2.1.length:Int),(i:Int),())) (λs n=>.aw (n - o0 a b s)) (λn=>.aw (n,())) (λi n=>-(20000*i)<=n/\n<=20000) (b - a) ?_ ?_ ?_ ?_]
 ·rw[ec,aN];rfl
 ·grind
 ·omega
 ·intro i G n aC;have az:=L _ (amk G);have hc:=awr     an bS az;have hw:=bs (n:=i+1);refine⟨?_,λbj ef=>?_⟩
  ·simp only[cC,dQ G,ed G,dK G,cp,dm,hw];have cj:=bs (n:=b - 1);have dN:=bs (n:=min (b - 1) c.2.2.2.1[i].2 - max a c.2.2.2.1[i].1);have hF:=bs (n:=min (b - 1) c.2.2.2.1[i].2 - max a c.2.2.2.1[i].1+1);have H5:=bs (n:=n - o0 a b c.2.2.2.1[i]);simp only[cj,awu,aww,dN,hF];rw[show max (min (b - 1) c.2.2.2.1[i].2 - max a c.2.2.2.1[i].1+1) 0=o0 a b c.2.2.2.1[i] from Int.max_comm _ _,H5];rfl
  grind
 simp
def oo(t:uJ)(m:Int):Int:=if m>=t.2.2.2.2.1 then t.2.2.2.2.2.1 else min t.2.2.2.1 ((max 0 (m - t.1)+t.2.1 - 1) / t.2.1*t.2.2.1)
abbrev BA(x:uJ×Int):Prop:=r9 x.1=true/\-100000<=x.2/\x.2<=20000
abbrev yZ:aO:=⟨.ar TR bK,bK,BA,λx=>oo x.1 x.2⟩
variable {t:uJ}
theorem ML:r9 t=true<->(0<=t.1/\t.1<=9999)/\(1<=t.2.1/\t.2.1<=9999)/\(1<=t.2.2.2.2.1/\t.2.2.2.2.1<=9999)/\(0<=t.2.2.1/\t.2.2.1<=100000)/\(0<=t.2.2.2.1/\t.2.2.2.1<=100000)/\(0<=t.2.2.2.2.2.1/\t.2.2.2.2.2.1<=100000)/\(0<=t.2.2.2.2.2.2/\t.2.2.2.2.2.2<=100000):=by
 grind [r9,uK]
variable {m:Int}
theorem aeK(h:BA (t,m)):0<=(max 0 (m - t.1)+t.2.1 - 1) / t.2.1/\(max 0 (m - t.1)+t.2.1 - 1) / t.2.1<=30000/\0<=(max 0 (m - t.1)+t.2.1 - 1) / t.2.1*t.2.2.1/\(max 0 (m - t.1)+t.2.1 - 1) / t.2.1*t.2.2.1<=3000000000:=by
 obtain⟨E,L,an⟩:=h;obtain⟨cr,b4,eh,gi,gf,ih,ij⟩:=(ML (t:=t)).1 E;have cT:0<=(max 0 (m - t.1)+t.2.1 - 1) / t.2.1:=Int.ediv_nonneg (by omega) (by omega);have fc:(max 0 (m - t.1)+t.2.1 - 1) / t.2.1<=max 0 (m - t.1)+t.2.1 - 1:=Int.ediv_le_self _ (by omega);have jf:(max 0 (m - t.1)+t.2.1 - 1) / t.2.1<=30000:=by omega
 refine⟨cT,jf,Int.mul_nonneg cT gi.1,?_⟩;calc (max 0 (m - t.1)+t.2.1 - 1) / t.2.1*t.2.2.1<=30000*100000:=Int.mul_le_mul jf gi.2 gi.1 (by omega)
  _=3000000000:=by decide
theorem awy(h:BA (t,m)):0<=oo t m/\oo t m<=100000:=by
 grind [aeK,ML,oo]
theorem awz(x):a8 (adL x) (yZ.sh x):=bx λh=>by
 obtain⟨t,m⟩:=x;have hu:=aeK h;obtain⟨E,L,an⟩:=h;obtain⟨cr,b4,eh,gi,gf,ih,ij⟩:=(ML (t:=t)).1 E;have dN:=bs (n:=max 0 (m - t.1)+t.2.1);grind [bs,adL,oo,aws,bc]
def jr(c:bg)(w:z1')(u:Int):List b3:=if ja (cL c w u)=true then cL c w u else []
def qz(l:List b3)(minute:Int):z12':=l.foldl (λb e=>if e.2<=minute then (if fx e.1=2 then (-1,e.2) else (kH e.1,e.2)) else b) (-1,0)
def MM(c:bg)(w:z1')(minute:Int):Int:=((fM 0 9).foldl (λn u=>if (qz (jr c w u) minute).1>=0 then n+1 else n) (0:Int))
def xL(l:List b3):List (b3×b3):=l.zip (l.drop 1)
def H6(cl:z4')(kV:Int)(l:List b3):Option Int:=((xL l).find? λp=>oi p.1.1 == kV&&fx p.1.1 == 1).map λp=>om cl p.1.2 p.2.2
def nd(c:bg)(w:z1')(kV:Int):Option Int:=(fM 0 9).findSome? λu=>H6 c.2.2.2.1 kV (jr c w u)
variable {l:List b3}
theorem awA(h:i+1<(hb kp l).length):(hb kp l)[i].2<=(hb kp l)[i+1].2:=by
 have:=List.pairwise_iff_getElem.1 (avX l) i (i+1) (by omega) h (by omega);omega
theorem MN(aD:iO c)(L:sa c w){u:Int}(he:e∈cL c w u):-30<=e.2/\e.2<=10029:=by
 obtain⟨E,_,an⟩:=H4 he;have aM:=(L.at aD E).2.2;have aT:=(Ej.1 (aD.Ek E)).2.2.1;omega
theorem H7{u:Int}(he:e∈jr c w u):e∈cL c w u:=by
 grind [jr]
theorem awB{u:Int}(h:i+1<(jr c w u).length):(jr c w u)[i].2<=(jr c w u)[i+1].2:=by
 have key:∀ l,jr c w u=l->∀ (h:i+1<l.length),l[i].2<=l[i+1].2:=by
  intro l ah h;unfold jr at ah;split at ah
  ·subst ah;exact awA h
  grind
 grind
theorem aeL{c:bg}(aD:iO c){w:z1'}(L:sa c w){u:Int}{i:Nat}(h:i+1<(jr c w u).length):El (c,(jr c w u)[i].2,(jr c w u)[i+1].2):=by
 have an:=MN aD L (H7 (amk (by omega:i<(jr c w u).length)));have a6:=MN aD L (H7 (amk h));exact⟨aD.T7,show -100<=(jr c w u)[i].2 by omega,awB h,show (jr c w u)[i+1].2<=11000 by omega⟩
theorem awC(h:i<(xL l).length):∃ L:i+1<l.length,(xL l)[i]=(l[i],l[i+1]):=by
 grind [xL]
theorem awD(h:b<=s.1):o0 a b s=0:=by unfold o0;omega
def vW:z4'->Prop
 | []=>True
 | s::r=>s.1<=s.2/\(∀ t∈r,s.2<t.1)/\vW r
theorem T8:∀ (cl:z4') (a b n:Int),cl.foldl (λn s=>n - o0 a b s) n=n - (cl.map (o0 a b)).sum
 | [],a,b,n=>by simp
 | s::r,a,b,n=>by simp;rw[T8 r];omega
theorem aeM:∀ (cl:z4') (a b:Int),vW cl->a<=b->(cl.map (o0 a b)).sum<=b - a
 | [],a,b,_,h=>by grind
 | s::r,a,b,⟨E,L,an⟩,h=>by
  by_cases U:s.2+1<=b
  ·have aP:=aeM r (max a (s.2+1)) b an (by omega);grind [o0,List.map_congr_left]
  ·have e:∀ l:z4',(∀ t∈l,b<=t.1)->(l.map (o0 a b)).sum=0:=by
    intro l;induction l with
    | nil=>simp
    | cons t l aP=>
     grind [awD]
   grind [o0]
theorem aeN:∀ (cl:z4'),(∀ i,(h:i+1<cl.length)->cl[i].2<cl[i+1].1)->(∀ s∈cl,s.1<=s.2)->vW cl
 | [],_,_=>trivial
 | s::r,h,L=>by
  have D:=aeN r (λi G=>by have:=h (i+1) (by grind);grind) λt aH=>L t (by grind);refine⟨L s (by simp),?_,D⟩;cases r with
  | nil=>simp
  | cons t r=>
   have aW:=h 0 (by simp);simp at aW;intro u hu;rcases List.mem_cons.1 hu with rfl | hu
   ·omega
   ·have:=D.2.1 u hu;grind
theorem iO.awE(h:iO c):vW c.2.2.2.1:=by
 have hc:=h.jh;unfold Eb at hc;rw[aPZ]at hc;refine aeN _ (λi G=>?_) λs az=>(h.T7.2 s az).2.1;have:=hc (i+1) (by grind);grind [lR]
variable {cl:z4'}
theorem awF(h:vW cl)(H0:a<=b):0<=om cl a b:=by
 simp_all[om,T8,aeM]
theorem aeO:∀ (cl:z4') (a b:Int),0<=(cl.map (o0 a b)).sum
 | [],_,_=>by simp
 | s::r,a,b=>by
  have:=aeO r a b;grind [o0]
theorem awG{cl:z4'}{a b:Int}:om cl a b<=b - a:=by
 unfold om;rw[T8];have:=aeO cl a b;omega
theorem awH{kV:Int}(h:H6 cl kV l=some m):∃ i,∃ G:i+1<l.length,l[i].1.1=kV/\fx l[i].1=1/\m=om cl l[i].2 l[i+1].2:=by
 unfold H6 at h;rw[aP9]at h;obtain⟨p,ai,rfl⟩:=h;obtain⟨i,G,rfl⟩:=List.mem_iff_getElem.1 (aQp ai);obtain⟨dR,e⟩:=awC G;grind
theorem aeP(aD:iO c)(L:sa c w){kV:Int}(h:nd c w kV=some m):0<=m/\m<=11000:=by
 obtain⟨u,_,hu⟩:=List.exists_of_findSome?_eq_some h;obtain⟨i,G,_,_,rfl⟩:=awH hu;have ai:=aeL aD L G;have hm:=awF aD.awE ai.2.2.1;have a6:=MN aD L (H7 (amk G));have bS:=@awG c.2.2.2.1 (jr c w u)[i].2 (jr c w u)[i+1].2;grind
def T9(c:bg)(w:z1')(awI:Int):Int:=(hd c).foldl (λn s=>if (fx s=1/\kH s=awI)/\(nd c w (oi s)).isSome=true then n+oo c.2.2.2.2 ((nd c w (oi s)).getD 0) else n) 0
def Em(c:bg)(kV:Int):Bool:=(hd c).any λs=>oi s == kV&&fx s == 1
def vY(c:bg)(w:z1'):Bool:=(List.range w.length).all λi=>cJ (w.getD i 0) (c.1.getD i (0,0)).1 (c.1.getD i (0,0)).2
def kI(c:bg)(w:z1'):Bool:=decide (w.length=c.1.length)&&vY c w&&(fM 0 9).all λu=>ja (cL c w u)
theorem aeQ(aD:iO c)(ah:w.length=c.1.length)(h:vY c w=true):sa c w:=by
 refine⟨ah,λn aC=>?_⟩;obtain⟨i,G,rfl⟩:=List.mem_iff_getElem.1 aC;unfold vY at h;rw[aPZ]at h;have E:=h i (by grind);rw[xJ G,xJ (by omega),uK]at E;have:=aD.clk _ (amk (by omega:i<c.1.length));omega
def mh:z4'->Nat
 | []=>1
 | s::r=>(s.2 - s.1+1).toNat*mh r
def pK(c:bg):z4'->z1'->List (z1')
 | [],w=>if kI c w=true then [w] else []
 | s::r,w=>(fM s.1 s.2).flatMap λn=>pK c r (w++[n])
theorem T_{ag bet:Type}(f:ag->List bet)(k:Nat):∀ (l:List ag),(∀ x∈l,(f x).length<=k)->(l.flatMap f).length<=l.length*k
 | [],_=>by simp
 | x::l,h=>by
  simp only[aQ'];have:=T_ f k l λy ba=>h y (by grind);grind
theorem T'(c:bg):∀ (r:z4') (w:z1'),(pK c r w).length<=mh r
 | [],w=>by grind [pK,mh]
 | s::r,w=>by
  unfold pK mh;have:=T_ (λn=>pK c r (w++[n])) (mh r) (fM s.1 s.2) λn _=>T' c r _;grind [DS]
theorem aeR{ag bet:Type}(f:ag->List bet):∀ (l:List ag) (b:List bet),l.foldl (λb x=>b++f x) b=b++l.flatMap f
 | [],b=>by simp
 | x::l,b=>by simp only[aP3,aQf];rw[aeR f l,aQy]
abbrev dI(c:bg):List (z1'):=pK c c.1 []
def awJ(c:bg):Prop:=dH c=0->mh c.1<=60
def jK(c:bg):Prop:=avL c/\awJ c
theorem jK.iT(h:jK c):lD c:=by
 obtain⟨⟨E,L,an,a6⟩,_⟩:=h;exact⟨by omega,by omega,by omega,by omega⟩
def fF(c:bg)(b:Bool):List (z1')×Int:=if dH c≠0 then ([],dH c) else if b=false then ([],1) else if dI c=[] then ([],3) else (dI c,0)
theorem Ua(c:bg):∀ (r:z4') (w x:z1'),x∈pK c r w->kI c x=true
 | [],w,x,h=>by
  grind [pK]
 | s::r,w,x,h=>by
  unfold pK at h;rw[aRr]at h;obtain⟨n,_,aC⟩:=h;exact Ua c r _ x aC
theorem H8(h:dH c=0)(hw:kI c w=true):sa c w:=by
 grind [kI,aeQ,ru]
theorem MO(hw:kI c w=true){u:Int}(hu:0<=u/\u<=9):ja (cL c w u)=true:=by
 grind [kI,vL]
theorem awK{b:Bool}(h:w∈(fF c b).1):dH c=0/\w∈dI c/\kI c w=true/\sa c w:=by
 grind [fF,Ua,H8]
def MP:Option (z12')->Int->z12'
 | none,n=>(n,n)
 | some s,n=>(min s.1 n,max s.2 n)
def BB(l:z1'):Option (z12'):=l.foldl (λo n=>some (MP o n)) none
def xM(l:z1'):z12':=(BB l).getD (0,0)
theorem awL(a b c:Int):dy.sh (a,b,c)=mpure (cJ a b c):=rfl
def nM(c:bg)(kV:Int):z18':=if (fF c (Em c kV)).2≠0 then ([],(fF c (Em c kV)).2) else if (fF c (Em c kV)).1.filterMap (λw=>nd c w kV)=[] then ([],3) else ((fF c (Em c kV)).1.filterMap (λw=>nd c w kV),0)
def Ub(c:bg)(n:Int):z22':=(xM (nM c n).1,(nM c n).2)
abbrev MQ:aO:=⟨.ar lv bK,.ar oY bK,λx=>jK x.1,λx=>Ub x.1 x.2⟩
def Uc(c:bg)(n:Int):z22':=(xM ((nM c n).1.map λm=>oo c.2.2.2.2 m),(nM c n).2)
abbrev MR:aO:=⟨.ar lv bK,.ar oY bK,λx=>jK x.1,λx=>Uc x.1 x.2⟩
def MS(c:bg)(g:Int):z22':=(xM ((fF c (cJ g 0 99)).1.map λw=>T9 c w g),(fF c (cJ g 0 99)).2)
abbrev MT:aO:=⟨.ar lv bK,.ar oY bK,λx=>jK x.1,λx=>MS x.1 x.2⟩
def MU(c:bg)(t:Int):z22':=(xM ((fF c (cJ t 0 9999)).1.map λw=>MM c w t*c.2.2.2.2.2.2.2.2.2.2),(fF c (cJ t 0 9999)).2)
abbrev MV:aO:=⟨.ar lv bK,.ar oY bK,λx=>jK x.1,λx=>MU x.1 x.2⟩
def y0(u t:Int):Bool:=cJ u 0 9&&cJ t 0 9999
def Ud(c:bg)(u t:Int):z1':=(fF c (y0 u t)).1.map λw=>(qz (jr c w u) t).1
def vZ(c:bg)(u t:Int):z18':=((fM (-1) 99).filter λg=>(Ud c u t).contains g,(fF c (y0 u t)).2)
abbrev MW:aO:=⟨.ar lv (.ar bK bK),.ar ha bK,λx=>jK x.1,λx=>vZ x.1 x.2.1 x.2.2⟩
def H9(c:bg)(w:z1')(u t:Int):Bool:=decide ((qz (jr c w u) t).1>=0)&&decide (om c.2.2.2.1 (qz (jr c w u) t).2 t>=c.2.2.2.2.2.2.2.2.1)
def rv(c:bg)(l:List (z1'))(u t:Int):Nat:=(l.filter λw=>H9 c w u t).length
def v7(c:bg)(t:Int):z1'×z18':=
 if (fF c (cJ t 0 9999)).2≠0 then ([],[],(fF c (cJ t 0 9999)).2)
 else ((fM 0 9).filter (λu=>decide (rv c (fF c (cJ t 0 9999)).1 u t=(fF c (cJ t 0 9999)).1.length)),(fM 0 9).filter (λu=>decide (rv c (fF c (cJ t 0 9999)).1 u t > 0)),0)
abbrev MX:aO:=⟨.ar lv bK,.ar ha (.ar ha bK),λx=>jK x.1,λx=>v7 x.1 x.2⟩
theorem Ue:∀ (l:List b3) (t:Int) (b:z12'),(∀ e∈l,(0<=kH e.1))->(l.foldl (λb e=>if e.2<=t then (if fx e.1=2 then (-1,e.2) else (kH e.1,e.2)) else b) b=b\/∃ e∈l,e.2<=t/\l.foldl (λb e=>if e.2<=t then (if fx e.1=2 then (-1,e.2) else (kH e.1,e.2)) else b) b=(if fx e.1=2 then (-1,e.2) else (kH e.1,e.2)))
 | [],t,b,_=>.inl rfl
 | x::l,t,b,h=>by
  by_cases al:x.2<=t
  ·rcases Ue l t (if fx x.1=2 then (-1,x.2) else (kH x.1,x.2)) λe he=>h e (by grind) with E | ⟨e,he,E,L⟩<;>grind
  ·rcases Ue l t b λe he=>h e (by grind) with E | ⟨e,he,E,L⟩<;>grind
theorem awM(aD:iO c)(L:sa c w){u t:Int}(aH:t<=9999)(h:(qz (jr c w u) t).1>=0):El (c,(qz (jr c w u) t).2,t):=by
 rcases Ue (jr c w u) t (-1,0) (λe he=>((Ej.1 (aD.Ek (H4 (H7 he)).1)).2.2.2.2.1).1) with E | ⟨e,he,E,an⟩
 ·unfold qz at h;grind
 ·have:=MN aD L (H7 he);have bz:(qz (jr c w u) t).2=e.2:=by
   unfold qz;grind
  exact⟨aD.T7,by grind,by grind,show t<=11000 by omega⟩
abbrev mE(z:j5):bg:=(z.1,z.2.1,z.2.2.1,z.2.2.2.1,z.2.2.2.2.1,z.cv,z.fE,z.h1,z.kT,z.na,z.mD)
abbrev Uf(z:j5):List bI:=z.i_
abbrev aeS(z:j5):List (Option gY):=z.pI
abbrev H_(c:bg)(l:List bI)(t:List (Option gY)):j5:=(c.1,c.2.1,c.2.2.1,c.2.2.2.1,c.2.2.2.2.1,c.2.2.2.2.2.1,c.2.2.2.2.2.2.1,c.2.2.2.2.2.2.2.1,c.2.2.2.2.2.2.2.2.1,c.2.2.2.2.2.2.2.2.2.1,c.2.2.2.2.2.2.2.2.2.2,l,t,())
def xN(l:List bI)(w:z1')(u:Int):List b3:=(l.filter λs=>decide (xF s=u)).map λs=>(s,Bu s+w.getD (r8 s).toNat 0)
theorem awN{l:List bI}(h:i<l.length)(u:Int):xN (l.take (i+1)) w u=if l[i].2.2.2.2.1=u then xN (l.take i) w u++[(l[i],Bu l[i]+w.getD (r8 l[i]).toNat 0)] else xN (l.take i) w u:=by
 unfold xN;rw[aQH,ams h,aRg,aQw,aP7];grind
theorem aeT(l:List bI)(w:z1')(u:Int):(xN l w u).length<=l.length:=by
 unfold xN;grind
abbrev pL(c:bg)(w:z1'):List (List b3):=[cL c w 0,cL c w 1,cL c w 2,cL c w 3,cL c w 4,cL c w 5,cL c w 6,cL c w 7,cL c w 8,cL c w 9]
def v8(c:bg)(w:z1'):Bool:=(fM 0 9).all λu=>ja (cL c w u)
theorem awO(c:bg)(w:z1'):v8 c w=(ja (cL c w 0)&&(ja (cL c w 1)&&(ja (cL c w 2)&&(ja (cL c w 3)&&(ja (cL c w 4)&&(ja (cL c w 5)&&(ja (cL c w 6)&&(ja (cL c w 7)&&(ja (cL c w 8)&&ja (cL c w 9)))))))))):=by
 unfold v8;rw[show fM 0 9=[0,1,2,3,4,5,6,7,8,9] from by decide];simp
abbrev awP(x:z1'×j5):Prop:=dH (mE x.2)=0/\sa (mE x.2) x.1/\Uf x.2=hd (mE x.2)
def xO(x:z1'×j5):M (Option gY×Bool×j5):=eE (awP x) (if v8 (mE x.2) x.1=true then (some (x.1,pL (mE x.2) x.1),true,x.2) else (none,false,x.2))
theorem awQ{bl:Type}{body:Int×Int×Int×bl->M (aJ (Int×Int×Int×bl) rho)}(l:List b3){z:bl}(bad qA:rho)
  (U:∀ i,i<l.length->body (a,n,(i:Int),z)=mpure (if (!tp l i)=true then .aV bad else .aw (a,n,((i+1:Nat):Int),z)))
  (he:body (a,n,(l.length:Int),z)=mpure (.aV qA)):dA body (a,n,0,z)=mpure (if ja l=true then qA else bad):=by
 rw[eH (List.range l.length) (λi (_:Unit)=>(a,n,(i:Int),z)) (λi b=>if (!tp l i)=true then .aV bad else .aw b) (λ_=>qA) () ?_ ?_ ?_]
 ·rw[m' (q:=tp l) _ _ (λ_=>rfl)];rfl
 ·rfl
 ·intro i G b;have G:i<l.length:=by grind
  rw[U i G,aPJ];cases tp l i<;>rfl
 grind
theorem aeU{X:Type}(ah:l.length<=12)(G:i<l.length)(ak:k=1+((i % 2:Nat):Int))(aI B:M X):TQ l l[i] i k aI B=if (!tp l i)=true then aI else B:=by
 unfold TQ;have C6:=awq l i;rw[Bool.or_comm,xJ G]at C6;have aE:(decide (l[i].1.2.2.2.1≠k)||decide ((i:Int) > 0)&&decide (l[i].2=(List.getD l (Int.toNat (IntKind.wrap .i64 ((i:Int) - 1))) ((0,0,0,0,0,0),0)).2))=!tp l i:=by
  rw[<-C6,ak];rcases Nat.eq_zero_or_pos i with aW | aW
  ·simp_all
  ·rw[bs (n:=(i:Int) - 1),show ((i:Int) - 1).toNat=i - 1 from by omega]
 rw[aE];have bS:decide ((i:Int) > 0)=true->(0<=IntKind.wrap .i64 ((i:Int) - 1)/\IntKind.wrap .i64 ((i:Int) - 1)<Int.ofNat (List.length l)):=λh=>by
  have h:=aP4 h;rw[bs (n:=(i:Int) - 1),cC];omega
 simp_all
theorem awR(h:l.length<=12):D9 (tk.sh,l,())=mpure (hb kp l,()):=bP ⟨h,rfl⟩ _
theorem awS{l:List bI}(ah:l.length<=12)(az:∀ s∈l,nL c.1.length s=true)(hw:sa c w)(G:i<l.length):0<=l[i].2.2.2.2.1/\l[i].2.2.2.2.1<=9/\(0<=l[i].2.1/\l[i].2.1<(w.length:Int))/\IntKind.wrap .i64 (l[i].2.2.1+w.getD l[i].2.1.toNat 0)=l[i].2.2.1+w.getD l[i].2.1.toNat 0:=by
 have h:=Ej.1 (az _ (amk G));have E:r8 l[i]<(w.length:Int):=by rw[hw.1];omega
 have L:=hw.2 _ (Bn (d:=0) h.2.1.1 E);have an:=h.2.2.1;have a6:=h.2.2.2.1;exact⟨a6.1,a6.2,⟨h.2.1.1,E⟩,bs (by grind) (by grind)⟩
abbrev qB(f:Nat->List b3)(c:j5):qy:=(f 0,f 1,f 2,f 3,f 4,f 5,f 6,f 7,f 8,f 9,c)
theorem Ug{f g:Nat->List b3}(h:∀ u,u<10->f u=g u)(c:j5):qB f c=qB g c:=by
 simp only[qB,h 0 (by decide),h 1 (by decide),h 2 (by decide),h 3 (by decide),h 4 (by decide),h 5 (by decide),h 6 (by decide),h 7 (by decide),h 8 (by decide),h 9 (by decide)]
theorem Uh(f:Nat->List b3)(c:j5):∀ k,k<10->oX k (qB f c)=f k
 | 0,_ | 1,_ | 2,_ | 3,_ | 4,_ | 5,_ | 6,_ | 7,_ | 8,_ | 9,_=>rfl
 | k+10,h=>by omega
theorem aeV(f:Nat->List b3)(c:j5)(v:List b3):∀ k,k<10->My k v (qB f c)=qB (λj=>if j=k then v else f j) c
 | 0,_ | 1,_ | 2,_ | 3,_ | 4,_ | 5,_ | 6,_ | 7,_ | 8,_ | 9,_=>rfl
 | k+10,h=>by omega
theorem aeW{X:Type}(f:Nat->M X){v:Int}{u:Nat}(h:v=(u:Int)):∀ {n:Nat},u<=n->MA f v n=f u
 | 0,hu=>by
  obtain rfl:u=0:=by omega
  rfl
 | n+1,hu=>by
  unfold MA;simp only[kE,cC,h];by_cases e:u=n+1
  ·rw[if_pos (by omega),e]
  ·rw[if_neg (by omega)];exact aeW f rfl (by omega)
theorem awT(mz:∀ u,(cL c w u).length<=12){z:j5}{g:Nat->List b3}{k:Nat}(ak:k<10)(aD:g k=cL c w k) :
  dA (Mz k) (Int.ofNat k,Int.ofNat (List.length (cL c w k)),0,w,qB g z)=mpure (if ja (cL c w k)=true then .aw (Int.ofNat k,w,qB g z) else .aV (.aV (none,false,z))):=by
 have aE:oX k (qB g z)=cL c w k:=(Uh g z k ak).trans aD;refine awQ (cL c w k) _ _ (λi G=>?_) ?_
 ·have hw:=bs (n:=(i:Int)+1) (by omega) (by have:=mz k;omega);unfold Mz;simp only[cC,dQ G,if_true,aE,dK G,ed G,cp];rcases Nat.mod_two_eq_zero_or_one i with hm | hm
  ·have ax:decide (Int.tmod (i:Int) 2=1)=false:=by rw[aeI,hm];rfl
   simp only[ax,aml,aPH,Fz,aN,cY];rw[bc (by decide),aE];refine (aeU (mz k) G (by rw[hm];rfl) _ _).trans ?_;simp only[dm,hw];cases tp (cL c w k) i<;>rfl
  ·have ax:decide (Int.tmod (i:Int) 2=1)=true:=by rw[aeI,hm];rfl
   simp only[ax,if_true,Fz,aN,cY];rw[bc (by decide),aE];refine (aeU (mz k) G (by rw[hm];rfl) _ _).trans ?_;simp only[dm,hw];cases tp (cL c w k) i<;>rfl
 ·unfold Mz;simp
theorem aeX{c:bg}{w:z1'}(hlen:∀ u,(rs c w u).length<=12)(mz:∀ u,(cL c w u).length<=12){z:j5}:∀ n k,k+n=10->
  HU D9 tk.sh n k (w,qB (λu=>if u<k then cL c w u else rs c w u) z)=mpure (if ((List.range' k n).all λu=>ja (cL c w u))=true then .aw (w,qB (λu=>cL c w u) z) else .aV (none,false,z))
 | 0,k,h=>by
  unfold HU;rw[Ug (g:=λu=>cL c w u) λu hu=>if_pos (by omega)];rfl
 | n+1,k,h=>by
  have ak:k<10:=by omega
  have az:D9 (tk.sh,rs c w k,())=mpure (cL c w k,()):=awR (hlen k);have hw:=bs (n:=(k:Int)+1);have bz:My k (cL c w k) (qB (λu=>if u<k then cL c w u else rs c w u) z)=qB (λu=>if u<k+1 then cL c w u else rs c w u) z:=by
   rw[aeV _ _ _ _ ak];exact Ug (λu hu=>by
    by_cases e:u=k
    ·subst e;simp
    ·by_cases bz:u<k
     ·simp[e,bz,show u<k+1 by omega]
     ·simp[e,bz,show ¬u<k+1 by omega]) _
  unfold HU;dsimp only;rw[bc (by simp only[cC];omega),Uh _ _ _ ak,if_neg (Nat.lt_irrefl k),az,aN];simp only[bz];rw[awT mz ak (if_pos (aQq k)),aN,aRn,aQn];cases ja (cL c w k) with
  | false=>rfl
  | true=>
   simp only[if_true,aQX,cY];rw[bc (by simp only[cC,dm,hw];omega)];exact aeX hlen mz n (k+1) (by omega)
theorem Ui(x):a8 (aei vP.sh D9 tk.sh x) (xO x):=bx λh=>by
 obtain⟨w,z⟩:=x;obtain⟨E,L,an⟩:=h;change dH (mE z)=0 at E;change sa (mE z) w at L;change z.i_=hd (mE z) at an;show _=mpure (if v8 (mE z) w=true then (some (w,pL (mE z) w),true,z) else (none,false,z));generalize uw:mE z=c at *
 have aD:=ru E;have ah:=aD.T6;have qX:∀ s∈hd c,nL c.1.length s=true:=λs az=>aD.Ek az;have aC:=aD.eA;have hlen:∀ u,(rs c w u).length<=12:=λu=>aPL (aeT (hd c) w u) ah;have mz:∀ u,(cL c w u).length<=12:=λu=>H3 aD w u;have sb:∀ u,xN z.i_ w u=rs c w u:=λu=>by rw[an];rfl
 rw[<-an]at ah qX;clear an;unfold aei bw cB bm bf aR bY be bU;rw[show vP.sh w=mpure w from bP (show w.length<=3000000 by have:=L.1;omega) _];simp only[aN,cY,cp];refine (congrArg (λm=>aq m _) (eH z.i_ (λi (_:Unit)=>(w,z.i_,(z.i_.length:Int),(i:Int),w,qB (λu=>xN (z.i_.take i) w u) z)) (λ_ b=>.aw b) (λ_=>.aw (w,qB (λu=>rs c w u) z)) () ?_ ?_ ?_)).trans ?_
 ·simp only[cC,List.take_zero];rfl
 ·intro i G b;obtain⟨aM,aT,b5,hC⟩:=awS (c:=c) ah qX L G;have hw:=bs (n:=(i:Int)+1);have ho:∀ u,cb (Add.add (xN (z.i_.take i) w u).length (Add.add 0 1)):=λu=>i' (by have:=aeT (z.i_.take i) w u;rw[aQl]at this;simp only[kE];omega);obtain⟨u,hu⟩:∃ u:Nat,z.i_[i].2.2.2.2.1=(u:Int):=⟨z.i_[i].2.2.2.2.1.toNat,by omega⟩
  have awU:u<=9:=by omega
  simp only[cC,dQ G,if_true,ed G,dK G,cp];rw[bc (show (0<=z.i_[i].2.2.2.2.1/\z.i_[i].2.2.2.2.1<((10:Nat):Int)) from⟨aM,by omega⟩),aeW _ hu awU];unfold aeh;simp only[ed G,cC,Uh _ _ u (show u<10 by omega),aeV _ _ _ u (show u<10 by omega)];rw[bc trivial,bc (by omega),bc b5,bc (ho _),bc trivial,bc (by omega),aN,cY];simp only[dm,hw,hC];refine congrArg (λq=>mpure (aJ.aw (w,z.i_,(z.i_.length:Int),((i:Int)+1),w,q))) ?_;refine Ug (λj aK=>?_) _;rw[awN G,hu];by_cases e:j=u
  ·subst e;rw[if_pos rfl,if_pos rfl,<-hu]
  ·rw[if_neg e,if_neg (by omega)]
 ·intro b;simp only[aQc,sb];simp
 ·rw[ec,aN,cY];have bN:=aeX (c:=c) (w:=w) hlen mz (z:=z) 10 0 rfl;rw[bc (by decide)];rw[show (λu:Nat=>if u<0 then cL c w u else rs c w u)=λu:Nat=>rs c w u from funext λu=>if_neg (Nat.not_lt_zero u)]at bN;rw[bN,aN];have aE:((List.range' 0 10).all λu=>ja (cL c w u))=v8 c w:=by
   rw[awO];simp[List.range']
  rw[aE];cases v8 c w<;>rfl
abbrev kW(c:bg)(w:z1'):Option gY:=some (w,pL c w)
abbrev awV(f:Nat)(x:z1'×j5):Prop:=dH (mE x.2)=0/\Uf x.2=hd (mE x.2)/\x.1.length<=(mE x.2).1.length/\(mE x.2).1.length<x.1.length+f/\vY (mE x.2) x.1=true/\(aeS x.2).length+mh ((mE x.2).1.drop x.1.length)<=60
def BC(f:Nat)(x:z1'×j5):M j5:=eE (awV f x) (H_ (mE x.2) (Uf x.2) (aeS x.2++(pK (mE x.2) ((mE x.2).1.drop x.1.length) x.1).map (kW (mE x.2))))
theorem awW(x):¬(BC 0 x).e3:=λh=>by have E:=h.2.2.1;have L:=h.2.2.2.1;omega
theorem awX:vY c (w++[n])=(vY c w&&cJ n (c.1.getD w.length (0,0)).1 (c.1.getD w.length (0,0)).2):=by
 grind [vY]
theorem awY(ah:w.length=c.1.length)(h:vY c w=true):kI c w=v8 c w:=by
 grind [kI,v8]
set_option maxHeartbeats 1000000 in
theorem awZ(f:Nat)(x):a8 (aek (BC f) xO x) (BC (f+1) x):=bx λh=>by
 obtain⟨w,a0,cr,b4,eh,gi,gf,ih,ij,jW,gC,jy,l,t,u⟩:=x;obtain⟨E,L,an,a6,bS,ek⟩:=h;change dH (a0,cr,b4,eh,gi,gf,ih,ij,jW,gC,jy)=0 at E;change l=hd (a0,cr,b4,eh,gi,gf,ih,ij,jW,gC,jy) at L;change w.length<=a0.length at an;change a0.length<w.length+(f+1) at a6;change vY (a0,cr,b4,eh,gi,gf,ih,ij,jW,gC,jy) w=true at bS;change t.length+mh (a0.drop w.length)<=60 at ek;show _=mpure (H_ (a0,cr,b4,eh,gi,gf,ih,ij,jW,gC,jy) l (t++(pK (a0,cr,b4,eh,gi,gf,ih,ij,jW,gC,jy) (a0.drop w.length) w).map (kW (a0,cr,b4,eh,gi,gf,ih,ij,jW,gC,jy))));have aD:=ru E;have aC:a0.length<=3:=aD.eA;unfold aek bw cB bD bm bf aR pD be eB bU;simp only[Prod.cv,Prod.fE,Prod.h1,Prod.kT,Prod.na,Prod.mD,Prod.i_,Prod.pI,Prod.qw,Prod.vM,Prod.HN,Prod.HO,Prod.HP,Prod.TF,Prod.HQ,cC,cp];by_cases ah:w.length=a0.length
 ·rw[if_pos (by simp only[amp];omega)];have aw0:sa (a0,cr,b4,eh,gi,gf,ih,ij,jW,gC,jy) w:=aeQ aD ah bS;have au:xO (w,a0,cr,b4,eh,gi,gf,ih,ij,jW,gC,jy,l,t,())=mpure (if v8 (a0,cr,b4,eh,gi,gf,ih,ij,jW,gC,jy) w=true then (kW (a0,cr,b4,eh,gi,gf,ih,ij,jW,gC,jy) w,true,a0,cr,b4,eh,gi,gf,ih,ij,jW,gC,jy,l,t,()) else (none,false,a0,cr,b4,eh,gi,gf,ih,ij,jW,gC,jy,l,t,())):=bP ⟨E,aw0,L⟩ _;rw[au,aN,ah,List.drop_length];unfold pK;rw[awY ah bS];cases ak:v8 (a0,cr,b4,eh,gi,gf,ih,ij,jW,gC,jy) w with
  | true=>
   rw[if_pos rfl,if_pos rfl,bc (i' (by simp only[kE];omega)),aN,cY];rfl
  | false=>
   simp only[aml,aPH,aN,cY,List.map_nil,aPT]
 ·have dv:w.length<a0.length:=by omega
  rw[if_neg (by simp only[amp];omega),bc (show (0:Int)<=(w.length:Int)/\(w.length:Int)<(a0.length:Int) by omega)];rw[aPM dv]at ek ⊢;simp only[aPV,xJ dv];have az:=aD.clk _ (amk dv);change -30<=a0[w.length].1/\a0[w.length].1<=a0[w.length].2/\a0[w.length].2<=30 at az;have qC:a0.getD w.length (0,0)=a0[w.length]:=xJ dv;generalize a0[w.length]=s at *
  unfold mh at ek;have Ia:∀ n (ts:List (Option gY)),s.1<=n->n<=s.2->ts.length+mh (a0.drop (w.length+1))<=60->BC f (w++[n],a0,cr,b4,eh,gi,gf,ih,ij,jW,gC,jy,l,ts,())=mpure (H_ (a0,cr,b4,eh,gi,gf,ih,ij,jW,gC,jy) l (ts++(pK (a0,cr,b4,eh,gi,gf,ih,ij,jW,gC,jy) (a0.drop (w.length+1)) (w++[n])).map (kW (a0,cr,b4,eh,gi,gf,ih,ij,jW,gC,jy)))):=by
   intro n ts aM aT b5;refine (bP ⟨E,L,?_,?_,?_,?_⟩ _).trans (congrArg mpure ?_)
   ·show H_ (a0,cr,b4,eh,gi,gf,ih,ij,jW,gC,jy) l (ts++(pK (a0,cr,b4,eh,gi,gf,ih,ij,jW,gC,jy) (a0.drop (w++[n]).length) (w++[n])).map (kW (a0,cr,b4,eh,gi,gf,ih,ij,jW,gC,jy)))=_;rw[aP8,aQ3]
   ·show (w++[n]).length<=a0.length;simp;omega
   ·show a0.length<(w++[n]).length+f;simp;omega
   ·show vY (a0,cr,b4,eh,gi,gf,ih,ij,jW,gC,jy) (w++[n])=true;rw[awX,bS];show (true&&cJ n (a0.getD w.length (0,0)).1 (a0.getD w.length (0,0)).2)=true;rw[qC,aQX];exact uK.2 ⟨aM,aT⟩
   ·show ts.length+mh (a0.drop (w++[n]).length)<=60;rw[aP8,aQ3];exact b5
  rw[e2 (fM s.1 s.2) (λi (ts:List (Option gY))=>(w,(w.length:Int),s.1+(i:Int),a0,cr,b4,eh,gi,gf,ih,ij,jW,gC,jy,l,ts,())) (λn ts=>.aw (ts++(pK (a0,cr,b4,eh,gi,gf,ih,ij,jW,gC,jy) (a0.drop (w.length+1)) (w++[n])).map (kW (a0,cr,b4,eh,gi,gf,ih,ij,jW,gC,jy)))) (λts=>(a0,cr,b4,eh,gi,gf,ih,ij,jW,gC,jy,l,ts,())) (λi ts=>ts.length<=t.length+i*mh (a0.drop (w.length+1))) t ?_ ?_ ?_ ?_]
  ·rw[ec,aeR (f:=λn=>(pK (a0,cr,b4,eh,gi,gf,ih,ij,jW,gC,jy) (a0.drop (w.length+1)) (w++[n])).map (kW (a0,cr,b4,eh,gi,gf,ih,ij,jW,gC,jy)))];rw[<-List.map_flatMap];rfl
  ·rw[Int.natCast_zero,Int.add_zero]
  ·simp
  ·intro i G ts au;rw[DS]at G;have hw:=bs (n:=s.1+(i:Int)+1);have ax:decide (s.1+(i:Int)<=s.2)=true:=by simpa using (by omega:s.1+(i:Int)<=s.2)
   have hle:=T' (a0,cr,b4,eh,gi,gf,ih,ij,jW,gC,jy) (a0.drop (w.length+1)) (w++[s.1+(i:Int)]);have aw1:ts.length+mh (a0.drop (w.length+1))<=60:=by
    have:(i+1)*mh (a0.drop (w.length+1))<=(s.2 - s.1+1).toNat*mh (a0.drop (w.length+1)):=amt _ (by omega);rw[Nat.succ_mul]at this;omega
   refine⟨?_,λbj ef=>?_⟩
   ·simp only[aPV,qC,ax,if_true,dm,hw,HI,aQc];rw[bc (by omega),bc ⟨by omega,by omega,trivial,by omega⟩,bc ⟨by simp only[kE];omega,i' (by simp only[kE];omega)⟩,Ia _ ts (by omega) (by omega) aw1,aN];simp only[aJ.pF];rw[show s.1+((i+1:Nat):Int)=s.1+(i:Int)+1 from by omega]
   ·simp only[aJ.aw.injEq,HI]at ef;subst ef;rw[aP8,aPW,Nat.succ_mul];omega
  ·intro ts au;rw[DS];have ax:decide (s.1+(((s.2 - s.1+1).toNat:Nat):Int)<=s.2)=false:=by simpa using (by omega:s.2<s.1+(((s.2 - s.1+1).toNat:Nat):Int))
   simp only[aPV,qC,ax,aml,aPH,aN];rw[bc (by omega)]
abbrev xP:bg:=([],[],[],[],0,0,0,0,0,0,0)
abbrev En:aO:=⟨.ar iY (.bO lv),dY,λx=>∃ c:bg,x.2=some c/\c.2.2.1.length<2 ^ 63,λx=>(x.2.getD xP).2.2.1.contains (oi x.1)⟩
theorem Uj(x):a8 (adY r_.sh x) (En.sh x):=bx λh=>by
 obtain⟨s,o⟩:=x;obtain⟨c,hc,h⟩:=h;subst hc;unfold adY;simp only[amx];rw[show r_.sh (c.2.2.1,s.1)=mpure (c.2.2.1.contains s.1) from bP h _,aN]
abbrev xQ(c:bg):h0:=(c,hd c,(dI c).map (kW c))
def Ib(c:bg)(f:Option h0->M Bool):Bool:=(f (some (c,hd c,[]))).val false
def jb(c:bg)(b:Bool):Option h0×Int:=if dH c≠0 then (none,dH c) else if b=false then (none,1) else if dI c=[] then (none,3) else (some (xQ c),0)
abbrev qD:aO:=⟨.ar lv (.fn (.bO vO) .bool),.ar (.bO vO) bK,λx=>jK x.1/\(dH x.1=0->∃ b,x.2 (some (x.1,hd x.1,[]))=mpure b),λx=>jb x.1 (Ib x.1 x.2)⟩
theorem aw2(aD:iO c):MK ((λs=>En.sh (s,some c)),iN c.2.1,())=mpure ((0,(hd c).length),hd c++List.replicate ((iN c.2.1).length - (hd c).length) lT,()):=by
 have af:∀ s,En.sh (s,some c)=mpure (c.2.2.1.contains s.1):=λs=>bP ⟨c,rfl,by have:=aD.lk;omega⟩ _;have e:((iN c.2.1).filter λs=>!(En.sh (s,some c)).val false)=hd c:=by
  simp_all[hd]
 have:=awc c.2.1;refine (bP ⟨show (iN c.2.1).length<2 ^ 63 by omega,λs _=>⟨_,af s⟩⟩ _).trans (congrArg mpure ?_);grind
set_option maxHeartbeats 1000000 in
theorem Uk(x):a8 (adE jV.sh MI MK (BC 5) En.sh x) (qD.sh x):=bx λh=>by
 obtain⟨c,f⟩:=x;obtain⟨h,ay⟩:=h;change jK c at h;change dH c=0->∃ b,f (some (c,hd c,[]))=mpure b at ay;unfold adE cB bm aR pD be;show _=mpure (jb c (Ib c f));unfold jb;rw[show jV.sh c=mpure (dH c) from bP h.iT _];simp only[aN,amp];by_cases hc:dH c=0
 ·simp only[hc,ne_eq,not_true_eq_false,aPH];have aD:=ru hc;obtain⟨b,U⟩:=ay hc;have E:=aD.eA;have hid:=MJ aD.lI;rw[show MI (c.2.1,())=mpure (true,iN c.2.1,()) from bP ⟨hid,(Ef _).2 aD.Ed⟩ _,aN];simp only[cp];rw[aw2 aD,aN];have tn:List.drop 0 (List.take (hd c).length (hd c++List.replicate ((iN c.2.1).length - (hd c).length) lT))=hd c:=by
   rw[List.drop_zero,List.take_left]
  simp only[tn];unfold Ib;simp only[U,kF,aN];cases b with
  | false=>simp
  | true=>
   simp only[aQm,aml,aPH,aN,cY,reduceCtorEq];simp only[Prod.cv,Prod.fE,Prod.h1,Prod.kT,Prod.na,Prod.mD,Prod.i_,Prod.pI,Prod.qw,Prod.vM,Prod.HN,Prod.HO,Prod.HP,Prod.TF,Prod.HQ,tn];have qC:BC 5 ([],c.1,c.2.1,c.2.2.1,c.2.2.2.1,c.2.2.2.2.1,c.2.2.2.2.2.1,c.2.2.2.2.2.2.1,c.2.2.2.2.2.2.2.1,c.2.2.2.2.2.2.2.2.1,c.2.2.2.2.2.2.2.2.2.1,c.2.2.2.2.2.2.2.2.2.2,hd c,[],())=mpure (H_ c (hd c) ((dI c).map (kW c))):=bP ⟨hc,rfl,aPR _,show c.1.length<0+5 by omega,rfl,show 0+mh c.1<=60 by have:=h.2 hc;omega⟩ _;rw[qC,aN];simp only[cC,aPW];by_cases aH:dI c=[]
   ·simp[aH]
   ·have:¬((dI c).length:Int)=0:=λe=>aH (aP6 (by omega));simp only[this,aH,aPH]
 ·simp only[hc,ne_eq,not_false_eq_true,if_true]
def Eo(l:List (Option gY))(f:Option gY->M (z27')):Option (z12'):=BB (l.filterMap λt=>if ((f t).val (0,false)).2=true then some ((f t).val (0,false)).1 else none)
abbrev Ep:aO:=⟨.ar (.bO vO) (.fn (.bO Bs) (.ar bK .bool)),.ar oY .bool,λx=>∃ b:h0,x.1=some b/\b.2.2.length<=60/\∀ t∈b.2.2,∃ r,x.2 t=mpure r,λx=>((Eo (x.1.getD (xP,[],[])).2.2 x.2).getD (0,0),(Eo (x.1.getD (xP,[],[])).2.2 x.2).isSome)⟩
theorem aeY{ag bet hh:Type}(g:ag->Option bet)(h:hh->bet->hh):∀ (l:List ag) (b:hh),l.foldl (λb x=>(g x).elim b λy=>h b y) b=(l.filterMap g).foldl h b
 | [],b=>rfl
 | x::l,b=>by
  simp;rw[aeY g h l];grind
theorem aw3(x):a8 (adN x) (Ep.sh x):=bx λh=>by
 obtain⟨o,f⟩:=x;obtain⟨b,U,ah,ay⟩:=h;subst U;unfold adN bw cB bD bm bf aR bY vn be bU;simp only[aPS,cp,amx];change ∀ t∈b.2.2,∃ r,f t=mpure r at ay;generalize b.2.2=l at *
 rw[eH l (λi o=>(f,o.isSome,l,(l.length:Int),(i:Int),o.getD (0,0),())) (λt o=>.aw ((if ((f t).val (0,false)).2=true then some ((f t).val (0,false)).1 else none).elim o λn=>some (MP o n))) (λo=>.aw (o.isSome,o.getD (0,0),())) none ?_ ?_ ?_]
 ·rw[ec,aeY (λt=>if ((f t).val (0,false)).2=true then some ((f t).val (0,false)).1 else none) (λo n=>some (MP o n)),aN];rfl
 ·rfl
 ·intro i G o;have hw:=bs (n:=i+1);obtain⟨r,D⟩:=ay _ (amk G);simp only[cC,dQ G,ed G,dK G,D];obtain⟨n,ca⟩:=r;cases ca with
  | false=>simp_all
  | true=>
   cases o with
   | none=>simp  [hw];rfl
   | some s=>
    simp  [hw];rw[awt,awv];rfl
 simp
section
variable {ag:Type}
def aeZ(x:Nat×List (Int×ag)×(Nat×(z1'->Prop)×z1'×Bool)×Unit):M ((Nat×(z1'->Prop)×z1'×Bool)×Unit):=
 aq (mpure ()) λy=>dA (λ(A:Nat×(Nat×(z1'->Prop)×z1'×Bool)×(Option (Int×ag)×List (Int×ag))×Unit)=>
 aq (K_ A.2.2.1.2) λy=>if Option.isSome y=true then aq (ae (Option.isSome (qj A.2.2.1.1 A.2.2.1.2 y)=true) (mpure ())) λcn
 =>aq (ae (A.1=A.2.1.1/\A.2.1.2.2.2=false/\∃ (T:z1'),A.2.1.2.1 (A.2.1.2.2.1++Option.getD (Option.map (λx=>x.1) (qj
 A.2.2.1.1 A.2.2.1.2 y)) 0::T)) (mN λx=>True)) λdZ=>if (!dZ)=true then aq (mpure ((A.2.1.1,A.2.1.2.1,A.2.1.2.2.1++
 [Option.getD (Option.map (λx=>x.1) (qj A.2.2.1.1 A.2.2.1.2 y)) 0],!dZ),())) λr=>mpure (aJ.aV r) else mpure (aJ.aw (A.1,(A.2.1.1,A.2.1.2.1,A.2.1.2.2.1++[Option.getD (Option.map (λx=>x.1) (qj A.2.2.1.1 A.2.2.1.2 y)) 0],!dZ),(qj A.2.2.1.1 A.2.2.1.2 y,GF A.2.2.1.2 y),())) else aq (mpure (A.2.1,())) λr=>mpure (aJ.aV r)) (x.1,x.2.2.1,(none,x.2.1),())
theorem ae0{bet:Type}:∀ (l:List bet) (i:Nat) (h:i<l.length),(l[i]::l.eraseIdx i).Perm l
 | x::l,0,_=>.refl _
 | x::l,i+1,h=>by
  exact (List.Perm.swap x _ _).trans ((ae0 l i (by grind)).cons x)
theorem ae1(l:Nat)(m:List (Int×ag)):c' (aeZ (l,m,(l,lQ (some m),[],false),())) λy=>y.1.2.2.2=false->lQ (some m) y.1.2.2.1:=by
 unfold aeZ;rw[aN];refine zV (λA=>∃ p c b8,A=(l,(l,lQ (some m),p,false),(c,b8),())/\(m.map (·.1)).Perm (p++b8.map (·.1))) (λA=>A.2.2.1.2.length) ?_ _ ⟨[],none,m,rfl,.refl _⟩;rintro A ⟨p,c,b8,rfl,ai⟩;rw[fN];refine⟨trivial,λy ba=>?_⟩;cases y with
 | none=>
  have D:b8=[]:=ba;grind [aN,dO,xI]
 | some i=>
  have G:i<b8.length:=ba;have aC:qj c b8 (some i)=some b8[i]:=ams G;have D:GF b8 (some i)=b8.eraseIdx i:=rfl;have yv:(m.map (·.1)).Perm (p++b8[i].1::(b8.eraseIdx i).map (·.1)):=ai.trans (List.Perm.append_left p ((ae0 b8 i G).symm.map (·.1)));simp only[aPS,if_true,aC,cp,aN,aRf,amx];rw[fN,h5];refine⟨⟨trivial,trivial,(b8.eraseIdx i).map (·.1),xI.2 yv⟩,⟨true,trivial⟩,λb _=>?_⟩;grind [dO]
end
theorem aw4(l:Nat)(m:z4'):c' (TO (l,m,(l,lQ (some m),[],false),())) λy=>y.1.2.2.2=false->lQ (some m) y.1.2.2.1:=ae1 l m
theorem aw5(l:Nat)(m:List (Int×bI)):c' (TP (l,m,(l,lQ (some m),[],false),())) λy=>y.1.2.2.2=false->lQ (some m) y.1.2.2.1:=ae1 l m
def dR(cl:z4'):List b3->List b3
 | a::b::r=>(a.1,om cl a.2 b.2)::dR cl r
 | _=>[]
def Ic(c:bg)(hD:List (List b3)):Prop:=hD.length=10/\∀ l∈hD,l.length<=12/\∀ i,(h:i+1<l.length)->El (c,l[i].2,l[i+1].2)
def uM(c:bg)(hD:List (List b3)):List b3:=hD.flatMap (dR c.2.2.2.1)
def v_(x:Option (Option gY)×Option (Option h0))(ab:List b3):Prop:=∃ t b,x.1=some (some t)/\x.2=some (some b)/\Ic b.1 t.2/\ab=uM b.1 t.2
theorem aw6(h:i+1<l.length):dR cl (l.drop i)=(l[i].1,om cl l[i].2 l[i+1].2)::dR cl (l.drop (i+2)):=by
 rw[aPM (by omega),aPM h];rfl
theorem aw7(h:¬i+1<l.length):dR cl (l.drop i)=[]:=by
 have:(l.drop i).length<=1:=by grind
 match h:l.drop i with
 | []=>rfl
 | [_]=>rfl
 | _::_::_=>grind
set_option maxHeartbeats 1000000 in
theorem aw8(fJ:Nat)(t:gY)(b:h0)(h:Ic b.1 t.2):c' (Mx yY.sh (fJ,some t,some b,(fJ,v_ (some (some t),some (some b)),[],false),())) λy=>y.1.2.2.2=false->v_ (some (some t),some (some b)) y.1.2.2.1:=by
 obtain⟨E,L⟩:=h;have uA:∀ ab,v_ (some (some t),some (some b)) ab<->ab=uM b.1 t.2:=λab=>⟨λ⟨dM,bj,aE,bz,_,e⟩=>by cases aE;cases bz;exact e,λe=>⟨t,b,rfl,rfl,⟨E,L⟩,e⟩⟩
 generalize v_ (some (some t),some (some b))=S at *
 unfold Mx eZ iA bw cB bm bf cS iM bY pD be bU dE vJ;simp only[aPS,cp,amx];refine zV (λA=>∃ (u:Nat),u<=10/\A=(fJ,some b,t.2,(u:Int),(fJ,S,(t.2.take u).flatMap (dR b.1.2.2.2.1),false),())) (λA=>(10 - A.2.2.2.1).toNat) ?_ _ ⟨0,by omega,rfl⟩;rintro A ⟨u,hu,rfl⟩;by_cases GU:u<10
 ·have ax:decide ((u:Int)<10)=true:=by simpa using (by omega:(u:Int)<10)
  have vI:u<t.2.length:=by omega
  have aw9:=bs (n:=(u:Int)+1);have hm:=amk vI;obtain⟨an,a6⟩:=L _ hm;simp only[ax,if_true,ed vI];rw[bc (show (0:Int)<=(u:Int)/\(u:Int)<Int.ofNat 10 by rw[cC];omega)];have gu:uM b.1 t.2=(t.2.take u).flatMap (dR b.1.2.2.2.1)++(dR b.1.2.2.2.1 t.2[u]++(t.2.drop (u+1)).flatMap (dR b.1.2.2.2.1)):=by
   unfold uM;conv=>lhs;rw[<-aQ1 u t.2,aPM vI]
   simp only[List.flatMap_append,aQf]
  generalize aw_:t.2[u]=lV at *
  generalize (t.2.drop (u+1)).flatMap (dR b.1.2.2.2.1)=R at *
  generalize jS:(t.2.take u).flatMap (dR b.1.2.2.2.1)=P at *
  have aw':(t.2.take (u+1)).flatMap (dR b.1.2.2.2.1)=P++dR b.1.2.2.2.1 lV:=by
   rw[aQH,ams vI,aRg,List.flatMap_append,jS,aw_];simp
  rw[fN];refine (zV (p:=λz=>match z with | .aw z=>z=(fJ,some b,t.2,(u:Int),(fJ,S,P++dR b.1.2.2.2.1 lV,false),()) | .aV z=>(match z with | .aw _=>False | .aV y=>y.1.2.2.2=true)) (λA=>∃ (i:Nat) (Q:List b3),i<=lV.length+1/\Q++dR b.1.2.2.2.1 (lV.drop i)=dR b.1.2.2.2.1 lV/\A=(fJ,some b,lV,(i:Int),t.2,(u:Int),(fJ,S,P++Q,false),())) (λA=>(20 - A.2.2.2.1).toNat) ?_ _ ⟨0,[],by omega,by simp,by simp⟩).mono λz bA=>?_
  ·rintro A ⟨i,Q,sP,qo,rfl⟩;have hw:=bs (n:=(i:Int)+1);have gz:=bs (n:=(i:Int)+2);by_cases G:i+1<lV.length
   ·have ae2:i<lV.length:=by omega
    have ax:decide ((i:Int)+1<(lV.length:Int))=true:=by simpa using (by omega:(i:Int)+1<(lV.length:Int))
    have c7:(0:Int)<=(i:Int)+1/\(i:Int)+1<(lV.length:Int):=⟨by omega,by omega⟩
    have j7:lV.getD ((i:Int)+1).toNat ((0,0,0,0,0,0),0)=lV[i+1]:=by
     rw[show ((i:Int)+1).toNat=i+1 from by omega,xJ G]
    have em:yY.sh (b.1,lV[i].2,lV[i+1].2)=mpure (om b.1.2.2.2.1 lV[i].2 lV[i+1].2):=bP (a6 i G) _;simp only[Prod.cv,Prod.fE,cC,dm,hw,ax,if_true,ed ae2,dK ae2,c7,j7,aPS,amx,em,tK,kF,aQK,cp,aRj];rw[fN,h5];have dh:=aw6 (cl:=b.1.2.2.2.1) G;refine⟨⟨trivial,trivial,dR b.1.2.2.2.1 (lV.drop (i+2))++R,(uA _).2 ?_⟩,⟨true,trivial⟩,λy _=>?_⟩
    ·rw[gu,<-qo,dh];simp
    ·cases y with
     | false=>
      simp only[aQu,if_true,aN];exact dO.2 rfl
     | true=>
      simp only[aQm,aml,aPH,gz];refine dO.2 ⟨⟨i+2,Q++[(lV[i].1,om b.1.2.2.2.1 lV[i].2 lV[i+1].2)],by omega,?_,?_⟩,?_⟩
      ·rw[<-qo,dh];simp
      ·rw[aQy];rfl
      ·show (20 - ((i:Int)+2)).toNat<(20 - (i:Int)).toNat;omega
   ·have ax:decide ((i:Int)+1<(lV.length:Int))=false:=by simpa using (by omega:(lV.length:Int)<=(i:Int)+1)
    simp only[cC,dm,hw,ax,aml,aPH,aN];refine dO.2 ?_;rw[aw7 G,aPT]at qo;show (fJ,some b,t.2,(u:Int),(fJ,S,P++Q,false),())=_;rw[qo]
  ·cases z with
   | aw z=>
    have bA:z=_:=bA;subst bA;simp only[cY,dm,aw9];refine dO.2 ⟨⟨u+1,by omega,?_⟩,?_⟩
    ·rw[aw'];rfl
    ·show (10 - ((u:Int)+1)).toNat<(10 - (u:Int)).toNat;omega
   | aV z=>
    cases z with
    | aw z=>exact absurd bA id
    | aV y=>
     have bA:y.1.2.2.2=true:=bA;simp only[uG];refine dO.2 λh=>?_;rw[bA]at h;cases h
 ·have A7:u=10:=by omega
  subst A7;simp only[show decide (((10:Nat):Int)<10)=false from by decide,aml,aPH,aN];refine dO.2 λ_=>(uA _).2 ?_;show (t.2.take 10).flatMap _=_;rw[<-E,aQc];rfl
abbrev Er:aO:=⟨.ar (.bO vO) (.bO Bs),.cG (.ar iY bK),λ_=>True,λx=>v_ (some x.2,some x.1)⟩
theorem axa(x):a8 (avk v_ x) (Er.sh x):=bx λ_=>rfl
end Go.Fer.H
namespace Go.Fer.H
theorem Es{ag bet:Type}{f:ag->bet}:∀ {l:List ag},(l.map f).Nodup->∀ {a b:ag},a∈l->b∈l->f a=f b->a=b
 | [],_,a,b,aY,_,_=>by grind
 | x::l,aC,a,b,aY,U,e=>by
  rw[aQb,List.nodup_cons]at aC;rcases List.mem_cons.1 aY with E | E<;>rcases List.mem_cons.1 U with L | L
  ·grind
  ·grind
  ·grind
  ·exact Es aC.2 E L e
theorem axb{l m:z1'}(h:l.Perm m):l.sum=m.sum:=by
 induction h with
 | nil=>rfl
 | cons x _ aP=>grind
 | swap x y l=>grind
 | trans _ _ E L=>omega
variable {l:List b3}
theorem Ul(h:ja l=true){i:Nat}(G:i<l.length):fx l[i].1=1+((i % 2:Nat):Int)/\(0<i->l[i].2≠(l.getD (i - 1) bN).2):=by
 unfold ja at h;rw[aPZ]at h;have:=h i (by grind);unfold tp at this;grind
theorem ae3(cl:z4'):∀ l:List b3,(∀ i,(h:i<l.length)->fx l[i].1=1+((i % 2:Nat):Int))->dR cl l=((xL l).filter λp=>fx p.1.1 == 1).map λp=>(p.1.1,om cl p.1.2 p.2.2)
 | [],_=>rfl
 | [_],_=>rfl
 | [a,b],h=>by
  have aY:fx a.1=1:=h 0 (by simp);simp[dR,xL,aY]
 | a::b::c::r,h=>by
  have aY:fx a.1=1:=h 0 (by simp);have U:fx b.1=2:=h 1 (by simp);have aP:=ae3 cl (c::r) λi G=>by
   have:=h (i+2) (by grind);grind
  have e:xL (a::b::c::r)=(a,b)::(b,c)::xL (c::r):=rfl;rw[e,List.filter_cons_of_pos (by grind),List.filter_cons_of_neg (by grind),aQb,<-aP];rfl
abbrev pM(c:bg)(w:z1'):List b3:=uM c (pL c w)
theorem MY(c:bg)(w:z1'):pM c w=(fM 0 9).flatMap λu=>dR c.2.2.2.1 (cL c w u):=by
 rfl
variable {c:bg}{w:z1'}
theorem Um(hw:kI c w=true){u:Int}(hu:0<=u/\u<=9):jr c w u=cL c w u:=by
 unfold jr;rw[if_pos (MO hw hu)]
theorem axc{cl:z4'}(h:ja l=true)(kV:Int):H6 cl kV l=((dR cl l).find? λp=>p.1.1 == kV).map (·.2):=by
 rw[ae3 cl l λi G=>(Ul h G).1];unfold H6;rw[List.find?_map,List.find?_filter,Option.map_map];refine congrArg _ (congrArg (λf=>(xL l).find? f) ?_);grind
theorem ae4{ag bet:Type}{f g:ag->Option bet}:∀ {l:List ag},(∀ x∈l,f x=g x)->l.findSome? f=l.findSome? g
 | [],_=>rfl
 | x::l,h=>by
  rw[List.findSome?_cons,List.findSome?_cons,h x (by simp),ae4 λy ba=>h y (by grind)]
theorem Un(hw:kI c w=true)(kV:Int):nd c w kV=((pM c w).find? λp=>p.1.1 == kV).map (·.2):=by
 unfold nd;rw[MY,List.find?_flatMap,List.map_findSome?];refine ae4 λu hu=>?_;have hu:=vL.1 hu;rw[Um hw hu,axc (MO hw hu)];rfl
theorem ae5(aD:iO c)(hw:kI c w=true):Ic c (pL c w):=by
 have L:=H8 aD.T4 hw;have key:∀ u:Int,0<=u/\u<=9->(cL c w u).length<=12/\∀ i,(h:i+1<(cL c w u).length)->El (c,(cL c w u)[i].2,(cL c w u)[i+1].2):=by
  intro u hu;have:=Um hw hu;refine⟨H3 aD w u,?_⟩;have k:=λi=>@aeL c aD w L u i;simp only[this]at k;exact k
 refine⟨rfl,λl ah=>?_⟩;simp only[pL,aQO,aQY,or_false]at ah;rcases ah with rfl | rfl | rfl | rfl | rfl | rfl | rfl | rfl | rfl | rfl<;>exact key _ (by omega)
theorem ae6{cl:z4'}:∀ {l:List b3} {p:b3},p∈dR cl l->∃ i,∃ h:i+1<l.length,i % 2=0/\p=(l[i].1,om cl l[i].2 l[i+1].2)
 | [],_,h=>by simp[dR]at h
 | [_],_,h=>by simp[dR]at h
 | a::b::r,p,h=>by
  unfold dR at h;rcases List.mem_cons.1 h with rfl | h
  ·exact⟨0,by simp,rfl,rfl⟩
  ·obtain⟨i,G,L,e⟩:=ae6 h;exact⟨i+2,by grind,by omega,e⟩
theorem ae7(cl:z4'):∀ l:List b3,((dR cl l).map (·.1)).Sublist (l.map (·.1))
 | []=>.slnil
 | [_]=>List.nil_sublist _
 | a::b::r=>by
  unfold dR;simp only[aQb];exact ((ae7 cl r).cons _).cons_cons _
theorem ae8(l:List bI):((iN l).map (·.1)).Nodup:=by
 unfold iN;have key:∀ ab:z1',ab.Nodup->((ab.filterMap λid=>l.find? λs=>s.1 == id).map (·.1)).Nodup/\∀ k∈(ab.filterMap λid=>l.find? λs=>s.1 == id).map (·.1),k∈ab:=by
  grind
 refine (key _ ?_).1;unfold fM;show List.Pairwise _ _;rw[aQ7];exact (aQJ).imp λh=>by omega
theorem Uo(c:bg):((hd c).map (·.1)).Nodup:=by
 unfold hd;exact (ae8 c.2.1).sublist (List.filter_sublist.map _)
theorem Up{a b:bI}(aY:a∈hd c)(U:b∈hd c)(h:a.1=b.1):a=b:=by
 exact Es (Uo c) aY U h
theorem ae9(c:bg)(w:z1')(u:Int):((cL c w u).map (·.1)).Perm ((hd c).filter λs=>decide (xF s=u)):=by
 unfold cL rs;refine ((HY kp _).map _).trans ?_;rw[aQ4];exact List.Perm.of_eq (List.map_id' _)
variable {p:b3}
theorem ae_(h:p∈pM c w):∃ u,0<=u/\u<=9/\∃ i,∃ G:i+1<(cL c w u).length,i % 2=0/\p=((cL c w u)[i].1,om c.2.2.2.1 (cL c w u)[i].2 (cL c w u)[i+1].2):=by
 rw[MY,aRr]at h;obtain⟨u,hu,ai⟩:=h;obtain⟨i,G,L,e⟩:=ae6 ai;exact⟨u,(vL.1 hu).1,(vL.1 hu).2,i,G,L,e⟩
theorem Et(h:p∈pM c w):p.1∈hd c:=by
 obtain⟨u,_,_,i,G,_,rfl⟩:=ae_ h;exact (H4 (amk (by omega:i<(cL c w u).length))).1
theorem axd(hw:kI c w=true)(h:p∈pM c w):fx p.1=1:=by
 obtain⟨u,E,L,i,G,an,rfl⟩:=ae_ h;have:=(Ul (MO hw ⟨E,L⟩) (by omega:i<(cL c w u).length)).1;grind
theorem Uq(c:bg)(w:z1'):((pM c w).map (·.1)).Nodup:=by
 have hc:(hd c).Nodup:=by
  have:=Uo c;exact List.Pairwise.of_map _ (λa b h e=>h (by rw[e])) this
 have hu:∀ u,((dR c.2.2.2.1 (cL c w u)).map (·.1)).Nodup/\∀ s∈(dR c.2.2.2.1 (cL c w u)).map (·.1),xF s=u:=by
  intro u;have az:=ae7 c.2.2.2.1 (cL c w u);have ai:=ae9 c w u;grind
 rw[MY,List.map_flatMap];have key:∀ ab:z1',ab.Nodup->(ab.flatMap λu=>(dR c.2.2.2.1 (cL c w u)).map (·.1)).Nodup/\∀ s∈(ab.flatMap λu=>(dR c.2.2.2.1 (cL c w u)).map (·.1)),xF s∈ab:=by
  grind
 refine (key _ ?_).1;unfold fM;show List.Pairwise _ _;rw[aQ7];exact (aQJ).imp λh=>by omega
theorem ae'{ag:Type}(BD:ag->Int):∀ (l:List ag) (n:Int),l.foldl (λn x=>n+BD x) n=n+(l.map BD).sum
 | [],n=>by simp
 | x::l,n=>by simp only[aP3,aQb,List.sum_cons];rw[ae' BD l];omega
variable {ag:Type}
theorem axe{f g:ag->Int}{l:List ag}(h:∀ x∈l,f x=g x):(l.map f).sum=(l.map g).sum:=by rw[aPN h]
theorem axf{psiq:b3->Int}:∀ (C:List bI) (H:List b3),(C.map (·.1)).Nodup->(H.map (·.1)).Nodup->(∀ p∈H,p.1∈C)->(C.map λs=>(((H.find? λp=>p.1.1 == s.1).map psiq).getD 0)).sum=(H.map psiq).sum:=by
 intro C H ky pk uj;have e:(H.map psiq).sum=((C.filterMap λs=>H.find? λp=>p.1.1 == s.1).map psiq).sum:=by
  refine axb (List.Perm.map psiq ?_);have axg:H.Nodup:=List.Pairwise.of_map _ (λa b h e=>h (by rw[e])) pk;refine (aQL axg ?_).2 λp=>?_
  ·have:∀ C:List bI,(C.map (·.1)).Nodup->(C.filterMap λs=>H.find? λp=>p.1.1 == s.1).Nodup/\∀ q∈(C.filterMap λs=>H.find? λp=>p.1.1 == s.1),q.1.1∈C.map (·.1):=by
    grind
   grind
  ·rw[List.mem_filterMap];constructor
   ·intro ai;refine⟨p.1,uj p ai,?_⟩;have hex:(H.find? λq=>q.1.1 == p.1.1).isSome=true:=List.find?_isSome.2 ⟨p,ai,by simp⟩;obtain⟨q,bB⟩:=Option.isSome_iff_exists.1 hex;have Ie:q.1.1=p.1.1:=by grind
    have y1:=aQp bB;have Dt:q.1=p.1:=Es ky (uj q y1) (uj p ai) Ie;have:q=p:=Es pk y1 ai Dt;grind
   grind
 rw[e];have:∀ C:List bI,(C.map λs=>(((H.find? λp=>p.1.1 == s.1).map psiq).getD 0)).sum=((C.filterMap λs=>H.find? λp=>p.1.1 == s.1).map psiq).sum:=by
  intro C;induction C with
  | nil=>rfl
  | cons s C aP=>
   grind
 grind
def y2(c:bg)(g:Int)(p:b3):Int:=if kH p.1=g then oo c.2.2.2.2 p.2 else 0
theorem axh(hw:kI c w=true)(g:Int):T9 c w g=((pM c w).map (y2 c g)).sum:=by
 rw[<-axf (psiq:=y2 c g) (hd c) (pM c w) (Uo c) (Uq c w) λp ai=>Et ai];unfold T9;have e:(λ(n:Int) (s:bI)=>if (fx s=1/\kH s=g)/\(nd c w (oi s)).isSome=true then n+oo c.2.2.2.2 ((nd c w (oi s)).getD 0) else n)=λn s=>n+(if (fx s=1/\kH s=g)/\(nd c w (oi s)).isSome=true then oo c.2.2.2.2 ((nd c w (oi s)).getD 0) else 0):=by
  grind
 rw[e,ae',aRm];refine axe λs az=>?_;rw[Un hw];cases ay:(pM c w).find? λp=>p.1.1 == oi s with
 | none=>simp
 | some p=>
  have ai:=aQp ay;have E:p.1.1=s.1:=by grind
  have L:p.1=s:=Up (Et ai) az E;have an:=axd hw ai;rw[L]at an;simp only[aRf,amx,aPS,aRe,an,aRs,y2,L]
theorem Eu(c:bg)(b:Bool):((fF c b).2≠0/\(fF c b).1=[]/\jb c b=(none,(fF c b).2))\/(fF c b=(dI c,0)/\dH c=0/\b=true/\jb c b=(some (xQ c),0)):=by
 unfold fF jb;grind
theorem Ur{ag bet:Type}{f g:ag->Option bet}:∀ {l:List ag},(∀ x∈l,f x=g x)->l.filterMap f=l.filterMap g
 | [],_=>rfl
 | x::l,h=>by
  rw[List.filterMap_cons,List.filterMap_cons,h x (by simp),Ur λy ba=>h y (by grind)]
theorem afa:xM []=(0,0):=rfl
theorem axi(ab:List ag)(P:ag->Option gY)(f:Option gY->M (z27'))(v:ag->z27')(h:∀ w∈ab,f (P w)=mpure (v w)):Eo (ab.map P) f=BB (ab.filterMap λw=>if (v w).2=true then some (v w).1 else none):=by
 unfold Eo;rw[List.filterMap_map];refine congrArg BB (Ur λw hw=>?_);simp_all
theorem afb(BD:ag->Int)(ab:List ag):(ab.filterMap λw=>if ((BD w,true):z27').2=true then some ((BD w,true):z27').1 else none)=ab.map BD:=by
 simp
theorem Us(ah:(dI c).length<=60){f:Option gY->M (z27')}{v:z1'->z27'}(h:∀ w∈dI c,f (kW c w)=mpure (v w)):Ep.sh (some (xQ c),f)=mpure ((BB ((dI c).filterMap λw=>if (v w).2=true then some (v w).1 else none)).getD (0,0),(BB ((dI c).filterMap λw=>if (v w).2=true then some (v w).1 else none)).isSome):=by
 refine (bP ⟨xQ c,rfl,show ((dI c).map (kW c)).length<=60 by grind,λt aH=>?_⟩ _).trans (congrArg mpure ?_)
 ·show ((Eo ((dI c).map (kW c)) f).getD (0,0),(Eo ((dI c).map (kW c)) f).isSome)=_;rw[axi _ _ f v h]
 grind
theorem axj:∀ {l:z1'},(BB l).isSome=!l.isEmpty:=by
 intro l;have key:∀ (l:z1') (o:Option (z12')),o.isSome=true->(l.foldl (λo n=>some (MP o n)) o).isSome=true:=by
  intro l;induction l<;>grind
 cases l with
 | nil=>rfl
 | cons n l=>exact key l _ rfl
theorem If{f:Option h0->M Bool}{b:Bool}(h:jK c)(ay:dH c=0->f (some (c,hd c,[]))=mpure b):qD.sh (c,f)=mpure (jb c b):=by
 refine (bP ⟨h,λhc=>⟨b,ay hc⟩⟩ _).trans (congrArg mpure ?_);show jb c (Ib c f)=jb c b;unfold jb Ib;simp_all
theorem Ig(h:jK c)(hc:dH c=0):(dI c).length<=60:=aPL (T' c _ _) (h.2 hc)
theorem y3(h:w∈dI c):kI c w=true:=Ua c _ _ _ h
abbrev Ev:aO:=⟨.ar iY (.bO bK),dY,λx=>∃ k:Int,x.2=some k/\True,λx=>decide (oi x.1=x.2.getD 0)&&decide (fx x.1=1)⟩
theorem axk(x):a8 (avp x) (Ev.sh x):=bx λ_=>rfl
abbrev Ut:aO:=⟨.ar (.bO vO) (.bO bK),dY,λx=>∃ (b:h0) (k:Int),x.2=some k/\x.1=some b/\b.2.1.length<2 ^ 63,λx=>(x.1.getD (xP,[],[])).2.1.any λs=>oi s == x.2.getD 0&&fx s == 1⟩
theorem axl(x):a8 (adZ (h3 iY).sh Ev.sh x) (Ut.sh x):=bx λh=>by
 obtain⟨o,k⟩:=x;obtain⟨b,_,_,U,h⟩:=h;subst U;unfold adZ;simp only[aPS,cp,amx];have af:∀ s,Ev.sh (s,some (k.getD 0))=mpure (decide (oi s=k.getD 0)&&decide (fx s=1)):=λs=>bP ⟨_,rfl,trivial⟩ _;rw[show (h3 iY).sh (b.2.1,λs=>Ev.sh (s,some (k.getD 0)))=mpure (b.2.1.any λs=>(Ev.sh (s,some (k.getD 0))).val false) from bP ⟨h,λs _=>⟨_,af s⟩⟩ _,aN];refine congrArg mpure ?_;refine congrArg (λp=>b.2.1.any p) ?_;funext s;rw[af,kF];rfl
theorem afc{f:Int->M Int}{n:Int}:∀ (ab:List b3),(∀ p∈ab,p.1.1=n->∃ v,f p.2=mpure v)->
  kl (λ(A:Int×(Int->M Int)×Int×Bool×Unit) (y:bI×Int)=>aq (if decide (y.1.1=A.1)=true then aq (A.2.1 y.2) λy=>mpure (dS.ret,y,true,()) else mpure
 (dS.normal,A.2.2.1,A.2.2.2.1,())) λp=>mpure (p.1,A.1,A.2.1,p.2.1,p.2.2.1,())) ab (n,f,0,false,())=(ab.find? λp=>p.1.1 == n).elim (mpure (dS.normal,n,f,0,false,())) λp=>mpure (dS.ret,n,f,(f p.2).val 0,true,())
 | [],_=>rfl
 | p::ab,h=>by
  unfold kl;by_cases ai:p.1.1=n
  ·obtain⟨v,af⟩:=h p (by simp) ai;simp_all
  ·have aP:=afc ab λq bB=>h q (by grind);simp_all
abbrev Uu:aO:=⟨.ar (.bO Bs) (.ar (.bO (.bO vO)) (.ar (.bO bK) (.bO (.fn bK bK)))),.ar bK .bool,λx=>∃ (t:gY) (b:h0) (n:Int) (f:Int->M Int),x=(some t,some (some b),some n,some f)/\Ic b.1 t.2/\∀ p∈uM b.1 t.2,p.1.1=n->∃ v,f p.2=mpure v,λx=>((uM ((x.2.1.getD none).getD (xP,[],[])).1 (x.1.getD ([],[])).2).find? λp=>p.1.1 == x.2.2.1.getD 0).elim (0,false) λp=>(((x.2.2.2.getD λ_=>d') p.2).val 0,true)⟩
theorem axm(x):a8 (ad0 Er.sh x) (Uu.sh x):=td λh=>by
 obtain⟨t,b,n,f,rfl,E,L⟩:=h;unfold ad0 bm;simp only[amx];rw[show Er.sh (some b,some t)=mpure (v_ (some (some t),some (some b))) from rfl,aN,fN];refine⟨⟨_,t,b,rfl,rfl,E,rfl⟩,λab kn=>?_⟩;obtain⟨dM,bj,aE,bz,_,rfl⟩:=kn;cases aE;cases bz;rw[afc     _ L];cases (uM b.1 t.2).find? λp=>p.1.1 == n with
 | none=>simp;exact dO.2 rfl
 | some p=>simp;exact dO.2 rfl
abbrev Ew:aO:=⟨.ar lv (.ar bK (.fn bK bK)),.ar oY bK,λx=>jK x.1/\∀ w∈dI x.1,∀ m,dH x.1=0->nd x.1 w x.2.1=some m->∃ v,x.2.2 m=mpure v,λx=>(xM ((nM x.1 x.2.1).1.map λm=>(x.2.2 m).val 0),(nM x.1 x.2.1).2)⟩
theorem axn(x):a8 (adJ qD.sh Ep.sh Ut.sh Uu.sh x) (Ew.sh x):=bx λh=>by
 obtain⟨c,n,f⟩:=x;obtain⟨h,ay⟩:=h;unfold adJ bm;show _=mpure (xM ((nM c n).1.map λm=>(f m).val 0),(nM c n).2);unfold nM;rw[If (b:=Em c n) h λhc=>bP ⟨(c,hd c,[]),n,rfl,rfl,by have:=(ru hc).T6;grind⟩ _];rcases Eu c (Em c n) with⟨E,L,an⟩ | ⟨E,L,an,a6⟩
 ·rw[an];simp only[aN];rw[if_pos (by grind),if_pos E];rfl
 ·rw[E,a6];simp only[aN];have aD:=ru L;rw[Us   (Ig h L) λw hw=>?_,aN]
  ·have e:((dI c).filterMap λw=>if ((nd c w n).elim ((0,false)) λm=>((f m).val 0,true)).2=true then some ((nd c w n).elim ((0,false)) λm=>((f m).val 0,true)).1 else none)=((dI c).filterMap λw=>nd c w n).map λm=>(f m).val 0:=by
    rw[List.map_filterMap];refine Ur λw _=>?_;cases nd c w n<;>rfl
   rw[e,axj];generalize (dI c).filterMap (λw=>nd c w n)=l;cases l<;>rfl
  ·have aH:=y3 hw;have Gk:=Un aH n;refine (bP ⟨(w,pL c w),xQ c,n,f,rfl,ae5 aD aH,λp ai Uv=>?_⟩ _).trans (congrArg mpure ?_)
   ·show ((pM c w).find? λp=>p.1.1 == n).elim (0,false) (λp=>((f p.2).val 0,true))=_;rw[Gk];cases (pM c w).find? λp=>p.1.1 == n<;>rfl
   ·have hex:((pM c w).find? λq=>q.1.1 == n).isSome=true:=List.find?_isSome.2 ⟨p,ai,by grind⟩;obtain⟨q,bB⟩:=Option.isSome_iff_exists.1 hex;have Ie:q.1.1=n:=by grind
    have y1:=aQp bB;have az:=Up (Et y1) (Et ai) (Ie.trans Uv.symm);have:=Es (Uq c w) y1 ai az;grind
abbrev BE:aO:=⟨bK,bK,λ_=>True,λx=>x⟩
theorem axo(x):a8 (avj x) (BE.sh x):=bx λ_=>rfl
theorem axp(x):a8 (ady Ew.sh BE.sh x) (MQ.sh x):=bx λh=>by
 obtain⟨c,n⟩:=x;unfold ady;rw[show Ew.sh (c,n,BE.sh)=mpure (xM ((nM c n).1.map λm=>(BE.sh m).val 0),(nM c n).2) from bP ⟨h,λ_ _ m _ _=>⟨m,rfl⟩⟩ _];simp;unfold Ub;have:((nM c n).1.map λm=>(BE.sh m).val 0)=(nM c n).1:=by
  have:(λm=>(BE.sh m).val 0)=λm=>m:=by
   funext m;exact kF
  simp_all
 grind
abbrev BF:aO:=⟨.ar bK (.bO lv),bK,λx=>∃ c:bg,x.2=some c/\BA (c.2.2.2.2,x.1),λx=>oo (x.2.getD xP).2.2.2.2 x.1⟩
theorem axq(x):a8 (adK yZ.sh x) (BF.sh x):=bx λh=>by
 obtain⟨m,q⟩:=x;obtain⟨c,hc,h⟩:=h;subst hc;unfold adK;simp only[amx];rw[show yZ.sh (c.2.2.2.2,m)=mpure (oo c.2.2.2.2 m) from bP h _,aN]
theorem afd(aD:iO c)(hw:kI c w=true){n m:Int}(hm:nd c w n=some m):BF.sh (m,some c)=mpure (oo c.2.2.2.2 m):=by
 have:=aeP aD (H8 aD.T4 hw) hm;exact bP ⟨c,rfl,aD.T5,show -100000<=m by omega,show m<=20000 by omega⟩ _
theorem axr{n m:Int}(hm:m∈(nM c n).1):dH c=0/\∃ w,kI c w=true/\w∈dI c/\nd c w n=some m:=by
 unfold nM at hm;split at hm
 ·grind
 ·split at hm
  ·grind
  ·rw[List.mem_filterMap]at hm;obtain⟨w,hw,he⟩:=hm;obtain⟨E,L,an,_⟩:=awK hw;grind
theorem axs(x):a8 (adx Ew.sh BF.sh x) (MR.sh x):=bx λh=>by
 obtain⟨c,n⟩:=x;unfold adx;rw[show Ew.sh (c,n,λm=>BF.sh (m,some c))=mpure (xM ((nM c n).1.map λm=>(BF.sh (m,some c)).val 0),(nM c n).2) from bP ⟨h,λw hw m hc hm=>⟨_,afd (ru hc) (y3 hw) hm⟩⟩ _];simp;unfold Uc;have:((nM c n).1.map λm=>(BF.sh (m,some c)).val 0)=(nM c n).1.map λm=>oo c.2.2.2.2 m:=by
  refine aPN λm hm=>?_;obtain⟨hc,w,hw,_,he⟩:=axr hm;rw[afd (ru hc) hw he,kF]
 grind
abbrev Uw:aO:=⟨.ar (.bO vO) (.bO bK),dY,λx=>∃ k:Int,x.2=some k/\True,λx=>cJ (x.2.getD 0) 0 99⟩
theorem axt(x):a8 (adP D5.sh x) (Uw.sh x):=bx λ_=>by
 unfold adP;rw[show D5.sh (x.2.getD 0)=mpure (cJ (x.2.getD 0) 0 99) from rfl,aN]
abbrev Ux:aO:=⟨.ar (.bO Bs) (.ar (.bO (.bO vO)) (.ar (.bO bK) (.bO lv))),.ar bK .bool,λx=>∃ (t:gY) (b:h0) (n:Int) (c:bg),x=(some t,some (some b),some n,some c)/\Ic b.1 t.2/\(uM b.1 t.2).length<=1000/\∀ p∈uM b.1 t.2,BA (c.2.2.2.2,p.2),λx=>(((uM ((x.2.1.getD none).getD (xP,[],[])).1 (x.1.getD ([],[])).2).map (y2 (x.2.2.2.getD xP) (x.2.2.1.getD 0))).sum,true)⟩
theorem Uy{c:bg}{n:Int}:∀ (ab:List b3) (a:Int),(∀ p∈ab,BA (c.2.2.2.2,p.2))->0<=a->a+100000*(ab.length:Int)<=1000000000->
  kl (λ(A:Int×bg×Int×Unit) (y:bI×Int)=>aq (if decide (y.1.2.2.2.2.2=A.1)=true then ae (yZ.sh (A.2.1.2.2.2.2,y.2)).e3 (mpure (dS.normal,IntKind.wrap
 .i64 (Add.add A.2.2.1 (M.val (yZ.sh (A.2.1.2.2.2.2,y.2)) 0)),())) else mpure (dS.normal,A.2.2.1,())) λp=>mpure (p.1,A.1,A.2.1,p.2.1,())) ab (n,c,a,())=mpure (dS.normal,n,c,a+(ab.map (y2 c n)).sum,())
 | [],a,_,_,_=>by simp[kl]
 | p::ab,a,h,aW,E=>by
  unfold kl;simp  at E;by_cases ai:p.1.2.2.2.2.2=n
  ·have U:=awy (h p (by simp));have af:yZ.sh (c.2.2.2.2,p.2)=mpure (oo c.2.2.2.2 p.2):=bP (h p (by simp)) _;have hw:=bs (n:=a+oo c.2.2.2.2 p.2);have aP:=Uy   (n:=n) ab (a+oo c.2.2.2.2 p.2) (λq bB=>h q (by grind)) (by omega) (by omega);simp only[ai,aRj,if_true,af,tK,kF,cp,dm,aN];simp only[dm]at aP;rw[aQb];rw[show y2 c n p=oo c.2.2.2.2 p.2 from if_pos ai];grind
  ·have aP:=Uy   (n:=n) ab a (λq bB=>h q (by grind)) aW (by omega);simp only[ai,aQj,aml,aPH,aN];rw[aP,aQb,List.sum_cons];rw[show y2 c n p=0 from if_neg ai,aRm]
theorem axu(x):a8 (adR yZ.sh Er.sh x) (Ux.sh x):=td λh=>by
 obtain⟨t,b,n,c,rfl,E,L,an⟩:=h;unfold adR eZ bm dE vJ;simp only[amx];rw[show Er.sh (some b,some t)=mpure (v_ (some (some t),some (some b))) from rfl,aN,fN];refine⟨⟨_,t,b,rfl,rfl,E,rfl⟩,λab kn=>?_⟩;obtain⟨dM,bj,aE,bz,_,rfl⟩:=kn;cases aE;cases bz;rw[Uy _ 0 an (by omega) (by omega)];simp;exact dO.2 rfl
theorem afe(cl:z4'):∀ l:List b3,(dR cl l).length<=l.length
 | []=>by simp[dR]
 | [_]=>by simp[dR]
 | a::b::r=>by unfold dR;simp;have:=afe cl r;omega
theorem axv(aD:iO c)(w:z1'):(pM c w).length<=1000:=by
 rw[MY];have:=T_ (λu=>dR c.2.2.2.1 (cL c w u)) 12 (fM 0 9) λu _=>aPL (afe _ _) (H3 aD w u);rw[show (fM 0 9).length=10 from by decide]at this;omega
theorem axw(aD:iO c)(hw:kI c w=true)(ai:p∈pM c w):BA (c.2.2.2.2,p.2):=by
 have hex:((pM c w).find? λq=>q.1.1 == p.1.1).isSome=true:=List.find?_isSome.2 ⟨p,ai,by simp⟩;obtain⟨q,bB⟩:=Option.isSome_iff_exists.1 hex;have Ie:q.1.1=p.1.1:=by grind
 have y1:=aQp bB;have:=Es (Uq c w) y1 ai (Up (Et y1) (Et ai) Ie);have af:nd c w p.1.1=some p.2:=by rw[Un hw,bB,this];rfl
 have:=aeP aD (H8 aD.T4 hw) af;exact⟨aD.T5,show -100000<=p.2 by omega,show p.2<=20000 by omega⟩
theorem axx(x):a8 (adA qD.sh Ep.sh Uw.sh Ux.sh x) (MT.sh x):=bx λh=>by
 obtain⟨c,g⟩:=x;unfold adA bm;show _=mpure (MS c g);unfold MS;rw[If (b:=cJ g 0 99) h λhc=>bP ⟨g,rfl,trivial⟩ _];rcases Eu c (cJ g 0 99) with⟨E,L,an⟩ | ⟨E,L,an,a6⟩
 ·rw[L];simp  [afa];grind
 ·rw[E,a6];simp;have aD:=ru L;rw[Us   (Ig h L) λw hw=>?_,aN,afb]
  ·rfl
  ·have aH:=y3 hw;refine (bP ⟨(w,pL c w),xQ c,g,c,rfl,ae5 aD aH,axv aD w,λp ai=>axw aD aH ai⟩ _).trans (congrArg mpure ?_);show (((pM c w).map (y2 c g)).sum,true)=_;rw[axh aH]
def o1(t:Int):List b3->b3×Bool->b3×Bool
 | [],b=>b
 | e::l,b=>o1 t l (if e.2<=t then (e,decide (fx e.1=1)) else b)
def jc(l:List b3)(t:Int):b3×Bool:=o1 t l (bN,false)
variable {b:b3×Bool}{t:Int}{e:b3}
theorem aff(h:e.2<=t):o1 t (e::l) b=o1 t l (e,decide (fx e.1=1)):=by rw[o1,if_pos h]
theorem afg(h:¬e.2<=t):o1 t (e::l) b=o1 t l b:=by rw[o1,if_neg h]
theorem afh(t:Int):∀ (l:List b3) (b:b3×Bool),l.foldl (λb e=>if e.2<=t then (e,decide (fx e.1=1)) else b) b=o1 t l b
 | [],_=>rfl
 | e::l,b=>afh t l _
theorem axy(l:List b3)(t:Int)(h:∀ e∈l,fx e.1=1\/fx e.1=2):qz l t=(if (jc l t).2=true then kH (jc l t).1.1 else -1,(jc l t).1.2):=by
 have key:∀ (l:List b3) (b:b3×Bool),(∀ e∈l,fx e.1=1\/fx e.1=2)->l.foldl (λb e=>if e.2<=t then (if fx e.1=2 then (-1,e.2) else (kH e.1,e.2)) else b) (if b.2=true then kH b.1.1 else -1,b.1.2)=(if (o1 t l b).2=true then kH (o1 t l b).1.1 else -1,(o1 t l b).1.2):=by
  intro l;induction l with
  | nil=>intro b _;rfl
  | cons e l aP=>
   intro b h;rw[aP3];by_cases he:e.2<=t
   ·rw[aff he,<-aP (e,decide (fx e.1=1)) λx al=>h x (by grind),if_pos he];grind
   ·rw[afg he,if_neg he];grind
 exact key l (bN,false) h
theorem afi(l:List b3)(t:Int):jc l t=(bN,false)\/((jc l t).1∈l/\(jc l t).1.2<=t/\(jc l t).2=decide (fx (jc l t).1.1=1)):=by
 have key:∀ (l:List b3) (b:b3×Bool),o1 t l b=b\/((o1 t l b).1∈l/\(o1 t l b).1.2<=t/\(o1 t l b).2=decide (fx (o1 t l b).1.1=1)):=by
  intro l;induction l with
  | nil=>intro b;exact .inl rfl
  | cons e l aP=>
   intro b;by_cases he:e.2<=t
   ·rw[aff he];grind
   ·rw[afg he];grind
 exact key l (bN,false)
abbrev Uz(t:gY):Prop:=t.2.length=10/\∀ l∈t.2,l.length<=12
abbrev BG:aO:=⟨.ar (.bO Bs) (.ar bK bK),.ar MB .bool,λx=>∃ t:gY,x.1=some t/\Uz t/\0<=x.2.1/\x.2.1<=9,λx=>jc ((x.1.getD ([],[])).2.getD x.2.1.toNat []) x.2.2⟩
theorem axz(x):a8 (adH x) (BG.sh x):=bx λh=>by
 obtain⟨o,u,m⟩:=x;obtain⟨t,E,⟨L,an⟩,a6,bS⟩:=h;change o=some t at E;change 0<=u at a6;change u<=9 at bS;subst E;unfold adH b7 bw cB bm bf aR bY be bU;show _=mpure (jc (t.2.getD u.toNat []) m);simp only[aPS,cp,amx];rw[bc (show (0:Int)<=u/\u<Int.ofNat 10 by grind)];have hm:t.2.getD u.toNat []∈t.2:=Bn a6 (by omega);have ah:=an _ hm;generalize t.2.getD u.toNat []=l at *
 rw[eH l (λi (b:b3×Bool)=>(m,b.2,l,(l.length:Int),(i:Int),bN,b.1,())) (λe b=>.aw (if e.2<=m then (e,decide (fx e.1=1)) else b)) (λb=>.aw (b.2,bN,b.1,())) (bN,false) ?_ ?_ ?_]
 ·rw[ec,aN,afh];rfl
 ·rfl
 ·intro i G b;have hw:=bs (n:=(i:Int)+1);simp only[Prod.cv,Prod.fE,cC,dQ G,if_true,ed G,dK G,cp,dm,hw,aJ.pF,amp];by_cases he:l[i].2<=m
  ·simp_all
  ·simp only[he,aPH,aN,cY,hw];rfl
 simp
theorem afj(c:bg)(w:z1'){u:Int}(aW:0<=u)(h:u<=9):(pL c w).getD u.toNat []=cL c w u:=by
 have hu:u=0\/u=1\/u=2\/u=3\/u=4\/u=5\/u=6\/u=7\/u=8\/u=9:=by omega
 rcases hu with rfl | rfl | rfl | rfl | rfl | rfl | rfl | rfl | rfl | rfl<;>rfl
theorem afk(aD:iO c)(w:z1'):Uz (w,pL c w):=by
 refine⟨rfl,λl ah=>?_⟩;simp only[pL,aQO,aQY,or_false]at ah;rcases ah with rfl | rfl | rfl | rfl | rfl | rfl | rfl | rfl | rfl | rfl<;>exact H3 aD w _
theorem afl(aD:iO c)(w:z1'){u:Int}(aW:0<=u)(h:u<=9):BG.sh (kW c w,u,t)=mpure (jc (cL c w u) t):=by
 refine (bP ⟨_,rfl,afk aD w,aW,h⟩ _).trans (congrArg mpure ?_);show jc ((pL c w).getD u.toNat []) t=_;rw[afj c w aW h]
theorem axA(aD:iO c){u:Int}(he:e∈cL c w u):fx e.1=1\/fx e.1=2/\kH e.1=0:=(Ej.1 (aD.Ek (H4 he).1)).2.2.2.2.2
theorem UA(aD:iO c){u:Int}(he:e∈cL c w u):0<=kH e.1/\kH e.1<=99:=(Ej.1 (aD.Ek (H4 he).1)).2.2.2.2.1
theorem MZ(aD:iO c)(hw:kI c w=true){u:Int}(hu:0<=u/\u<=9)(t:Int):qz (jr c w u) t=(if (jc (cL c w u) t).2=true then kH (jc (cL c w u) t).1.1 else -1,(jc (cL c w u) t).1.2)/\(decide ((qz (jr c w u) t).1>=0)=(jc (cL c w u) t).2):=by
 have e:=axy (cL c w u) t λe he=>(axA aD he).imp id And.left;rw[Um hw hu];refine⟨e,?_⟩;rw[e];cases U:(jc (cL c w u) t).2 with
 | false=>simp
 | true=>
  simp only[if_true,amp];rcases afi (cL c w u) t with h | ⟨h,_⟩
  ·grind
  ·exact (UA aD h).1
abbrev Ex:aO:=⟨.ar (.bO vO) (.bO bK),dY,λx=>∃ k:Int,x.2=some k/\True,λx=>cJ (x.2.getD 0) 0 9999⟩
theorem afm(x):a8 (adM Bv.sh x) (Ex.sh x):=bx λ_=>by
 unfold adM;rw[show Bv.sh (x.2.getD 0)=mpure (cJ (x.2.getD 0) 0 9999) from rfl,aN]
theorem axB(x):a8 (avn Bv.sh x) (Ex.sh x):=afm x
def Ih(t:gY)(m p:Int):Int:=(fM 0 9).foldl (λn u=>if (jc (t.2.getD u.toNat []) m).2=true then n+p else n) 0
abbrev UB:aO:=⟨.ar (.bO Bs) (.ar (.bO bK) (.bO lv)),.ar bK .bool,λx=>∃ (t:gY) (m:Int) (c:bg),x=(some t,some m,some c)/\Uz t/\0<=c.2.2.2.2.2.2.2.2.2.2/\c.2.2.2.2.2.2.2.2.2.2<=100000,λx=>(Ih (x.1.getD ([],[])) (x.2.1.getD 0) (x.2.2.getD xP).2.2.2.2.2.2.2.2.2.2,true)⟩
theorem axC(x):a8 (adO BG.sh x) (UB.sh x):=bx λh=>by
 obtain⟨t,m,c,rfl,E,L,an⟩:=h;unfold adO eZ cB bD bm bQ bY be;simp only[amx];show _=mpure (Ih t m c.2.2.2.2.2.2.2.2.2.2,true);rw[e2 (fM 0 9) (λi (n:Int)=>(some t,m,c,n,(i:Int),())) (λu n=>.aw (if (jc (t.2.getD u.toNat []) m).2=true then n+c.2.2.2.2.2.2.2.2.2.2 else n)) (λn=>.aw (n,())) (λi n=>0<=n/\n<=100000*(i:Int)) 0 ?_ ?_ ?_ ?_]
 ·rw[ec,aN];rfl
 ·rfl
 ·omega
 ·intro i G n aC;have G:i<10:=by simpa [fM]using G
  have hw:=bs (n:=(i:Int)+1);have gz:=bs (n:=n+c.2.2.2.2.2.2.2.2.2.2);have ax:decide ((i:Int)<10)=true:=by grind
  refine⟨?_,λbj ef=>?_⟩
  ·simp only[ax,if_true,HI,aRm];rw[show BG.sh (some t,(i:Int),m)=mpure (jc (t.2.getD ((i:Int)).toNat []) m) from bP ⟨t,rfl,E,by simp,by grind⟩ _];simp only[aN,dm,hw,gz,aJ.pF];by_cases ak:(jc (t.2.getD ((i:Int)).toNat []) m).2=true
   ·simp only[ak,if_true,aN,cY,hw];rfl
   ·simp only[ak,aml,aPH,aN,cY,hw];rfl
  grind
 ·intro n aC;have:(fM 0 9).length=10:=by decide
  simp[this]
theorem axD(aD:iO c)(hw:kI c w=true)(m:Int):Ih (w,pL c w) m c.2.2.2.2.2.2.2.2.2.2=MM c w m*c.2.2.2.2.2.2.2.2.2.2:=by
 unfold Ih MM;have key:∀ (ab:z1') (n:Int),(∀ u∈ab,0<=u/\u<=9)->ab.foldl (λn u=>if (jc ((pL c w).getD u.toNat []) m).2=true then n+c.2.2.2.2.2.2.2.2.2.2 else n) (n*c.2.2.2.2.2.2.2.2.2.2)=(ab.foldl (λn u=>if (qz (jr c w u) m).1>=0 then n+1 else n) n)*c.2.2.2.2.2.2.2.2.2.2:=by
  intro ab;induction ab with
  | nil=>simp
  | cons u ab aP=>
   intro n h;have hu:=h u (by simp);obtain⟨_,L⟩:=MZ aD hw hu m;simp only[aP3];rw[afj c w hu.1 hu.2];grind
 have:=key (fM 0 9) 0 λu hu=>vL.1 hu;grind
theorem axE(x):a8 (adz qD.sh Ep.sh Ex.sh UB.sh x) (MV.sh x):=bx λh=>by
 obtain⟨c,t⟩:=x;change jK c at h;unfold adz bm;show _=mpure (MU c t);unfold MU;rw[If (b:=cJ t 0 9999) h λhc=>bP ⟨t,rfl,trivial⟩ _];rcases Eu c (cJ t 0 9999) with⟨E,L,an⟩ | ⟨E,L,an,a6⟩
 ·rw[L,an];simp only[aN,List.map_nil,afa];grind
 ·rw[E,a6];simp only[aN];rw[if_neg (by simp)];have aD:=ru L;have ai:=(ML.1 aD.T5).2.2.2.2.2.2;rw[Us (v:=λw=>(MM c w t*c.2.2.2.2.2.2.2.2.2.2,true)) (Ig h L) λw hw=>?_,aN,afb]
  ·rfl
  ·refine (bP ⟨(w,pL c w),t,c,rfl,afk aD w,ai.1,ai.2⟩ _).trans (congrArg mpure ?_);show (Ih (w,pL c w) t c.2.2.2.2.2.2.2.2.2.2,true)=_;rw[axD aD (y3 hw)]
theorem afn(p:z12')(m:z4')(k v:Int):gX (p::m) k v=if decide (k=p.1)=true then (p.1,v)::m else p::gX m k v:=rfl
theorem UC(k v:Int):∀ m:z4',((m.map (·.1)).Nodup->((gX m k v).map (·.1)).Nodup)/\∀ x,x∈(gX m k v).map (·.1)<->x∈m.map (·.1)\/x=k
 | []=>by
  rw[show gX [] k v=[(k,v)] from rfl];simp
 | p::m=>by
  obtain⟨E,L⟩:=UC k v m;grind [afn]
theorem afo(k v:Int){B:Int}:∀ m:z4',(∀ p∈m,0<=p.2/\p.2<=B)->0<=v/\v<=B->∀ p∈gX m k v,0<=p.2/\p.2<=B
 | [],_,af,p,ai=>by
  rw[show gX [] k v=[(k,v)] from rfl]at ai;grind
 | q::m,h,af,p,ai=>by
  rw[afn]at ai;split at ai
  ·grind
  ·rcases List.mem_cons.1 ai with rfl | ai
   ·grind
   ·exact afo k v m (λx al=>h x (by grind)) af p ai
def o2(c:bg)(w:z1')(u t:Int):Int:=if (jc (cL c w u) t).2=true then kH (jc (cL c w u) t).1.1 else -1
def BH(m:z4')(k:Int):Int:=Option.getD (Option.map (λx=>x.2) (List.find? (λp=>decide (k=p.1)) m)) 0
structure Ey(ab:z1')(i:Nat)(m:z4'):Prop where
 ko:(m.map (·.1)).Nodup
 mem:∀ x,x∈m.map (·.1)<->x∈ab
 val:∀ p∈m,0<=p.2/\p.2<=(i:Int)
theorem Ey.add{ab:z1'}{i:Nat}{m:z4'}(h:Ey ab i m)(k:Int)(G:i<=60):IntKind.wrap .i64 (BH m k+1)=BH m k+1/\Ey (ab++[k]) (i+1) (gX m k (BH m k+1)):=by
 have U:0<=BH m k/\BH m k<=i:=by
  unfold BH;cases ay:m.find? λp=>decide (k=p.1) with
  | none=>simp
  | some p=>exact h.val p (aQp ay)
 refine⟨bs,(UC _ _ _).1 h.ko,λx=>?_,afo _ _ _ (λp ai=>by have:=h.val p ai;omega) (by omega)⟩;rw[(UC _ _ _).2,h.mem];simp
theorem axF(aD:iO c)(hw:kI c w=true){u:Int}(hu:0<=u/\u<=9):((cL c w u).filter λe=>fx e.1 == 1).length<=11:=by
 have ah:=H3 aD w u;by_cases aN':(cL c w u).length=12
 ·have E:=(Ul (MO hw hu) (by omega:1<(cL c w u).length)).1;have hm:=amk (by omega:1<(cL c w u).length);have:((cL c w u).filter λe=>fx e.1 == 1).length<(cL c w u).length:=by
   refine List.length_filter_lt_length_iff_exists.2 ⟨_,hm,by grind⟩
  omega
 grind
theorem axG(c:bg)(w w':z1')(u:Int):(((cL c w u).filter λe=>fx e.1 == 1).map (·.1)).Perm (((cL c w' u).filter λe=>fx e.1 == 1).map (·.1)):=by
 have e:∀ w,((cL c w u).filter λe=>fx e.1 == 1).map (·.1)=((cL c w u).map (·.1)).filter λs=>fx s == 1:=λw=>by rw[List.filter_map];rfl
 grind [ae9]
theorem UD(c:bg)(w:z1')(u t:Int):o2 c w u t=-1\/∃ s∈((cL c w u).filter λe=>fx e.1 == 1).map (·.1),o2 c w u t=kH s:=by
 grind [o2,afi]
theorem axH(aD:iO c){u:Int}(hu:0<=u/\u<=9){K:z1'}(aC:K.Nodup)(kC:∀ x∈K,x∈(dI c).map λw=>o2 c w u t):K.length<=12:=by
 cases aU:dI c with
 | nil=>
  cases K with
  | nil=>simp
  | cons x K=>have:=kC x (by simp);grind
 | cons ep T=>
  have xy:kI c ep=true:=y3 (by grind);have uj:K ⊆ -1::(((cL c ep u).filter λe=>fx e.1 == 1).map (·.1)).map kH:=by
   intro x al;obtain⟨w,hw,rfl⟩:=List.mem_map.1 (kC x al);rcases UD c w u t with h | ⟨s,az,h⟩
   ·grind
   ·rw[h];exact amr _ (aQs ((axG c w ep u).mem_iff.1 az))
  have:=aC.length_le_of_subset uj;grind [axF]
abbrev UE:aO:=⟨.ar (.bO vO) (.ar (.bO bK) (.bO bK)),dY,λx=>∃ a b:Int,x.2=(some a,some b),λx=>y0 (x.2.1.getD 0) (x.2.2.getD 0)⟩
theorem axI(x):a8 (adF dy.sh Bv.sh x) (UE.sh x):=bx λ_=>by
 unfold adF cf;rw[awL,aN,show Bv.sh (x.2.2.getD 0)=mpure (cJ (x.2.2.getD 0) 0 9999) from rfl,oe,aN,xC];rfl
theorem afp(aD:iO c)(hw:kI c w=true){u:Int}(hu:0<=u/\u<=9)(t:Int):(qz (jr c w u) t).1=o2 c w u t:=by rw[(MZ aD hw hu t).1];rfl
theorem axJ(x):a8 (adw qD.sh BG.sh vQ.sh MG.sh UE.sh x) (MW.sh x):=td λh=>by
 obtain⟨c,u,t⟩:=x;change jK c at h;unfold adw b7 hg bw cB bD bm bf aR bY be bU;show c' _ λy=>y=vZ c u t;unfold vZ Ud;rw[If (b:=y0 u t) h λhc=>bP ⟨u,t,rfl⟩ _];rcases Eu c (y0 u t) with⟨E,L,an⟩ | ⟨E,L,an,a6⟩
 ·simp_all[dO]
 ·rw[a6];simp only[aN];rw[if_neg (by simp)];have aD:=ru L;have b6:(0<=u/\u<=9)/\0<=t/\t<=9999:=by
   grind [y0,uK]
  have hu:=b6.1;have hlen:=Ig h L;simp only[aPS,cp];rw[fN];refine (zV (p:=λz=>∃ m,z=.aw (m,())/\Ey ((dI c).map λw=>o2 c w u t) 60 m) (λA=>∃ (i:Nat) (m:z4'),i<=(dI c).length/\A=((dI c).map (kW c),(((dI c).map (kW c)).length:Int),(i:Int),u,t,m,())/\Ey (((dI c).take i).map λw=>o2 c w u t) i m) (λA=>((dI c).length - A.2.2.1).toNat) ?_ _ ⟨0,[],aPR _,rfl,⟨.nil,by simp,by simp⟩⟩).mono ?_
  ·rintro A ⟨i,m,sP,rfl,bp⟩;by_cases G:i<(dI c).length
   ·have dR:i<((dI c).map (kW c)).length:=by grind
    have hw:=bs (n:=i+1);obtain⟨cr,b4⟩:=bp.add (o2 c (dI c)[i] u t) (by omega);have tn:((dI c).take (i+1)).map (λw=>o2 c w u t)=((dI c).take i).map (λw=>o2 c w u t)++[o2 c (dI c)[i] u t]:=by
     grind [List.take_add_one]
    simp only[cC,dQ dR,ed dR,dK dR,cp,aQr];rw[afl aD _ hu.1 hu.2,aN];have fin:∀ k,k=o2 c (dI c)[i] u t->(∃ (n6:Nat) (dw:z4'),n6<=(dI c).length/\(((dI c).map (kW c),(((dI c).map (kW c)).length:Int),IntKind.wrap .i64 (i+1),u,t,gX m k (IntKind.wrap .i64 (BH m k+1)),()))=((dI c).map (kW c),(((dI c).map (kW c)).length:Int),(n6:Int),u,t,dw,())/\Ey (((dI c).take n6).map λw=>o2 c w u t) n6 dw)/\((dI c).length - IntKind.wrap .i64 (i+1)).toNat<((dI c).length - (i:Int)).toNat:=by
     grind
    cases U:(jc (cL c (dI c)[i] u) t).2 with
    | true=>
     simp only[if_true];rw[aN];exact dO.2 (fin _ (by grind [o2]))
    | false=>
     simp only[aml,aPH];rw[aN];exact dO.2 (fin (-1) (by grind [o2]))
   ·have axK:i=(dI c).length:=by omega
    subst axK;simp;refine dO.2 ⟨m,rfl,bp.ko,?_,λp ai=>by have:=bp.val p ai;omega⟩;have:=bp.mem;grind
  ·rintro z ⟨m,rfl,bp⟩;rw[cY];rw[show MG.sh m=mpure (lQ (some m)) from rfl,aN];have uN:m.length<=12:=by
    have:=axH aD hu   bp.ko λx al=>(bp.mem x).1 al;grind
   rw[show vQ.sh (lQ (some m))=mpure (hb jq (m.map (·.1))) from (bP (aeu (by omega)) _).trans (congrArg mpure aev),aN];refine dO.2 ?_;have aE:hb jq (m.map (·.1))=(fM (-1) 99).filter λg=>((dI c).map λw=>(qz (jr c w u) t).1).contains g:=by
    have axL:=aPN λw hw=>afp aD (y3 hw) hu t;rw[axL];have G:(fM (-1) 99).Pairwise (·<·):=by
     grind [fM,List.pairwise_lt_range]
    refine D7 ((G.filter _).imp λh=>Int.le_of_lt h) ((aQL bp.ko ((G.filter _).imp λh=>by omega)).2 λk=>?_);rw[bp.mem,List.mem_filter,vL];simp only[List.contains_iff_mem];refine⟨λak=>⟨?_,ak⟩,λak=>ak.2⟩;obtain⟨w,hw,rfl⟩:=List.mem_map.1 ak;rcases UD c w u t with h | ⟨s,az,h⟩
    ·omega
    ·obtain⟨e,he,rfl⟩:=List.mem_map.1 az;have:=UA aD (List.mem_filter.1 he).1;omega
   grind
def UF(c:bg)(l:List b3)(t:Int):Bool:=(jc l t).2&&decide (om c.2.2.2.1 (jc l t).1.2 t>=c.2.2.2.2.2.2.2.2.1)
theorem axM(aD:iO c)(hw:kI c w=true){u:Int}(hu:0<=u/\u<=9)(t:Int):UF c (cL c w u) t=H9 c w u t:=by
 grind [MZ,UF,H9]
theorem axN(x):a8 (adD qD.sh BG.sh yY.sh Ex.sh x) (MX.sh x):=bx λh=>by
 obtain⟨c,t⟩:=x;change jK c at h;unfold adD bw cB bm bf aR bQ bY be eB bU vJ;show _=mpure (v7 c t);unfold v7;rw[If (b:=cJ t 0 9999) h λhc=>bP ⟨t,rfl,trivial⟩ _];rcases Eu c (cJ t 0 9999) with⟨E,L,an⟩ | ⟨E,L,an,a6⟩
 ·simp_all
 ·rw[E,a6];simp only[aN];have aD:=ru L;have aH:=uK.1 an;have hlen:=Ig h L;have aU:∀ w∈dI c,kI c w=true:=λw hw=>y3 hw;rw[e2 (fM 0 9) (λi b=>(some (xQ c),(i:Int),c,t,b.1,b.2,())) (λu b=>.aw (if decide (rv c (dI c) u t=(dI c).length)=true then b.1++[u] else b.1,if decide (rv c (dI c) u t > 0)=true then b.2++[u] else b.2)) (λb=>.aw (b.1,b.2,())) (λi b=>b.1.length<=i/\b.2.length<=i) ([],[]) ?_ (by simp) ?_ ?_]
  ·rw[ec];have key:∀ (p q:Int->Bool) (l:z1') (a b:z1'),l.foldl (λz u=>(if p u=true then z.1++[u] else z.1,if q u=true then z.2++[u] else z.2)) (a,b)=(a++l.filter p,b++l.filter q):=by
    intro p q l;induction l with
    | nil=>simp
    | cons u l aP=>
     simp;grind
   rw[key (λu=>decide (rv c (dI c) u t=(dI c).length)) (λu=>decide (rv c (dI c) u t > 0))];simp
  ·rfl
  ·intro i G b ho;have G:=by simpa [fM]using G
   have hw:=bs (n:=i+1);have ax:decide ((i:Int)<10)=true:=by grind
   refine⟨?_,λbj ef=>?_⟩
   ·simp only[ax,HI,aRm,aPS,cp];rw[e2 (dI c) (λk (n:Nat)=>(some (xQ c),(i:Int),(n:Int),(i:Int),(dI c).map (kW c),(((dI c).map (kW c)).length:Int),(k:Int),c,t,b.1,b.2,())) (λw n=>.aw (if H9 c w i t=true then n+1 else n)) (λn=>.aw (some (xQ c),i,n,i,c,t,b.1,b.2,())) (λk n=>n<=k) 0 ?_ (by simp) ?_ ?_]
    ·rw[ec];have key:∀ (l:List (z1')) (n:Nat),l.foldl (λn w=>if H9 c w i t=true then n+1 else n) n=n+rv c l i t:=by
      intro l;induction l with
      | nil=>intro n;rfl
      | cons w l aP=>
       grind [rv]
     rw[key,aQG,aN,cY];have JR:((dI c).map (kW c)).length=(dI c).length:=aPW _;simp only[cC];have fq:cb (Add.add b.1.length (Add.add 0 1)):=i' (by grind);have gD:cb (Add.add b.2.length (Add.add 0 1)):=i' (by grind);have d1:decide ((rv c (dI c) i t:Int) > 0)=decide (rv c (dI c) i t > 0):=by simp
     have d2:decide ((rv c (dI c) i t)=((dI c).length:Int))=decide (rv c (dI c) i t=(dI c).length):=by grind
     rw[d1];cases E:decide (rv c (dI c) i t > 0)<;>cases L:decide (rv c (dI c) i t=(dI c).length)<;>
      simp only[if_true,aml,aPH,bc fq,bc gD,aN,cY,aPS,cp,amx,JR,d2,L,dm,hw]<;>rfl
    ·rfl
    ·intro k ak n aC;have oj:k<((dI c).map (kW c)).length:=by grind
     have hw:=bs (n:=k+1);have gz:=bs (n:=n+1);have mx:=aU _ (amk ak);have nN:=H8 L mx;have hu:0<=(i:Int)/\(i:Int)<=9:=by omega
     have w9:=axM aD mx hu t;obtain⟨cj,dN⟩:=MZ aD mx hu t;refine⟨?_,λbj ef=>?_⟩
     ·simp only[cC,dQ oj,ed oj,dK oj,dm,aQr];rw[afl aD _ hu.1 hu.2,aN,<-w9];unfold UF;cases U:(jc (cL c (dI c)[k] i) t).2 with
      | true=>
       have Qt:El (c,(jc (cL c (dI c)[k] i) t).1.2,t):=by
        have:=awM aD nN aH.2 (u:=i)   (by grind);grind
       have axO:yY.sh (c,(jc (cL c (dI c)[k] i) t).1.2,t)=mpure (om c.2.2.2.1 (jc (cL c (dI c)[k] i) t).1.2 t):=bP Qt _;simp only[axO,tK,kF,aQX,forall_const,cp,aRs];by_cases hm:om c.2.2.2.1 (jc (cL c (dI c)[k] i) t).1.2 t>=c.2.2.2.2.2.2.2.2.1
       ·simp_all
       ·simp only[hm,aQj,aml,aPH,aN,cY,hw];rfl
      | false=>
       simp_all
     grind
    simp
   grind
  ·intro b ho;rfl
variable (axP:bg->M Bool) (aOa:Int->M Bool) (axQ:Unit->M Bool) (UG:bg×Int×Int->M (z18')) (afq:bg->M bg) (aOb:bg×Unit->M (Int×Int×Int×Int×Int×Int×Int×z4'×List bI×z1'×z4'×Unit)) (aOc:z18'->M Bool) (axR:z1'×z1'->M Bool) (UH afr:bg×Int->M (z22')) (auO:uJ×Int->M Int) (aOd:(Int×Int)×z12'->M Bool) (afs:bg×Int->M (z22')) (au6:bg->M (List bI)) (UI:bg×Int->M (z22')) (UJ:bg->M Bool) (Br HS:bg->M Int) (aOe:bg×Int×Int->M (z18')) (aOf aOg aOh aOi aOj aOk:bg×Int->M (z22')) (axS:bg×bg->M Bool) (aft aOl:bg×Int->M (z1'×z18')) (aOm:Unit->M bg)
def afu(x:bg):M Bool:=
 if dp (aR x.1) 20||dp (aR x.2.1) 40||dp (aR x.2.2.1) 60||dp (aR x.2.2.2.1) 40 then iX else aq (HS x) λy=>bm (y≠0) h' (bQ (λA=>letI d:=A.2.2.1;letI c:=bw d.1 A.2.1 (0,0);fw A.2.1 d.1 (bU A.2.1 d.1 (be (IntKind.wrap .i64 (A.1*bf (cE c.2 c.1)),bf A.2.1,d,()))) (bY (A.1,()))) (1,0,x,()) (λA=>mpure (dp A.1 60)))
end Go.Fer.H
namespace Go.Fer.H
def nf(c:bg):Bool:=decide (c.1.length > 20)||decide (c.2.1.length > 40)||decide (c.2.2.1.length > 60)||decide (c.2.2.2.1.length > 40)||(decide (dH c=0)&&decide (mh c.1 > 60))
theorem afv:∀ (l:z4') (n:Nat),l.foldl (λn s=>n*(s.2 - s.1+1).toNat) n=n*mh l
 | [],n=>by simp[mh]
 | s::l,n=>by simp  [mh];rw[afv l,Nat.mul_assoc]
abbrev y4:aO:=⟨lv,dY,lD,nf⟩
theorem axT(x):a8 (afu jV.sh x) (y4.sh x):=bx λh=>by
 unfold afu dp fw bw bm bf aR bQ bY be h' iX bU cE;show _=mpure (nf x);by_cases az:(decide ((x.1.length) > 20)||decide ((x.2.1.length) > 40)||decide ((x.2.2.1.length) > 60)||decide ((x.2.2.2.1.length) > 40))=true
 ·unfold nf;grind
 ·rw[show jV.sh x=mpure (dH x) from bP h _,aN];have e:nf x=(decide (dH x=0)&&decide (mh x.1 > 60)):=by
   unfold nf;grind
  by_cases hc:dH x=0
  ·have aD:=ru hc;have aC:=aD.eA;rw[e2 x.1 (λi (n:Nat)=>((n:Int),(i:Int),x,())) (λs n=>.aw (n*(s.2 - s.1+1).toNat)) (λn=>.aw (n,())) (λi n=>n<=61 ^ i) 1 ?_ ?_ ?_ ?_]
   ·rw[ec,afv,aN,cY];grind
   ·rfl
   ·simp
   ·intro i G n jj;have ak:=aD.clk _ (amk G);have hw:=bs (n:=i+1);have cj:=bs (n:=x.1[i].2 - x.1[i].1);have dN:=bs (n:=x.1[i].2 - x.1[i].1+1);have C5:((n*(x.1[i].2 - x.1[i].1+1).toNat))=n*(x.1[i].2 - x.1[i].1+1):=by
     grind
    have hm:n*(x.1[i].2 - x.1[i].1+1).toNat<=61 ^ (i+1):=by
     exact Nat.mul_le_mul jj (by omega)
    have L2:n*(x.1[i].2 - x.1[i].1+1).toNat<=61 ^ 4:=aPL hm (aQS (by omega) (by omega));have hF:=bs (n:=n*(x.1[i].2 - x.1[i].1+1));simp_all
   simp
  grind
theorem axU{c:bg}(h:nf c=false):jK c:=by
 unfold nf at h;simp  at h;exact⟨⟨by omega,by omega,by omega,by omega⟩,λhc=>by omega⟩
end Go.Fer.H
