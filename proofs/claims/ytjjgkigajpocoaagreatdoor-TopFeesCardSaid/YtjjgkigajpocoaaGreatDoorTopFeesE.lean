/- Part 5 of the proof of TopFees: shallow programs of Go functions, and what they compute. No condition. -/
import Derived.Test.YtjjgkigajpocoaaGreatDoorTopFeesD
noncomputable section
set_option linter.unusedVariables false
set_option linter.unusedSimpArgs false
namespace Go.Fer
abbrev ow:Type:=z22'
abbrev lB:Type:=z24'
abbrev Eh:Type:=z15'
abbrev bN:Type:=bZ×z1'×List ow×List lB×List Eh×Int
abbrev auK:Type:=z3'×List (List (z17'))×Int×z3'×Int×z1'×List ow×List lB×List Eh×Unit
abbrev f_:Type:=bN×z4'×z7'
def TK{fs:Type}(adi:bZ->L bZ)(x:bN)(fin:bN->L fs):L fs:=
 letI aF:=x.2.2.2;ar (adi x.1) λy=>fx x.2.1 (fx x.2.2.1 (fx aF.1 (fx aF.2.1 (bS (λ(A:Int×(bZ×z1'×List (z22')×List lB×z5'×Int)×Int×Int×z3'×List (List (z17'))×Int×z3'×Int×z1'×List ow×List lB×z5'×Unit)=>letI cH:=(bF A.2.1.2.2.1 A.1 (0,0,0,0,[])).2.2.2.2;letI u:=A.2.2.2.2;letI q:=u.2.2.2.2;letI d1:=q.2.2;letI t:=bF d1.1 A.1 (0,0,0,0,[]);hy A.1 d1.1 (bY A.1 A.2.1.2.2.1 (fx cH (bY A.1 d1.1 (bg (bh A.1,A.2.1,A.2.2.1,A.2.2.2.1,u.1,u.2.1,u.2.2.1,u.2.2.2.1,q.1,q.2.1,List.set d1.1 A.1.toNat (t.1,t.2.1,t.2.2.1,t.2.2.2.1,[]++cH),d1.2.1,d1.2.2.1,()))))) (b4 (A.2.1,A.2.2.1,A.2.2.2.1,u.1,u.2.1,u.2.2.1,u.2.2.2.1,q.1,q.2.1,d1.1,d1.2.1,d1.2.2.1,()))) (0,x,0,0,y.1,y.2.1,y.2.2.1,y.2.2.2,aF.2.2,[]++x.2.1,[]++x.2.2.1,[]++aF.1,[]++aF.2.1,()) (λA=>letI v:=A.2.2.2.2.2;bS (λA=>letI bI:=(bF A.2.1.2.2.2.1 A.1 ([],(0,0),0,0,0)).1;letI z:=A.2.2.2.2;letI s:=z.2.2.2;letI dv:=s.2.2.2.2;hy A.1 dv.1 (bY A.1 A.2.1.2.2.2.1 (fx bI (bY A.1 dv.1 (bg (bh A.1,A.2.1,A.2.2.1,A.2.2.2.1,z.1,z.2.1,z.2.2.1,s.1,s.2.1,s.2.2.1,s.2.2.2.1,List.set dv.1 A.1.toNat ([]++bI,(bF dv.1 A.1 ([],(0,0),0,0,0)).2),dv.2.1,()))))) (b4 (A.2.2.1,A.2.2.2.1,z.1,z.2.1,z.2.2.1,s.1,s.2.1,s.2.2.1,s.2.2.2.1,dv.1,dv.2.1,()))) (0,A.1,A.2.1,A.2.2.1,A.2.2.2.1,A.2.2.2.2.1,v.1,v.2.1,v.2.2.1,v.2.2.2.1,v.2.2.2.2.1,v.2.2.2.2.2.1,v.2.2.2.2.2.2.1,()) λA=>letI w:=A.2.2.2.2.2;fin ((A.2.2.1,A.2.2.2.1,A.2.2.2.2.1,w.1),w.2.2.1,w.2.2.2.1,w.2.2.2.2.1,w.2.2.2.2.2.1,w.2.1))))))
variable (MM:bN×Bool->L (Option f_×Int)) (H9:bN->L Int) (auL:bN×Bool->L (z11')) (aOi:bN×Int->L Bool) (aOj:Int×Int×z5'×Unit->L ((z21')×z5'×Unit)) (aOk:z5'×Unit->L (z5'×Unit)) (MN:bN->L (bN)) (Eg:z12'->L Int) (auM:bN->L Bool) (MF:z12'->L Int) (adl auN:bN×Int->L Bool) (MO:bN->L Int) (aOl:bN×Int->L Bool) (auO:bN->L Int) (aOm:bN×Int->L (bN)) (auP:bN->L (z11')) (sf:z15'->L Bool) (auQ:bN×Int×Int×Int×Int×z1'->L Bool) (auR:z24'->L Bool) (aOn:bN×List (List (z1'))×z1'->L Int) (aOo:bN->L (List (List (z1')))) (aOp:bN×Int->L Bool) (aOq:(z24')×z22'->L Int) (auS auT:bN×z1'->L Bool) (aOr:bN×Bool->L Int) (aOs:bN×List (List (z1'))×z1'->L Bool) (aOt:bN×Int×Int->L (z1')) (aOu:bN×z1'->L (List (z1'))) (aOv:bN×z1'->L Int) (ME:z19'->L Bool) (auU:Option f_->L (z1')) (MK:bZ×Int->L (z23')) (ML:bZ×Int×Int×Int->L (z11')) (adm:z4'×Int->L (z4')) (adn:z1'×z25'->L (z14')) (Ef:z11'->L (z11')) (TL:Option f_×z1'->L (z5'×Bool)) (TM:Option f_×z5'->L Int) (aOw:bN×List (List (z1'))×z1'->L (List (Int×z1')×Bool)) (aOx:List (Int×z1')×z5'->L Int) (aOy:bN->L (z5')) (aOz:bZ×Int×Int->L (z1')) (ado:z19'->L Bool) (Tv:z12'->L Int) (aOA:List (Int×z1')×z5'->L Bool) (auV:z19'->L (z1')) (TN:Option f_×z1'->L Bool) (adp:bN×z1'->L Bool) (MP:Option f_×z1'->L Int) (aOB:(Int×z1')×z5'->L (List (z5'))) (auI:bZ×Int×Int×Int->L (z11')) (tp:z15'->L Bool) (BH:Int->L Bool) (adq:z1'×(Int->L Bool)->L Bool) (TO:Int->L Bool) (MI:z1'×(Int->L Bool)->L Bool) (auW:List ow×(z22'->L Bool)->L Bool) (auX:List lB×(z24'->L Bool)->L Bool) (auY:z5'×(z15'->L Bool)->L Bool) (auZ:(z22')×Option bZ->L Bool) (au0:(z15')×Option bZ->L Bool) (au1:z24'->L Bool) (au2:Int->L Bool) (au3:Int×Option bZ×Option (z22')->L Bool) (aOC:List ow×(z22'->L Bool)->L Int) (aOD:List lB×(z24'->L Bool)->L Int) (aOE:z5'×(z15'->L Bool)->L Int) (TP:Option f_×(z11')×Int×Int×Int->L Bool) (adr:Option f_×z5'×Int×z4'×z1'×Unit->L (Bool×z4'×z14')) (ads:(z24')×z22'->L Int) (MQ:Option f_×z1'×Int×Nat×(Nat×(List (z1')->Prop)×List (z1')×Bool)×Unit->L (Bool×(Nat×(List (z1')->Prop)×List (z1')×Bool)×Unit)) (BG:z19'->L Bool)
def adt(x:bN):L (z11'):=
 ar (auL (x,true)) λy=>mpure y
def adu(au4:Option f_->Prop)(au5:Option f_->List (z1'))(TL:Option f_×z1'->L (z5'×Bool))(au6:Option f_×z5'->L Bool)(TM:Option f_×z5'->L Int)(x:bN):L (z11'):=
 ar (MM (x,true)) λy=>bl (y.2≠0) (mpure (0,y.2)) (ah (au4 y.1) (ar (kr (λA (y:z1')=>ar (ar (TL (A.1,y)) (λcp=>cj (!(!cp.2)) (au6 (A.1,cp.1)) false λef=>bJ (!cp.2||!ef) (mpure (dU.normal,A.1,A.2.1,())) (ar (TM (A.1,cp.1)) (λhg=>bJ (decide (A.2.1=-1)||fZ hg A.2.1) (mpure (dU.normal,A.1,hg,())) (mpure (dU.normal,A.1,A.2.1,())))))) λp=>mpure (p.1,p.2.1,p.2.2.1,())) (au5 y.1) (y.1,-1,())) (λp=>letI b:=decide (p.2.2.1=-1);yQ (bJ b (mpure (0,3)) (mpure (p.2.2.1,0))) (λid=>if id=0 then bJ b (mpure (0,3)) (mpure (p.2.2.1,0)) else eb) eb p.1)))
def adv(x:bN×Int):L (z19'):=
 letI c:=MM (x.1,nf (adl x));dy (adl x) (dy c (bl ((L.val c (none,0)).2≠0) (mpure ([],(L.val c (none,0)).2)) (ar (adn ([-1],aY x.1.2.2.2.1,())) (λy=>bS (λA=>letI e:=A.2.2.2;letI d:=List.set e.2.2.1 A.1.toNat e.1;bl (e.1<A.2.2.1) (cy (bY A.1 e.2.2.1 (ar (TN (A.2.1,d)) (λy=>bJ y (ed e.2.1 (bg (A.1,A.2.1,A.2.2.1,e.1,e.2.1++[e.1],d,()))) (bg (A.1,A.2.1,A.2.2.1,e.1,e.2.1,d,()))))) (λA=>bg (A.1,A.2.1,A.2.2.1,bh A.2.2.2.1,A.2.2.2.2.1,A.2.2.2.2.2.1,()))) (b4 (e.2.1,()))) (x.2,(L.val c (none,0)).1,aY x.1.2.2.1,0,[],y.1,()) λA=>mpure (A.1,0)))))
def adw(x:bN):L Int:=
 ar (Eg x.1) λy=>bl (y≠0) (mpure y) (ar (auM x) (λy=>if !y then mpure 80 else mpure 0))
def adx(x:bN):L Int:=
 letI h:=jq (aY x.2.1) (aY x.1.1)||dr (aY x.2.2.1) 8||dr (aY x.2.2.2.1) 6||dr (aY x.2.2.2.2.1) 8;ar (MF x.1) λy=>if jq y 0 then mpure y else cj (!h) (sf (x.2.2.2.2.2,0,99)) false λy=>bJ (h||!y) (mpure 80) (bS (λA=>gx A.1 A.2.1.2.1 (ar (sf (bF A.2.1.2.1 A.1 0,0,10)) (λy=>bJ (!y) (di 80) (bg (bh A.1,A.2.1,())))) (b4 (A.2.1,()))) (0,x,()) (λA=>bS (λA=>letI j:=auQ (A.2.1,bF A.2.1.2.2.1 A.1 (0,0,0,0,[]));gx A.1 A.2.1.2.2.1 (dy j (bJ (rA j) (di 80) (bg (bh A.1,A.2.1,())))) (b4 (A.2.1,()))) (0,A.1,()) λA=>bS (λA=>gx A.1 A.2.1.2.2.2.1 (ar (auR (bF A.2.1.2.2.2.1 A.1 ([],(0,0),0,0,0))) (λy=>bJ (!y) (di 80) (bg (bh A.1,A.2.1,())))) (b4 (A.2.1,()))) (0,A.1,()) λA=>bS (λA=>letI i:=bF A.2.1.2.2.2.2.1 A.1 (0,0,0);gx A.1 A.2.1.2.2.2.2.1 (ar (sf (i.1,0,99)) (λy=>cj (!(!y)) (sf (i.2.1,0,cF (aY A.2.1.1.1) 1)) false λcp=>cj (!(!y||!cp)) (sf (i.2.2,1,10)) false λef=>bJ (!y||!cp||!ef) (di 80) (bg (bh A.1,A.2.1,())))) (b4 ())) (0,A.1,()) λA=>mpure 0))
def ady(x:bN×z1'):L (z11'):=
 letI b:=MM (x.1,nf (adp x));letI a:=L.val b (none,0);dy (adp x) (dy b (bl (a.2≠0) (mpure (0,a.2)) (ar (TN (a.1,x.2)) (λy=>if !y then mpure (0,3) else ar (MP (a.1,x.2)) λy=>mpure (y,0)))))
def adz(x:bN×Bool):L (z11'):=
 ar (MM x) λy=>bl (y.2≠0) (mpure (0,y.2)) (ar (auU y.1) (λcp=>ar (MP (y.1,cp)) λy=>mpure (y,0)))
def TQ(x:bN×Bool):L (Option f_×Int):=
 letI z2:=x.1.1.2;letI lQ:=x.1.2.2;ar (H9 x.1) λy=>bl (y≠0) (mpure (none,y)) (if !x.2 then mpure (none,1) else cy (bl (aY x.1.2.1 > 0) (ar (MK (x.1.1,0)) (λy=>bl (y.2≠0) (pL (none,y.2)) (bg (x.1,[],x.1.1.1,z2.1,z2.2.1,z2.2.2,x.1.2.1,lQ.1,lQ.2.1,lQ.2.2.1,lQ.2.2.2,())))) (bg (x.1,[],x.1.1.1,z2.1,z2.2.1,z2.2.2,x.1.2.1,lQ.1,lQ.2.1,lQ.2.2.1,lQ.2.2.2,()))) λA=>letI aT:=A.2.2.2.2.2;bS (λA=>letI s2:=A.2.2;letI nH:=s2.2.2.2.2;letI cM:=nH.2.2.2;bl (A.2.1<A.1) (bS (λA=>letI q9:=A.2.2.2;letI c2:=q9.2.2;letI t1:=c2.2.2.2;letI d2:=t1.2.2.2.2;letI d3:=d2.2.2;bl (c2.1<q9.2.1) (cy (bY c2.1 q9.1 (dI (λA=>letI ek:=A.2.2;letI fc:=ek.2.2;letI ji:=fc.2.2;letI cn:=ji.2.2;letI c7:=cn.2.2.1;letI i2:=cn.2.2.2;letI v1:=i2.2.2.2;letI ej:=v1.2.2.2;bl (cn.1<ji.2.1) (cy (ar (ML (cn.2.1.1,A.1,A.2.1,cn.1)) (λy=>bl (y.1=1) (ah True (ah (True/\True/\True) (ah True (bg (A.1,A.2.1,ek.1,ek.2.1,fc.1,fc.2.1,ji.1,ji.2.1,cn.1,cn.2.1,y8 c7 (A.1,A.2.1,cn.1) (bh ((ho (λp=>cu A.1 p.1.1&&(cu A.2.1 p.1.2.1&&cu cn.1 p.1.2.2)) c7).getD 0)),i2.1,i2.2.1,i2.2.2.1,v1.1,v1.2.1,v1.2.2.1,ej.1,ej.2.1,ej.2.2.1,()))))) (bg (A.1,A.2.1,ek.1,ek.2.1,fc.1,fc.2.1,ji.1,ji.2.1,cn.1,cn.2.1,c7,i2.1,i2.2.1,i2.2.2.1,v1.1,v1.2.1,v1.2.2.1,ej.1,ej.2.1,ej.2.2.1,())))) (λA=>letI bX:=A.2.2.2.2.2;letI mD:=bX.2.2.2.2;letI nh:=mD.2.2.2.2.2;bg (A.1,A.2.1,A.2.2.1,A.2.2.2.1,A.2.2.2.2.1,bX.1,bX.2.1,bX.2.2.1,bh bX.2.2.2.1,mD.1,mD.2.1,mD.2.2.1,mD.2.2.2.1,mD.2.2.2.2.1,nh.1,nh.2.1,nh.2.2.1,nh.2.2.2.1,nh.2.2.2.2.1,nh.2.2.2.2.2.1,()))) (b4 (A.1,ek.1,ek.2.1,fc.1,fc.2.1,ji.1,cn.2.1,c7,i2.1,i2.2.1,i2.2.2.1,v1.1,v1.2.1,v1.2.2.1,ej.1,ej.2.1,ej.2.2.1,()))) (A.1,c2.1,A.2.1,A.2.2.1,q9.1,q9.2.1,c2.1,aY (bF q9.1 c2.1 []),0,c2.2.1,c2.2.2.1,t1.1,t1.2.1,t1.2.2.1,t1.2.2.2.1,d2.1,d2.2.1,d3.1,d3.2.1,d3.2.2.1,()))) (λA=>letI ao:=A.2.2.2.2;letI b1:=ao.2.2.2.2;letI dP:=b1.2.2.2.2;bg (A.1,A.2.1,A.2.2.1,A.2.2.2.1,ao.1,bh ao.2.1,ao.2.2.1,ao.2.2.2.1,b1.1,b1.2.1,b1.2.2.1,b1.2.2.2.1,dP.1,dP.2.1,dP.2.2.1,dP.2.2.2.1,dP.2.2.2.2.1,()))) (b4 (A.2.1,A.2.2.1,c2.2.1,c2.2.2.1,t1.1,t1.2.1,t1.2.2.1,t1.2.2.2.1,d2.1,d2.2.1,d3.1,d3.2.1,d3.2.2.1,()))) (A.2.1,A.1,A.2.1,s2.1.1.2.1,aY s2.1.1.2.1,0,s2.1,s2.2.1,s2.2.2.1,s2.2.2.2.1,nH.1,nH.2.1,nH.2.2.1,cM.1,cM.2.1,cM.2.2.1,cM.2.2.2.1,()) (λA=>letI f3:=A.2.2.2;letI bB:=f3.2.2.2;letI ko:=bB.2.2.2;bg (A.1,bh A.2.1,A.2.2.1,f3.1,f3.2.1,f3.2.2.1,bB.1,bB.2.1,bB.2.2.1,ko.1,ko.2.1,ko.2.2.1,ko.2.2.2.1,()))) (b4 (s2.1,s2.2.1,s2.2.2.1,s2.2.2.2.1,nH.1,nH.2.1,nH.2.2.1,cM.1,cM.2.1,cM.2.2.1,cM.2.2.2.1,()))) (aY A.1.2.1,0,A.1,A.2.1,A.2.2.1,A.2.2.2.1,A.2.2.2.2.1,aT.1,aT.2.1,aT.2.2.1,aT.2.2.2.1,aT.2.2.2.2.1,aT.2.2.2.2.2.1,()) λA=>letI fR:=A.2.2.2.2.2;bS (λA=>letI xj:=A.2.2;letI f2:=xj.2.2;letI iS:=adm ([(xj.1,0)],bF A.1 xj.1 0);letI jK:=f2.2.2.2.2;letI gX:=jK.2.2.2.2;bl (xj.1<A.2.1) (bY xj.1 A.1 (ah True (dy iS (ah (b2 (Add.add gX.2.2.1.length (L.val iS []).length)) (ah True (bg (A.1,A.2.1,bh xj.1,xj.2.1,f2.1,f2.2.1,f2.2.2.1,f2.2.2.2.1,jK.1,jK.2.1,jK.2.2.1,jK.2.2.2.1,gX.1,gX.2.1,gX.2.2.1++L.val iS [],()))))))) (b4 (xj.2.1,f2.1,f2.2.1,f2.2.2.1,f2.2.2.2.1,jK.1,jK.2.1,jK.2.2.1,jK.2.2.2.1,gX.1,gX.2.1,gX.2.2.1,()))) (A.1.2.1,aY A.1.2.1,0,A.1,A.2.1,A.2.2.1,A.2.2.2.1,A.2.2.2.2.1,fR.1,fR.2.1,fR.2.2.1,fR.2.2.2.1,fR.2.2.2.2.1,fR.2.2.2.2.2.1,[],()) λA=>letI eo:=A.2.2.2.2.2;letI al:=eo.2.2.2;bS (λA=>letI M:=A.2.2;letI c3:=M.2.2.2;letI cN:=bF A.1 M.1 (0,0,0);letI ch:=c3.2.2;letI fW:=ch.2.2.2.2;letI s1:=adm ([(cN.2.1,cN.1)],cN.2.2);bl (M.1<A.2.1) (bY M.1 A.1 (ah True (dy s1 (ah (b2 (Add.add fW.2.2.1.length (L.val s1 []).length)) (ah True (bg (A.1,A.2.1,bh M.1,M.2.1,M.2.2.1,c3.1,c3.2.1,ch.1,ch.2.1,ch.2.2.1,ch.2.2.2.1,fW.1,fW.2.1,fW.2.2.1++L.val s1 [],()))))))) (b4 (M.2.1,M.2.2.1,c3.1,c3.2.1,ch.1,ch.2.1,ch.2.2.1,ch.2.2.2.1,fW.1,fW.2.1,fW.2.2.1,()))) (A.1.2.2.2.2.1,aY A.1.2.2.2.2.1,0,A.2.1,A.2.2.1,A.2.2.2.1,A.2.2.2.2.1,eo.1,eo.2.1,eo.2.2.1,al.1,al.2.1,al.2.2.1,al.2.2.2.1,()) λA=>letI m2:=A.2.2.2.2.2;mpure (some (((A.2.1,A.2.2.1,A.2.2.2.1,A.2.2.2.2.1),m2.1,m2.2.1,m2.2.2.1,m2.2.2.2.1,m2.2.2.2.2.1),m2.2.2.2.2.2.1,A.1),0))
def TR(x:Option f_×z1'):L (z5'×Bool):=
 bS (λA=>letI z:=A.1.isSome;letI u:=A.2.1;letI s:=A.2.2;letI o:=s.2.1;letI m:=(A.1.getD ((([],[],0,[]),[],[],[],[],0),[],[])).1.2.2;letI q:=bF m.2.1 o ([],(0,0),0,0,0);letI p:=bF m.1 (bF u o 0) (0,0,0,0,[]);bl (o<s.1) (cy (bY o u (bl (bF u o (0:Int)<0) (bg (A.1,u,s.1,o,s.2.2.1,())) (ah z (bY o m.2.1 (ah z (bY (bF u o 0) m.1 (cy (ar (ads (q,p)) (λy=>bl (y=0) (j0 (j0 (di ([],false)))) (bl (y=2) (ah z (bg (A.1,cF q.2.2.2.1 m.2.2.2,u,s.1,o,s.2.2.1,p,()))) (bg (A.1,q.2.2.2.1,u,s.1,o,s.2.2.1,p,()))))) (λA=>letI t:=A.2.2.2.2;bl (A.2.1<0) (j0 (di ([],false))) (dI (λA=>letI v:=A.2.2.2;letI n:=v.2.2;letI w:=n.2.2;bl (w.1<n.2.1) (bY w.1 n.1 (ed w.2.1 (bg (A.1,A.2.1,A.2.2.1,v.1,v.2.1,n.1,n.2.1,bh w.1,w.2.1++[(w.2.2.1.2.2.2.1,bF n.1 w.1 0,A.2.1)],w.2.2.1,())))) (b4 (A.1,A.2.2.1,v.1,v.2.1,w.2.1,()))) (A.1,A.2.1,A.2.2.1,A.2.2.2.1,t.1,t.2.2.1.2.2.2.2,aY t.2.2.1.2.2.2.2,0,t.2.1,t.2.2.1,())))))))))) (λA=>bg (A.1,A.2.1,A.2.2.1,bh A.2.2.2.1,A.2.2.2.2.1,()))) (b4 (s.2.2.1,()))) (x.1,x.2,aY x.2,0,[],()) λA=>mpure (A.1,true)
def TS(x:Option f_×z5'):L Bool:=
 bS (λA=>letI d:=A.2.2.2.1;bl (d<A.2.2.1) (cy (bY d A.2.1 (cy (ah A.1.isSome (dI (λA=>letI c:=A.2.2.2.2;bl (c.2.2.1<c.2.1) (cj (!A.2.1) (TP (A.1,(c.2.2.1,0),c.2.2.2.1)) false (λy=>bg (A.1,A.2.1||y,A.2.2.1,A.2.2.2.1,c.1,c.2.1,bh c.2.2.1,c.2.2.2.1,()))) (b4 (A.1,A.2.1,A.2.2.1,A.2.2.2.1,c.1,()))) (A.1,false,A.2.1,A.2.2.1,d,aY (A.1.getD ((([],[],0,[]),[],[],[],[],0),[],[])).1.2.1,0,bF A.2.1 d (0,0,0),()))) (λA=>if !A.2.1 then j0 (di false) else bg (A.1,A.2.2.1,A.2.2.2.1,A.2.2.2.2.1,())))) (λA=>bg (A.1,A.2.1,A.2.2.1,bh A.2.2.2.1,()))) (b4 ())) (x.1,x.2,aY x.2,0,()) λA=>ku
def TT(x:Option f_×z5'):L Int:=
 ah x.1.isSome (ar (adn ([-1],aY (x.1.getD ((([],[],0,[]),[],[],[],[],0),[],[])).2.1,())) (λy=>bS (λA=>letI b:=A.2.2.2;bl (b.2.1<b.1) (cy (ar (adr (A.1,A.2.1,b.2.1,[],b.2.2.1,())) (λy=>if !y.1 then bg (A.1,A.2.1,bh A.2.2.1,b.1,b.2.1,y.2.2.1,()) else bg (A.1,A.2.1,A.2.2.1,b.1,b.2.1,y.2.2.1,()))) (λA=>bg (A.1,A.2.1,A.2.2.1,A.2.2.2.1,bh A.2.2.2.2.1,A.2.2.2.2.2.1,()))) (b4 (A.2.2.1,()))) (x.1,x.2,0,aY x.2,0,y.1,()) λA=>mpure A.1))
def adA(x:bN×Int):L Bool:=
 ar (tp (x.2,0,cF (aY x.1.2.2.2.1) 1)) λy=>mpure y
def au7(x:z19'):L (z1'):=
 cy (bl (x.2<0) (ah False (ah False (bg (x.1,x.2,())))) (bg (x.1,x.2,()))) λA=>ar (Ef (IntKind.wrap .u64 (aY A.1),IntKind.wrap .u64 A.2.1)) λy=>cy (if dr y.1 0||dr y.2 9223372036854775807 then ah False (ah False (bg (A.1,y.2,()))) else bg (A.1,y.2,())) λA=>letI h:=IntKind.wrap .i64 A.2.1;letI m:=h.toNat;letI k:=A.1.take ((List.replicate m (0:Int)).length-0);ah (0<=h/\h=h/\b2 m) (ah True (bS (λA=>letI l:=aY A.2.1;letI j:=l.toNat-A.1.toNat;letI i:=A.2.1.take A.1.toNat;bl (A.1<l) (ah (0<=A.1/\A.1<=l/\l<=l) (ah ((0:Int)<=0/\0<=A.1/\A.1<=l) (ah True (bg (e1 A.1 (Int.ofNat (if j<=i.length then j else i.length)),i++i.take j++A.2.1.drop (Add.add A.1.toNat (i.take j).length),()))))) (b4 (A.2.1,()))) (Int.ofNat (if (List.replicate m (0:Int)).length-0<=A.1.length then (List.replicate m (0:Int)).length-0 else A.1.length),[]++k++(List.replicate m (0:Int)).drop (Add.add 0 k.length),()) (λA=>mpure A.1)))
def adB(x:Option f_×z1'):L Bool:=
 ar (TL x) λy=>cj y.2 (TM (x.1,y.1)) 0 λcp=>mpure (y.2&&cu cp 0)
def adC(x:bN):L Bool:=
 letI j:=x.2.2.2;letI h:=decide (aY x.2.1=aY x.1.1);cj h (MI (x.2.1,au2)) false λy=>letI i:=h&&!y&&hY (aY x.2.2.1) 8;cj i (auW (x.2.2.1,λjv=>auZ (jv,some x.1))) false λcp=>letI f:=i&&!cp&&hY (aY j.1) 6;cj f (auX (j.1,au1)) false λef=>letI g:=f&&!ef&&hY (aY j.2.1) 8;cj g (auY (j.2.1,λjv=>au0 (jv,some x.1))) false λhg=>cj (g&&!hg) (TO j.2.2) false λkO=>mpure (g&&!hg&&kO)
def au8(x:z15'):L Bool:=
 mpure (hY x.2.1 x.1&&hY x.1 x.2.2)
def adD(x:bN×Int×Int×Int×Int×z1'):L Bool:=
 letI e:=x.2.2.2.2;letI d:=ado (e.2,cF (aY (bF x.1.1.2.1 e.1 [])) 1);ar (sf (x.2.1,0,99)) λy=>cj (!(!y)) (sf (x.2.2.1,0,99)) false λcp=>cj (!(!y||!cp)) (sf (x.2.2.2.1,0,99)) false λef=>cj (!(!y||!cp||!ef)) (sf (e.1,0,cF (aY x.1.1.2.1) 1)) false λhg=>bJ (!y||!cp||!ef||!hg) jL (bY e.1 x.1.1.2.1 (dy d (mpure (nf d))))
def adE(x:z24'):L Bool:=
 ar (sf (aY x.1,1,8)) λy=>cj y (ado (x.1,99)) false λcp=>letI b:=y&&cp&&hY 0 x.2.1.1&&hY x.2.1.1 x.2.1.2&&hY x.2.1.2 99;cj b (sf (x.2.2.1,0,99)) false λef=>cj (b&&ef) (sf (x.2.2.2.1,0,99)) false λhg=>cj (b&&ef&&hg) (sf (x.2.2.2.2,0,100000)) false λkO=>mpure (b&&ef&&hg&&kO)
def adF(x:bN×Int):L Bool:=
 ar (tp (x.2,0,cF (aY x.1.2.2.1) 1)) λy=>mpure y
def adG(x:(z24')×z22'):L Int:=
 ar (BG (x.1.1,x.2.1)) λy=>cj (!(!y)) (tp (x.2.2.1,x.1.2.1)) false λcp=>if !y||!cp then mpure 0 else bl (x.2.2.2.1=x.1.2.2.1) (mpure 1) (bl (x.2.2.2.1=0) (mpure 2) (mpure 0))
def TU(au9:Option f_->Prop)(au_:Option f_->List (z1'))(x:Option f_):L (z1'):=
 ah x.isSome (ar (auV ([-1],aY (x.getD ((([],[],0,[]),[],[],[],[],0),[],[])).1.2.2.2.1)) (λy=>ah (au9 x) (ar (kr (λA (y:z1')=>letI f:=TN (A.1,y);letI e:=MP (A.1,y);letI d:=MP (A.1,A.2.1);letI c:=decide (v_ e > v_ d);letI g:=c=true;ar (dy e (dy d (ah (g->(g/\g/\True)/\f.fr/\True) (ah (True/\(g->g)) (if c&&nf f then mpure (dU.normal,A.1,y,()) else mpure (dU.normal,A.1,A.2.1,())))))) λp=>mpure (p.1,p.2.1,p.2.2.1,())) (au_ x) (x,y,())) (λp=>yQ (mpure p.2.2.1) (λid=>if id=0 then mpure p.2.2.1 else eb) eb p.1))))
def adH(x:bN×z1'):L Bool:=
 bS (λA=>letI h:=A.2.2.2;letI g:=decide (bF A.2.1 h.1 (0:Int)≠-1);bl (h.1<A.2.2.1) (bY h.1 A.2.1 (cj g (auN (h.2.1,bF A.2.1 h.1 0)) false (λy=>letI i:=(g&&!(!y))=true;ah (i->(i/\True/\i)/\((0:Int)<=0/\0<=h.1/\h.1<=aY A.1)/\True) (cj (g&&!(!y)) (BG (A.1.take h.1.toNat,bF A.2.1 h.1 0)) false (λcp=>if g&&(!y||cp) then di false else bg (A.1,A.2.1,A.2.2.1,bh h.1,h.2.1,())))))) (b4 (A.1,h.2.1,()))) (x.2,x.2,aY x.2,0,x.1,()) λA=>mpure (decide (aY A.1=aY A.2.1.2.2.2.1))
def TV(x:Option f_×z1'):L Int:=
 bS (λA=>letI f:=A.2.2;letI e:=(A.1.getD ((([],[],0,[]),[],[],[],[],0),[],[])).1.2.2.2.1;letI d:=f.2.2.1;bl (d<f.2.1) (cy (bY d f.1 (bl (bF f.1 d (0:Int)≠-1) (ah A.1.isSome (bY d e (bg (A.1,e1 A.2.1 (bF e d ([],(0,0),0,0,0)).2.2.2.2,f.1,f.2.1,d,())))) (bg (A.1,A.2.1,f.1,f.2.1,d,())))) (λA=>bg (A.1,A.2.1,A.2.2.1,A.2.2.2.1,e1 A.2.2.2.2.1 1,()))) (b4 (A.2.1,()))) (x.1,0,x.2,aY x.2,0,()) λA=>mpure A.1
def au'(x:z4'×Int):L (z4'):=
 cy (bl (x.2<0) (ah False (ah False (bg (x.1,x.2,())))) (bg (x.1,x.2,()))) λA=>ar (Ef (IntKind.wrap .u64 (aY A.1),IntKind.wrap .u64 A.2.1)) λy=>cy (if dr y.1 0||dr y.2 9223372036854775807 then ah False (ah False (bg (A.1,y.2,()))) else bg (A.1,y.2,())) λA=>letI h:=IntKind.wrap .i64 A.2.1;letI m:=h.toNat;letI k:=A.1.take ((List.replicate m ((0:Int),(0:Int))).length-0);ah (0<=h/\h=h/\b2 m) (ah True (bS (λA=>letI l:=aY A.2.1;letI j:=l.toNat-A.1.toNat;letI i:=A.2.1.take A.1.toNat;bl (A.1<l) (ah (0<=A.1/\A.1<=l/\l<=l) (ah ((0:Int)<=0/\0<=A.1/\A.1<=l) (ah True (bg (e1 A.1 (Int.ofNat (if j<=i.length then j else i.length)),i++i.take j++A.2.1.drop (Add.add A.1.toNat (i.take j).length),()))))) (b4 (A.2.1,()))) (Int.ofNat (if (List.replicate m ((0:Int),(0:Int))).length-0<=A.1.length then (List.replicate m ((0:Int),(0:Int))).length-0 else A.1.length),[]++k++(List.replicate m ((0:Int),(0:Int))).drop (Add.add 0 k.length),()) (λA=>mpure A.1)))
def adI(x:Option f_×(z11')×Int×Int×Int):L Bool:=
 letI f:=hY x.2.1.2 x.2.2.2.2;letI d:=f=true;letI e:=d->d/\True/\True;ah (d->d/\x.1.isSome/\True) (ah e (ah e (ah e (ah e (ah e (ah (d->(d/\d/\d/\True)/\True/\True) (ah (d->(d/\d)/\True/\True) (ah (d->(d/\True)/\True/\True) (ah (True/\(d->d)) (mpure (f&&dr ((ho (λp=>cu x.2.1.1 p.1.1&&(cu x.2.2.1 p.1.2.1&&cu x.2.2.2.1 p.1.2.2)) (x.1.getD ((([],[],0,[]),[],[],[],[],0),[],[])).2.2).getD (0:Int)) 0)))))))))))
def ava(x:z15'):L Bool:=
 mpure (hY x.2.1 x.1&&hY x.1 x.2.2)
def adJ(x:(z22')×Option bZ):L Bool:=
 letI d:=x.2.getD ([],[],0,[]);ar (BH x.1.1) λy=>cj (!(!y)) (BH x.1.2.1) false λcp=>cj (!(!y||!cp)) (BH x.1.2.2.1) false λef=>letI c:=!y||!cp||!ef;cj (!c) (tp (x.1.2.2.2.1,0,cF (aY d.2.1) 1)) false λhg=>cj (!(c||!hg)) (adq (x.1.2.2.2.2,λjv=>au3 (jv,some d,some x.1))) false λkO=>mpure (c||!hg||!kO)
def adK(x:Int):L Bool:=
 ar (tp (x,0,99)) λy=>mpure y
def adL(x:z1'×(Int->L Bool)):L Bool:=
 bS (λA=>letI h:=A.2.2;letI f:=h.2.2.1;bl (f<h.2.1) (bY f h.1 (ar (A.2.1 (bF h.1 f 0)) (λy=>letI g:=(!(!y)&&dr f 0)=true;ah (g->(g/\g)/\(0<=cF f 1/\cF f 1<aY A.1)/\True) (if !y||dr f 0&&decide (bF h.1 f 0<=bF A.1 (cF f 1) 0) then di false else bg (A.1,A.2.1,h.1,h.2.1,bh f,()))))) (b4 ())) (x.1,x.2,x.1,aY x.1,0,()) λA=>ku
def adM(x:Int×Option bZ×Option (z22')):L Bool:=
 letI d:=(x.2.1.getD ([],[],0,[])).2.1;letI c:=(x.2.2.getD (0,0,0,0,[])).2.2.2.1;bY c d (ar (tp (x.1,0,cF (aY (bF d c [])) 1)) (λy=>mpure y))
def adN(x:z24'):L Bool:=
 ar (tp (aY x.1,1,8)) λy=>cj (!(!y)) (adq (x.1,BH)) false λcp=>cj (!(!y||!cp)) (BH x.2.1.1) false λef=>cj (!(!y||!cp||!ef)) (BH x.2.1.2) false λhg=>letI b:=!y||!cp||!ef||!hg||dr x.2.1.1 x.2.1.2;cj (!b) (BH x.2.2.1) false λkO=>cj (!(b||!kO)) (TO x.2.2.2.1) false λuX=>cj (!(b||!kO||!uX)) (tp (x.2.2.2.2,0,100000)) false λwa=>mpure (b||!kO||!uX||!wa)
def adO(x:Int):L Bool:=
 ar (tp (x,0,99)) λy=>mpure y
def adP(x:(z15')×Option bZ):L Bool:=
 ar (TO x.1.1) λy=>cj (!(!y)) (tp (x.1.2.1,0,cF (aY (x.2.getD ([],[],0,[])).1) 1)) false λcp=>cj (!(!y||!cp)) (tp (x.1.2.2,1,10)) false λef=>mpure (!y||!cp||!ef)
def adQ(x:Int):L Bool:=
 ar (tp (x,0,10)) λy=>mpure (!y)
def adR(x:z19'):L Bool:=
 bS (λA=>letI p:=A.2.2.1;letI t:=(0<=p/\p<aY A.1)/\True;letI q:=decide (bF A.1 p (0:Int)<0);letI o:=(!q)=true;letI m:=q||dr (bF A.1 p 0) A.2.1;letI s:=(!m)=true;letI n:=(!m&&dr p 0)=true;letI u:=n->n/\True/\True;gx p A.1 (ah (o->(o/\o)/\t) (ah (o->o/\True/\True) (ah (o->(o/\o)/\True/\True) (ah (True/\(q=false->o)) (ah (s->(s/\True)/\True/\True) (ah (s->True/\True/\s) (ah (n->(n/\n)/\t) (ah u (ah (n->(n/\True)/\True/\True) (ah (n->(n/\n)/\(0<=cF p 1/\cF p 1<aY A.1)/\True) (ah u (ah (n->(n/\n)/\True/\True) (ah (s->(s/\(dr p 0=true->n))/\True/\True) (ah (True/\(m=false->s)) (if m||dr p 0&&decide (bF A.1 p 0<=bF A.1 (cF p 1) 0) then di false else bg (A.1,A.2.1,bh p,())))))))))))))))) (b4 ())) (x.1,x.2,0,()) λA=>ku
def MR(x:Option f_×Nat×(Nat×(List (z1')->Prop)×List (z1')×Bool)×Unit):L ((Nat×(List (z1')->Prop)×List (z1')×Bool)×Unit):=
 ar (MQ (x.1,[],1,x.2.1,x.2.2.1,())) λy=>mpure (y.2.1,())
def MS(x:Option f_×Nat×(Nat×(List (z1')->Prop)×List (z1')×Bool)×Unit):L ((Nat×(List (z1')->Prop)×List (z1')×Bool)×Unit):=
 ar (MQ (x.1,[],0,x.2.1,x.2.2.1,())) λy=>mpure (y.2.1,())
def TW(x:Option f_×z5'×Int×z4'×z1'×Unit):L (Bool×z4'×z14'):=
 letI k:=(x.1.getD ((([],[],0,[]),[],[],[],[],0),[],[])).2.1;ar (ah x.1.isSome (dI (λA=>letI o:=A.2.1;letI i:=A.2.2;letI c:=i.2.2.2;letI m:=c.2.2.1;letI l:=c.1.toNat;letI j:=Option.map (λx=>x.2) (List.find? (λp=>decide (c.1=p.1)) c.2.1);letI g:=0<=c.1/\c.1<Int.ofNat m.length;letI f:=(A.1,i.2.1.getD l (0,0),o.getD i.1.toNat (0,0,0));letI d:=hf c.2.1 c.1 (IntKind.wrap .i64 (Add.add (j.getD 0) 1));letI b:=decide (m.getD l (0:Int)=-1);letI h:=(!b)=true;letI a:=decide (j.getD (0:Int) > 0);letI e:=(!a)=true;letI q:=e->e/\True/\True;if decide (c.1<i.2.2.1) then ar (ah (0<=c.1/\c.1<Int.ofNat i.2.1.length) (ah (e->(e/\e)/\(0<=i.1/\i.1<Int.ofNat o.length)/\True) (ah q (ah (e->(e/\e/\e/\True)/\(TP f).fr/\True) (ah q (ah (True/\(a=false->e)) (if a||!(L.val (TP f) false) then mpure (.az (A.1,o,i.1,i.2.1,i.2.2.1,c.1,c.2.1,m,())) else ah g (ah (h->(h/\h)/\g/\True) (if h then ah (h/\h/\h/\h/\h/\True) (ar (adr (A.1,o,m.getD l 0,d,m,())) (λy=>if b||y.1 then ah (0<=c.1/\c.1<Int.ofNat y.2.2.1.length) (ar (ar (ar (mpure (true,y.2.1,List.set y.2.2.1 l i.1,())) (λr=>mpure (.aX r))) (λr=>mpure (.aX r))) (λr=>mpure (.aX r))) else mpure (.az (A.1,o,i.1,i.2.1,i.2.2.1,c.1,y.2.1,y.2.2.1,())))) else ah (True/\(b=false->false=true)) (if b||false then ah g (ar (ar (ar (mpure (true,d,List.set m l i.1,())) (λr=>mpure (.aX r))) (λr=>mpure (.aX r))) (λr=>mpure (.aX r))) else mpure (.az (A.1,o,i.1,i.2.1,i.2.2.1,c.1,d,m,())))))))))))) (aL.fQ (λA=>letI n:=A.2.2.2;mpure (.az (A.1,A.2.1,A.2.2.1,n.1,n.2.1,IntKind.wrap .i64 (Add.add n.2.2.1 1),n.2.2.2.1,n.2.2.2.2.1,())))) else ar (mpure (.az (c.2.1,m,()))) λr=>mpure (.aX r)) (x.1,x.2.1,x.2.2.1,k,Int.ofNat k.length,0,x.2.2.2.1,x.2.2.2.2.1,()))) (aL.fQ (λA=>mpure (false,A.1,A.2.1,())))
def TX(x:Option f_×z1'×Int×Nat×(Nat×(List (z1')->Prop)×List (z1')×Bool)×Unit):L (Bool×(Nat×(List (z1')->Prop)×List (z1')×Bool)×Unit):=
 letI aF:=x.2.2.2.2.1;letI cH:=(x.1.getD ((([],[],0,[]),[],[],[],[],0),[],[])).1.2.2;ah x.1.isSome (bl (aY x.2.1=aY cH.2.1) (ar (ah (x.2.2.2.1=aF.1/\aF.2.2.2=false/\(∃ (T:List (z1')),aF.2.1 (aF.2.2.1++x.2.1::T))) (mS (λx=>True))) (λy=>mpure (y,(aF.1,aF.2.1,aF.2.2.1++[x.2.1],!y),()))) (cy (ah x.1.isSome (dI (λA=>letI aO:=A.2.1;letI i1:=A.2.2;letI dT:=(A.1.getD ((([],[],0,[]),[],[],[],[],0),[],[])).1.2.2.2.1;letI v:=i1.2.2;letI E:=v.2.2.2;letI z:=BG (aO,E.1);letI w:=ads (bF dT v.1 ([],(0,0),0,0,0),bF v.2.1 E.1 (0,0,0,0,[]));letI t:=rA z=true;letI f1:=t->t/\True/\True;bl (E.1<v.2.2.1) (cy (bY E.1 v.2.1 (dy z (ah (t->t/\A.1.isSome/\True) (ah f1 (ah f1 (ah f1 (ah (t->(t/\t)/\(0<=v.1/\v.1<aY dT)/\True) (ah f1 (ah (t->(t/\t/\True)/\w.fr/\True) (ah (t->(t/\True)/\True/\True) (ah (True/\(nf z=false->t)) (bJ (nf z||cu (L.val w (0:Int)) 0) (bg (A.1,aO,i1.1,i1.2.1,v.1,v.2.1,v.2.2.1,E.1,E.2.1,())) (ah ((0:Int)<=0/\0<=v.1/\v.1=v.1/\v.1<=aY aO) (ah (0<Add.add 0 1/\b2 (Add.add (aO.take v.1.toNat).length (Add.add 0 1))) (ar (MQ (A.1,aO.take v.1.toNat++[E.1],i1.1,i1.2.1,E.2.1,())) (λy=>bJ (!y.1) (j0 (di (false,y.2.1,()))) (bg (A.1,aO,i1.1,i1.2.1,v.1,v.2.1,v.2.2.1,E.1,y.2.1,())))))))))))))))))) (λA=>letI o4:=A.2.2.2.2;bg (A.1,A.2.1,A.2.2.1,A.2.2.2.1,o4.1,o4.2.1,o4.2.2.1,bh o4.2.2.2.1,o4.2.2.2.2.1,()))) (b4 (A.1,aO,i1.1,i1.2.1,v.1,E.2.1,()))) (x.1,x.2.1,x.2.2.1,x.2.2.2.1,aY x.2.1,cH.1,aY cH.1,0,aF,()))) (λA=>letI d1:=A.2.2.2.2;letI fC:=A.2.1.take d1.1.toNat;letI dv:=MQ (A.1,fC++[-1],A.2.2.1,A.2.2.2.1,d1.2.1,());letI u:=cu A.2.2.1 0;letI bI:=(!u)=true;ah (bI->(bI/\True/\bI/\bI)/\((0:Int)<=0/\0<=d1.1/\d1.1=d1.1/\d1.1<=aY A.2.1)/\True) (bJ (!u) (ah (bI/\bI) (ah (0<Add.add 0 1/\b2 (Add.add fC.length (Add.add 0 1))) (bJ (!u) (ah (bI/\bI/\bI/\True) (ar dv (λy=>mpure (u||y.1,y.2.1,())))) (ah (True/\(u=false->false=true)) (mpure (u||false,d1.2.1,())))))) (bJ (!u) (ah (bI/\false=true/\bI/\bI/\True) (ar dv (λy=>mpure (u||y.1,y.2.1,())))) (ah (True/\(u=false->false=true)) (mpure (u||false,d1.2.1,()))))))))
def avb(x:z1'×z25'):L (z14'):=
 cy (bl (x.2.1<0) (ah False (ah False (bg (x.1,x.2.1,())))) (bg (x.1,x.2.1,()))) λA=>ar (Ef (IntKind.wrap .u64 (aY A.1),IntKind.wrap .u64 A.2.1)) λy=>cy (if dr y.1 0||dr y.2 9223372036854775807 then ah False (ah False (bg (A.1,y.2,()))) else bg (A.1,y.2,())) λA=>letI h:=IntKind.wrap .i64 A.2.1;letI m:=h.toNat;letI k:=A.1.take ((List.replicate m (0:Int)).length-0);ah (0<=h/\h=h/\b2 m) (ah True (bS (λA=>letI l:=aY A.2.1;letI j:=l.toNat-A.1.toNat;letI i:=A.2.1.take A.1.toNat;bl (A.1<l) (ah (0<=A.1/\A.1<=l/\l<=l) (ah ((0:Int)<=0/\0<=A.1/\A.1<=l) (ah True (bg (e1 A.1 (Int.ofNat (if j<=i.length then j else i.length)),i++i.take j++A.2.1.drop (Add.add A.1.toNat (i.take j).length),()))))) (b4 (A.2.1,()))) (Int.ofNat (if (List.replicate m (0:Int)).length-0<=A.1.length then (List.replicate m (0:Int)).length-0 else A.1.length),[]++k++(List.replicate m (0:Int)).drop (Add.add 0 k.length),()) (λA=>mpure (A.1,()))))
end Go.Fer
namespace Go.Fer.H
set_option maxRecDepth 100000
abbrev bt:Type:=z18'
abbrev uY:Type:=Int×z18'
abbrev bb:Type:=z4'×List bt×z1'×z4'×uY
abbrev b6:Type:=bt×Int
abbrev hh:Type:=z1'×List (List b6)
abbrev h7:Type:=bb×List bt×List (Option hh)
abbrev j_:Type:=z4'×List bt×z1'×z4'×Int×Int×Int×Int×Int×Int×Int×List bt×List (Option hh)×Unit
abbrev hf(l:z4')(a b:Int):z4':=oQ (k:=.int .i64) (v:=.int .i64) l a b
abbrev i':aa:=.ae (.aw (.int .i64) (.aw (.int .i64) (.aw (.int .i64) (.aw (.int .i64) (.aw (.int .i64) (.int .i64))))))
abbrev nV(l:List (Int×bt))(a:Int)(b:bt):List (Int×bt):=oQ (k:=.int .i64) (v:=i') l a b
abbrev avc:List UInt8:=0::1::(List.replicate 2 2++(List.replicate 4 3++(List.replicate 8 4++(List.replicate 16 5++(List.replicate 32 6++(List.replicate 64 7++List.replicate 128 8))))))
variable {hB:Type}{hC:Type}{hD:Type}{hE:Type}{hF:Type}{hi:Type}{hj:Type}
abbrev _root_.Prod.cv(x:hB×hC×hD×hE×hF×hi×hj):hi:=x.2.2.2.2.2.1
variable {hO:Type}
abbrev _root_.Prod.fI(x:hB×hC×hD×hE×hF×hi×hj×hO):hj:=x.2.2.2.2.2.2.1
variable {h9:Type}
abbrev _root_.Prod.h8(x:hB×hC×hD×hE×hF×hi×hj×hO×h9):hO:=x.2.2.2.2.2.2.2.1
variable {iL:Type}
abbrev _root_.Prod.k2(x:hB×hC×hD×hE×hF×hi×hj×hO×h9×iL):h9:=x.2.2.2.2.2.2.2.2.1
variable {ja:Type}
abbrev _root_.Prod.ni(x:hB×hC×hD×hE×hF×hi×hj×hO×h9×iL×ja):iL:=x.2.2.2.2.2.2.2.2.2.1
variable {jP:Type}
abbrev _root_.Prod.mJ(x:hB×hC×hD×hE×hF×hi×hj×hO×h9×iL×ja×jP):ja:=x.2.2.2.2.2.2.2.2.2.2.1
variable {j':Type}
abbrev _root_.Prod.jb(x:hB×hC×hD×hE×hF×hi×hj×hO×h9×iL×ja×jP×j'):jP:=x.2.2.2.2.2.2.2.2.2.2.2.1
variable {kP:Type}
abbrev _root_.Prod.pQ(x:hB×hC×hD×hE×hF×hi×hj×hO×h9×iL×ja×jP×j'×kP):j':=x.2.2.2.2.2.2.2.2.2.2.2.2.1
variable {lC:Type}
abbrev _root_.Prod.qF(x:hB×hC×hD×hE×hF×hi×hj×hO×h9×iL×ja×jP×j'×kP×lC):kP:=x.2.2.2.2.2.2.2.2.2.2.2.2.2.1
variable {mm:Type}
abbrev _root_.Prod.wb(x:hB×hC×hD×hE×hF×hi×hj×hO×h9×iL×ja×jP×j'×kP×lC×mm):lC:=x.2.2.2.2.2.2.2.2.2.2.2.2.2.2.1
variable {nj:Type}
abbrev _root_.Prod.H_(x:hB×hC×hD×hE×hF×hi×hj×hO×h9×iL×ja×jP×j'×kP×lC×mm×nj):mm:=x.2.2.2.2.2.2.2.2.2.2.2.2.2.2.2.1
variable {ox:Type}
abbrev _root_.Prod.TY(x:hB×hC×hD×hE×hF×hi×hj×hO×h9×iL×ja×jP×j'×kP×lC×mm×nj×ox):nj:=x.2.2.2.2.2.2.2.2.2.2.2.2.2.2.2.2.1
variable {pR:Type}
abbrev _root_.Prod.Ia(x:hB×hC×hD×hE×hF×hi×hj×hO×h9×iL×ja×jP×j'×kP×lC×mm×nj×ox×pR):ox:=x.2.2.2.2.2.2.2.2.2.2.2.2.2.2.2.2.2.1
variable {rG:Type}
abbrev _root_.Prod.Ib(x:hB×hC×hD×hE×hF×hi×hj×hO×h9×iL×ja×jP×j'×kP×lC×mm×nj×ox×pR×rG):pR:=x.2.2.2.2.2.2.2.2.2.2.2.2.2.2.2.2.2.2.1
variable {tq:Type}
abbrev _root_.Prod.Ic(x:hB×hC×hD×hE×hF×hi×hj×hO×h9×iL×ja×jP×j'×kP×lC×mm×nj×ox×pR×rG×tq):rG:=x.2.2.2.2.2.2.2.2.2.2.2.2.2.2.2.2.2.2.2.1
variable {wc:Type}
abbrev _root_.Prod.TZ(x:hB×hC×hD×hE×hF×hi×hj×hO×h9×iL×ja×jP×j'×kP×lC×mm×nj×ox×pR×rG×tq×wc):tq:=x.2.2.2.2.2.2.2.2.2.2.2.2.2.2.2.2.2.2.2.2.1
variable {y_:Type}
abbrev _root_.Prod.T0(x:hB×hC×hD×hE×hF×hi×hj×hO×h9×iL×ja×jP×j'×kP×lC×mm×nj×ox×pR×rG×tq×wc×y_):wc:=x.2.2.2.2.2.2.2.2.2.2.2.2.2.2.2.2.2.2.2.2.2.1
variable {Ei:Type}
abbrev _root_.Prod.T1(x:hB×hC×hD×hE×hF×hi×hj×hO×h9×iL×ja×jP×j'×kP×lC×mm×nj×ox×pR×rG×tq×wc×y_×Ei):y_:=x.2.2.2.2.2.2.2.2.2.2.2.2.2.2.2.2.2.2.2.2.2.2.1
abbrev _root_.Prod.T2{MT:Type}(x:hB×hC×hD×hE×hF×hi×hj×hO×h9×iL×ja×jP×j'×kP×lC×mm×nj×ox×pR×rG×tq×wc×y_×Ei×MT):Ei:=x.2.2.2.2.2.2.2.2.2.2.2.2.2.2.2.2.2.2.2.2.2.2.2.1
abbrev _root_.Prod.avd{MT ave:Type}(x:hB×hC×hD×hE×hF×hi×hj×hO×h9×iL×ja×jP×j'×kP×lC×mm×nj×ox×pR×rG×tq×wc×y_×Ei×MT×ave):MT:=x.2.2.2.2.2.2.2.2.2.2.2.2.2.2.2.2.2.2.2.2.2.2.2.2.1
variable (Ie:bb×(Option h7->L Bool)->L (Option h7×Int)) (T3:Option hh×Int×Int->L (b6×Bool)) (T4:(z1'->Prop)->L (z1')) (avf:z4'->L (z1'->Prop)) (avg:Option h7×Option Int×Option Int->L Bool) (adS:bb×Int×(Int->L Int)->L (z23')) (avh:Int×Option bb->L Int) (avi:Int->L Int) (avj:List bt->L (List bt)) (avk:bb->L Bool) (T5:List bt->L (List bt×Bool)) (avl:bb->L Bool) (adT:bt×Int×Int×Int×Int×Int×Int->L Bool) (avm:uY×Int->L Int) (avn:z19'->L Bool) (aOF:bb×Bool->L (List (z1')×Int)) (qG:z15'->L Bool) (aOG:(z11')×z27'->L (z11')) (aOH:bb×Int->L (z19')) (aOI aOJ:bb×z1'×Int->L Int) (adU:bb×Int×Int->L Int) (avo:Option h7×Option Int->L Bool) (aOK:bb×z1'×Int×Int->L (z11')) (aOL:bb×Int×Int->L Int) (BI:bb->L Int) (avp:List bt×Unit->L (Bool×List bt×Unit)) (avq:(z18'->L Bool)×List bt×Unit->L ((z21')×List bt×Unit)) (adV:z1'×j_->L (j_)) (avr:bt×Option bb->L Bool) (T6:z14'->L (z14')) (avs:(z1'->Prop)×Unit->L (z14')) (T7:Option h7×(Option hh->L (z27'))->L ((z11')×Bool)) (avt:Option h7×Option Int->L Bool) (avu:Option hh×Option Int×Option bb->L (z27')) (avv:Option h7×Option Int->L Bool) (avw:Option hh×Option (Option h7)×Option Int×Option bb->L (z27')) (aOM:Option h7×Option Int×Option bb->L Bool) (aON:Option hh×Option Int->L (z27')) (avx:Option h7×Option Int->L Bool) (avy:Option hh×Option (Option h7)×Option Int×Option (Int->L Int)->L (z27')) (ME:z19'->L Bool) (adW:uY×Int->L Int) (adX:Option h7×Option hh->L (List b6->Prop)) (tr:z15'->L Bool) (T8:Int->L Bool) (adY:List bt×(z18'->L Bool)->L Bool) (avz:Int×z18'->L Bool) (MI:z1'×(Int->L Bool)->L Bool) (avA:bt×Option bb->L Bool) (avB:Int->L Bool) (adZ:List (Int×bt)->L (z1'->Prop)) (avC:Int×z18'->L Bool) (avD:bb×Int×Int×Int×Int×Int×Int->L Bool) (BJ:bb->L Int) (se:z15'->L Bool) (aOO:bb×Int->L Bool) (avE:bb->L (List bt)) (aOP:bb×z1'×Int->L Int) (BG:z19'->L Bool) (acY:z19'->L Int) (avF:bt×Option Int->L Bool) (ad0:List bt×(z18'->L Bool)->L Int) (avG:bb×Int×Int×Int×Int×Int×Int->L Bool) (MU:Int->L Bool) (aun:z1'×(Int->L Bool)->L Int) (aOQ:bb×z1'->L (List (z1'))) (aOR:bb×z1'->L Bool) (aOS:bb×z1'×Int->L (List b6×Bool)) (ad1:Int->L Bool) (avH:z11'->L Int) (avI:(z1'->Prop)×Unit->L (z14')) (aOT:z11'->L Bool) (avJ:z1'->L (z1')) (avK:(b6×bt×Int->L Int)×List b6×Unit->L (List b6×Unit)) (avL:b6×bt×Int->L Int) (aOU:z33'->L (z14')) (avM:Int×Int×(b6×bt×Int->L Int)×List b6×Unit->L (List b6×Unit)) (avN:z1'×j_->L (Option hh×Bool×j_)) (aOV:Int×z33'->L (z14')) (avO:Int->L Int) (avP:Int×Int×Int×(b6×bt×Int->L Int)×List b6×Unit->L (List b6×Unit))
def ad2(x:bb×Int×Int):L (z19'):=
 ar (Ie (x.1,λjv=>avg (jv,some x.2.1,some x.2.2))) λy=>letI c:=(y.1.getD (([],[],[],[],0,0,0,0,0,0,0),[],[])).2.2;bl (y.2≠0) (mpure ([],y.2)) (cy (ah y.1.isSome (dI (λA=>letI d:=A.2.2;bl (d.1<A.2.1) (cy (bY d.1 A.1 (ar (T3 (bF A.1 d.1 none,d.2.1,d.2.2.1)) (λy=>bJ y.2 (bg (A.1,A.2.1,d.1,d.2.1,d.2.2.1,hf A.cv y.1.1.2.2.2.2.2 (bh ((ho (λp=>cu y.1.1.2.2.2.2.2 p.1) A.cv).getD 0)),())) (bg (A.1,A.2.1,d.1,d.2.1,d.2.2.1,hf A.cv (-1) (bh ((ho (λp=>cu (-1) p.1) A.cv).getD 0)),()))))) (λA=>bg (A.1,A.2.1,bh A.2.2.1,A.2.2.2.1,A.2.2.2.2.1,A.cv,()))) (b4 (A.cv,()))) (c,aY c,0,x.2.1,x.2.2,[],()))) (λA=>ar (avf A.1) λy=>ar (T4 y) λy=>mpure (y,0)))
def ad3(x:bb):L bb:=
 fx x.1 (fx x.2.1 (fx x.2.2.1 (fx x.2.2.2.1 (mpure ([]++x.1,[]++x.2.1,[]++x.2.2.1,[]++x.2.2.2.1,x.2.2.2.2)))))
def ad4(x:bb×Int):L (z23'):=
 ar (adS (x.1,x.2,λjv=>avh (jv,some x.1))) λy=>mpure y
def ad5(x:bb×Int):L (z23'):=
 ar (adS (x.1,x.2,avi)) λy=>mpure y
def ad6(x:bb×Int):L (z23'):=
 ar (Ie (x.1,λjv=>avt (jv,some x.2))) λy=>bl (y.2≠0) (mpure ((0,0),y.2)) (ar (T7 (y.1,λjv=>avu (jv,some x.2,some x.1))) (λy=>mpure (y.1,0)))
def ad7(x:bb×Int):L (z23'):=
 ar (Ie (x.1,λjv=>avv (jv,some x.2))) λy=>bl (y.2≠0) (mpure ((0,0),y.2)) (ar (T7 (y.1,λjv=>avw (jv,some y.1,some x.2,some x.1))) (λy=>mpure (y.1,0)))
def ad8(x:bb):L Int:=
 ar (avk x) λy=>bJ (!y) (mpure 90) (ar (T5 x.2.1) (λy=>bJ (!y.2) (mpure 91) (mpure 0)))
def ad9(x:bb):L Int:=
 ar (avl x) λy=>bJ (!y) (mpure 90) (bS (λA=>hy A.1 A.2.1.2.1 (bS (λA=>letI e:=A.2.2.1.2.1;letI d:=adT (bF e A.2.1 (0,0,0,0,0,0),bF e A.1 (0,0,0,0,0,0));bl (A.2.1<A.1) (bY A.2.1 e (bY A.1 e (dy d (bJ (nf d) (j0 (j0 (di 91))) (bg (A.1,bh A.2.1,A.2.2.1,())))))) (b4 (A.1,A.2.2.1,()))) (A.1,0,A.2.1,()) (λA=>bg (bh A.1,A.2.1,()))) (b4 ())) (0,x,()) (λA=>mpure 0))
def ad_(x:bb×Int):L (z1'×z19'):=
 ar (Ie (x.1,λjv=>avo (jv,some x.2))) λy=>bl (y.2≠0) (mpure ([],[],y.2)) (bS (λA=>letI h:=(A.1.getD (([],[],[],[],0,0,0,0,0,0,0),[],[])).2.2;bl (A.2.1<10) (cy (cy (ah A.1.isSome (dI (λA=>letI j:=A.2.2.2;bl (A.fI<A.cv) (cy (bY A.fI j.2.1 (ar (T3 (bF j.2.1 A.fI none,A.2.1,A.k2)) (λy=>letI k:=adU (A.h8,y.1.2,A.k2);letI g:=y.2=true;letI i:=g->g/\True/\True;ah i (ah (g->(g/\g/\g/\True)/\k.fr/\True) (ah i (ah i (ah (g->(g/\g)/\True/\True) (ah (True/\(g->g)) (if y.2&&decide (v_ k>=A.h8.k2) then bg (A.1,A.2.1,bh A.2.2.1,j.1,j.2.1,A.cv,A.fI,A.h8,A.k2,A.ni,A.mJ,()) else bg (A.1,A.2.1,A.2.2.1,j.1,j.2.1,A.cv,A.fI,A.h8,A.k2,A.ni,A.mJ,())))))))))) (λA=>bg (A.1,A.2.1,A.2.2.1,A.2.2.2.1,A.2.2.2.2.1,A.cv,bh A.fI,A.h8,A.k2,A.ni,A.mJ,()))) (b4 (A.1,A.2.1,A.2.2.1,j.1,A.h8,A.k2,A.ni,A.mJ,()))) (A.1,A.2.1,0,A.2.1,h,aY h,0,A.2.2.1,A.2.2.2.1,A.2.2.2.2.1,A.cv,()))) (λA=>letI l:=A.2.2;cy (bl (l.1 > 0) (ed A.h8 (bg (A.1,A.2.1,l.1,l.2.1,l.2.2.1,A.cv,A.fI,A.h8++[A.2.1],()))) (bg (A.1,A.2.1,l.1,l.2.1,l.2.2.1,A.cv,A.fI,A.h8,()))) λA=>letI m:=A.2.2.2;ah A.1.isSome (bl (A.2.2.1=aY (A.1.getD (([],[],[],[],0,0,0,0,0,0,0),[],[])).2.2) (ed A.fI (bg (A.1,m.1,m.2.1,A.cv,A.fI++[A.2.1],A.h8,()))) (bg (A.1,m.1,m.2.1,A.cv,A.fI,A.h8,()))))) (λA=>bg (A.1,bh A.2.1,A.2.2.1,A.2.2.2.1,A.2.2.2.2.1,A.cv,()))) (b4 (A.2.2.2.2.1,A.cv,()))) (y.1,0,x.1,x.2,[],[],()) (λA=>mpure (A.1,A.2.1,0)))
def ad'(x:bb×(Option h7->L Bool)):L (Option h7×Int):=
 ar (BI x.1) λy=>bl (y≠0) (mpure (none,y)) (ar (avp (x.1.2.1,())) (λy=>ah True (ah True (ar (avq (λjv=>avr (jv,some x.1),y.2.1,())) (λy=>ah True (cy (ar (x.2 (some (x.1,List.drop y.1.1 (y.2.1.take y.1.2),[]))) (λcp=>if !cp then pL (none,1) else bg (x.1.1,x.1.2.1,x.1.2.2.1,x.1.2.2.2.1,x.1.2.2.2.2.1,x.1.cv,x.1.fI,x.1.h8,x.1.k2,x.1.ni,x.1.2.2.2.2.2.2.2.2.2.2,y.1,y.2.1,[],()))) (λA=>ar (adV ([],A.1,A.2.1,A.2.2.1,A.2.2.2.1,A.2.2.2.2.1,A.cv,A.fI,A.h8,A.k2,A.ni,A.mJ,List.drop A.jb.1 (A.pQ.take A.jb.2),A.qF,())) λy=>ah True (bl (aY y.pQ=0) (mpure (none,3)) (mpure (some ((y.1,y.2.1,y.2.2.1,y.2.2.2.1,y.2.2.2.2.1,y.cv,y.fI,y.h8,y.k2,y.ni,y.mJ),y.jb,y.pQ),0))))))))))
def aea(x:Option h7×Option Int×Option Int):L Bool:=
 ar (tr (x.2.1.getD 0,0,9)) λy=>cj y (T8 (x.2.2.getD 0)) false λcp=>mpure (y&&cp)
def avQ(x:z15'):L Bool:=
 mpure (hY x.2.1 x.1&&hY x.1 x.2.2)
def aeb(x:Int):L Bool:=
 ar (tr (x,0,9999)) λy=>mpure y
def aec(x:Option hh×Int×Int):L (b6×Bool):=
 letI f:=bF (x.1.getD ([],[[],[],[],[],[],[],[],[],[],[]])).2 x.2.1 [];cy (ah x.1.isSome (ah (0<=x.2.1/\x.2.1<Int.ofNat 10) (dI (λ(A:Int×Bool×List b6×Int×Int×b6×b6×Unit)=>letI g:=A.2.2;letI h:=g.2.2.1;letI e:=bF g.1 h ((0,0,0,0,0,0),0);bl (h<g.2.1) (cy (bY h g.1 (bl (e.2<=A.1) (bg (A.1,cu e.1.2.2.2.1 1,g.1,g.2.1,h,A.cv,e,())) (bg (A.1,A.2.1,g.1,g.2.1,h,A.cv,A.fI,())))) (λA=>bg (A.1,A.2.1,A.2.2.1,A.2.2.2.1,bh A.2.2.2.2.1,A.cv,A.fI,()))) (b4 (A.2.1,A.cv,A.fI,()))) (x.2.2,false,f,aY f,0,((0,0,0,0,0,0),0),((0,0,0,0,0,0),0),())))) λA=>mpure (A.2.2.1,A.1)
def aed(x:z1'->Prop):L (z1'):=
 ar (avs (x,())) λy=>ar (T6 (y.1,())) λy=>mpure y.1
def avR(avS:Option (z4')->z1'->Prop)(x:z4'):L (z1'->Prop):=
 mpure (avS (some x))
def aee(x:bb×Int×(Int->L Int)):L (z23'):=
 ar (Ie (x.1,λjv=>avx (jv,some x.2.1))) λy=>bl (y.2≠0) (mpure ((0,0),y.2)) (ar (T7 (y.1,λjv=>avy (jv,some y.1,some x.2.1,some x.2.2))) (λy=>if !y.2 then mpure ((0,0),3) else mpure (y.1,0)))
def aef(x:Int×Option bb):L Int:=
 ar (adW ((x.2.getD ([],[],[],[],0,0,0,0,0,0,0)).2.2.2.2,x.1)) λy=>mpure y
def aeg(x:uY×Int):L Int:=
 letI e:=x.1.2;letI d:=IntKind.wrap .i64 (e.2.1*IntKind.wrap .i64 (Int.tdiv (cF (e1 (vH (cF x.2 x.1.1) 0) e.1) 1) e.1));bl (x.2>=e.2.2.2.1) (mpure x.1.cv) (ah (e.1≠0) (mpure (if d<e.2.2.1 then d else e.2.2.1)))
def avT(x:Int):L Int:=
 mpure x
def aeh(x:Option h7×Option Int):L Bool:=
 ar (T8 (x.2.getD 0)) λy=>mpure y
def aei(x:Option h7×(Option hh->L (z27'))):L ((z11')×Bool):=
 letI e:=(x.1.getD (([],[],[],[],0,0,0,0,0,0,0),[],[])).2.2;cy (ah x.1.isSome (dI (λA=>letI d:=A.2.2;letI f:=d.2.2.1;bl (f<d.2.1) (cy (bY f d.1 (ar (A.1 (bF d.1 f none)) (λy=>bJ (!y.2) (bg (A.1,A.2.1,d.1,d.2.1,f,A.cv,())) (bJ (!A.2.1) (bg (A.1,true,d.1,d.2.1,f,(y.1,y.1),())) (bg (A.1,A.2.1,d.1,d.2.1,f,(if y.1<A.cv.1 then y.1 else A.cv.1,vH y.1 A.cv.2),())))))) (λA=>bg (A.1,A.2.1,A.2.2.1,A.2.2.2.1,bh A.2.2.2.2.1,A.cv,()))) (b4 (A.2.1,A.cv,()))) (x.2,false,e,aY e,0,(0,0),()))) λA=>mpure (A.2.1,A.1)
def aej(x:Option hh×Option Int×Option bb):L (z27'):=
 bS (λA=>letI b:=A.2.2.2;bl (b.2.1<10) (cy (ar (T3 (A.1,b.2.1,A.2.1)) (λy=>bJ y.2 (bg (A.1,A.2.1,A.2.2.1,e1 b.1 A.2.2.1.2.2.2.2.2.2.2.2.2.2,b.2.1,())) (bg (A.1,A.2.1,A.2.2.1,b.1,b.2.1,())))) (λA=>bg (A.1,A.2.1,A.2.2.1,A.2.2.2.1,e1 A.2.2.2.2.1 1,()))) (b4 (b.1,()))) (x.1,x.2.1.getD 0,x.2.2.getD ([],[],[],[],0,0,0,0,0,0,0),0,0,()) λA=>mpure (A.1,true)
def aek(x:Option h7×Option Int):L Bool:=
 ar (MU (x.2.getD 0)) λy=>mpure y
def ael(x:Int):L Bool:=
 ar (tr (x,0,99)) λy=>mpure y
def aem(x:Option hh×Option (Option h7)×Option Int×Option bb):L (z27'):=
 ar (adX (x.2.1.getD none,x.1)) λy=>ar (mS y) λad=>ar (kr (λA (y:bt×Int)=>letI b:=adW (A.2.1.2.2.2.2,y.2);ar (bl (y.1.2.2.2.2.2=A.1) (dy b (mpure (dU.normal,e1 A.2.2.1 (v_ b),()))) (mpure (dU.normal,A.2.2.1,()))) λp=>mpure (p.1,A.1,A.2.1,p.2.1,())) ad (x.2.2.1.getD 0,x.2.2.2.getD ([],[],[],[],0,0,0,0,0,0,0),0,())) λp=>yQ (mpure (p.2.2.2.1,true)) (λid=>if id=0 then mpure (p.2.2.2.1,true) else eb) eb p.1
def avU(avV:Option (Option hh)×Option (Option h7)->List b6->Prop)(x:Option h7×Option hh):L (List b6->Prop):=
 mpure (avV (some x.2,some x.1))
def aen(x:bb):L Bool:=
 letI q:=dr (aY x.1) 3||dr (aY x.2.1) 12||dr (aY x.2.2.1) 12||dr (aY x.2.2.2.1) 4;cj (!q) (avz x.2.2.2.2) false λy=>bJ (q||!y) jL (bS (λA=>letI dv:=A.2.2;letI z:=bF A.1 dv.1 (0,0);bl (dv.1<A.2.1) (bY dv.1 A.1 (ar (tr (z.1,-30,z.2)) (λy=>bJ (!y||dr z.2 30) (di false) (bg (A.1,A.2.1,bh dv.1,dv.2.1,()))))) (b4 (dv.2.1,()))) (x.1,aY x.1,0,x,()) (λA=>bS (λA=>letI cH:=A.2.2.2.1;letI s:=A.2.2.1;letI w:=bF A.1 s (0,0);letI o:=tr (w.1,0,w.2);letI t:=(!(rA o))=true;letI n:=rA o||dr w.2 9999;letI v:=(!n)=true;letI p:=(!n&&dr s 0)=true;letI u:=p->p/\True/\True;bl (s<A.2.1) (bY s A.1 (dy o (ah (t->t/\True/\True) (ah (t->(t/\True)/\True/\True) (ah (True/\(rA o=false->t)) (ah (v->(v/\True)/\True/\True) (ah (v->True/\True/\v) (ah u (ah u (ah (p->(p/\True)/\True/\True) (ah (p->(p/\p)/\(0<=cF s 1/\cF s 1<aY cH.2.2.2.1)/\True) (ah u (ah u (ah (p->(p/\p)/\True/\True) (ah (v->(v/\(dr s 0=true->p))/\True/\True) (ah (True/\(n=false->v)) (bJ (n||dr s 0&&hY w.1 (bF cH.2.2.2.1 (cF s 1) (0,0)).2) (di false) (bg (A.1,A.2.1,bh s,cH,()))))))))))))))))))) (b4 (cH,()))) (A.1.2.2.2.1,aY A.1.2.2.2.1,0,A.1,()) λA=>ar (adY (A.1.2.1,λx=>avA (x,some A.1))) λy=>cj (!y) (MI (A.1.2.2.1,avB)) false λcp=>mpure (!y&&!cp)))
def avW(x:List bt):L (List bt×Bool):=
 bS (λ(A:List bt×Int×Int×List (Int×bt)×Unit)=>letI i:=A.2.2.1;letI g:=A.2.2.2.1;letI f:=bF A.1 i (0,0,0,0,0,0);bl (i<A.2.1) (bY i A.1 (if (ho (λp=>cu f.1 p.1) g).isSome&&!(cu ((ho (λp=>cu f.1 p.1) g).getD (0,0,0,0,0,0)).1 f.1&&(cu ((ho (λp=>cu f.1 p.1) g).getD (0,0,0,0,0,0)).2.1 f.2.1&&(cu ((ho (λp=>cu f.1 p.1) g).getD (0,0,0,0,0,0)).2.2.1 f.2.2.1&&(cu ((ho (λp=>cu f.1 p.1) g).getD (0,0,0,0,0,0)).2.2.2.1 f.2.2.2.1&&(cu ((ho (λp=>cu f.1 p.1) g).getD (0,0,0,0,0,0)).2.2.2.2.1 f.2.2.2.2.1&&cu ((ho (λp=>cu f.1 p.1) g).getD (0,0,0,0,0,0)).2.2.2.2.2 f.2.2.2.2.2))))) then di ([],false) else bg (A.1,A.2.1,bh i,nV g f.1 f,()))) (b4 (g,()))) (x,aY x,0,[],()) λA=>cy (ar (adZ A.1) (λy=>ar (T4 y) λy=>dI (λA=>letI h:=A.2.2;bl (h.1<A.2.1) (bY h.1 A.1 (ed h.2.1 (bg (A.1,A.2.1,bh h.1,h.2.1++[(ho (λp=>cu (bF A.1 h.1 0) p.1) h.2.2.1).getD (0,0,0,0,0,0)],h.2.2.1,())))) (b4 (h.2.1,()))) (y,aY y,0,[],A.1,()))) λA=>mpure (A.1,true)
def aeo(x:bb):L Bool:=
 letI cH:=dr (aY x.1) 3||dr (aY x.2.1) 12||dr (aY x.2.2.1) 12||dr (aY x.2.2.2.1) 4;cj (!cH) (avC x.2.2.2.2) false λy=>bJ (cH||!y) jL (bS (λA=>letI i1:=A.2.1;letI w:=bF i1.1 A.1 (0,0);letI E:=qG (w.1,-30,w.2);letI s:=rA E;letI v:=(!s)=true;letI f1:=v->v/\True/\True;gx A.1 i1.1 (bY A.1 i1.1 (dy E (ah f1 (ah (v->(v/\v)/\(0<=A.1/\A.1<aY i1.1)/\True) (ah f1 (ah f1 (ah (v->(v/\True)/\True/\True) (ah (True/\(s=false->v)) (bJ (s||dr w.2 30) (di false) (bg (bh A.1,i1,()))))))))))) (b4 (i1,()))) (0,x,()) (λA=>bS (λA=>letI bI:=avD (A.2.1,bF A.2.1.2.1 A.1 (0,0,0,0,0,0));gx A.1 A.2.1.2.1 (dy bI (bJ (rA bI) (di false) (bg (bh A.1,A.2.1,())))) (b4 (A.2.1,()))) (0,A.1,()) λA=>bS (λA=>gx A.1 A.2.1.2.2.1 (ar (qG (bF A.2.1.2.2.1 A.1 0,0,99)) (λy=>bJ (!y) (di false) (bg (bh A.1,A.2.1,())))) (b4 (A.2.1,()))) (0,A.1,()) λA=>bS (λA=>letI aO:=cF A.1 1;letI o4:=dr A.1 0;letI dT:=A.2.1.2.2.2.1;letI z:=bF dT A.1 (0,0);letI t:=qG (z.1,0,z.2);letI dv:=(!(rA t))=true;letI q:=rA t||dr z.2 9999;letI aF:=(!q)=true;letI u:=(!q&&o4)=true;letI d1:=u->u/\True/\True;gx A.1 dT (dy t (ah (dv->dv/\True/\True) (ah (dv->(dv/\True)/\True/\True) (ah (True/\(rA t=false->dv)) (ah (aF->(aF/\True)/\True/\True) (ah (aF->True/\True/\aF) (ah d1 (ah d1 (ah (u->(u/\True)/\True/\True) (ah (u->(u/\u)/\(0<=aO/\aO<aY dT)/\True) (ah d1 (ah d1 (ah (u->(u/\u)/\True/\True) (ah (aF->(aF/\(o4=true->u))/\True/\True) (ah (True/\(q=false->aF)) (bJ (q||o4&&hY z.1 (bF dT aO (0,0)).2) (di false) (bg (bh A.1,A.2.1,())))))))))))))))))) (b4 ())) (0,A.1,()) λA=>ku))
def aep(x:bt×Int×Int×Int×Int×Int×Int):L Bool:=
 mpure (cu x.1.1 x.2.1&&!(cu x.1.1 x.2.1&&(cu x.1.2.1 x.2.2.1&&(cu x.1.2.2.1 x.2.2.2.1&&(cu x.1.2.2.2.1 x.2.2.2.2.1&&(cu x.1.2.2.2.2.1 x.cv&&cu x.1.2.2.2.2.2 x.2.2.2.2.2.2))))))
def aeq(x:z15'):L Bool:=
 ar (se x) λy=>mpure y
def avX(x:Option h7×Option Int):L Bool:=
 ar (T8 (x.2.getD 0)) λy=>mpure y
def aer(x:bb×Int×Int):L Int:=
 bS (λA=>letI e:=A.2.2.2;letI d:=bF e.1 A.cv (0,0);bl (A.cv<e.2.1) (bY A.cv e.1 (bg (A.1,A.2.1,cF A.2.2.1 (vH (bh (cF (if cF A.2.1 1<d.2 then cF A.2.1 1 else d.2) (vH A.1 d.1))) 0),e.1,e.2.1,bh A.cv,()))) (b4 (A.2.2.1,()))) (x.2.1,x.2.2,cF x.2.2 x.2.1,x.1.2.2.2.1,aY x.1.2.2.2.1,0,()) λA=>mpure A.1
def aes(x:z4'):L (z4'):=
 ar (mS (λb=>b=true->x=[])) λy=>bJ y (mpure []) (fx x (mpure ([]++x)))
def aet(x:bt×Option bb):L Bool:=
 ar (BG ((x.2.getD ([],[],[],[],0,0,0,0,0,0,0)).2.2.1,x.1.1)) λy=>mpure y
def aeu(x:Option h7×Option Int):L Bool:=
 ah x.1.isSome (ar (adY ((x.1.getD (([],[],[],[],0,0,0,0,0,0,0),[],[])).2.1,λjv=>avF (jv,some (x.2.getD 0)))) (λy=>mpure y))
def avY(x:List bt×(z18'->L Bool)):L Bool:=
 ar (ad0 x) λy=>mpure (decide (y>=0))
def avZ(x:bt×Option Int):L Bool:=
 mpure (cu x.1.1 (x.2.getD 0)&&cu x.1.2.2.2.1 1)
def aev(x:Option hh×Option (Option h7)×Option Int×Option (Int->L Int)):L (z27'):=
 ar (adX (x.2.1.getD none,x.1)) λy=>ar (mS y) λad=>ar (kr (λA (y:bt×Int)=>ar (bl (y.1.1=A.1) (ar (A.2.1 y.2) (λy=>mpure (dU.ret,y,true,()))) (mpure (dU.normal,A.2.2.1,A.2.2.2.1,()))) λp=>mpure (p.1,A.1,A.2.1,p.2.1,p.2.2.1,())) ad (x.2.2.1.getD 0,x.2.2.2.getD λx=>{ fr:=False,a8:=λx=>False },0,false,())) λp=>yQ (mpure (0,false)) (λid=>if id=0 then mpure (0,false) else eb) (mpure (p.2.2.2.1,p.2.2.2.2.1)) p.1
def aew(x:Int×z18'):L Bool:=
 bS (λA=>bl (A.2.1<A.1) (bY A.2.1 A.2.2.2.1 (ar (tr (bF A.2.2.2.1 A.2.1 0,0,100000)) (λy=>if !y then di false else bg (A.1,bh A.2.1,A.2.2.1,A.2.2.2.1,())))) (b4 (A.2.2.1,()))) (Int.ofNat (Add.add (Add.add (Add.add (Add.add 0 1) 1) 1) 1),0,x,[x.2.2.1,x.2.2.2.1,x.cv,x.2.2.2.2.2.2],()) λA=>ar (tr (A.1.1,0,9999)) λy=>cj y (tr (A.1.2.1,1,9999)) false λcp=>cj (y&&cp) (tr (A.1.2.2.2.2.1,1,9999)) false λef=>mpure (y&&cp&&ef)
def aex(x:bt×Option bb):L Bool:=
 ar (avG (x.2.getD ([],[],[],[],0,0,0,0,0,0,0),x.1)) λy=>mpure (!y)
def aey(x:bb×Int×Int×Int×Int×Int×Int):L Bool:=
 letI f:=x.2.2.2.2;letI d:=cu f.1 1||cu f.1 2&&cu f.2.2 0;cj d (MU x.2.1) false λy=>cj (d&&y) (MU f.2.2) false λcp=>cj (d&&y&&cp) (tr (x.2.2.1,0,cF (aY x.1.1) 1)) false λef=>letI e:=d&&y&&cp&&ef;cj e (tr (x.2.2.2.1,0,9999)) false λhg=>cj (e&&hg) (tr (x.cv,0,9)) false λkO=>mpure (e&&hg&&kO)
def aez(x:Int):L Bool:=
 ar (MU x) λy=>mpure (!y)
def av0(av1:Option (List (Int×bt))->z1'->Prop)(x:List (Int×bt)):L (z1'->Prop):=
 mpure (av1 (some x))
def aeA(x:Int×z18'):L Bool:=
 ar (qG (x.1,0,9999)) λy=>cj y (qG (x.2.1,1,9999)) false λcp=>cj (y&&cp) (qG (x.2.2.2.2.1,1,9999)) false λef=>cj (y&&cp&&ef) (qG (x.2.2.1,0,100000)) false λhg=>letI b:=y&&cp&&ef&&hg;cj b (qG (x.2.2.2.1,0,100000)) false λkO=>cj (b&&kO) (qG (x.cv,0,100000)) false λuX=>cj (b&&kO&&uX) (qG (x.2.2.2.2.2.2,0,100000)) false λwa=>mpure (b&&kO&&uX&&wa)
def aeB(x:bb×Int×Int×Int×Int×Int×Int):L Bool:=
 letI d:=x.2.2.2.2;ar (qG (x.2.1,0,99)) λy=>cj (!(!y)) (qG (x.2.2.1,0,cF (aY x.1.1) 1)) false λcp=>cj (!(!y||!cp)) (qG (x.2.2.2.1,0,9999)) false λef=>letI c:=!y||!cp||!ef;cj (!c) (qG (x.cv,0,9)) false λhg=>cj (!(c||!hg)) (qG (d.2.2,0,99)) false λkO=>bJ (c||!hg||!kO) jL (mpure (cu d.1 1||cu d.1 2&&cu d.2.2 0))
def aeC(aOW:Int->L Int)(av2:Int->L Int)(x:Int):L Int:=
 ar (av2 x) λy=>mpure y
def av3(x:List bt×(z18'->L Bool)):L Int:=
 bS (λA=>letI b:=A.2.2.2.1;bl (b<A.2.2.1) (bY b A.1 (ar (A.2.1 (bF A.1 b (0,0,0,0,0,0))) (λy=>bJ y (di b) (bg (A.1,A.2.1,A.2.2.1,bh b,()))))) (b4 ())) (x.1,x.2,aY x.1,0,()) λA=>mpure (-1)
def If(x:Int):L Int:=
 cy (bl (x>=4294967296) (ah ((0:Int)<=32) (bg (lp .u64 x 32,32,()))) (bg (x,0,()))) λA=>cy (bl (A.1>=65536) (ah ((0:Int)<=16) (bg (lp .u64 A.1 16,e1 A.2.1 16,()))) (bg (A.1,A.2.1,()))) λA=>cy (bl (A.1>=256) (ah ((0:Int)<=8) (bg (lp .u64 A.1 8,e1 A.2.1 8,()))) (bg (A.1,A.2.1,()))) λA=>letI b:=IntKind.wrap .u8 A.1;ah (0<=b/\b<Int.ofNat 256) (mpure (e1 A.2.1 (IntKind.wrap .i64 (Int.ofNat (avc.getD b.toNat 0).1.1.1))))
def aeD(x:z1'):L (z1'):=
 ar (mS (λb=>b=true->x=[])) λy=>bJ y (mpure []) (fx x (mpure ([]++x)))
def aeE(x:b6×bt×Int):L Int:=
 ar (avH (x.1.2,x.2.2)) λy=>mpure y
def aeF(x:z11'):L Int:=
 ar (ad1 x.1) λy=>ar (ad1 x.2) λcp=>bJ y (bJ cp (mpure 0) (mpure (-1))) (bJ cp (mpure 1) (bl (x.1<x.2) (mpure (-1)) (bl (x.1 > x.2) (mpure 1) (mpure 0))))
def aeG(x:Int):L Bool:=
 mpure (jq x x)
def aeH(x:(z1'->Prop)×Unit):L (z14'):=
 ar (mS x.1) λad=>ar (kr (λA (y:Int)=>ar (ed A.1 (mpure (dU.normal,A.1++[y],()))) λp=>mpure (p.1,p.2.1,())) ad ([],())) λp=>yQ (mpure (p.2.1,())) (λid=>if id=0 then mpure (p.2.1,()) else eb) eb p.1
def aeI(x:(z1'->Prop)×Unit):L (z14'):=
 ar (avI (x.1,())) λy=>mpure (y.1,())
def aeJ(x:(z18'->L Bool)×List bt×Unit):L ((z21')×List bt×Unit):=
 ar (ad0 (x.2.1,x.1)) λy=>bl (y=-1) (mpure ((0,x.2.1.length),x.2.1,())) (bS (λA=>letI l:=A.2.2.1;letI i:=A.2.2.2.1;letI m:=bF i l (0,0,0,0,0,0);hy l i (cy (bY l i (ar (A.1 m) (λy=>if !y then bY A.2.1 i (bg (A.1,bh A.2.1,l,List.set i A.2.1.toNat m,())) else bg (A.1,A.2.1,l,i,())))) (λA=>bg (A.1,A.2.1,bh A.2.2.1,A.2.2.2.1,()))) (b4 (A.2.1,i,()))) (x.1,y,bh y,x.2.1,()) (λA=>letI k:=A.1.toNat;letI j:=aY A.2.1;letI h:=A.2.1.take k++List.replicate (j.toNat-k) (0,0,0,0,0,0)++A.2.1.drop (Add.add k (List.replicate (j.toNat-k) ((0,0,0,0,0,0):bt)).length);ah (0<=A.1/\A.1<=j/\j<=j) (ah True (ah ((0:Int)<=0/\0<=A.1/\A.1<=aY h) (mpure ((Int.toNat 0,k),h,()))))))
def MV(x:Nat×Option hh×Option h7×(Nat×(List b6->Prop)×List b6×Bool)×Unit):L ((Nat×(List b6->Prop)×List b6×Bool)×Unit):=
 ah x.2.1.isSome (dI (λA=>letI n:=A.2.2.2;bl (n.1<10) (cy (ah (0<=n.1/\n.1<Int.ofNat 10) (dI (λ(A:Nat×Option h7×List b6×Int×List (List b6)×Int×(Nat×(List b6->Prop)×List b6×Bool)×Unit)=>letI o:=A.fI;letI l:=A.2.2;letI p:=l.2.1;letI k:=bF l.1 p ((0,0,0,0,0,0),0);letI j:=adU ((A.2.1.getD (([],[],[],[],0,0,0,0,0,0,0),[],[])).1,k.2,(bF l.1 (bh p) ((0,0,0,0,0,0),0)).2);hy (bh p) l.1 (bY p l.1 (ah A.2.1.isSome (bY p l.1 (bY (bh p) l.1 (dy j (ar (ah (A.1=o.1/\o.2.2.2=false/\(∃ (T:List b6),o.2.1 (o.2.2.1++(k.1,v_ j)::T))) (mS (λx=>True))) (λy=>letI m:=(o.1,o.2.1,o.2.2.1++[(k.1,v_ j)],!y);if !y then j0 (di (m,())) else bg (A.1,A.2.1,l.1,e1 p 2,l.2.2.1,A.cv,m,())))))))) (b4 (A.1,A.2.1,l.2.2.1,A.cv,o,()))) (A.1,A.2.1,bF A.2.2.1 n.1 [],0,A.2.2.1,n.1,n.2.1,()))) (λA=>bg (A.1,A.2.1,A.2.2.1,bh A.2.2.2.1,A.2.2.2.2.1,()))) (pL (n.2.1,()))) (x.1,x.2.2.1,(x.2.1.getD ([],[[],[],[],[],[],[],[],[],[],[]])).2,0,x.2.2.2.1,()))
def aeK(x:Int×Int×(b6×bt×Int->L Int)×List b6×Unit):L (List b6×Unit):=
 dI (λA=>letI t:=A.2.2.2;bl (t.1<A.2.1) (bS (λ(A:Int×Int×(b6×bt×Int->L Int)×Int×Int×List b6×Unit)=>letI u:=A.2.2;letI q:=A.cv;letI n:=u.2.2.1;letI v:=dr n A.1;letI s:=bF q n ((0,0,0,0,0,0),0);letI p:=cF n 1;letI o:=bF q p ((0,0,0,0,0,0),0);letI w:=List.set q n.toNat o;letI m:=v=true;letI z:=m->m/\True/\True;ah (m->(m/\m)/\(0<=n/\n<aY q)/\True) (ah z (ah (m->(m/\True)/\True/\True) (ah (m->(m/\m)/\(0<=p/\p<aY q)/\True) (ah z (ah (m->m/\m/\m/\True) (cj v (u.1 (s,o)) 0 (λy=>if v&&fZ y 0 then bY p q (bY n q (bY n q (bY p w (bg (A.1,A.2.1,u.1,u.2.1,p,List.set w p.toNat s,()))))) else b4 (A.1,A.2.1,u.1,u.2.1,q,()))))))))) (A.1,A.2.1,A.2.2.1,t.1,t.1,t.2.1,()) (λA=>bg (A.1,A.2.1,A.2.2.1,bh A.2.2.2.1,A.2.2.2.2.1,()))) (pL (t.2.1,()))) (x.1,x.2.1,x.2.2.1,bh x.1,x.2.2.2.1,())
def T9(x:Nat×z4'×(Nat×(z1'->Prop)×z1'×Bool)×Unit):L ((Nat×(z1'->Prop)×z1'×Bool)×Unit):=
 ar (mpure ()) λy=>dI (λA=>letI f:=A.2.1;letI e:=A.2.2.1;ar (Lu e.2) λy=>bJ y.isSome (ar (ah (qq e.1 e.2 y).isSome (mpure ())) (λcp=>ar (ah (A.1=f.1/\f.2.2.2=false/\(∃ (T:z1'),f.2.1 (f.2.2.1++(Option.map (λx=>x.1) (qq e.1 e.2 y)).getD 0::T))) (mS (λx=>True))) λef=>letI d:=(f.1,f.2.1,f.2.2.1++[(Option.map (λx=>x.1) (qq e.1 e.2 y)).getD 0],!ef);bJ (!ef) (pL (d,())) (bg (A.1,d,(qq e.1 e.2 y,G4 e.2 y),())))) (pL (f,()))) (x.1,x.2.2.1,(none,x.2.1),())
def T_(x:Nat×List (Int×bt)×(Nat×(z1'->Prop)×z1'×Bool)×Unit):L ((Nat×(z1'->Prop)×z1'×Bool)×Unit):=
 ar (mpure ()) λy=>dI (λA=>letI f:=A.2.1;letI e:=A.2.2.1;ar (Lu e.2) λy=>bJ y.isSome (ar (ah (qq e.1 e.2 y).isSome (mpure ())) (λcp=>ar (ah (A.1=f.1/\f.2.2.2=false/\(∃ (T:z1'),f.2.1 (f.2.2.1++(Option.map (λx=>x.1) (qq e.1 e.2 y)).getD 0::T))) (mS (λx=>True))) λef=>letI d:=(f.1,f.2.1,f.2.2.1++[(Option.map (λx=>x.1) (qq e.1 e.2 y)).getD 0],!ef);bJ (!ef) (pL (d,())) (bg (A.1,d,(qq e.1 e.2 y,G4 e.2 y),())))) (pL (f,()))) (x.1,x.2.2.1,(none,x.2.1),())
def av4(x:List bt×Unit):L (Bool×List bt×Unit):=
 bS (λ(A:List bt×Int×Int×List (Int×bt)×Unit)=>letI i:=A.2.2.1;letI g:=A.2.2.2.1;letI f:=bF A.1 i (0,0,0,0,0,0);bl (i<A.2.1) (bY i A.1 (if (ho (λp=>cu f.1 p.1) g).isSome&&!(cu ((ho (λp=>cu f.1 p.1) g).getD (0,0,0,0,0,0)).1 f.1&&(cu ((ho (λp=>cu f.1 p.1) g).getD (0,0,0,0,0,0)).2.1 f.2.1&&(cu ((ho (λp=>cu f.1 p.1) g).getD (0,0,0,0,0,0)).2.2.1 f.2.2.1&&(cu ((ho (λp=>cu f.1 p.1) g).getD (0,0,0,0,0,0)).2.2.2.1 f.2.2.2.1&&(cu ((ho (λp=>cu f.1 p.1) g).getD (0,0,0,0,0,0)).2.2.2.2.1 f.2.2.2.2.1&&cu ((ho (λp=>cu f.1 p.1) g).getD (0,0,0,0,0,0)).2.2.2.2.2 f.2.2.2.2.2))))) then di (false,[],()) else bg (A.1,A.2.1,bh i,nV g f.1 f,()))) (b4 (g,()))) (x.1,aY x.1,0,[],()) λA=>cy (ar (adZ A.1) (λy=>ar (T4 y) λy=>dI (λA=>letI h:=A.2.2;bl (h.1<A.2.1) (bY h.1 A.1 (ed h.2.1 (bg (A.1,A.2.1,bh h.1,h.2.1++[(ho (λp=>cu (bF A.1 h.1 0) p.1) h.2.2.1).getD (0,0,0,0,0,0)],h.2.2.1,())))) (b4 (h.2.1,()))) (y,aY y,0,[],A.1,()))) λA=>mpure (true,A.1,())
abbrev qH:Type:=List b6×List b6×List b6×List b6×List b6×List b6×List b6×List b6×List b6×List b6×j_
def o5:Nat->qH->List b6
 | 0,r=>r.1
 | 1,r=>r.2.1
 | 2,r=>r.2.2.1
 | 3,r=>r.2.2.2.1
 | 4,r=>r.2.2.2.2.1
 | 5,r=>r.2.2.2.2.2.1
 | 6,r=>r.2.2.2.2.2.2.1
 | 7,r=>r.2.2.2.2.2.2.2.1
 | 8,r=>r.2.2.2.2.2.2.2.2.1
 | 9,r=>r.2.2.2.2.2.2.2.2.2.1
 | _,_=>[]
def MW:Nat->List b6->qH->qH
 | 0,v,r=>(v,r.2)
 | 1,v,r=>(r.1,v,r.2.2)
 | 2,v,r=>(r.1,r.2.1,v,r.2.2.2)
 | 3,v,r=>(r.1,r.2.1,r.2.2.1,v,r.2.2.2.2)
 | 4,v,r=>(r.1,r.2.1,r.2.2.1,r.2.2.2.1,v,r.2.2.2.2.2)
 | 5,v,r=>(r.1,r.2.1,r.2.2.1,r.2.2.2.1,r.2.2.2.2.1,v,r.2.2.2.2.2.2)
 | 6,v,r=>(r.1,r.2.1,r.2.2.1,r.2.2.2.1,r.2.2.2.2.1,r.2.2.2.2.2.1,v,r.2.2.2.2.2.2.2)
 | 7,v,r=>(r.1,r.2.1,r.2.2.1,r.2.2.2.1,r.2.2.2.2.1,r.2.2.2.2.2.1,r.2.2.2.2.2.2.1,v,r.2.2.2.2.2.2.2.2)
 | 8,v,r=>(r.1,r.2.1,r.2.2.1,r.2.2.2.1,r.2.2.2.2.1,r.2.2.2.2.2.1,r.2.2.2.2.2.2.1,r.2.2.2.2.2.2.2.1,v,r.2.2.2.2.2.2.2.2.2)
 | 9,v,r=>(r.1,r.2.1,r.2.2.1,r.2.2.2.1,r.2.2.2.2.1,r.2.2.2.2.2.1,r.2.2.2.2.2.2.1,r.2.2.2.2.2.2.2.1,r.2.2.2.2.2.2.2.2.1,v,r.2.2.2.2.2.2.2.2.2.2)
 | _,_,r=>r
abbrev aeL(r:qH):j_:=r.2.2.2.2.2.2.2.2.2.2
def T'{X:Type}(l:List b6)(x:b6)(i k:Int)(aK B:L X):L X:=
 letI z:=decide (i > 0);letI y:=IntKind.wrap .i64 (i-1);letI n:=decide (x.1.2.2.2.1≠k);letI m:=(!n)=true;letI b:=(!n&&z)=true;letI c:=b->b/\True/\True;ah (m->(m/\True)/\True/\True) (ah (m->True/\True/\m) (ah c (ah (b->(b/\True)/\True/\True) (ah (b->(b/\b)/\(0<=y/\y<Int.ofNat (List.length l))/\True) (ah c (ah c (ah (b->(b/\b)/\True/\True) (ah (m->(m/\(z=true->b))/\True/\True) (ah (True/\(n=false->m)) (if (n||z&&decide (x.2=(List.getD l (Int.toNat y) ((0,0,0,0,0,0),0)).2))=true then aK else B))))))))))
def MX(k:Nat)(A:Int×Int×Int×z1'×qH):L (aL (Int×Int×Int×z1'×qH) (aL (Int×z1'×qH) (aL (z1'×qH) (Option hh×Bool×j_)))):=
 letI i:=A.2.2.1;letI l:=o5 k A.2.2.2.2;letI x:=List.getD l (Int.toNat i) ((0,0,0,0,0,0),0);if decide (i<A.2.1)=true then ah (0<=i/\i<Int.ofNat (List.length l)) (ar (ah ((2:Int)≠0) (if decide (Int.tmod i (2:Int)=1)=true then mpure (aL.az (i,2,A.1,A.2.1,i,x,A.2.2.2)) else mpure (aL.az (i,1,A.1,A.2.1,i,x,A.2.2.2)))) (aL.fQ (λ(bn:Int×Int×Int×Int×Int×b6×z1'×qH)=>letI r:=bn.2.2.2.2.2.2.2;T' (o5 k r) bn.2.2.2.2.2.1 bn.1 bn.2.1 (ar (ar (ar (mpure (none,false,aeL r)) (λr=>mpure (aL.aX r))) (λr=>mpure (aL.aX r))) λr=>mpure (aL.aX r)) (mpure (aL.az (bn.2.2.1,bn.2.2.2.1,IntKind.wrap .i64 (Add.add bn.2.2.2.2.1 1),bn.2.2.2.2.2.2)))))) else ar (mpure (aL.az (A.1,A.2.2.2))) λr=>mpure (aL.aX r)
def Ig(aeM:(b6×bt×Int->L Int)×List b6×Unit->L (List b6×Unit))(aeN:b6×bt×Int->L Int):Nat->Nat->z1'×qH->L (aL (z1'×qH) (Option hh×Bool×j_))
 | 0,_,s=>mpure (.az s)
 | n+1,k,s=>ar (ah (0<=Int.ofNat k/\Int.ofNat k<Int.ofNat 10) (ar (aeM (aeN,o5 k s.2,())) (λy=>dI (MX k) (Int.ofNat k,Int.ofNat (List.length y.1),0,s.1,MW k y.1 s.2)))) (aL.fQ (λ(bn:Int×z1'×qH)=>ah (IntKind.wrap .i64 (Add.add bn.1 1)=Int.ofNat (k+1)) (Ig aeM aeN n (k+1) bn.2)))
def MY{X:Type}(f:Nat->L X)(v:Int):Nat->L X
 | 0=>f 0
 | n+1=>if v=Int.ofNat (Add.add n 1) then f (n+1) else MY f v n
def aeO{X:Type}(A:z1'×List bt×Int×Int×z1'×qH)(u:Nat):L (aL (z1'×List bt×Int×Int×z1'×qH) X):=
 letI a:=List.getD A.2.1 (Int.toNat A.2.2.2.1) (0,0,0,0,0,0);letI r:=A.2.2.2.2.2;letI p:=0<=Int.ofNat u/\Int.ofNat u<Int.ofNat 10;ah True (ah p (ah (0<=a.2.1/\a.2.1<Int.ofNat (List.length A.1)) (ah (b2 (Add.add (List.length (o5 u r)) (Add.add 0 1))) (ah True (ah p (mpure (aL.az (A.1,A.2.1,A.2.2.1,A.2.2.2.1,A.2.2.2.2.1,MW u (o5 u r++[((a.1,a.2.1,a.2.2.1,a.2.2.2.1,Int.ofNat u,a.2.2.2.2.2),IntKind.wrap .i64 (Add.add a.2.2.1 (List.getD A.1 (Int.toNat a.2.1) 0)))]) r))))))))
def aeP(x:z1'×j_):L (Option hh×Bool×j_):=
 cy (ar (avJ x.1) (λy=>bg (x.1,y,x.2.1,x.2.2.1,x.2.2.2.1,x.2.2.2.2.1,x.cv,x.fI,x.h8,x.k2,x.ni,x.mJ,x.jb,x.pQ,x.qF,[],[],[],[],[],[],[],[],[],[],()))) λA=>cy (ah True (dI (λA=>letI d:=A.2.2.2;letI b:=(bF A.2.1 d.1 (0,0,0,0,0,0)).2.2.2.2.1;bl (d.1<A.2.2.1) (cy (bY d.1 A.2.1 (ah (0<=b/\b<Int.ofNat 10) (MY (aeO A) b 9))) (λA=>bg (A.1,A.2.1,A.2.2.1,bh A.2.2.2.1,A.2.2.2.2))) (b4 d.2)) (A.1,A.qF,aY A.qF,0,A.2.1,A.H_,A.TY,A.Ia,A.Ib,A.Ic,A.TZ,A.T0,A.T1,A.T2,A.avd,A.2.2.1,A.2.2.2.1,A.2.2.2.2.1,A.cv,A.fI,A.h8,A.k2,A.ni,A.mJ,A.jb,A.pQ,A.qF,A.wb,()))) λA=>cy (ah True (ah (0=Int.ofNat 0) (Ig avK avL 10 0 A))) λA=>letI c:=A.2;mpure (some (A.1,[o5 0 c,o5 1 c,o5 2 c,o5 3 c,o5 4 c,o5 5 c,o5 6 c,o5 7 c,o5 8 c,o5 9 c]),true,aeL c)
def aeQ(x:Int×Int×Int×(b6×bt×Int->L Int)×List b6×Unit):L (List b6×Unit):=
 dI (λA=>bl (cF A.2.1 A.1<=12) (ar (avM (A.1,A.2.1,A.2.2.2.1,A.fI,())) (λy=>pL (y.1,()))) eb) (x.1,x.2.1,x.2.2.1,x.2.2.2.1,true,true,x.2.2.2.2.1,())
def aeR(x:z1'×j_):L (j_):=
 letI g:=aY x.1;ah True (bl (g=aY x.2.1) (cy (ar (avN (x.1,x.2.1,x.2.2.1,x.2.2.2.1,x.2.2.2.2.1,x.cv,x.fI,x.h8,x.k2,x.ni,x.mJ,x.jb,x.pQ,x.qF,())) (λy=>bJ y.2.1 (ah True (ed y.wb (ah True (bg (y.2.2.1,y.2.2.2.1,y.2.2.2.2.1,y.cv,y.fI,y.h8,y.k2,y.ni,y.mJ,y.jb,y.pQ,y.qF,y.wb++[y.1],()))))) (bg (y.2.2.1,y.2.2.2.1,y.2.2.2.2.1,y.cv,y.fI,y.h8,y.k2,y.ni,y.mJ,y.jb,y.pQ,y.qF,y.wb,())))) (λA=>mpure (A.1,A.2.1,A.2.2.1,A.2.2.2.1,A.2.2.2.2.1,A.cv,A.fI,A.h8,A.k2,A.ni,A.mJ,A.jb,A.pQ,()))) (ah True (bY g x.2.1 (dI (λA=>letI f:=A.2;letI h:=A.1.take f.1.toNat;ah True (bY f.1 f.2.2.1 (bl (f.2.1<=(bF f.2.2.1 f.1 (0,0)).2) (ah ((0:Int)<=0/\0<=f.1/\f.1=f.1/\f.1<=aY A.1) (ah (0<Add.add 0 1/\b2 (Add.add h.length (Add.add 0 1))) (ar (adV (h++[f.2.1],f.2.2.1,f.2.2.2.1,A.cv,A.fI,A.h8,A.k2,A.ni,A.mJ,A.jb,A.pQ,A.qF,A.wb,A.H_,())) (λy=>bg (A.1,f.1,bh f.2.1,y.1,y.2.1,y.2.2.1,y.2.2.2.1,y.2.2.2.2.1,y.cv,y.fI,y.h8,y.k2,y.ni,y.mJ,y.jb,y.pQ,()))))) (pL (f.2.2.1,f.2.2.2.1,A.cv,A.fI,A.h8,A.k2,A.ni,A.mJ,A.jb,A.pQ,A.qF,A.wb,A.H_,()))))) (x.1,g,(bF x.2.1 g (0,0)).1,x.2.1,x.2.2.1,x.2.2.2.1,x.2.2.2.2.1,x.cv,x.fI,x.h8,x.k2,x.ni,x.mJ,x.jb,x.pQ,x.qF,())))))
def av5(x:(b6×bt×Int->L Int)×List b6×Unit):L (List b6×Unit):=
 ar (avO (IntKind.wrap .u64 (aY x.2.1))) λy=>ar (avP (0,aY x.2.1,y,x.1,x.2.1,())) λy=>mpure (y.1,())
end Go.Fer.H
namespace Go.Fer.H
abbrev bK:aa:=.int .i64
abbrev d_:aa:=.bool
abbrev hG:aa:=.slice bK
abbrev o6:aa:=.ae (.aw bK bK)
abbrev Ua:aa:=.ae (.aw bK (.aw bK (.aw bK (.aw bK (.aw bK (.aw bK bK))))))
abbrev kx:aa:=.ae (.aw (.slice o6) (.aw (.slice i') (.aw hG (.aw (.slice o6) Ua))))
abbrev MZ:aa:=.ae (.aw i' bK)
abbrev BK:aa:=.ae (.aw hG (.array 10 (.slice MZ)))
abbrev we:aa:=.ae (.aw kx (.aw (.slice i') (.slice (.bP BK))))
attribute [simp] v' To xH e7 FY PT iK kN sb ml ov db uU dn kv Tn aL.pM
section
variable {af:Type}
def BL(d:af)(x:List af×(af->L Bool)):L Int:=
 ar (dI (λ(A:List af×(af->L Bool)×Int×Int×Unit)=>if decide (A.2.2.2.1<A.2.2.1)=true then ah (0<=A.2.2.2.1/\
 A.2.2.2.1<Int.ofNat (List.length A.1)) (ar (A.2.1 (List.getD A.1 (Int.toNat A.2.2.2.1) d)) λy=>if y=true then ar (ar (mpure
 A.2.2.2.1) λr=>mpure (aL.aX r)) λr=>mpure (aL.aX r) else mpure (aL.az (A.1,A.2.1,A.2.2.1,IntKind.wrap .i64 (Add.add
 A.2.2.2.1 1),()))) else ar (mpure (aL.az ())) λr=>mpure (aL.aX r)) (x.1,x.2,Int.ofNat (List.length x.1),0,())) (aL.fQ λ(A
 : Unit)=>mpure (-1))
def Ih(c:List af×(af->L Bool)->L Int)(x:List af×(af->L Bool)):L Bool:=ar (c x) λy=>mpure (decide (y>=0))
def jQ(p:af->Bool):List af->Int->Int
 | [],_=>-1
 | x::l,i=>if p x=true then i else jQ p l (i+1)
theorem Ej(p:af->Bool):∀ (l:List af) (i:Int),0<=i->(decide (jQ p l i>=0))=l.any p
 | [],i,_=>by rfl
 | x::l,i,h=>by
  simp  [jQ];by_cases an:p x=true
  ·grind
  ·have:=Ej p l (i+1) (by omega);grind
theorem Ek(p:af->Bool):∀ (l:List af) (i:Int),fa (λx (i:Int)=>if p x=true then (.aX (.aX i):aL Int (aL Unit Int)) else .az (i+1)) (λ_=>.az ()) l i=if l.any p=true then .aX (jQ p l i) else .az ()
 | [],i=>by rfl
 | x::l,i=>by
  simp  [fa,jQ];by_cases an:p x=true
  ·grind
  ·have:=Ek p l (i+1);grind
theorem Ii{p:af->Bool}:∀ (l:List af) (i:Int),¬l.any p=true->jQ p l i=-1
 | [],_,_=>rfl
 | x::l,i,aA=>by
  simp only[aRr,aQH,not_or]at aA;simp  [jQ,aA.1,aQv];exact Ii l _ aA.2
theorem Ub(d:af)(l:List af)(f:af->L Bool)(h:l.length<2 ^ 63)(aC:∀ y∈l,∃ b,f y=mpure b):BL d (l,f)=mpure (jQ (λy=>(f y).val false) l 0):=by
 unfold BL;rw[eW l (λi b=>(l,f,(l.length:Int),b,())) (λy i=>if (f y).val false=true then (.aX (.aX i)) else .az (i+1)) (λ_=>.az ()) (λi b=>b=(i:Int)) 0 ?_ ?_ ?_ ?_]
 ·rw[Ek (λy=>(f y).val false)];by_cases aZ:(l.any λy=>(f y).val false)=true
  ·simp[aZ]
  ·have:jQ (λy=>(f y).val false) l 0=-1:=by
    have:∀ (l:List af) (i:Int),¬(l.any λy=>(f y).val false)=true->jQ (λy=>(f y).val false) l i=-1:=by
     intro l;induction l with
     | nil=>intro i _;rfl
     | cons x l aR=>
      simp  [jQ,aQv];grind
    grind
   simp[aZ,this]
 ·rfl
 ·rfl
 ·intro i G b U;subst U;have hw:=bA (n:=i+1);refine⟨?_,λbk dZ=>?_⟩
  ·obtain⟨b,U⟩:=aC _ (amV G);simp only[cD,dQ G,if_true,d' G,dH G,ck,U,kN,aP,dn,hw];split<;>rfl
  grind
 simp
end
abbrev k3(e:aa):aQ:=⟨.aw (.slice e) (.fn e .bool),bK,λx=>x.1.length<2 ^ 63/\∀ y∈x.1,∃ b,x.2 y=mpure b,λx=>jQ (λy=>(x.2 y).val false) x.1 0⟩
theorem tt(e:aa)(x):a_ (BL e.dW x) ((k3 e).sh x):=bu λh=>Ub e.dW x.1 x.2 h.1 h.2
abbrev h_(e:aa):aQ:=⟨.aw (.slice e) (.fn e .bool),d_,λx=>x.1.length<2 ^ 63/\∀ y∈x.1,∃ b,x.2 y=mpure b,λx=>x.1.any λy=>(x.2 y).val false⟩
theorem tu(e:aa)(x):a_ (Ih (k3 e).sh x) ((h_ e).sh x):=bu λh=>by
 unfold Ih;simp only[aQ.sh,e7];rw[bd (by omega)];exact congrArg mpure (Ej (λy=>(x.2 y).val false) x.1 0 (by omega))
abbrev oy(s:bt):Int:=s.1
abbrev sg(s:bt):Int:=s.2.1
abbrev BM(s:bt):Int:=s.2.2.1
abbrev fz(s:bt):Int:=s.2.2.2.1
abbrev xK(s:bt):Int:=s.2.2.2.2.1
abbrev kQ(s:bt):Int:=s.2.2.2.2.2
def nC(c:bb):Prop:=c.1.length<2 ^ 63/\c.2.1.length<2 ^ 63/\c.2.2.1.length<2 ^ 63/\c.2.2.2.1.length<2 ^ 63
def cz(n ba G:Int):Bool:=decide (ba<=n)&&decide (n<=G)
theorem pS{n ba G:Int}:cz n ba G=true<->ba<=n/\n<=G:=by simp[cz]
def si(t:uY):Bool:=cz t.1 0 9999&&cz t.2.1 1 9999&&cz t.2.2.2.2.1 1 9999&&cz t.2.2.1 0 100000&&cz t.2.2.2.1 0 100000&&cz t.2.2.2.2.2.1 0 100000&&cz t.2.2.2.2.2.2 0 100000
def nk(n:Nat)(s:bt):Bool:=cz (oy s) 0 99&&cz (sg s) 0 ((n:Int) - 1)&&cz (BM s) 0 9999&&cz (xK s) 0 9&&cz (kQ s) 0 99&&(decide (fz s=1)||decide (fz s=2)&&decide (kQ s=0))
abbrev dC:aQ:=⟨.aw bK (.aw bK bK),d_,λ_=>True,λx=>cz x.1 x.2.1 x.2.2⟩
theorem av6(x):a_ (aeq dC.sh x) (dC.sh x):=bu λ_=>by
 unfold aeq;simp[aQ.sh]
theorem av7(x):a_ (avQ x) (dC.sh x):=bu λ_=>rfl
abbrev BN:aQ:=⟨bK,d_,λ_=>True,λx=>cz x 0 9999⟩
theorem av8(x):a_ (aeb dC.sh x) (BN.sh x):=bu λ_=>by
 unfold aeb;simp[aQ.sh]
abbrev El:aQ:=⟨bK,d_,λ_=>True,λx=>cz x 0 99⟩
theorem av9(x):a_ (ael dC.sh x) (El.sh x):=bu λ_=>by
 unfold ael;simp[aQ.sh]
abbrev y':aQ:=⟨Ua,d_,λ_=>True,λx=>si x⟩
theorem av_(x):a_ (aeA dC.sh x) (y'.sh x):=bu λ_=>by
 unfold aeA cj;show _=mpure (si x);unfold si;simp only[aQ.sh,ov];simp
theorem av'(x):a_ (aew dC.sh x) (y'.sh x):=bu λ_=>by
 unfold aew cj bF bl bh bS di b4 bg bY;rw[e2 [x.2.2.1,x.2.2.2.1,x.2.2.2.2.2.1,x.2.2.2.2.2.2] (λi (_)=>(4,(i:Int),x,[x.2.2.1,x.2.2.2.1,x.2.2.2.2.2.1,x.2.2.2.2.2.2],())) (λy b=>if (!cz y 0 100000)=true then .aX (.aX false) else .az b) (λ_=>.az (x,())) () ?_ ?_ ?_]
 ·rw[ng   _ _ (λ_=>rfl)];show _=mpure (si x);unfold si;simp  [aQ.sh,ov];cases E:cz x.1 0 9999<;>cases M:cz x.2.1 1 9999<;>cases al:cz x.2.2.2.2.1 1 9999<;>cases cz x.2.2.1 0 100000<;>cases cz x.2.2.2.1 0 100000<;>cases cz x.2.2.2.2.2.1 0 100000<;>cases cz x.2.2.2.2.2.2 0 100000<;>simp[E,M,al]
 ·rfl
 ·intro i G b;have ea:i<4:=by omega
  have hw:=bA (n:=i+1);have E:decide ((i:Int)<4)=true:=by grind
  simp only[E,cD,d' G,dH G,ck,aQ.sh,sM,aP,dn,hw];exact pO (mk:=λ(_)=>((4),((i+1):Int),x,[x.2.2.1,x.2.2.2.1,x.2.2.2.2.2.1,x.2.2.2.2.2.2],()))
 simp
abbrev BO:aQ:=⟨.aw kx i',d_,λx=>x.1.1.length<2 ^ 63,λx=>nk x.1.1.length x.2⟩
theorem awa(x):a_ (aeB dC.sh x) (BO.sh x):=bu λh=>by
 have hw:=bA (n:=(x.1.1.length) - 1);unfold aeB cu cj bJ aY jL cF;show _=mpure (nk x.1.1.length x.2);unfold nk;simp only[aQ.sh,sM,aP,ov,hw];grind
theorem awb(x):a_ (aey dC.sh El.sh x) (BO.sh x):=bu λh=>by
 have hw:=bA (n:=(x.1.1.length) - 1);unfold aey cu cj aY cF;show _=mpure (nk x.1.1.length x.2);unfold nk;simp  [aQ.sh,hw];grind
abbrev Ij:aQ:=⟨.aw i' (.bP kx),d_,λx=>∃ c:bb,x.2=some c/\c.1.length<2 ^ 63,λx=>!nk (x.2.getD ([],[],[],[],0,0,0,0,0,0,0)).1.length x.1⟩
theorem awc(x):a_ (aex BO.sh x) (Ij.sh x):=bu λh=>by
 obtain⟨c,hc,h⟩:=h;unfold aex;simp  [aQ.sh,e7];simp_all
abbrev Em:aQ:=⟨bK,d_,λ_=>True,λx=>!cz x 0 99⟩
theorem awd(x):a_ (aez El.sh x) (Em.sh x):=bu λ_=>by
 unfold aez;simp[aQ.sh]
theorem awe(a b:bt):(decide (a.1=b.1)&&(decide (a.2.1=b.2.1)&&(decide (a.2.2.1=b.2.2.1)&&(decide (a.2.2.2.1=b.2.2.2.1)&&(decide (a.2.2.2.2.1=b.2.2.2.2.1)&&decide (a.2.2.2.2.2=b.2.2.2.2.2))))))=decide (a=b):=by
 grind
def xL(a b:bt):Bool:=decide (oy a=oy b)&&!decide (a=b)
abbrev M0:aQ:=⟨.aw i' i',d_,λ_=>True,λx=>xL x.1 x.2⟩
theorem awf(x):a_ (aep x) (M0.sh x):=bu λ_=>by
 have h:=awe x.1 x.2;unfold aep cu;show _=mpure (xL x.1 x.2);unfold xL;grind
abbrev sj:aQ:=⟨.aw hG bK,d_,λx=>x.1.length<2 ^ 63,λx=>x.1.contains x.2⟩
theorem awg(x):a_ (av3 x) ((k3 i').sh x):=tt i' x
theorem awh(x):a_ (avY (k3 i').sh x) ((h_ i').sh x):=tu i' x
abbrev wg:aQ:=⟨hG,hG,λx=>x.length<=3000000,λx=>x⟩
theorem hk{n:Nat}(h:n<65536):b2 n:=by unfold b2;omega
theorem awi(x):a_ (aeD x) (wg.sh x):=tm λh=>by
 unfold aeD bJ fx;rw[fS];refine⟨⟨false,by simp⟩,λb U=>?_⟩;cases b with
 | true=>rw[U rfl];exact dR.2 rfl
 | false=>
  exact ib.2 ⟨by simp  [b2];omega,dR.2 (by simp)⟩
abbrev M1(c:bb):Prop:=c.1.length<=20/\c.2.1.length<=40/\c.2.2.1.length<=60/\c.2.2.2.1.length<=40
abbrev xM:aQ:=⟨kx,kx,M1,λx=>x⟩
theorem Uc(x):a_ (ad3 x) (xM.sh x):=bu λh=>by
 unfold ad3 fx;rw[bd (hk (by grind)),bd (hk (by grind)),bd (hk (by grind)),bd (hk (by grind))];simp
abbrev Ud:aQ:=⟨bK,d_,λ_=>True,λ_=>false⟩
theorem awj(x):a_ (aeG x) (Ud.sh x):=bu λ_=>by simp[aeG]
abbrev Ue:aQ:=⟨.aw bK bK,bK,λ_=>True,λx=>if x.1<x.2 then -1 else if x.1 > x.2 then 1 else 0⟩
theorem awk(x):a_ (aeF Ud.sh x) (Ue.sh x):=bu λ_=>by
 unfold aeF bJ bl;simp  [aQ.sh,am0];grind
abbrev tv:aQ:=⟨.aw MZ MZ,bK,λ_=>True,λx=>if x.1.2<x.2.2 then -1 else if x.1.2 > x.2.2 then 1 else 0⟩
theorem awl(x):a_ (aeE Ue.sh x) (tv.sh x):=bu λ_=>by
 unfold aeE;simp  [aQ.sh,aP]
abbrev Uf:aQ:=⟨.int .u64,bK,λx=>0<=x/\x<=12,λx=>(If x).val 0⟩
theorem awm(x):a_ (If x) (Uf.sh x):=bu λh=>by
 have key:∃ v,If x=mpure v:=by
  change (0)<=x/\x<=12 at h;unfold If e1 cy bl bg;have aF:¬(x>=4294967296):=by omega
  have bB:¬(x>=65536):=by omega
  have c7:¬(x>=256):=by omega
  have bW:IntKind.wrap .u8 x=x:=by
   show (if (false&&decide (x % 2 ^ 8>=(2 ^ (8 - 1))))=true then x % 2 ^ 8 - 2 ^ 8 else x % 2 ^ 8)=x;grind
  have kU:0<=x/\x<Int.ofNat 256:=⟨h.1,by grind⟩
  simp only[am0,aF,bB,c7,aQv,aP,db,bW,bd kU];grind
 obtain⟨v,ag⟩:=key;simp_all
abbrev Ug:aQ:=⟨.int .u64,bK,λx=>0<=x/\x<=12,λx=>(If x).val 0⟩
theorem awn(f)(x):a_ (aeC f Uf.sh x) (Ug.sh x):=bu λh=>by
 unfold aeC;simp  [aQ.sh];simp_all
end Go.Fer.H
namespace Go.Fer.H
section
variable {af:Type} (d:af) (lt:af->af->Bool)
def za(l:List af):Nat->List af
 | 0=>l
 | k+1=>if lt (l.getD (k+1) d) (l.getD k d)=true then za ((l.set (k+1) (l.getD k d)).set k (l.getD (k+1) d)) k else l
def sk(e:af):List af->List af
 | []=>[e]
 | a::r=>if lt e a=true then a::sk e r else e::a::r
def xN(l:List af):List af:=l.foldl (λr e=>sk lt e r) []
def hl(l:List af):List af:=(xN lt l).reverse
theorem aeS:∀ (r:List af) (e:af) (R:List af),za d lt (r.reverse++e::R) r.length=(sk lt e r).reverse++R
 | [],e,R=>rfl
 | a::r,e,R=>by
  have aF:((a::r).reverse++e::R).getD (r.length+1) d=e:=by
   simp
  have bB:((a::r).reverse++e::R).getD r.length d=a:=by
   simp
  show za d lt ((a::r).reverse++e::R) (r.length+1)=_;unfold za;rw[aF,bB];unfold sk;split
  ·have c7:(((a::r).reverse++e::R).set (r.length+1) a).set r.length e=r.reverse++e::(a::R):=by
    simp
   rw[c7,aeS r e (a::R)];simp
  simp
theorem Uh(e:af):∀ r:List af,(sk lt e r).Perm (e::r)
 | []=>.refl _
 | a::r=>by
  unfold sk;split
  ·exact ((Uh e r).cons a).trans (List.Perm.swap e a r)
  rfl
theorem aeT:∀ (l r:List af),(l.foldl (λr e=>sk lt e r) r).Perm (l++r)
 | [],r=>.refl _
 | x::l,r=>by
  refine (aeT l _).trans ?_;refine ((Uh lt x r).append_left l).trans ?_;simp
theorem aeU(l:List af):(xN lt l).Perm l:=by
 have:=aeT lt l [];rwa [aQD]at this
theorem Ik(l:List af):(hl lt l).Perm l:=(List.reverse_perm _).trans (aeU lt l)
theorem aeV(l:List af):(xN lt l).length=l.length:=(aeU lt l).length_eq
theorem M2(l:List af):(hl lt l).length=l.length:=(Ik lt l).length_eq
theorem aeW{l:List af}{x:af}:x∈hl lt l<->x∈l:=(Ik lt l).mem_iff
theorem awo(l:List af)(e:af):xN lt (l++[e])=sk lt e (xN lt l):=by simp[xN]
def uZ(l:List af)(n:Nat):List af:=(xN lt (l.take n)).reverse++l.drop n
theorem awp(l:List af):uZ lt l 1=l:=by
 cases l<;>rfl
theorem awq(l:List af):uZ lt l l.length=hl lt l:=by simp[uZ,hl]
theorem awr(l:List af)(n:Nat)(h:n<=l.length):(uZ lt l n).length=l.length:=by
 simp[uZ,aeV];omega
theorem aws{l:List af}{n:Nat}(h:n<l.length):za d lt (uZ lt l n) n=uZ lt l (n+1):=by
 have aF:(xN lt (l.take n)).length=n:=by rw[aeV];grind
 have:=aeS d lt (xN lt (l.take n)) l[n] (l.drop (n+1));rw[aF]at this;unfold uZ;rw[aQy h,this,aRu,am3 h,aR4,awo]
theorem Ui(dx:∀ a b,lt a b=false->lt b a=true\/lt b a=false)(aS:∀ a b c:af,lt a b=false->lt b c=false->lt a c=false)(awt:∀ a b,lt a b=true->lt b a=false)(e:af):∀ r:List af,r.Pairwise (λa b=>lt a b=false)->(sk lt e r).Pairwise (λa b=>lt a b=false)
 | [],_=>by simp[sk]
 | a::r,h=>by
  rw[List.pairwise_cons]at h;unfold sk;split
  ·refine List.pairwise_cons.2 ⟨λx an=>?_,Ui dx aS awt e r h.2⟩;rcases List.mem_cons.1 ((Uh lt e r).mem_iff.1 an) with rfl | an<;>grind
  ·refine List.pairwise_cons.2 ⟨λx an=>?_,List.pairwise_cons.2 h⟩;grind
end
def jw(a b:Int):Bool:=decide (a<b)
def ky(a b:b6):Bool:=decide (a.2<b.2)
theorem aeX:∀ (l r:z1'),r.Pairwise (λa b=>jw a b=false)->(l.foldl (λr e=>sk jw e r) r).Pairwise (λa b=>jw a b=false)
 | [],r,h=>h
 | x::l,r,h=>aeX l _ (Ui jw (λa b _=>by simp) (λa b c E M=>by simp[jw]at *;omega) (λa b h=>by simp[jw]at *;omega) x r h)
theorem Uj(l:z1'):(hl jw l).Pairwise (·<=·):=by
 have:=aeX l [] .nil;unfold hl;rw[List.pairwise_reverse];exact this.imp λh=>by simp[jw]at h;omega
theorem aeY:∀ (l r:List b6),r.Pairwise (λa b=>ky a b=false)->(l.foldl (λr e=>sk ky e r) r).Pairwise (λa b=>ky a b=false)
 | [],r,h=>h
 | x::l,r,h=>aeY l _ (Ui ky (λa b _=>by simp) (λa b c E M=>by simp[ky]at *;omega) (λa b h=>by simp[ky]at *;omega) x r h)
theorem awu(l:List b6):(hl ky l).Pairwise λa b=>a.2<=b.2:=by
 have:=aeY l [] .nil;unfold hl;rw[List.pairwise_reverse];exact this.imp λh=>by simp[ky]at h;omega
theorem En{l m:z1'}(h:m.Pairwise (·<=·))(ak:l.Perm m):hl jw l=m:=
 List.Perm.eq_of_pairwise (λa b _ _ E M=>by omega) (Uj l) h ((Ik jw l).trans ak)
theorem aeZ{l m:z1'}(ak:l.Perm m):hl jw l=hl jw m:=En (Uj m) (ak.trans (Ik jw m).symm)
variable {af:Type}
theorem awv{d:af}{lt:af->af->Bool}{A rho:Type}{body:A->L (aL A rho)}{s0:A}(mk:Nat->List af->A)(fin:List af->rho)(iG:Nat)(fO:List af)(qy:s0=mk iG fO)(AT:iG<fO.length)
  (ax:∀ k l,l.length=fO.length->k<fO.length->body (mk k l)=mpure (if 0<k/\lt (l.getD k d) (l.getD (k - 1) d)=true then .az (mk (k - 1) ((l.set k (l.getD (k - 1) d)).set (k - 1) (l.getD k d))) else .aX (fin l))) :
  dI body s0=mpure (fin (za d lt fO iG)):=by
 have key:∀ k l,l.length=fO.length->k<fO.length->dI body (mk k l)=mpure (fin (za d lt l k)):=by
  intro k;induction k with
  | zero=>
   intro l ai aj;exact vo (by rw[ax 0 l ai aj];rfl)
  | succ k aR=>
   intro l ai aj;unfold za;by_cases h:lt (l.getD (k+1) d) (l.getD k d)=true
   ·rw[if_pos h,CY (s':=mk k ((l.set (k+1) (l.getD k d)).set k (l.getD (k+1) d)))]<;>grind
   ·exact vo (by grind)
 grind
theorem Uk{l:List af}{d:af}{k:Nat}:l.getD ((k:Int) - 1).toNat d=l.getD (k - 1) d:=by
 simp
theorem aww{l:List af}{d:af}{k:Nat}:l.getD ((k:Int)).toNat d=l.getD k d:=by rfl
theorem awx{A rho:Type}{c:Bool}{p:Prop}[Decidable p](h:c=decide p){x y:L (aL A rho)}{a b:aL A rho}(E:p->x=mpure a)(M:¬p->y=mpure b):(if c=true then x else y)=mpure (if p then a else b):=by
 grind
def M3(x:Int×Int×(b6×bt×Int->L Int)×List b6×Unit):L (List b6×Unit):=eF (x.1=0/\x.2.1=(x.2.2.2.1.length:Int)/\x.2.2.2.1.length<=12/\x.2.2.1=tv.sh) (hl ky x.2.2.2.1,())
theorem awy(x):a_ (aeK x) (M3 x):=bu λh=>by
 obtain⟨a,b,f,l,u⟩:=x;obtain⟨E,M,al,a7⟩:=h;change b=l.length at M;change l.length<=12 at al;subst E;subst M;subst a7;unfold aeK dr fZ cj bF bl bh aY bS b4 pL bg bY cF;rw[e2 (List.range (l.length - 1)) (λi (_)=>(0,(l.length:Int),tv.sh,((i+1:Nat):Int),uZ ky l (i+1),())) (λ_ _=>.az ()) (λ_=>(hl ky l,())) () ?_ ?_ ?_]
 ·rw[ew]
 ·rw[awp];rfl
 ·intro i G _;have G:i+1<l.length:=by grind
  have ai:=awr ky l (i+1) (by omega);have hw:=bA (n:=((i+1:Nat))+1);have ay:decide (((i+1:Nat))<(l.length:Int))=true:=by grind
  simp only[ay];rw[awv (d:=((0,0,0,0,0,0),0)) (lt:=ky) (λk m=>(0,(l.length:Int),tv.sh,((i+1:Nat):Int),(k:Int),m,())) (λm=>.az (0,l.length,tv.sh,((i+1:Nat)),m,())) (i+1) (uZ ky l (i+1)) rfl (by omega) ?_]
  ·simp only[aP,db,dn,hw,aws ((0,0,0,0,0,0),0) ky G];rfl
  ·intro k m hm aj;have gJ:0<k->IntKind.wrap .i64 (k - 1)=k - 1:=λ_=>bA;by_cases AT:0<k
   ·have ak:decide ((k:Int) > 0)=true:=by grind
    have cn:(0)<=(k:Int)/\k<Int.ofNat m.length:=⟨by omega,by grind⟩
    have cN:(0)<=(k:Int) - 1/\k - 1<Int.ofNat m.length:=⟨by omega,by omega⟩
    have fF:(0)<=k - 1/\k - 1<Int.ofNat (m.set k (m.getD (k - 1) ((0,0,0,0,0,0),0))).length:=⟨by omega,by grind⟩
    simp only[ak,gJ AT,cn,cN,forall_const,aSi,ck,aQ.sh,sM,ov,aP,Uk,aQI,fF];refine awx   ?_ (λ_=>?_) (λ_=>rfl)
    ·simp  [ky,am0];grind
    grind
   ·have BP:k=0:=by omega
    subst BP;simp[uC]
 ·intro _;have e:uZ ky l (l.length - 1+1)=hl ky l:=by
   cases l with
   | nil=>rfl
   | cons x r=>exact awq ky (x::r)
  have ay:decide (((l.length - 1+1:Nat))<(l.length:Int))=false:=by grind
  simp only[aR7,ay,amW,aQv,e,aP]
def M4(x:Int×Int×Int×(b6×bt×Int->L Int)×List b6×Unit):L (List b6×Unit):=eF (x.1=0/\x.2.1=(x.2.2.2.2.1.length:Int)/\x.2.2.2.2.1.length<=12/\x.2.2.2.1=tv.sh) (hl ky x.2.2.2.2.1,())
theorem awz(x):a_ (aeQ M3 x) (M4 x):=bu λh=>by
 obtain⟨a,b,c,f,l,u⟩:=x;obtain⟨E,M,al,a7⟩:=h;change b=l.length at M;change l.length<=12 at al;subst E;subst M;subst a7;unfold aeQ bl pL cF;refine vo ?_;have hw:=bA (n:=l.length - 0);have ay:decide ((l.length:Int) - 0<=12)=true:=by grind
 unfold M3;simp_all
theorem awA{n:Int}(h:0<=n)(M:n<=12):IntKind.wrap .u64 n=n:=by
 show (if (false&&decide (n % 2 ^ 64>=(2 ^ (64 - 1))))=true then n % 2 ^ 64 - 2 ^ 64 else n % 2 ^ 64)=n;grind
def Eo(x:z14'):L (z14'):=eF (x.1.length<4611686018427387904) (hl jw x.1,())
def Ep(x:(b6×bt×Int->L Int)×List b6×Unit):L (List b6×Unit):=eF (x.2.1.length<=12/\x.1=tv.sh) (hl ky x.2.1,())
theorem awB(x):a_ (av5 Ug.sh M4 x) (Ep x):=bu λh=>by
 obtain⟨f,l,u⟩:=x;obtain⟨h,a7⟩:=h;change l.length<=12 at h;have hw:=awA (n:=l.length) (by omega) (by omega);show ar (eF (0<=IntKind.wrap .u64 l.length/\IntKind.wrap .u64 l.length<=12) _) _=_;rw[e7,bd (by omega)];unfold M4;simp_all
def Er(x:(z1'->Prop)×Unit):L (z14'):=⟨(∃ ad,x.1 ad)/\∀ ad,x.1 ad->ad.length<60000,λy=>x.1 y.1⟩
theorem ae0:∀ (ad acc:z1'),ad.length+acc.length<60000->kr (λ(A:z14') (y:Int)=>ar (ah (b2 (Add.add (List.length A.1) (Add.add 0 1))) (mpure (dU.normal,A.1++[y],()))) λp=>mpure (p.1,p.2.1,())) ad (acc,())=mpure (.normal,acc++ad,())
 | [],acc,_=>by simp[kr]
 | x::ad,acc,h=>by
  unfold kr;rw[bd (hk (by grind))];simp only[aP];rw[ae0 ad (acc++[x]) (by grind)];simp
theorem awC(x):a_ (aeH x) (Er x):=λh=>by
 obtain⟨S,u⟩:=x;obtain⟨E,M⟩:=h;show c8 _ _;unfold aeH ed;rw[fS];refine⟨E,λad iJ=>?_⟩;have iJ:S ad:=iJ;show c8 (ar (kr _ ad ([],())) _) _;rw[ae0 ad [] (by grind)];simp;exact dR.2 iJ
theorem awD(x):a_ (aeI Er x) (Er x):=λh=>by
 show c8 _ _;unfold aeI;rw[fS];exact⟨h,λy bf=>dR.2 bf⟩
open Classical in
def Es(S:z1'->Prop):z1':=if h:∃ ad,S ad then hl jw h.choose else []
abbrev wh:aQ:=⟨.cI bK,hG,λS=>(∃ ad,S ad)/\(∀ ad gj,S ad->S gj->ad.Perm gj)/\∀ ad,S ad->ad.length<60000,λS=>Es S⟩
theorem awE(x):a_ (aed Eo Er x) (wh.sh x):=tm λh=>by
 obtain⟨E,M,al⟩:=h;unfold aed;rw[fS];refine⟨⟨E,λad iJ=>by grind⟩,λy bf=>?_⟩;show c8 (ar (eF _ _) _) _;rw[e7,ib];refine⟨Nat.lt_trans (al _ bf) (by decide),dR.2 ?_⟩;show hl jw y.1=Es x;unfold Es;rw[dif_pos E];exact aeZ (M _ _ bf E.choose_spec)
theorem awF{S:z1'->Prop}{ad:z1'}(h:S ad)(M:∀ ad gj,S ad->S gj->ad.Perm gj):Es S=hl jw ad:=by
 have E:∃ ad,S ad:=⟨ad,h⟩
 unfold Es;rw[dif_pos E];exact aeZ (M _ _ E.choose_spec h)
def lV(x:Option (List (Int×af)))(ad:z1'):Prop:=∃ m,x=some m/\(m.map (·.1)).Perm ad
abbrev M5:aQ:=⟨.map bK bK,.cI bK,λ_=>True,λx=>lV (some x)⟩
theorem awG(x):a_ (avR lV x) (M5.sh x):=bu λ_=>rfl
abbrev Et:aQ:=⟨.map bK i',.cI bK,λ_=>True,λx=>lV (some x)⟩
theorem awH(x):a_ (av0 lV x) (Et.sh x):=bu λ_=>rfl
theorem xO{m:List (Int×af)}{ad:z1'}:lV (some m) ad<->(m.map (·.1)).Perm ad:=⟨λ⟨dz,h,k⟩=>by grind,λh=>⟨m,rfl,h⟩⟩
theorem ae1{m:List (Int×af)}(h:m.length<60000):wh.pre (lV (some m)):=
 ⟨⟨_,xO.2 (.refl _)⟩,λad gj E M=>(xO.1 E).symm.trans (xO.1 M),λad iJ=>by rw[<-(xO.1 iJ).length_eq];grind⟩
theorem ae2{m:List (Int×af)}:Es (lV (some m))=hl jw (m.map (·.1)):=
 awF (xO.2 (.refl _)) λad gj E M=>(xO.1 E).symm.trans (xO.1 M)
end Go.Fer.H
namespace Go.Fer.H
def wi(s:z11'):Bool:=cz s.1 (-30) s.2&&!decide (s.2 > 30)
def lW(l:z4')(i:Nat):Bool:=cz (l.getD i (0,0)).1 0 (l.getD i (0,0)).2&&!decide ((l.getD i (0,0)).2 > 9999)&&!(decide (0<i)&&decide ((l.getD i (0,0)).1<=(l.getD (i - 1) (0,0)).2))
def Eu(l:z4'):Bool:=(List.range l.length).all (lW l)
def u0(c:bb):Bool:=!(decide ((c.1.length:Int) > 3)||decide ((c.2.1.length:Int) > 12)||decide ((c.2.2.1.length:Int) > 12)||decide ((c.2.2.2.1.length:Int) > 4))&&si c.2.2.2.2
def kR(c:bb):Bool:=u0 c&&c.1.all wi&&c.2.1.all (nk c.1.length)&&c.2.2.1.all (λn=>cz n 0 99)&&Eu c.2.2.2.1
abbrev zb:aQ:=⟨kx,d_,nC,λc=>kR c⟩
variable {rho:Type}
theorem M6{A bet:Type}{mk:bet->A}{b:bet}{q:Bool}{r:rho}{m:L (aL A rho)}(E:q=true->m=mpure (.az (mk b)))(M:q=false->m=mpure (.aX r)):m=mpure (aL.pM mk (if (!q)=true then .aX r else .az b)):=by
 cases q
 ·exact M rfl
 ·exact E rfl
variable {af:Type}
theorem ae3{a t:Bool}{m n:af}:(if (a||!(if (!a)=true then t else false))=true then m else n)=if (!a&&t)=true then n else m:=by grind
theorem awI(x):a_ (aeo dC.sh y'.sh BO.sh x) (zb.sh x):=bu λh=>by
 obtain⟨aO,aT,b7,gZ⟩:=h;unfold aeo dr hY gx cj bF bJ bh aY bS di b4 bg jL ku bY dy cF rA;show _=mpure (kR x);simp only[aQ.sh,y',sM,ov,aP,cD,ae3];unfold kR;rw[show (!(decide ((x.1.length:Int) > 3)||decide ((x.2.1.length:Int) > 12)||decide ((x.2.2.1.length:Int) > 12)||decide ((x.2.2.2.1.length:Int) > 4))&&si x.2.2.2.2)=u0 x from rfl];cases U:u0 x with
 | false=>rfl
 | true=>
  rw[if_pos rfl];rw[e2 x.1 (λi (_:Unit)=>((i:Int),x,())) (λy b=>if (!wi y)=true then .aX (.aX false) else .az b) (λ_=>.az (x,())) () ?_ ?_ ?_]
  ·rw[ng (q:=wi) _ _ (λ_=>rfl)];cases hc:x.1.all wi with
   | false=>simp
   | true=>
    simp only[if_true,aP,db];rw[e2 x.2.1 (λi (_:Unit)=>((i:Int),x,())) (λy b=>if (!nk x.1.length y)=true then .aX (.aX false) else .az b) (λ_=>.az (x,())) () ?_ ?_ ?_]
    ·rw[ng (q:=nk x.1.length) _ _ (λ_=>rfl)];cases ay:x.2.1.all (nk x.1.length) with
     | false=>simp
     | true=>
      simp only[if_true,aP,db];rw[e2 x.2.2.1 (λi (_:Unit)=>((i:Int),x,())) (λy b=>if (!cz y 0 99)=true then .aX (.aX false) else .az b) (λ_=>.az (x,())) () ?_ ?_ ?_]
      ·rw[ng (q:=λn=>cz n 0 99) _ _ (λ_=>rfl)];cases he:x.2.2.1.all (λn=>cz n 0 99) with
       | false=>simp
       | true=>
        simp only[if_true,aP,db];rw[e2 (List.range x.2.2.2.1.length) (λi (_:Unit)=>((i:Int),x,())) (λy b=>if (!lW x.2.2.2.1 y)=true then .aX (.aX false) else .az b) (λ_=>.az ()) () ?_ ?_ ?_]
        ·rw[ng (q:=lW x.2.2.2.1) _ _ (λ_=>rfl)];unfold Eu;cases (List.range x.2.2.2.1.length).all (lW x.2.2.2.1)<;>simp
        ·rfl
        ·intro i G b;have G:i<x.2.2.2.1.length:=by grind
         have hw:=bA (n:=(i:Int)+1);have gJ:=bA (n:=(i:Int) - 1);have ka:x.2.2.2.1.getD i (0,0)=x.2.2.2.1[i]:=by grind
         have wj:(decide ((i:Int) > 0))=decide (0<i):=by simp
         have D:decide (0<i)=true->((0:Int)<=(i:Int) - 1/\(i:Int) - 1<(x.2.2.2.1.length:Int)):=λh=>by grind
         refine M6 (mk:=λ(_:Unit)=>(((i+1:Nat):Int),x,())) (b:=b) ?_ ?_<;>intro bC<;>
         ·simp only[aQw,lW,ka]at bC;simp only[cD,dQ G,if_true,d' G,dH G,ck,aQ.sh,dC,sM,tV,kN,dn,hw,gJ,wj,Uk,aQw];revert bC;generalize cz x.2.2.2.1[i].1 0 x.2.2.2.1[i].2=dv;generalize decide (x.2.2.2.1[i].2 > 9999)=fc;generalize decide (x.2.2.2.1[i].1<=(x.2.2.2.1.getD (i - 1) (0,0)).2)=ji;revert D;generalize decide (0<i)=vn;intro D;cases vn
          ·cases dv<;>cases fc<;>cases ji<;>simp
          ·have D:=D rfl;cases dv<;>cases fc<;>cases ji<;>simp[D,(by omega:(1:Int)<=(i:Int))]
        simp
      ·rfl
      ·intro i G b;have hw:=bA (n:=(i:Int)+1);simp only[cD,dQ G,if_true,d' G,dH G,ck,aQ.sh,dC,sM,aP,dn,hw];exact pO (mk:=λ(_:Unit)=>(((i+1:Nat):Int),x,()))
      simp
    ·rfl
    ·intro i G b;have hw:=bA (n:=(i:Int)+1);simp only[cD,dQ G,if_true,d' G,dH G,ck,aQ.sh,BO,sb,iK,aP,dn,hw];rw[bd aO];exact pO (mk:=λ(_:Unit)=>(((i+1:Nat):Int),x,()))
    simp
  ·rfl
  ·intro i G b;have hw:=bA (n:=(i:Int)+1);refine M6 (mk:=λ(_:Unit)=>(((i+1:Nat):Int),x,())) (b:=b) ?_ ?_<;>intro bC<;>
   ·simp only[wi]at bC;simp only[cD,dQ G,if_true,d' G,dH G,ck,aQ.sh,dC,sM,tV,kN,dn,hw];revert bC;generalize cz x.1[i].1 (-30) x.1[i].2=dv;generalize decide (x.1[i].2 > 30)=fc;simp_all
  simp
theorem ae4{p:af->Bool}(l:List af):(l.any λy=>!p y)=!l.all p:=by grind
theorem awJ(x):a_ (aen dC.sh (h_ i').sh y'.sh (h_ bK).sh Ij.sh Em.sh x) (zb.sh x):=bu λh=>by
 obtain⟨aO,aT,b7,gZ⟩:=h;unfold aen dr hY cj bF bJ bl bh aY bS di b4 bg jL bY dy cF rA;show _=mpure (kR x);simp only[show y'.sh x.2.2.2.2=mpure (si x.2.2.2.2) from rfl,ov,aP,cD,ae3];unfold kR;rw[show (!(decide ((x.1.length:Int) > 3)||decide ((x.2.1.length:Int) > 12)||decide ((x.2.2.1.length:Int) > 12)||decide ((x.2.2.2.1.length:Int) > 4))&&si x.2.2.2.2)=u0 x from rfl];cases U:u0 x with
 | false=>rfl
 | true=>
  rw[if_pos rfl];rw[e2 x.1 (λi (_:Unit)=>(x.1,(x.1.length:Int),(i:Int),x,())) (λy b=>if (!wi y)=true then .aX (.aX false) else .az b) (λ_=>.az (x,())) () ?_ ?_ ?_]
  ·rw[ng (q:=wi) _ _ (λ_=>rfl)];cases hc:x.1.all wi with
   | false=>simp
   | true=>
    simp only[if_true,aP,db];rw[e2 (List.range x.2.2.2.1.length) (λi (_:Unit)=>(x.2.2.2.1,(x.2.2.2.1.length:Int),(i:Int),x,())) (λy b=>if (!lW x.2.2.2.1 y)=true then .aX (.aX false) else .az b) (λ_=>.az (x,())) () ?_ ?_ ?_]
    ·rw[ng (q:=lW x.2.2.2.1) _ _ (λ_=>rfl)];unfold Eu;cases ay:(List.range x.2.2.2.1.length).all (lW x.2.2.2.1) with
     | false=>simp
     | true=>
      simp only[if_true,aP,db];have aF:(h_ i').sh (x.2.1,λy=>Ij.sh (y,some x))=mpure (!x.2.1.all (nk x.1.length)):=by
       have aC:∀ y,Ij.sh (y,some x)=mpure (!nk x.1.length y):=λy=>bO ⟨x,rfl,aO⟩ _;refine (bO ⟨aT,λy _=>⟨_,aC y⟩⟩ _).trans ?_;refine congrArg mpure ?_;rw[<-ae4];simp_all
      have bB:(h_ bK).sh (x.2.2.1,Em.sh)=mpure (!x.2.2.1.all (λn=>cz n 0 99)):=by
       refine (bO ⟨b7,λy _=>⟨_,rfl⟩⟩ _).trans ?_;refine congrArg mpure ?_;rw[<-ae4];show (x.2.2.1.any λy=>(Em.sh y).val false)=_;simp only[show ∀ y,Em.sh y=mpure (!cz y 0 99) from λ_=>rfl,kN]
      rw[aF,bB];simp only[aP,ov];grind
    ·rfl
    ·intro i G b;have G:i<x.2.2.2.1.length:=by grind
     have hw:=bA (n:=(i:Int)+1);have gJ:=bA (n:=(i:Int) - 1);have ka:x.2.2.2.1.getD i (0,0)=x.2.2.2.1[i]:=by grind
     have wj:(decide ((i:Int) > 0))=decide (0<i):=by simp
     have D:decide (0<i)=true->((0:Int)<=(i:Int) - 1/\(i:Int) - 1<(x.2.2.2.1.length:Int)):=λh=>by grind
     refine M6 (mk:=λ(_:Unit)=>(x.2.2.2.1,(x.2.2.2.1.length:Int),((i+1:Nat):Int),x,())) (b:=b) ?_ ?_<;>intro bC<;>
     ·simp only[aQw,lW,ka]at bC;simp only[cD,dQ G,if_true,d' G,dH G,ck,aQ.sh,dC,sM,tV,kN,dn,hw,gJ,wj,Uk,aQw];revert bC;generalize cz x.2.2.2.1[i].1 0 x.2.2.2.1[i].2=dv;generalize decide (x.2.2.2.1[i].2 > 9999)=fc;generalize decide (x.2.2.2.1[i].1<=(x.2.2.2.1.getD (i - 1) (0,0)).2)=ji;revert D;generalize decide (0<i)=vn;intro D;cases vn
      ·cases dv<;>cases fc<;>cases ji<;>simp
      ·have D:=D rfl;cases dv<;>cases fc<;>cases ji<;>simp[D,(by omega:(1:Int)<=(i:Int))]
    simp
  ·rfl
  ·intro i G b;have hw:=bA (n:=(i:Int)+1);refine M6 (mk:=λ(_:Unit)=>(x.1,(x.1.length:Int),((i+1:Nat):Int),x,())) (b:=b) ?_ ?_<;>intro bC<;>
   ·simp only[wi]at bC;simp only[cD,dQ G,if_true,d' G,dH G,ck,aQ.sh,dC,sM,aP,dn,hw];grind
  simp
abbrev lX:bt:=(0,0,0,0,0,0)
def mn(l:List bt):Bool:=(List.range l.length).any λi=>(List.range i).any λk=>xL (l.getD k lX) (l.getD i lX)
def c_(c:bb):Int:=if kR c=true then (if mn c.2.1=true then 91 else 0) else 90
abbrev iU:aQ:=⟨kx,bK,nC,λc=>c_ c⟩
variable {i:Nat}
theorem xP{l:List af}{d:af}(h:i<l.length):l.getD i d=l[i]:=by grind
theorem awK(x):a_ (ad9 zb.sh M0.sh x) (iU.sh x):=bu λh=>by
 obtain⟨aO,aT,b7,gZ⟩:=id h;unfold ad9 hy bF bJ bl bh bS di j0 b4 bg bY dy nf;show _=mpure (c_ x);rw[show zb.sh x=mpure (kR x) from bO h _];unfold c_;cases kR x with
 | false=>simp
 | true=>
  simp only[aP,aRc,amW,aQv,if_true];rw[e2 (List.range x.2.1.length) (λi (_:Unit)=>((i:Int),x,())) (λi b=>if ((List.range i).any λk=>xL (x.2.1.getD k lX) (x.2.1.getD i lX))=true then .aX (.aX 91) else .az b) (λ_=>.az ()) () ?_ ?_ ?_]
  ·rw[uV];unfold mn;cases (List.range x.2.1.length).any λi=>(List.range i).any λk=>xL (x.2.1.getD k lX) (x.2.1.getD i lX)<;>simp
  ·rfl
  ·intro i G b;have G:i<x.2.1.length:=by grind
   have hw:=bA (n:=(i:Int)+1);have ay:decide ((i:Int)<Int.ofNat x.2.1.length)=true:=dQ G;simp only[ay,if_true,aQw];rw[e2 (List.range i) (λk (_:Unit)=>((i:Int),(k:Int),x,())) (λk b=>if xL (x.2.1.getD k lX) (x.2.1.getD i lX)=true then .aX (.aX (.aX (.aX 91))) else .az b) (λ_=>(.az ((i:Int),x,()):aL (Int×bb×Unit) (aL (Int×bb×Unit) (aL Unit Int)))) () ?_ ?_ ?_]
   ·rw[uV];cases (List.range i).any λk=>xL (x.2.1.getD k lX) (x.2.1.getD i lX)<;>simp[hw]
   ·rfl
   ·intro k aj b;have aj:k<i:=by grind
    have oz:k<x.2.1.length:=by omega
    have hw:=bA (n:=(k:Int)+1);have ay:decide ((k:Int)<(i:Int))=true:=by grind
    simp only[ay,if_true,cD,dH oz,dH G,ck,aQ.sh,M0,sM,tV,kN,aP,dn,hw,aQw,aww];exact pO (mk:=λ(_:Unit)=>((i:Int),((k+1:Nat):Int),x,()))
   simp
  simp
def eg(l:List bt):List bt:=(fy 0 99).filterMap λid=>l.find? λs=>s.1 == id
def gH(c:bb):List bt:=(eg c.2.1).filter λs=>!c.2.2.1.contains s.1
theorem awL(l:List bt):(eg l).length<=100:=by
 refine am5 (List.length_filterMap_le _ _) ?_;rw[show (fy 0 99).length=100 from by decide];omega
def lY(m:List (Int×bt))(k:Int):Option bt:=(m.find? λp=>decide (k=p.1)).map (·.2)
def mo(m:List (Int×bt)):z1':=m.map (·.1)
theorem Ul(p:Int×bt)(m:List (Int×bt))(k:Int)(v:bt):nV (p::m) k v=if decide (k=p.1)=true then (p.1,v)::m else p::nV m k v:=rfl
theorem Um(k:Int)(v:bt):nV [] k v=[(k,v)]:=rfl
theorem ae5(k:Int)(v:bt):∀ m:List (Int×bt),(nV m k v).length<=m.length+1
 | []=>by rw[Um];simp
 | p::m=>by
  rw[Ul];split
  ·simp
  ·simp;exact ae5 k v m
theorem Un(k:Int)(v:bt)(x:Int):∀ m:List (Int×bt),lY (nV m k v) x=if x=k then some v else lY m x
 | []=>by
  rw[Um];by_cases h:x=k<;>simp[lY]
 | p::m=>by
  rw[Ul];have aR:=Un k v x m;unfold lY at aR ⊢;grind
theorem Il(k:Int)(v:bt):∀ m:List (Int×bt),((mo m).Nodup->(mo (nV m k v)).Nodup)/\∀ x,x∈mo (nV m k v)<->x∈mo m\/x=k
 | []=>by rw[Um];simp[mo]
 | p::m=>by
  obtain⟨E,M⟩:=Il k v m;rw[Ul];by_cases h:k=p.1
  ·subst h;simp;refine⟨λh=>h,λx=>?_⟩;show x∈p.1::mo m<->x∈p.1::mo m\/x=p.1;grind
  ·simp  [h,aQv];refine⟨λaA=>?_,λx=>?_⟩
   ·show (p.1::mo (nV m k v)).Nodup;have xk:(p.1::mo m).Nodup:=aA;grind
   ·show x∈p.1::mo (nV m k v)<->x∈p.1::mo m\/x=k;grind
variable {m:List (Int×bt)}{k:Int}
theorem ae6:k∈mo m<->(lY m k).isSome=true:=by
 unfold lY mo;simp
def tw(l:List bt):Prop:=∀ a∈l,∀ b∈l,a.1=b.1->a=b
def tx(l:List bt)(k:Int):Option bt:=l.find? λs=>s.1 == k
def wk:List bt->List (Int×bt)->Option (List (Int×bt))
 | [],m=>some m
 | s::l,m=>if ((lY m s.1).isSome&&!decide ((lY m s.1).getD lX=s))=true then none else wk l (nV m s.1 s)
structure xQ(P:List bt)(m:List (Int×bt)):Prop where
 rE:∀ k,lY m k=tx P k
 kt:(mo m).Nodup
 qI:tw P
 tz:m.length<=P.length
variable {l:List bt}{s:bt}
theorem ae7(h:tx l k=some s):s∈l/\s.1=k:=by
 unfold tx at h;grind
theorem awM(h:tx l k=none):∀ s∈l,s.1≠k:=by
 unfold tx at h;grind
theorem xQ.nil:xQ [] []:=⟨λ_=>rfl,.nil,λa h=>by simp,amY _⟩
theorem Ev:∀ (l P:List bt) (m:List (Int×bt)),xQ P m->(tw (P++l)->∃ dz,wk l m=some dz/\xQ (P++l) dz)/\(¬tw (P++l)->wk l m=none)
 | [],P,m,h=>by simp;exact⟨λ_=>⟨m,rfl,h⟩,λaA=>absurd h.qI aA⟩
 | s::l,P,m,h=>by
  unfold wk;rw[h.rE];cases aC:tx P s.1 with
  | some o=>
   obtain⟨au,G⟩:=ae7 aC;by_cases he:o=s
   ·have:=Ev l (P++[o]) (nV m o.1 o) ⟨λk=>?_,(Il _ _ _).1 h.kt,?_,?_⟩
    ·grind
    ·rw[Un,h.rE];unfold tx at aC ⊢;grind
    ·intro a aZ b U Im;simp  at aZ U;exact h.qI a (aZ.elim id λe=>e ▸ au) b (U.elim id λe=>e ▸ au) Im
    ·have hm:=ae6.2 (by rw[h.rE,aC];rfl);have ai:=by
      have E:=(Il o.1 o m).1 h.kt;have M:mo (nV m o.1 o) ⊆ mo m:=λx an=>by
       rcases ((Il o.1 o m).2 x).1 an with an | an<;>grind
      exact E.length_le_of_subset M
     have:=h.tz;simp  [mo]at ai;grind
   ·simp only[aQG,aQs,he,aQ9,aRh,Bool.and_self,if_true];refine⟨λaA=>absurd (aA o (by grind) s (by simp) G) he,λ_=>trivial⟩
  | none=>
   have:=Ev l (P++[s]) (nV m s.1 s) ⟨λk=>?_,(Il _ _ _).1 h.kt,?_,?_⟩
   ·grind
   ·rw[Un,h.rE];unfold tx at aC ⊢;grind
   ·have aC:=awM aC;intro a aZ b U Im;simp  at aZ U;rcases aZ with aZ | rfl<;>rcases U with U | rfl
    ·exact h.qI a aZ b U Im
    ·grind
    ·grind
    ·rfl
   ·have:=ae5 s.1 s m;have:=h.tz;grind
theorem xR(l:List bt):mn l=false<->tw l:=by
 unfold mn xL;rw[<-Bool.not_eq_true,List.any_eq_true];constructor
 ·intro h a aZ b U Im;obtain⟨i,G,rfl⟩:=List.mem_iff_getElem.1 aZ;obtain⟨k,aj,rfl⟩:=List.mem_iff_getElem.1 U;by_cases he:l[i]=l[k]
  ·omega
  ·exfalso;have eM:i≠k:=λe=>he (by grind);rcases Nat.lt_or_gt_of_ne eM with dx | dx
   ·refine h ⟨k,by grind,List.any_eq_true.2 ⟨i,by grind,?_⟩⟩;grind
   ·refine h ⟨i,by grind,List.any_eq_true.2 ⟨k,by grind,?_⟩⟩;grind
 ·rintro h ⟨i,G,aj⟩;obtain⟨k,aj,hc⟩:=List.any_eq_true.1 aj;simp  at G aj;rw[xP G,xP (by omega)]at hc;simp  at hc;exact hc.2 (h _ (amV _) _ (amV _) hc.1)
theorem awN:mn l=true<->¬tw l:=by rw[<-xR];simp
theorem ae8(h:xQ l m)(hid:∀ s∈l,cz s.1 0 99=true):(hl jw (mo m)).map (λk=>(lY m k).getD lX)=eg l:=by
 have aF:hl jw (mo m)=(fy 0 99).filter λk=>(tx l k).isSome:=by
  refine En ?_ ?_
  ·refine aRT _ ?_;unfold fy;rw[aRS];exact (aRw).imp λh=>by omega
  ·refine (aRy h.kt ?_).2 λk=>?_
   ·refine aRT _ ?_;unfold fy;rw[aRS];exact (aRw).imp λh=>by omega
   ·rw[ae6,h.rE,List.mem_filter,rD];refine⟨λax=>⟨?_,ax⟩,λax=>ax.2⟩;obtain⟨s,ax⟩:=Option.isSome_iff_exists.1 ax;obtain⟨E,M⟩:=ae7 ax;exact M ▸ pS.1 (hid s E)
 unfold eg;have:∀ ad:z1',(ad.filter λk=>(tx l k).isSome).map (λk=>(lY m k).getD lX)=ad.filterMap λid=>l.find? λs=>s.1 == id:=by
  intro ad;induction ad with
  | nil=>rfl
  | cons k ad aR=>
   have e:(l.find? λs=>s.1 == k)=tx l k:=rfl;cases aC:tx l k with
   | none=>grind
   | some s=>
    have jx:(lY m k).getD lX=s:=by rw[h.rE,aC];rfl
    grind
 grind
theorem awO(h:xQ l m)(hid:∀ s∈l,cz s.1 0 99=true):(eg l).length<=l.length:=by
 rw[<-ae8 h hid,aQJ,M2,mo,aQJ];exact h.tz
theorem ae9{rho:Type}{r:rho}{fin:List (Int×bt)->rho}:∀ (l:List bt) (m:List (Int×bt)),fa (λs m=>if ((lY m s.1).isSome&&!decide ((lY m s.1).getD lX=s))=true then .aX r else .az (nV m s.1 s)) fin l m=match wk l m with | none=>r | some dz=>fin dz
 | [],m=>rfl
 | s::l,m=>by
  simp only[fa,wk];by_cases h:((lY m s.1).isSome&&!decide ((lY m s.1).getD lX=s))=true
  ·grind
  ·simp only[h,aQv];exact ae9 l _
def BQ(l:List bt):Prop:=l.length<=24/\∀ s∈l,cz s.1 0 99=true
abbrev Ew:aQ:=⟨.slice i',.aw (.slice i') .bool,BQ,λl=>if mn l=true then ([],false) else (eg l,true)⟩
theorem awP{BR:z1'}(h:BR.length<=24) :
 dI (λ(A:z1'×Int×Int×List bt×List (Int×bt)×Unit)=>if decide (A.2.2.1<A.2.1)=true then ah (0<=A.2.2.1/\A.2.2.1<Int.ofNat (List.length A.1)) (ah (b2
 (Add.add (List.length A.2.2.2.1) (Add.add 0 1))) (mpure (aL.az (A.1,A.2.1,IntKind.wrap .i64 (Add.add A.2.2.1 1),A.2.2.2.1++[Option.getD
 (Option.map (λx=>x.2) (List.find? (λp=>decide (List.getD A.1 (Int.toNat A.2.2.1) 0=p.1)) A.2.2.2.2.1)) (0,0,0,0,0,0)],A.2.2.2.2.1,())))) else ar (mpure (aL.az (A.2.2.2.1,()))) λr=>mpure (aL.aX r)) (BR,Int.ofNat (List.length BR),0,[],m,())=mpure (aL.az (BR.map (λk=>(lY m k).getD lX),()):aL (List bt×Unit) rho):=by
 rw[eW BR (λi b=>(BR,(BR.length:Int),(i:Int),b,m,())) (λk b=>.az (b++[(lY m k).getD lX])) (λb=>.az (b,())) (λi b=>b.length=i) [] ?_ ?_ ?_ ?_]
 ·rw[ew,pN];rfl
 ·rfl
 ·rfl
 ·intro i G b U;have hw:=bA (n:=i+1);refine⟨?_,λbk dZ=>?_⟩
  ·simp only[cD,dQ G,d' G,dH G,ck,dn,hw];rw[bd (hk (by grind))];rfl
  grind
 simp
variable {fs:Type}
def wm(R:L fs):List bt×Int×Int×List (Int×bt)×Unit->L (aL (List bt×Int×Int×List (Int×bt)×Unit) (aL (List (Int×bt)×Unit) fs)):=λ(A:List bt×Int×Int×List (Int×bt)×Unit)=>if decide (A.2.2.1<A.2.1)=true then ah (0<=A.2.2.1/\A.2.2.1 <
 Int.ofNat (List.length A.1)) (if (Option.isSome (Option.map (λx=>x.2) (List.find? (λp=>decide ((List.getD A.1 (Int.toNat A.2.2.1) (0,0,0,0,0,0)).1=p.1)) A.2.2.2.1))&&!(decide ((Option.getD (Option.map (λx=>x.2) (List.find? (λp=>decide ((List.getD A.1 (Int.toNat A.2.2.1)
 (0,0,0,0,0,0)).1=p.1)) A.2.2.2.1)) (0,0,0,0,0,0)).1=(List.getD A.1 (Int.toNat A.2.2.1) (0,0,0,0,0,0)).1)&&(decide ((Option.getD
 (Option.map (λx=>x.2) (List.find? (λp=>decide ((List.getD A.1 (Int.toNat A.2.2.1) (0,0,0,0,0,0)).1=p.1)) A.2.2.2.1)) (0,0,0,0,0,0)).2.1=(List.getD A.1 (Int.toNat A.2.2.1) (0,0,0,0,0,0)).2.1)&&(decide ((Option.getD (Option.map (λx=>x.2) (List.find? (λp=>
 decide ((List.getD A.1 (Int.toNat A.2.2.1) (0,0,0,0,0,0)).1=p.1)) A.2.2.2.1)) (0,0,0,0,0,0)).2.2.1=(List.getD A.1 (Int.toNat A.2.2.1)
 (0,0,0,0,0,0)).2.2.1)&&(decide ((Option.getD (Option.map (λx=>x.2) (List.find? (λp=>decide ((List.getD A.1 (Int.toNat A.2.2.1) (0,0,0,0,0,0)).1=p.1)) A.2.2.2.1)) (0,0,0,0,0,0)).2.2.2.1=(List.getD A.1 (Int.toNat A.2.2.1) (0,0,0,0,0,0)).2.2.2.1)&&(decide
 ((Option.getD (Option.map (λx=>x.2) (List.find? (λp=>decide ((List.getD A.1 (Int.toNat A.2.2.1) (0,0,0,0,0,0)).1=p.1)) A.2.2.2.1))
 (0,0,0,0,0,0)).2.2.2.2.1=(List.getD A.1 (Int.toNat A.2.2.1) (0,0,0,0,0,0)).2.2.2.2.1)&&decide ((Option.getD (Option.map (λx=>x.2)
 (List.find? (λp=>decide ((List.getD A.1 (Int.toNat A.2.2.1) (0,0,0,0,0,0)).1=p.1)) A.2.2.2.1)) (0,0,0,0,0,0)).2.2.2.2.2=(List.getD
 A.1 (Int.toNat A.2.2.1) (0,0,0,0,0,0)).2.2.2.2.2)))))))=true then ar (ar R λr=>mpure (aL.aX r)) λr=>
 mpure (aL.aX r) else mpure (aL.az (A.1,A.2.1,IntKind.wrap .i64 (Add.add A.2.2.1 1),nV A.2.2.2.1 (List.getD A.1 (Int.toNat A.2.2.1)
 (0,0,0,0,0,0)).1 (List.getD A.1 (Int.toNat A.2.2.1) (0,0,0,0,0,0)),()))) else ar (mpure (aL.az (A.2.2.2.1,()))) λr=>mpure
 (aL.aX r)
theorem ae_{R:L fs}(ai:l.length<=24)(G:i<l.length)(m:List (Int×bt)):wm R (l,(l.length:Int),(i:Int),m,())=if ((lY m l[i].1).isSome&&!decide ((lY m l[i].1).getD lX=l[i]))=true then ar (ar R λr=>mpure (aL.aX r)) λr=>mpure (aL.aX r) else mpure (.az (l,(l.length:Int),((i+1:Nat):Int),nV m l[i].1 l[i],())):=by
 have hw:=bA (n:=i+1);unfold wm;simp only[cD,d' G,dH G,ck,dn];rw[show (Option.map (λx=>x.2) (List.find? (λp=>decide (l[i].1=p.1)) m))=lY m l[i].1 from rfl];grind
theorem ae'{R:L fs}(m:List (Int×bt)):wm R (l,(l.length:Int),(l.length:Int),m,())=mpure (.aX (.az (m,()))):=by
 unfold wm;simp
def Ex(k:List bt->L fs):List (Int×bt)×Unit->L fs:=λ(A:List (Int×bt)×Unit)=>ar (ar
 (Et.sh A.1) λy=>ar (wh.sh y) λy=>dI (λ(A:z1'×Int×Int×List bt×
 List (Int×bt)×Unit)=>if decide (A.2.2.1<A.2.1)=true then ah (0<=A.2.2.1/\A.2.2.1<Int.ofNat (List.length A.1)) (ah (b2
 (Add.add (List.length A.2.2.2.1) (Add.add 0 1))) (mpure (aL.az (A.1,A.2.1,IntKind.wrap .i64 (Add.add A.2.2.1 1),A.2.2.2.1++[Option.getD
 (Option.map (λx=>x.2) (List.find? (λp=>decide (List.getD A.1 (Int.toNat A.2.2.1) 0=p.1)) A.2.2.2.2.1)) (0,0,0,0,0,0)],A.2.2.2.2.1,())))) else ar (mpure (aL.az (A.2.2.2.1,()))) λr=>mpure (aL.aX r)) (y,Int.ofNat (List.length y),0,[],A.1,())) (aL.fQ λ(A
 : List bt×Unit)=>k A.1)
theorem awQ(fk:xQ l m)(hid:BQ l)(k:List bt->L fs):Ex k (m,())=k (eg l):=by
 obtain⟨ai,hid⟩:=hid;have ak:wh.pre (lV (some m)):=ae1 (by have:=fk.tz;omega);have e:wh.sh (lV (some m))=mpure (hl jw (mo m)):=by
  refine (bO ak _).trans (congrArg mpure ?_);exact ae2
 unfold Ex;rw[show Et.sh m=mpure (lV (some m)) from rfl,aP,e,aP,awP (by rw[M2,mo,aQJ];have:=fk.tz;omega),aP,db,ae8 fk hid]
theorem afa(l:List bt)(h:BQ l)(hc:mn l=false)(k:List bt->L fs)(R:L fs) :
  ar (dI (wm R) (l,Int.ofNat (List.length l),0,[],())) (aL.fQ (Ex k))=k (eg l):=by
 have aA:=(xR l).1 hc;obtain⟨E,_⟩:=Ev l [] [] .nil;rw[aRa]at E;obtain⟨m,hm,fk⟩:=E aA;have key:dI (wm R) (l,Int.ofNat (List.length l),0,[],())=mpure (.az (m,())):=by
  have gen:∀ (k:Nat) (i:Nat) (dz:List (Int×bt)),l.length - i=k->i<=l.length->wk (l.drop i) dz=some m->xQ (l.take i) dz->dI (wm R) (l,l.length,i,dz,())=mpure (.az (m,())):=by
   intro k;induction k with
   | zero=>
    intro i dz aj G au _;have:i=l.length:=by omega
    subst this;simp  [wk]at au;subst au;exact vo (ae' _)
   | succ k aR=>
    intro i dz aj G au S8;have G:i<l.length:=by omega
    rw[aQy G]at au;unfold wk at au;split at au
    ·grind
    ·rename_i GJ;refine (CY ((ae_ h.1 G dz).trans (if_neg GJ))).trans ?_;obtain⟨dT,_⟩:=Ev [l[i]] (l.take i) dz S8;have tA:l.take i++[l[i]]=l.take (i+1):=by simp
     rw[tA]at dT;obtain⟨aOX,aF,bB⟩:=dT λa aZ b U=>aA a (aQM aZ) b (aQM U);simp  [wk]at aF;grind
  exact gen l.length 0 [] rfl (aQF _) hm .nil
 rw[key,aP,db,awQ fk h]
theorem awR(l:List bt)(h:BQ l)(hc:mn l=true)(k:List bt->L fs)(r:fs) :
  ar (dI (wm (mpure r)) (l,Int.ofNat (List.length l),0,[],())) (aL.fQ (Ex k))=mpure r:=by
 rw[e2 l (λi m=>(l,(l.length:Int),(i:Int),m,())) (λs m=>if ((lY m s.1).isSome&&!decide ((lY m s.1).getD lX=s))=true then (.aX (.aX r)) else .az (nV m s.1 s)) (λm=>.az (m,())) [] ?_ ?_ ?_]
 ·rw[ae9];obtain⟨_,M⟩:=Ev l [] [] .nil;rw[M (awN.1 hc)];simp
 ·rfl
 ·intro i G m;rw[ae_ h.1 G m,aP,aP];exact acN (mk:=λm=>(l,(l.length:Int),((i+1):Int),m,()))
 ·intro m;exact ae' m
theorem awS(x):a_ (avW wh.sh Et.sh x) (Ew.sh x):=bu λh=>by
 show ar (dI (wm (mpure ([],false))) (x,Int.ofNat (List.length x),0,[],())) (aL.fQ (Ex λa=>mpure (a,true)))=mpure (if mn x=true then ([],false) else (eg x,true));cases hc:mn x with
 | true=>exact awR x h hc _ _
 | false=>exact afa x h hc _ _
def M7(x:List bt×Unit):L (Bool×List bt×Unit):=eF (BQ x.1/\mn x.1=false) (true,eg x.1,())
theorem awT(x):a_ (av4 wh.sh Et.sh x) (M7 x):=bu λh=>by
 show ar (dI (wm (mpure (false,[],()))) (x.1,Int.ofNat (List.length x.1),0,[],())) (aL.fQ (Ex λa=>mpure (true,a,())))=_;exact afa x.1 h.1 h.2 _ _
variable {c:bb}
theorem M8(h:kR c=true):BQ c.2.1:=by
 unfold kR u0 at h;simp only[amX,aQL,aQA,aQ5,aQE]at h;obtain⟨⟨⟨⟨⟨bz,_⟩,_⟩,M⟩,_⟩,_⟩:=h;refine⟨by omega,λs ax=>?_⟩;have:=M s ax;unfold nk at this;grind
theorem awU(x):a_ (ad8 zb.sh Ew.sh x) (iU.sh x):=bu λh=>by
 unfold ad8 bJ;show _=mpure (c_ x);rw[show zb.sh x=mpure (kR x) from bO h _];unfold c_;cases hc:kR x with
 | false=>simp
 | true=>
  rw[show Ew.sh x.2.1=mpure (if mn x.2.1=true then ([],false) else (eg x.2.1,true)) from bO (M8 hc) _];cases mn x.2.1<;>simp
def M9(x:(bt->L Bool)×List bt×Unit):L ((z21')×List bt×Unit):=eF (x.2.1.length<2 ^ 63/\∀ y∈x.2.1,∃ b,x.1 y=mpure b)
 ((0,(x.2.1.filter λs=>!(x.1 s).val false).length),(x.2.1.filter λs=>!(x.1 s).val false)++List.replicate (x.2.1.length - (x.2.1.filter λs=>!(x.1 s).val false).length) lX,())
theorem afb{af:Type}(p:af->Bool):∀ (l:List af) (i:Int),(l.any p=true->∃ k:Nat,∃ h:k<l.length,jQ p l i=i+k/\p l[k]=true/\(∀ y∈l.take k,p y=false))
 | [],i,h=>by grind
 | x::l,i,h=>by
  unfold jQ;by_cases an:p x=true
  ·grind
  ·have oR:p x=false:=by grind
   simp only[aRr,oR]at h;obtain⟨k,aj,E,M,al⟩:=afb p l (i+1) h;refine⟨k+1,by grind,by grind,by grind,?_⟩;grind
theorem awV(x):a_ (aeJ (k3 i').sh x) (M9 x):=bu λh=>by
 obtain⟨f,l,u⟩:=x;obtain⟨E,M⟩:=h;change l.length<2 ^ 63 at E;change ∀ y∈l,∃ b,f y=mpure b at M;unfold aeJ hy bF cy bl bh aY bS b4 bg bY;rw[show (k3 i').sh (l,f)=mpure (jQ (λy=>(f y).val false) l 0) from bO ⟨E,M⟩ _];rw[aP];by_cases aZ:(l.any λy=>(f y).val false)=true
 ·obtain⟨k,aj,aF,bB,c7⟩:=afb (λy=>(f y).val false) l 0 aZ;have hw:=bA (n:=k+1);rw[aF];generalize bC:(λs=>!(f s).val false)=q at *
  have awW:∀ s,(!(f s).val false)=q s:=λs=>by grind
  have tA:l.take k=(l.take k).filter q:=by
   rw[List.filter_eq_self.2];grind
  have Ey:(l.take (k+1)).filter q=l.take k:=by
   rw[aRu,am3 aj,aRk];grind
  rw[e2 (l.drop (k+1)) (λi (_)=>(f,(((l.take (k+1+i)).filter q).length:Int),((k+1+i:Nat):Int),(l.take (k+1+i)).filter q++l.drop ((l.take (k+1+i)).filter q).length,())) (λ_ u=>.az u) (λ_=>.az (((l.filter q).length),l.filter q++l.drop (l.filter q).length,())) () ?_ ?_ ?_]
  ·rw[ew];have hlen:(l.filter q).length<=l.length:=aQ3 _ _;have hx:(l.filter q++l.drop (l.filter q).length).length=l.length:=by grind
   simp only[aP,db,cD,hx];rw[bd (by omega)];simp only[ck,aQI];have afc:List.take (l.filter q).length (l.filter q++l.drop (l.filter q).length)=l.filter q:=List.take_left;rw[afc];refine (bd ⟨by omega,by omega,by grind⟩ _).trans ?_;refine congrArg mpure (Prod.ext rfl (Prod.ext ?_ rfl));exact (congrArg (λz=>_++z) (List.drop_eq_nil_iff.2 (by simp))).trans (aQD _)
  ·rw[aSc,dn,hw];refine Prod.ext rfl (Prod.ext ?_ (Prod.ext ?_ (Prod.ext ?_ rfl)))
   ·grind
   ·rfl
   ·rw[Ey,aRb,Nat.min_eq_left (by omega),aRP]
  ·intro i G _;have G:k+1+i<l.length:=by grind
   have hle:((l.take (k+1+i)).filter q).length<=k+i:=by
    rw[List.take_add,aRk,Ey];grind
   have dx:((l.take (k+1+i)).filter q).length<l.length:=by omega
   have o7:((l.take (k+1+i)).filter q++l.drop ((l.take (k+1+i)).filter q).length).length=l.length:=by grind
   have hw:=bA (n:=((k+1+i))+1);have gJ:=bA (n:=(((l.take (k+1+i)).filter q).length)+1) (by omega) (by omega);have dM:k+1+i<((l.take (k+1+i)).filter q++l.drop ((l.take (k+1+i)).filter q).length).length:=by omega
   have KM:((l.take (k+1+i)).filter q).length<((l.take (k+1+i)).filter q++l.drop ((l.take (k+1+i)).filter q).length).length:=by omega
   have ka:((l.take (k+1+i)).filter q++l.drop ((l.take (k+1+i)).filter q).length)[k+1+i]=l[k+1+i]:=by
    rw[aRB (by omega)];grind
   obtain⟨b,U⟩:=M _ (amV G);have ag:q l[k+1+i]=!b:=by rw[<-awW,U,kN]
   have tA:(l.take (k+1+(i+1))).filter q=(l.take (k+1+i)).filter q++(if (!b)=true then [l[k+1+i]] else []):=by
    rw[show k+1+(i+1)=k+1+i+1 from rfl,aRu,am3 G,aR4,aRk,List.filter_cons,ag,List.filter_nil]
   simp only[cD,dQ dM,d' dM,dH dM,dH KM,ka,U,gJ];cases b with
   | true=>
    simp  at tA ⊢;grind
   | false=>
    simp  at tA ⊢;have es:(List.filter q (List.take (k+1+i) l)++List.drop (List.filter q (List.take (k+1+i) l)).length l).set (List.filter q (List.take (k+1+i) l)).length l[k+1+i]=(l.take (k+1+(i+1))).filter q++l.drop ((l.take (k+1+(i+1))).filter q).length:=by
     rw[tA,List.set_append_right _ _ (amY _),Nat.sub_self,aQy dx,List.set_cons_zero];simp
    grind
  ·intro _;have ai:(l.drop (k+1)).length=l.length - (k+1):=by simp
   have bQ:k+1+(l.drop (k+1)).length=l.length:=by omega
   simp only[bQ,aQ4];rw[if_neg (by grind),aP]
 ·rw[Ii _ _ aZ];have:(l.filter λs=>!(f s).val false)=l:=by
   simp_all
  simp  [this,aQD]
abbrev bQ:b6:=((0,0,0,0,0,0),0)
def qJ(c:bb)(w:z1')(u:Int):List b6:=((gH c).filter λs=>decide (xK s=u)).map λs=>(s,BM s+w.getD (sg s).toNat 0)
def cL(c:bb)(w:z1')(u:Int):List b6:=hl ky (qJ c w u)
def tB(l:List b6)(i:Nat):Bool:=!(decide (0<i)&&decide ((l.getD i bQ).2=(l.getD (i - 1) bQ).2))&&decide (fz (l.getD i bQ).1=1+((i % 2:Nat):Int))
def jc(l:List b6):Bool:=(List.range l.length).all (tB l)
structure im(c:bb):Prop where
 Io:c_ c=0
 eH:c.1.length<=3
 ej:c.2.1.length<=12
 jJ:c.2.2.1.length<=12
 n4:c.2.2.2.1.length<=4
 kX:kR c=true
 qI:tw c.2.1
 Uo:si c.2.2.2.2=true
 clk:∀ s∈c.1,-30<=s.1/\s.1<=s.2/\s.2<=30
 k4:∀ s∈c.2.1,nk c.1.length s=true
 jl:Eu c.2.2.2.1=true
theorem o8(h:c_ c=0):im c:=by
 have aV:=h;unfold c_ at h;split at h
 ·rename_i hc;split at h
  ·omega
  ·rename_i aA;have pI:=hc;unfold kR u0 at hc;simp only[amX,aQL,aQA,aQ5,aQE]at hc;obtain⟨⟨⟨⟨⟨⟨⟨⟨cH,b1⟩,ek⟩,gp⟩,gl⟩,ir⟩,iu⟩,j1⟩,fK⟩:=hc;refine⟨aV,by omega,by omega,by omega,by omega,pI,(xR _).1 (by grind),gl,λs ax=>?_,iu,fK⟩;have:=ir s ax;unfold wi at this;simp only[amX,aQA,aQE,pS]at this;omega
 omega
theorem Ez{n:Nat}:nk n s=true<->(0<=oy s/\oy s<=99)/\(0<=sg s/\sg s<=(n:Int) - 1)/\(0<=BM s/\BM s<=9999)/\(0<=xK s/\xK s<=9)/\(0<=kQ s/\kQ s<=99)/\(fz s=1\/fz s=2/\kQ s=0):=by
 unfold nk;simp only[amX,pS,aQH,am0,and_assoc]
theorem im.awX(h:im c):∃ m,xQ c.2.1 m:=by
 obtain⟨E,_⟩:=Ev c.2.1 [] [] .nil;rw[aRa]at E;obtain⟨m,_,fk⟩:=E h.qI;grind
theorem im.Up(h:im c):(gH c).length<=12:=by
 obtain⟨m,fk⟩:=h.awX;have E:=awO fk (M8 h.kX).2;have M:=aQ3 (λs:bt=>!c.2.2.1.contains s.1) (eg c.2.1);have:=h.ej;unfold gH;omega
theorem zc(h:s∈eg l):s∈l:=by
 unfold eg at h;grind
theorem awY(h:s∈gH c):s∈c.2.1:=zc (List.mem_filter.1 h).1
theorem im.EA(h:im c)(ax:s∈gH c):nk c.1.length s=true:=h.k4 s (awY ax)
def sn(c:bb)(w:z1'):Prop:=w.length=c.1.length/\∀ n∈w,-30<=n/\n<=30
variable {w:z1'}
theorem sn.at(h:sn c w)(aB:im c)(ax:s∈gH c):0<=sg s/\sg s<(w.length:Int)/\-30<=w.getD (sg s).toNat 0/\w.getD (sg s).toNat 0<=30:=by
 have E:=(Ez.1 (aB.EA ax)).2.1;have ai:sg s<(w.length:Int):=by rw[h.1];omega
 exact⟨E.1,ai,h.2 _ (BE E.1 ai)⟩
theorem Ip(h:im c)(w:z1')(u:Int):(cL c w u).length<=12:=by
 unfold cL qJ;rw[M2,aQJ];exact am5 (aQ3 _ _) h.Up
variable {e:b6}
theorem Iq{u:Int}(h:e∈cL c w u):e.1∈gH c/\xK e.1=u/\e.2=BM e.1+w.getD (sg e.1).toNat 0:=by
 unfold cL at h;rw[aeW]at h;unfold qJ at h;grind
theorem afd(i:Nat):Int.tmod (i:Int) 2=((i % 2:Nat):Int):=by
 rfl
theorem awZ(l:List b6)(i:Nat):(decide ((i:Int) > 0)&&decide ((l.getD i bQ).2=(l.getD (i - 1) bQ).2)||decide (fz (l.getD i bQ).1≠1+((i % 2:Nat):Int)))=!tB l i:=by
 unfold tB;simp
def o9(a b:Int)(s:z11'):Int:=max 0 (min (b - 1) s.2 - max a s.1+1)
def oA(cl:z4')(a b:Int):Int:=cl.foldl (λn s=>n - o9 a b s) (b - a)
def afe(cl:z4'):Prop:=cl.length<=4/\∀ s∈cl,0<=s.1/\s.1<=s.2/\s.2<=9999
theorem im.Uq(h:im c):afe c.2.2.2.1:=by
 refine⟨h.n4,λs ax=>?_⟩;have:=h.jl;unfold Eu at this;obtain⟨i,G,rfl⟩:=List.mem_iff_getElem.1 ax;simp_all[lW,pS]
abbrev EB(x:bb×Int×Int):Prop:=afe x.1.2.2.2.1/\-100<=x.2.1/\x.2.1<=x.2.2/\x.2.2<=11000
variable {a:Int}{s:z11'}{b:Int}
theorem aw0(aZ:-100<=a)(U:b<=11000)(ax:0<=s.1/\s.1<=s.2/\s.2<=9999):0<=o9 a b s/\o9 a b s<=20000:=by
 unfold o9;omega
variable {n:Int}
theorem aw1:(if n > 0 then n else 0)=max 0 n:=by omega
theorem aw2:(if a<b then a else b)=min b a:=by omega
theorem aw3:(if a<b then a else b)=min a b:=by omega
theorem aw4:(if a > b then a else b)=max b a:=by omega
theorem aw5:(if a > b then a else b)=max a b:=by omega
abbrev zd:aQ:=⟨.aw kx (.aw bK bK),bK,EB,λx=>oA x.1.2.2.2.1 x.2.1 x.2.2⟩
theorem aw6(x):a_ (aer x) (zd.sh x):=bu λh=>by
 obtain⟨c,a,b⟩:=x;obtain⟨⟨E,M⟩,al,a7,bR⟩:=h;change -100<=a at al;change a<=b at a7;change b<=11000 at bR;change c.2.2.2.1.length<=4 at E;unfold aer bF bl bh aY bS b4 vH bg bY cF;have xE:=bA (n:=b - a);rw[eW c.2.2.2.1 (λi n=>(a,b,n,c.2.2.2.1,(c.2.2.2.1.length:Int),(i:Int),())) (λs n=>.az (n - o9 a b s)) (λn=>.az (n,())) (λi n=>-(20000*i)<=n/\n<=20000) (b - a) ?_ ?_ ?_ ?_]
 ·rw[ew,aP];rfl
 ·grind
 ·omega
 ·intro i G n aA;have ax:=M _ (amV G);have hc:=aw0     al bR ax;have hw:=bA (n:=i+1);refine⟨?_,λbk dZ=>?_⟩
  ·simp only[cD,dQ G,d' G,dH G,ck,dn,hw];have ch:=bA (n:=b - 1);have dP:=bA (n:=min (b - 1) c.2.2.2.1[i].2 - max a c.2.2.2.1[i].1);have hM:=bA (n:=min (b - 1) c.2.2.2.1[i].2 - max a c.2.2.2.1[i].1+1);have Ir:=bA (n:=n - o9 a b c.2.2.2.1[i]);simp only[ch,aw3,aw5,dP,hM];rw[show max (min (b - 1) c.2.2.2.1[i].2 - max a c.2.2.2.1[i].1+1) 0=o9 a b c.2.2.2.1[i] from Int.max_comm _ _,Ir];rfl
  grind
 simp
def oB(t:uY)(m:Int):Int:=if m>=t.2.2.2.2.1 then t.2.2.2.2.2.1 else min t.2.2.2.1 ((max 0 (m - t.1)+t.2.1 - 1) / t.2.1*t.2.2.1)
abbrev BS(x:uY×Int):Prop:=si x.1=true/\-100000<=x.2/\x.2<=20000
abbrev ze:aQ:=⟨.aw Ua bK,bK,BS,λx=>oB x.1 x.2⟩
variable {t:uY}
theorem M_:si t=true<->(0<=t.1/\t.1<=9999)/\(1<=t.2.1/\t.2.1<=9999)/\(1<=t.2.2.2.2.1/\t.2.2.2.2.1<=9999)/\(0<=t.2.2.1/\t.2.2.1<=100000)/\(0<=t.2.2.2.1/\t.2.2.2.1<=100000)/\(0<=t.2.2.2.2.2.1/\t.2.2.2.2.2.1<=100000)/\(0<=t.2.2.2.2.2.2/\t.2.2.2.2.2.2<=100000):=by
 grind [si,pS]
variable {m:Int}
theorem aff(h:BS (t,m)):0<=(max 0 (m - t.1)+t.2.1 - 1) / t.2.1/\(max 0 (m - t.1)+t.2.1 - 1) / t.2.1<=30000/\0<=(max 0 (m - t.1)+t.2.1 - 1) / t.2.1*t.2.2.1/\(max 0 (m - t.1)+t.2.1 - 1) / t.2.1*t.2.2.1<=3000000000:=by
 obtain⟨E,M,al⟩:=h;obtain⟨cH,b1,ek,gp,gl,ir,iu⟩:=(M_ (t:=t)).1 E;have dv:0<=(max 0 (m - t.1)+t.2.1 - 1) / t.2.1:=Int.ediv_nonneg (by omega) (by omega);have fc:(max 0 (m - t.1)+t.2.1 - 1) / t.2.1<=max 0 (m - t.1)+t.2.1 - 1:=Int.ediv_le_self _ (by omega);have ji:(max 0 (m - t.1)+t.2.1 - 1) / t.2.1<=30000:=by omega
 refine⟨dv,ji,Int.mul_nonneg dv gp.1,?_⟩;calc (max 0 (m - t.1)+t.2.1 - 1) / t.2.1*t.2.2.1<=30000*100000:=Int.mul_le_mul ji gp.2 gp.1 (by omega)
  _=3000000000:=by decide
theorem aw7(h:BS (t,m)):0<=oB t m/\oB t m<=100000:=by
 grind [aff,M_,oB]
theorem aw8(x):a_ (aeg x) (ze.sh x):=bu λh=>by
 obtain⟨t,m⟩:=x;have hu:=aff h;obtain⟨E,M,al⟩:=h;obtain⟨cH,b1,ek,gp,gl,ir,iu⟩:=(M_ (t:=t)).1 E;have dP:=bA (n:=max 0 (m - t.1)+t.2.1);grind [bA,aeg,oB,aw1,bd]
def iM(c:bb)(w:z1')(u:Int):List b6:=if jc (cL c w u)=true then cL c w u else []
def qK(l:List b6)(minute:Int):z11':=l.foldl (λb e=>if e.2<=minute then (if fz e.1=2 then (-1,e.2) else (kQ e.1,e.2)) else b) (-1,0)
def BT(c:bb)(w:z1')(minute:Int):Int:=((fy 0 9).foldl (λn u=>if (qK (iM c w u) minute).1>=0 then n+1 else n) (0:Int))
def xS(l:List b6):List (b6×b6):=l.zip (l.drop 1)
def Is(cl:z4')(k4:Int)(l:List b6):Option Int:=((xS l).find? λp=>oy p.1.1 == k4&&fz p.1.1 == 1).map λp=>oA cl p.1.2 p.2.2
def lZ(c:bb)(w:z1')(k4:Int):Option Int:=(fy 0 9).findSome? λu=>Is c.2.2.2.1 k4 (iM c w u)
variable {l:List b6}
theorem aw9(h:i+1<(hl ky l).length):(hl ky l)[i].2<=(hl ky l)[i+1].2:=by
 have:=List.pairwise_iff_getElem.1 (awu l) i (i+1) (by omega) h (by omega);omega
theorem M'(aB:im c)(M:sn c w){u:Int}(he:e∈cL c w u):-30<=e.2/\e.2<=10029:=by
 obtain⟨E,_,al⟩:=Iq he;have aO:=(M.at aB E).2.2;have aT:=(Ez.1 (aB.EA E)).2.2.1;omega
theorem It{u:Int}(he:e∈iM c w u):e∈cL c w u:=by
 grind [iM]
theorem aw_{u:Int}(h:i+1<(iM c w u).length):(iM c w u)[i].2<=(iM c w u)[i+1].2:=by
 have key:∀ l,iM c w u=l->∀ (h:i+1<l.length),l[i].2<=l[i+1].2:=by
  intro l ai h;unfold iM at ai;split at ai
  ·subst ai;exact aw9 h
  grind
 grind
theorem afg{c:bb}(aB:im c){w:z1'}(M:sn c w){u:Int}{i:Nat}(h:i+1<(iM c w u).length):EB (c,(iM c w u)[i].2,(iM c w u)[i+1].2):=by
 have al:=M' aB M (It (amV (by omega:i<(iM c w u).length)));have a7:=M' aB M (It (amV h));exact⟨aB.Uq,show -100<=(iM c w u)[i].2 by omega,aw_ h,show (iM c w u)[i+1].2<=11000 by omega⟩
theorem aw'(h:i<(xS l).length):∃ M:i+1<l.length,(xS l)[i]=(l[i],l[i+1]):=by
 grind [xS]
theorem axa(h:b<=s.1):o9 a b s=0:=by unfold o9;omega
def wo:z4'->Prop
 | []=>True
 | s::r=>s.1<=s.2/\(∀ t∈r,s.2<t.1)/\wo r
theorem Ur:∀ (cl:z4') (a b n:Int),cl.foldl (λn s=>n - o9 a b s) n=n - (cl.map (o9 a b)).sum
 | [],a,b,n=>by simp
 | s::r,a,b,n=>by simp;rw[Ur r];omega
theorem afh:∀ (cl:z4') (a b:Int),wo cl->a<=b->(cl.map (o9 a b)).sum<=b - a
 | [],a,b,_,h=>by grind
 | s::r,a,b,⟨E,M,al⟩,h=>by
  by_cases U:s.2+1<=b
  ·have aR:=afh r (max a (s.2+1)) b al (by omega);grind [o9,List.map_congr_left]
  ·have e:∀ l:z4',(∀ t∈l,b<=t.1)->(l.map (o9 a b)).sum=0:=by
    intro l;induction l with
    | nil=>simp
    | cons t l aR=>
     grind [axa]
   grind [o9]
theorem afi:∀ (cl:z4'),(∀ i,(h:i+1<cl.length)->cl[i].2<cl[i+1].1)->(∀ s∈cl,s.1<=s.2)->wo cl
 | [],_,_=>trivial
 | s::r,h,M=>by
  have D:=afi r (λi G=>by have:=h (i+1) (by grind);grind) λt aH=>M t (by grind);refine⟨M s (by simp),?_,D⟩;cases r with
  | nil=>simp
  | cons t r=>
   have aV:=h 0 (by simp);simp at aV;intro u hu;rcases List.mem_cons.1 hu with rfl | hu
   ·omega
   ·have:=D.2.1 u hu;grind
theorem im.axb(h:im c):wo c.2.2.2.1:=by
 have hc:=h.jl;unfold Eu at hc;rw[aQL]at hc;refine afi _ (λi G=>?_) λs ax=>(h.Uq.2 s ax).2.1;have:=hc (i+1) (by grind);grind [lW]
variable {cl:z4'}
theorem axc(h:wo cl)(Im:a<=b):0<=oA cl a b:=by
 simp_all[oA,Ur,afh]
theorem afj:∀ (cl:z4') (a b:Int),0<=(cl.map (o9 a b)).sum
 | [],_,_=>by simp
 | s::r,a,b=>by
  have:=afj r a b;grind [o9]
theorem axd{cl:z4'}{a b:Int}:oA cl a b<=b - a:=by
 unfold oA;rw[Ur];have:=afj cl a b;omega
theorem axe{k4:Int}(h:Is cl k4 l=some m):∃ i,∃ G:i+1<l.length,l[i].1.1=k4/\fz l[i].1=1/\m=oA cl l[i].2 l[i+1].2:=by
 unfold Is at h;rw[aQX]at h;obtain⟨p,ak,rfl⟩:=h;obtain⟨i,G,rfl⟩:=List.mem_iff_getElem.1 (aQU ak);obtain⟨dM,e⟩:=aw' G;grind
theorem afk(aB:im c)(M:sn c w){k4:Int}(h:lZ c w k4=some m):0<=m/\m<=11000:=by
 obtain⟨u,_,hu⟩:=List.exists_of_findSome?_eq_some h;obtain⟨i,G,_,_,rfl⟩:=axe hu;have ak:=afg aB M G;have hm:=axc aB.axb ak.2.2.1;have a7:=M' aB M (It (amV G));have bR:=@axd c.2.2.2.1 (iM c w u)[i].2 (iM c w u)[i+1].2;grind
def EC(c:bb)(w:z1')(axf:Int):Int:=(gH c).foldl (λn s=>if (fz s=1/\kQ s=axf)/\(lZ c w (oy s)).isSome=true then n+oB c.2.2.2.2 ((lZ c w (oy s)).getD 0) else n) 0
def xT(c:bb)(k4:Int):Bool:=(gH c).any λs=>oy s == k4&&fz s == 1
def u1(c:bb)(w:z1'):Bool:=(List.range w.length).all λi=>cz (w.getD i 0) (c.1.getD i (0,0)).1 (c.1.getD i (0,0)).2
def j2(c:bb)(w:z1'):Bool:=decide (w.length=c.1.length)&&u1 c w&&(fy 0 9).all λu=>jc (cL c w u)
theorem afl(aB:im c)(ai:w.length=c.1.length)(h:u1 c w=true):sn c w:=by
 refine⟨ai,λn aA=>?_⟩;obtain⟨i,G,rfl⟩:=List.mem_iff_getElem.1 aA;unfold u1 at h;rw[aQL]at h;have E:=h i (by grind);rw[xP G,xP (by omega),pS]at E;have:=aB.clk _ (amV (by omega:i<c.1.length));omega
def mq:z4'->Nat
 | []=>1
 | s::r=>(s.2 - s.1+1).toNat*mq r
def nW(c:bb):z4'->z1'->List (z1')
 | [],w=>if j2 c w=true then [w] else []
 | s::r,w=>(fy s.1 s.2).flatMap λn=>nW c r (w++[n])
theorem Us{af bet:Type}(f:af->List bet)(k:Nat):∀ (l:List af),(∀ x∈l,(f x).length<=k)->(l.flatMap f).length<=l.length*k
 | [],_=>by simp
 | x::l,h=>by
  simp only[aRU];have:=Us f k l λy bf=>h y (by grind);grind
theorem Ut(c:bb):∀ (r:z4') (w:z1'),(nW c r w).length<=mq r
 | [],w=>by grind [nW,mq]
 | s::r,w=>by
  unfold nW mq;have:=Us (λn=>nW c r (w++[n])) (mq r) (fy s.1 s.2) λn _=>Ut c r _;grind [D_]
theorem afm{af bet:Type}(f:af->List bet):∀ (l:List af) (b:List bet),l.foldl (λb x=>b++f x) b=b++l.flatMap f
 | [],b=>by simp
 | x::l,b=>by simp only[aQQ,aQV];rw[afm f l,aQ1]
abbrev dw(c:bb):List (z1'):=nW c c.1 []
def axg(c:bb):Prop:=c_ c=0->mq c.1<=60
def iN(c:bb):Prop:=M1 c/\axg c
theorem iN.iR(h:iN c):nC c:=by
 obtain⟨⟨E,M,al,a7⟩,_⟩:=h;exact⟨by omega,by omega,by omega,by omega⟩
def fq(c:bb)(b:Bool):List (z1')×Int:=if c_ c≠0 then ([],c_ c) else if b=false then ([],1) else if dw c=[] then ([],3) else (dw c,0)
theorem Uu(c:bb):∀ (r:z4') (w x:z1'),x∈nW c r w->j2 c x=true
 | [],w,x,h=>by
  grind [nW]
 | s::r,w,x,h=>by
  unfold nW at h;rw[List.mem_flatMap]at h;obtain⟨n,_,aA⟩:=h;exact Uu c r _ x aA
theorem Iu(h:c_ c=0)(hw:j2 c w=true):sn c w:=by
 grind [j2,afl,o8]
theorem Na(hw:j2 c w=true){u:Int}(hu:0<=u/\u<=9):jc (cL c w u)=true:=by
 grind [j2,rD]
theorem axh{b:Bool}(h:w∈(fq c b).1):c_ c=0/\w∈dw c/\j2 c w=true/\sn c w:=by
 grind [fq,Uu,Iu]
def Nb:Option (z11')->Int->z11'
 | none,n=>(n,n)
 | some s,n=>(min s.1 n,max s.2 n)
def BU(l:z1'):Option (z11'):=l.foldl (λo n=>some (Nb o n)) none
def xU(l:z1'):z11':=(BU l).getD (0,0)
theorem axi(a b c:Int):dC.sh (a,b,c)=mpure (cz a b c):=rfl
def mr(c:bb)(k4:Int):z19':=if (fq c (xT c k4)).2≠0 then ([],(fq c (xT c k4)).2) else if (fq c (xT c k4)).1.filterMap (λw=>lZ c w k4)=[] then ([],3) else ((fq c (xT c k4)).1.filterMap (λw=>lZ c w k4),0)
def Uv(c:bb)(n:Int):z23':=(xU (mr c n).1,(mr c n).2)
abbrev Nc:aQ:=⟨.aw kx bK,.aw o6 bK,λx=>iN x.1,λx=>Uv x.1 x.2⟩
def zf(c:bb)(n:Int):z23':=(xU ((mr c n).1.map λm=>oB c.2.2.2.2 m),(mr c n).2)
abbrev BV:aQ:=⟨.aw kx bK,.aw o6 bK,λx=>iN x.1,λx=>zf x.1 x.2⟩
def xV(c:bb)(g:Int):z23':=(xU ((fq c (cz g 0 99)).1.map λw=>EC c w g),(fq c (cz g 0 99)).2)
abbrev BW:aQ:=⟨.aw kx bK,.aw o6 bK,λx=>iN x.1,λx=>xV x.1 x.2⟩
def xW(c:bb)(t:Int):z23':=(xU ((fq c (cz t 0 9999)).1.map λw=>BT c w t*c.2.2.2.2.2.2.2.2.2.2),(fq c (cz t 0 9999)).2)
abbrev BX:aQ:=⟨.aw kx bK,.aw o6 bK,λx=>iN x.1,λx=>xW x.1 x.2⟩
def zg(u t:Int):Bool:=cz u 0 9&&cz t 0 9999
def Nd(c:bb)(u t:Int):z1':=(fq c (zg u t)).1.map λw=>(qK (iM c w u) t).1
def qL(c:bb)(u t:Int):z19':=((fy (-1) 99).filter λg=>(Nd c u t).contains g,(fq c (zg u t)).2)
abbrev BY:aQ:=⟨.aw kx (.aw bK bK),.aw hG bK,λx=>iN x.1,λx=>qL x.1 x.2.1 x.2.2⟩
def Iv(c:bb)(w:z1')(u t:Int):Bool:=decide ((qK (iM c w u) t).1>=0)&&decide (oA c.2.2.2.1 (qK (iM c w u) t).2 t>=c.2.2.2.2.2.2.2.2.1)
def rH(c:bb)(l:List (z1'))(u t:Int):Nat:=(l.filter λw=>Iv c w u t).length
def wq(c:bb)(t:Int):z1'×z19':=
 if (fq c (cz t 0 9999)).2≠0 then ([],[],(fq c (cz t 0 9999)).2)
 else ((fy 0 9).filter (λu=>decide (rH c (fq c (cz t 0 9999)).1 u t=(fq c (cz t 0 9999)).1.length)),(fy 0 9).filter (λu=>decide (rH c (fq c (cz t 0 9999)).1 u t > 0)),0)
abbrev Nf:aQ:=⟨.aw kx bK,.aw hG (.aw hG bK),λx=>iN x.1,λx=>wq x.1 x.2⟩
theorem Uw:∀ (l:List b6) (t:Int) (b:z11'),(∀ e∈l,(0<=kQ e.1))->(l.foldl (λb e=>if e.2<=t then (if fz e.1=2 then (-1,e.2) else (kQ e.1,e.2)) else b) b=b\/∃ e∈l,e.2<=t/\l.foldl (λb e=>if e.2<=t then (if fz e.1=2 then (-1,e.2) else (kQ e.1,e.2)) else b) b=(if fz e.1=2 then (-1,e.2) else (kQ e.1,e.2)))
 | [],t,b,_=>.inl rfl
 | x::l,t,b,h=>by
  by_cases an:x.2<=t
  ·rcases Uw l t (if fz x.1=2 then (-1,x.2) else (kQ x.1,x.2)) λe he=>h e (by grind) with E | ⟨e,he,E,M⟩<;>grind
  ·rcases Uw l t b λe he=>h e (by grind) with E | ⟨e,he,E,M⟩<;>grind
theorem axj(aB:im c)(M:sn c w){u t:Int}(aH:t<=9999)(h:(qK (iM c w u) t).1>=0):EB (c,(qK (iM c w u) t).2,t):=by
 rcases Uw (iM c w u) t (-1,0) (λe he=>((Ez.1 (aB.EA (Iq (It he)).1)).2.2.2.2.1).1) with E | ⟨e,he,E,al⟩
 ·unfold qK at h;grind
 ·have:=M' aB M (It he);have bB:(qK (iM c w u) t).2=e.2:=by
   unfold qK;grind
  exact⟨aB.Uq,by grind,by grind,show t<=11000 by omega⟩
abbrev mK(z:j_):bb:=(z.1,z.2.1,z.2.2.1,z.2.2.2.1,z.2.2.2.2.1,z.cv,z.fI,z.h8,z.k2,z.ni,z.mJ)
abbrev Ux(z:j_):List bt:=z.jb
abbrev afn(z:j_):List (Option hh):=z.pQ
abbrev Iw(c:bb)(l:List bt)(t:List (Option hh)):j_:=(c.1,c.2.1,c.2.2.1,c.2.2.2.1,c.2.2.2.2.1,c.2.2.2.2.2.1,c.2.2.2.2.2.2.1,c.2.2.2.2.2.2.2.1,c.2.2.2.2.2.2.2.2.1,c.2.2.2.2.2.2.2.2.2.1,c.2.2.2.2.2.2.2.2.2.2,l,t,())
def xX(l:List bt)(w:z1')(u:Int):List b6:=(l.filter λs=>decide (xK s=u)).map λs=>(s,BM s+w.getD (sg s).toNat 0)
theorem axk{l:List bt}(h:i<l.length)(u:Int):xX (l.take (i+1)) w u=if l[i].2.2.2.2.1=u then xX (l.take i) w u++[(l[i],BM l[i]+w.getD (sg l[i]).toNat 0)] else xX (l.take i) w u:=by
 unfold xX;rw[aRu,am3 h,aR4,aRk,aQT];grind
theorem afo(l:List bt)(w:z1')(u:Int):(xX l w u).length<=l.length:=by
 unfold xX;grind
abbrev pT(c:bb)(w:z1'):List (List b6):=[cL c w 0,cL c w 1,cL c w 2,cL c w 3,cL c w 4,cL c w 5,cL c w 6,cL c w 7,cL c w 8,cL c w 9]
def wu(c:bb)(w:z1'):Bool:=(fy 0 9).all λu=>jc (cL c w u)
theorem axl(c:bb)(w:z1'):wu c w=(jc (cL c w 0)&&(jc (cL c w 1)&&(jc (cL c w 2)&&(jc (cL c w 3)&&(jc (cL c w 4)&&(jc (cL c w 5)&&(jc (cL c w 6)&&(jc (cL c w 7)&&(jc (cL c w 8)&&jc (cL c w 9)))))))))):=by
 unfold wu;rw[show fy 0 9=[0,1,2,3,4,5,6,7,8,9] from by decide];simp
abbrev axm(x:z1'×j_):Prop:=c_ (mK x.2)=0/\sn (mK x.2) x.1/\Ux x.2=gH (mK x.2)
def xY(x:z1'×j_):L (Option hh×Bool×j_):=eF (axm x) (if wu (mK x.2) x.1=true then (some (x.1,pT (mK x.2) x.1),true,x.2) else (none,false,x.2))
theorem axn{bn:Type}{body:Int×Int×Int×bn->L (aL (Int×Int×Int×bn) rho)}(l:List b6){z:bn}(bad qM:rho)
  (U:∀ i,i<l.length->body (a,n,(i:Int),z)=mpure (if (!tB l i)=true then .aX bad else .az (a,n,((i+1:Nat):Int),z)))
  (he:body (a,n,(l.length:Int),z)=mpure (.aX qM)):dI body (a,n,0,z)=mpure (if jc l=true then qM else bad):=by
 rw[e2 (List.range l.length) (λi (_:Unit)=>(a,n,(i:Int),z)) (λi b=>if (!tB l i)=true then .aX bad else .az b) (λ_=>qM) () ?_ ?_ ?_]
 ·rw[ng (q:=tB l) _ _ (λ_=>rfl)];rfl
 ·rfl
 ·intro i G b;have G:i<l.length:=by grind
  rw[U i G,aQw];cases tB l i<;>rfl
 grind
theorem afp{X:Type}(ai:l.length<=12)(G:i<l.length)(aj:k=1+((i % 2:Nat):Int))(aK B:L X):T' l l[i] i k aK B=if (!tB l i)=true then aK else B:=by
 unfold T';have AU:=awZ l i;rw[Bool.or_comm,xP G]at AU;have aF:(decide (l[i].1.2.2.2.1≠k)||decide ((i:Int) > 0)&&decide (l[i].2=(List.getD l (Int.toNat (IntKind.wrap .i64 ((i:Int) - 1))) ((0,0,0,0,0,0),0)).2))=!tB l i:=by
  rw[<-AU,aj];rcases Nat.eq_zero_or_pos i with aV | aV
  ·simp_all
  ·rw[bA (n:=(i:Int) - 1),show ((i:Int) - 1).toNat=i - 1 from by omega]
 rw[aF];have bR:decide ((i:Int) > 0)=true->(0<=IntKind.wrap .i64 ((i:Int) - 1)/\IntKind.wrap .i64 ((i:Int) - 1)<Int.ofNat (List.length l)):=λh=>by
  have h:=aQR h;rw[bA (n:=(i:Int) - 1),cD];omega
 simp_all
theorem axo(h:l.length<=12):Ep (tv.sh,l,())=mpure (hl ky l,()):=bO ⟨h,rfl⟩ _
theorem axp{l:List bt}(ai:l.length<=12)(ax:∀ s∈l,nk c.1.length s=true)(hw:sn c w)(G:i<l.length):0<=l[i].2.2.2.2.1/\l[i].2.2.2.2.1<=9/\(0<=l[i].2.1/\l[i].2.1<(w.length:Int))/\IntKind.wrap .i64 (l[i].2.2.1+w.getD l[i].2.1.toNat 0)=l[i].2.2.1+w.getD l[i].2.1.toNat 0:=by
 have h:=Ez.1 (ax _ (amV G));have E:sg l[i]<(w.length:Int):=by rw[hw.1];omega
 have M:=hw.2 _ (BE (d:=0) h.2.1.1 E);have al:=h.2.2.1;have a7:=h.2.2.2.1;exact⟨a7.1,a7.2,⟨h.2.1.1,E⟩,bA (by grind) (by grind)⟩
abbrev qN(f:Nat->List b6)(c:j_):qH:=(f 0,f 1,f 2,f 3,f 4,f 5,f 6,f 7,f 8,f 9,c)
theorem Uy{f g:Nat->List b6}(h:∀ u,u<10->f u=g u)(c:j_):qN f c=qN g c:=by
 simp only[qN,h 0 (by decide),h 1 (by decide),h 2 (by decide),h 3 (by decide),h 4 (by decide),h 5 (by decide),h 6 (by decide),h 7 (by decide),h 8 (by decide),h 9 (by decide)]
theorem Uz(f:Nat->List b6)(c:j_):∀ k,k<10->o5 k (qN f c)=f k
 | 0,_ | 1,_ | 2,_ | 3,_ | 4,_ | 5,_ | 6,_ | 7,_ | 8,_ | 9,_=>rfl
 | k+10,h=>by omega
theorem afq(f:Nat->List b6)(c:j_)(v:List b6):∀ k,k<10->MW k v (qN f c)=qN (λj=>if j=k then v else f j) c
 | 0,_ | 1,_ | 2,_ | 3,_ | 4,_ | 5,_ | 6,_ | 7,_ | 8,_ | 9,_=>rfl
 | k+10,h=>by omega
theorem afr{X:Type}(f:Nat->L X){v:Int}{u:Nat}(h:v=(u:Int)):∀ {n:Nat},u<=n->MY f v n=f u
 | 0,hu=>by
  obtain rfl:u=0:=by omega
  rfl
 | n+1,hu=>by
  unfold MY;simp only[kv,cD,h];by_cases e:u=n+1
  ·rw[if_pos (by omega),e]
  ·rw[if_neg (by omega)];exact afr f rfl (by omega)
theorem axq(mG:∀ u,(cL c w u).length<=12){z:j_}{g:Nat->List b6}{k:Nat}(aj:k<10)(aB:g k=cL c w k) :
  dI (MX k) (Int.ofNat k,Int.ofNat (List.length (cL c w k)),0,w,qN g z)=mpure (if jc (cL c w k)=true then .az (Int.ofNat k,w,qN g z) else .aX (.aX (none,false,z))):=by
 have aF:o5 k (qN g z)=cL c w k:=(Uz g z k aj).trans aB;refine axn (cL c w k) _ _ (λi G=>?_) ?_
 ·have hw:=bA (n:=(i:Int)+1) (by omega) (by have:=mG k;omega);unfold MX;simp only[cD,dQ G,if_true,aF,dH G,d' G,ck];rcases Nat.mod_two_eq_zero_or_one i with hm | hm
  ·have ay:decide (Int.tmod (i:Int) 2=1)=false:=by rw[afd,hm];rfl
   simp only[ay,amW,aQv,FY,aP,db];rw[bd (by decide),aF];refine (afp (mG k) G (by rw[hm];rfl) _ _).trans ?_;simp only[dn,hw];cases tB (cL c w k) i<;>rfl
  ·have ay:decide (Int.tmod (i:Int) 2=1)=true:=by rw[afd,hm];rfl
   simp only[ay,if_true,FY,aP,db];rw[bd (by decide),aF];refine (afp (mG k) G (by rw[hm];rfl) _ _).trans ?_;simp only[dn,hw];cases tB (cL c w k) i<;>rfl
 ·unfold MX;simp
theorem afs{c:bb}{w:z1'}(hlen:∀ u,(qJ c w u).length<=12)(mG:∀ u,(cL c w u).length<=12){z:j_}:∀ n k,k+n=10->
  Ig Ep tv.sh n k (w,qN (λu=>if u<k then cL c w u else qJ c w u) z)=mpure (if ((List.range' k n).all λu=>jc (cL c w u))=true then .az (w,qN (λu=>cL c w u) z) else .aX (none,false,z))
 | 0,k,h=>by
  unfold Ig;rw[Uy (g:=λu=>cL c w u) λu hu=>if_pos (by omega)];rfl
 | n+1,k,h=>by
  have aj:k<10:=by omega
  have ax:Ep (tv.sh,qJ c w k,())=mpure (cL c w k,()):=axo (hlen k);have hw:=bA (n:=(k:Int)+1);have bB:MW k (cL c w k) (qN (λu=>if u<k then cL c w u else qJ c w u) z)=qN (λu=>if u<k+1 then cL c w u else qJ c w u) z:=by
   rw[afq _ _ _ _ aj];exact Uy (λu hu=>by
    by_cases e:u=k
    ·subst e;simp
    ·by_cases bB:u<k
     ·simp[e,bB,show u<k+1 by omega]
     ·simp[e,bB,show ¬u<k+1 by omega]) _
  unfold Ig;dsimp only;rw[bd (by simp only[cD];omega),Uz _ _ _ aj,if_neg (Nat.lt_irrefl k),ax,aP];simp only[bB];rw[axq mG aj (if_pos (aRe k)),aP,aSd,aRd];cases jc (cL c w k) with
  | false=>rfl
  | true=>
   simp only[if_true,aRL,db];rw[bd (by simp only[cD,dn,hw];omega)];exact afs hlen mG n (k+1) (by omega)
theorem UA(x):a_ (aeP wg.sh Ep tv.sh x) (xY x):=bu λh=>by
 obtain⟨w,z⟩:=x;obtain⟨E,M,al⟩:=h;change c_ (mK z)=0 at E;change sn (mK z) w at M;change z.jb=gH (mK z) at al;show _=mpure (if wu (mK z) w=true then (some (w,pT (mK z) w),true,z) else (none,false,z));generalize uK:mK z=c at *
 have aB:=o8 E;have ai:=aB.Up;have q8:∀ s∈gH c,nk c.1.length s=true:=λs ax=>aB.EA ax;have aA:=aB.eH;have hlen:∀ u,(qJ c w u).length<=12:=λu=>am5 (afo (gH c) w u) ai;have mG:∀ u,(cL c w u).length<=12:=λu=>Ip aB w u;have so:∀ u,xX z.jb w u=qJ c w u:=λu=>by rw[al];rfl
 rw[<-al]at ai q8;clear al;unfold aeP bF cy bl bh aY b4 bg bY;rw[show wg.sh w=mpure w from bO (show w.length<=3000000 by have:=M.1;omega) _];simp only[aP,db,ck];refine (congrArg (λm=>ar m _) (e2 z.jb (λi (_:Unit)=>(w,z.jb,(z.jb.length:Int),(i:Int),w,qN (λu=>xX (z.jb.take i) w u) z)) (λ_ b=>.az b) (λ_=>.az (w,qN (λu=>qJ c w u) z)) () ?_ ?_ ?_)).trans ?_
 ·simp only[cD,List.take_zero];rfl
 ·intro i G b;obtain⟨aO,aT,b7,gZ⟩:=axp (c:=c) ai q8 M G;have hw:=bA (n:=(i:Int)+1);have hv:∀ u,b2 (Add.add (xX (z.jb.take i) w u).length (Add.add 0 1)):=λu=>hk (by have:=afo (z.jb.take i) w u;rw[aRb]at this;simp only[kv];omega);obtain⟨u,hu⟩:∃ u:Nat,z.jb[i].2.2.2.2.1=(u:Int):=⟨z.jb[i].2.2.2.2.1.toNat,by omega⟩
  have axr:u<=9:=by omega
  simp only[cD,dQ G,if_true,d' G,dH G,ck];rw[bd (show (0<=z.jb[i].2.2.2.2.1/\z.jb[i].2.2.2.2.1<((10:Nat):Int)) from⟨aO,by omega⟩),afr _ hu axr];unfold aeO;simp only[d' G,cD,Uz _ _ u (show u<10 by omega),afq _ _ _ u (show u<10 by omega)];rw[bd trivial,bd (by omega),bd b7,bd (hv _),bd trivial,bd (by omega),aP,db];simp only[dn,hw,gZ];refine congrArg (λq=>mpure (aL.az (w,z.jb,(z.jb.length:Int),((i:Int)+1),w,q))) ?_;refine Uy (λj aM=>?_) _;rw[axk G,hu];by_cases e:j=u
  ·subst e;rw[if_pos rfl,if_pos rfl,<-hu]
  ·rw[if_neg e,if_neg (by omega)]
 ·intro b;simp only[aQ4,so];simp
 ·rw[ew,aP,db];have bQ:=afs (c:=c) (w:=w) hlen mG (z:=z) 10 0 rfl;rw[bd (by decide)];rw[show (λu:Nat=>if u<0 then cL c w u else qJ c w u)=λu:Nat=>qJ c w u from funext λu=>if_neg (Nat.not_lt_zero u)]at bQ;rw[bQ,aP];have aF:((List.range' 0 10).all λu=>jc (cL c w u))=wu c w:=by
   rw[axl];simp[List.range']
  rw[aF];cases wu c w<;>rfl
abbrev k5(c:bb)(w:z1'):Option hh:=some (w,pT c w)
abbrev axs(f:Nat)(x:z1'×j_):Prop:=c_ (mK x.2)=0/\Ux x.2=gH (mK x.2)/\x.1.length<=(mK x.2).1.length/\(mK x.2).1.length<x.1.length+f/\u1 (mK x.2) x.1=true/\(afn x.2).length+mq ((mK x.2).1.drop x.1.length)<=60
def BZ(f:Nat)(x:z1'×j_):L j_:=eF (axs f x) (Iw (mK x.2) (Ux x.2) (afn x.2++(nW (mK x.2) ((mK x.2).1.drop x.1.length) x.1).map (k5 (mK x.2))))
theorem axt(x):¬(BZ 0 x).fr:=λh=>by have E:=h.2.2.1;have M:=h.2.2.2.1;omega
theorem axu:u1 c (w++[n])=(u1 c w&&cz n (c.1.getD w.length (0,0)).1 (c.1.getD w.length (0,0)).2):=by
 grind [u1]
theorem axv(ai:w.length=c.1.length)(h:u1 c w=true):j2 c w=wu c w:=by
 grind [j2,wu]
set_option maxHeartbeats 1000000 in
theorem axw(f:Nat)(x):a_ (aeR (BZ f) xY x) (BZ (f+1) x):=bu λh=>by
 obtain⟨w,a0,cH,b1,ek,gp,gl,ir,iu,j1,fK,jC,l,t,u⟩:=x;obtain⟨E,M,al,a7,bR,er⟩:=h;change c_ (a0,cH,b1,ek,gp,gl,ir,iu,j1,fK,jC)=0 at E;change l=gH (a0,cH,b1,ek,gp,gl,ir,iu,j1,fK,jC) at M;change w.length<=a0.length at al;change a0.length<w.length+(f+1) at a7;change u1 (a0,cH,b1,ek,gp,gl,ir,iu,j1,fK,jC) w=true at bR;change t.length+mq (a0.drop w.length)<=60 at er;show _=mpure (Iw (a0,cH,b1,ek,gp,gl,ir,iu,j1,fK,jC) l (t++(nW (a0,cH,b1,ek,gp,gl,ir,iu,j1,fK,jC) (a0.drop w.length) w).map (k5 (a0,cH,b1,ek,gp,gl,ir,iu,j1,fK,jC))));have aB:=o8 E;have aA:a0.length<=3:=aB.eH;unfold aeR bF cy bJ bl bh aY pL bg ed bY;simp only[Prod.cv,Prod.fI,Prod.h8,Prod.k2,Prod.ni,Prod.mJ,Prod.jb,Prod.pQ,Prod.qF,Prod.wb,Prod.H_,Prod.TY,Prod.Ia,Prod.Ib,Prod.Ic,cD,ck];by_cases ai:w.length=a0.length
 ·rw[if_pos (by simp only[am0];omega)];have axx:sn (a0,cH,b1,ek,gp,gl,ir,iu,j1,fK,jC) w:=afl aB ai bR;have au:xY (w,a0,cH,b1,ek,gp,gl,ir,iu,j1,fK,jC,l,t,())=mpure (if wu (a0,cH,b1,ek,gp,gl,ir,iu,j1,fK,jC) w=true then (k5 (a0,cH,b1,ek,gp,gl,ir,iu,j1,fK,jC) w,true,a0,cH,b1,ek,gp,gl,ir,iu,j1,fK,jC,l,t,()) else (none,false,a0,cH,b1,ek,gp,gl,ir,iu,j1,fK,jC,l,t,())):=bO ⟨E,axx,M⟩ _;rw[au,aP,ai,List.drop_length];unfold nW;rw[axv ai bR];cases aj:wu (a0,cH,b1,ek,gp,gl,ir,iu,j1,fK,jC) w with
  | true=>
   rw[if_pos rfl,if_pos rfl,bd (hk (by simp only[kv];omega)),aP,db];rfl
  | false=>
   simp only[amW,aQv,aP,db,List.map_nil,aQD]
 ·have dx:w.length<a0.length:=by omega
  rw[if_neg (by simp only[am0];omega),bd (show (0:Int)<=(w.length:Int)/\(w.length:Int)<(a0.length:Int) by omega)];rw[aQy dx]at er ⊢;simp only[aQI,xP dx];have ax:=aB.clk _ (amV dx);change -30<=a0[w.length].1/\a0[w.length].1<=a0[w.length].2/\a0[w.length].2<=30 at ax;have qO:a0.getD w.length (0,0)=a0[w.length]:=xP dx;generalize a0[w.length]=s at *
  unfold mq at er;have Ix:∀ n (ts:List (Option hh)),s.1<=n->n<=s.2->ts.length+mq (a0.drop (w.length+1))<=60->BZ f (w++[n],a0,cH,b1,ek,gp,gl,ir,iu,j1,fK,jC,l,ts,())=mpure (Iw (a0,cH,b1,ek,gp,gl,ir,iu,j1,fK,jC) l (ts++(nW (a0,cH,b1,ek,gp,gl,ir,iu,j1,fK,jC) (a0.drop (w.length+1)) (w++[n])).map (k5 (a0,cH,b1,ek,gp,gl,ir,iu,j1,fK,jC)))):=by
   intro n ts aO aT b7;refine (bO ⟨E,M,?_,?_,?_,?_⟩ _).trans (congrArg mpure ?_)
   ·show Iw (a0,cH,b1,ek,gp,gl,ir,iu,j1,fK,jC) l (ts++(nW (a0,cH,b1,ek,gp,gl,ir,iu,j1,fK,jC) (a0.drop (w++[n]).length) (w++[n])).map (k5 (a0,cH,b1,ek,gp,gl,ir,iu,j1,fK,jC)))=_;rw[aQW,aRQ]
   ·show (w++[n]).length<=a0.length;simp;omega
   ·show a0.length<(w++[n]).length+f;simp;omega
   ·show u1 (a0,cH,b1,ek,gp,gl,ir,iu,j1,fK,jC) (w++[n])=true;rw[axu,bR];show (true&&cz n (a0.getD w.length (0,0)).1 (a0.getD w.length (0,0)).2)=true;rw[qO,aRL];exact pS.2 ⟨aO,aT⟩
   ·show ts.length+mq (a0.drop (w++[n]).length)<=60;rw[aQW,aRQ];exact b7
  rw[eW (fy s.1 s.2) (λi (ts:List (Option hh))=>(w,(w.length:Int),s.1+(i:Int),a0,cH,b1,ek,gp,gl,ir,iu,j1,fK,jC,l,ts,())) (λn ts=>.az (ts++(nW (a0,cH,b1,ek,gp,gl,ir,iu,j1,fK,jC) (a0.drop (w.length+1)) (w++[n])).map (k5 (a0,cH,b1,ek,gp,gl,ir,iu,j1,fK,jC)))) (λts=>(a0,cH,b1,ek,gp,gl,ir,iu,j1,fK,jC,l,ts,())) (λi ts=>ts.length<=t.length+i*mq (a0.drop (w.length+1))) t ?_ ?_ ?_ ?_]
  ·rw[ew,afm (f:=λn=>(nW (a0,cH,b1,ek,gp,gl,ir,iu,j1,fK,jC) (a0.drop (w.length+1)) (w++[n])).map (k5 (a0,cH,b1,ek,gp,gl,ir,iu,j1,fK,jC)))];rw[<-List.map_flatMap];rfl
  ·rw[Int.natCast_zero,Int.add_zero]
  ·simp
  ·intro i G ts au;rw[D_]at G;have hw:=bA (n:=s.1+(i:Int)+1);have ay:decide (s.1+(i:Int)<=s.2)=true:=by simpa using (by omega:s.1+(i:Int)<=s.2)
   have hle:=Ut (a0,cH,b1,ek,gp,gl,ir,iu,j1,fK,jC) (a0.drop (w.length+1)) (w++[s.1+(i:Int)]);have axy:ts.length+mq (a0.drop (w.length+1))<=60:=by
    have:(i+1)*mq (a0.drop (w.length+1))<=(s.2 - s.1+1).toNat*mq (a0.drop (w.length+1)):=am4 _ (by omega);rw[Nat.succ_mul]at this;omega
   refine⟨?_,λbk dZ=>?_⟩
   ·simp only[aQI,qO,ay,if_true,dn,hw,H7,aQ4];rw[bd (by omega),bd ⟨by omega,by omega,trivial,by omega⟩,bd ⟨by simp only[kv];omega,hk (by simp only[kv];omega)⟩,Ix _ ts (by omega) (by omega) axy,aP];simp only[aL.pM];rw[show s.1+((i+1:Nat):Int)=s.1+(i:Int)+1 from by omega]
   ·simp only[aL.az.injEq,H7]at dZ;subst dZ;rw[aQW,aQJ,Nat.succ_mul];omega
  ·intro ts au;rw[D_];have ay:decide (s.1+(((s.2 - s.1+1).toNat:Nat):Int)<=s.2)=false:=by simpa using (by omega:s.2<s.1+(((s.2 - s.1+1).toNat:Nat):Int))
   simp only[aQI,qO,ay,amW,aQv,aP];rw[bd (by omega)]
abbrev xZ:bb:=([],[],[],[],0,0,0,0,0,0,0)
abbrev ED:aQ:=⟨.aw i' (.bP kx),d_,λx=>∃ c:bb,x.2=some c/\c.2.2.1.length<2 ^ 63,λx=>(x.2.getD xZ).2.2.1.contains (oy x.1)⟩
theorem UB(x):a_ (aet sj.sh x) (ED.sh x):=bu λh=>by
 obtain⟨s,o⟩:=x;obtain⟨c,hc,h⟩:=h;subst hc;unfold aet;simp only[aQs];rw[show sj.sh (c.2.2.1,s.1)=mpure (c.2.2.1.contains s.1) from bO h _,aP]
abbrev x0(c:bb):h7:=(c,gH c,(dw c).map (k5 c))
def Iy(c:bb)(f:Option h7->L Bool):Bool:=(f (some (c,gH c,[]))).val false
def jd(c:bb)(b:Bool):Option h7×Int:=if c_ c≠0 then (none,c_ c) else if b=false then (none,1) else if dw c=[] then (none,3) else (some (x0 c),0)
abbrev qP:aQ:=⟨.aw kx (.fn (.bP we) .bool),.aw (.bP we) bK,λx=>iN x.1/\(c_ x.1=0->∃ b,x.2 (some (x.1,gH x.1,[]))=mpure b),λx=>jd x.1 (Iy x.1 x.2)⟩
theorem axz(aB:im c):M9 ((λs=>ED.sh (s,some c)),eg c.2.1,())=mpure ((0,(gH c).length),gH c++List.replicate ((eg c.2.1).length - (gH c).length) lX,()):=by
 have ag:∀ s,ED.sh (s,some c)=mpure (c.2.2.1.contains s.1):=λs=>bO ⟨c,rfl,by have:=aB.jJ;omega⟩ _;have e:((eg c.2.1).filter λs=>!(ED.sh (s,some c)).val false)=gH c:=by
  simp_all[gH]
 have:=awL c.2.1;refine (bO ⟨show (eg c.2.1).length<2 ^ 63 by omega,λs _=>⟨_,ag s⟩⟩ _).trans (congrArg mpure ?_);grind
set_option maxHeartbeats 1000000 in
theorem UC(x):a_ (ad' iU.sh M7 M9 (BZ 5) ED.sh x) (qP.sh x):=bu λh=>by
 obtain⟨c,f⟩:=x;obtain⟨h,aC⟩:=h;change iN c at h;change c_ c=0->∃ b,f (some (c,gH c,[]))=mpure b at aC;unfold ad' cy bl aY pL bg;show _=mpure (jd c (Iy c f));unfold jd;rw[show iU.sh c=mpure (c_ c) from bO h.iR _];simp only[aP,am0];by_cases hc:c_ c=0
 ·simp only[hc,ne_eq,not_true_eq_false,aQv];have aB:=o8 hc;obtain⟨b,U⟩:=aC hc;have E:=aB.eH;have hid:=M8 aB.kX;rw[show M7 (c.2.1,())=mpure (true,eg c.2.1,()) from bO ⟨hid,(xR _).2 aB.qI⟩ _,aP];simp only[ck];rw[axz aB,aP];have tA:List.drop 0 (List.take (gH c).length (gH c++List.replicate ((eg c.2.1).length - (gH c).length) lX))=gH c:=by
   rw[List.drop_zero,List.take_left]
  simp only[tA];unfold Iy;simp only[U,kN,aP];cases b with
  | false=>simp
  | true=>
   simp only[aRc,amW,aQv,aP,db,reduceCtorEq];simp only[Prod.cv,Prod.fI,Prod.h8,Prod.k2,Prod.ni,Prod.mJ,Prod.jb,Prod.pQ,Prod.qF,Prod.wb,Prod.H_,Prod.TY,Prod.Ia,Prod.Ib,Prod.Ic,tA];have qO:BZ 5 ([],c.1,c.2.1,c.2.2.1,c.2.2.2.1,c.2.2.2.2.1,c.2.2.2.2.2.1,c.2.2.2.2.2.2.1,c.2.2.2.2.2.2.2.1,c.2.2.2.2.2.2.2.2.1,c.2.2.2.2.2.2.2.2.2.1,c.2.2.2.2.2.2.2.2.2.2,gH c,[],())=mpure (Iw c (gH c) ((dw c).map (k5 c))):=bO ⟨hc,rfl,aQF _,show c.1.length<0+5 by omega,rfl,show 0+mq c.1<=60 by have:=h.2 hc;omega⟩ _;rw[qO,aP];simp only[cD,aQJ];by_cases aH:dw c=[]
   ·simp[aH]
   ·have:¬((dw c).length:Int)=0:=λe=>aH (aQS (by omega));simp only[this,aH,aQv]
 ·simp only[hc,ne_eq,not_false_eq_true,if_true]
def EE(l:List (Option hh))(f:Option hh->L (z27')):Option (z11'):=BU (l.filterMap λt=>if ((f t).val (0,false)).2=true then some ((f t).val (0,false)).1 else none)
abbrev EF:aQ:=⟨.aw (.bP we) (.fn (.bP BK) (.aw bK .bool)),.aw o6 .bool,λx=>∃ b:h7,x.1=some b/\b.2.2.length<=60/\∀ t∈b.2.2,∃ r,x.2 t=mpure r,λx=>((EE (x.1.getD (xZ,[],[])).2.2 x.2).getD (0,0),(EE (x.1.getD (xZ,[],[])).2.2 x.2).isSome)⟩
theorem aft{af bet fs:Type}(g:af->Option bet)(h:fs->bet->fs):∀ (l:List af) (b:fs),l.foldl (λb x=>(g x).elim b λy=>h b y) b=(l.filterMap g).foldl h b
 | [],b=>rfl
 | x::l,b=>by
  simp;rw[aft g h l];grind
theorem axA(x):a_ (aei x) (EF.sh x):=bu λh=>by
 obtain⟨o,f⟩:=x;obtain⟨b,U,ai,aC⟩:=h;subst U;unfold aei bF cy bJ bl bh aY b4 vH bg bY;simp only[aQG,ck,aQs];change ∀ t∈b.2.2,∃ r,f t=mpure r at aC;generalize b.2.2=l at *
 rw[e2 l (λi o=>(f,o.isSome,l,(l.length:Int),(i:Int),o.getD (0,0),())) (λt o=>.az ((if ((f t).val (0,false)).2=true then some ((f t).val (0,false)).1 else none).elim o λn=>some (Nb o n))) (λo=>.az (o.isSome,o.getD (0,0),())) none ?_ ?_ ?_]
 ·rw[ew,aft (λt=>if ((f t).val (0,false)).2=true then some ((f t).val (0,false)).1 else none) (λo n=>some (Nb o n)),aP];rfl
 ·rfl
 ·intro i G o;have hw:=bA (n:=i+1);obtain⟨r,D⟩:=aC _ (amV G);simp only[cD,dQ G,d' G,dH G,D];obtain⟨n,cb⟩:=r;cases cb with
  | false=>simp_all
  | true=>
   cases o with
   | none=>simp  [hw];rfl
   | some s=>
    simp  [hw];rw[aw2,aw4];rfl
 simp
section
variable {af:Type}
def afu(x:Nat×List (Int×af)×(Nat×(z1'->Prop)×z1'×Bool)×Unit):L ((Nat×(z1'->Prop)×z1'×Bool)×Unit):=
 ar (mpure ()) λy=>dI (λ(A:Nat×(Nat×(z1'->Prop)×z1'×Bool)×(Option (Int×af)×List (Int×af))×Unit)=>
 ar (Lu A.2.2.1.2) λy=>if Option.isSome y=true then ar (ah (Option.isSome (qq A.2.2.1.1 A.2.2.1.2 y)=true) (mpure ())) λcp
 =>ar (ah (A.1=A.2.1.1/\A.2.1.2.2.2=false/\∃ (T:z1'),A.2.1.2.1 (A.2.1.2.2.1++Option.getD (Option.map (λx=>x.1) (qq
 A.2.2.1.1 A.2.2.1.2 y)) 0::T)) (mS λx=>True)) λef=>if (!ef)=true then ar (mpure ((A.2.1.1,A.2.1.2.1,A.2.1.2.2.1++
 [Option.getD (Option.map (λx=>x.1) (qq A.2.2.1.1 A.2.2.1.2 y)) 0],!ef),())) λr=>mpure (aL.aX r) else mpure (aL.az (A.1,(A.2.1.1,A.2.1.2.1,A.2.1.2.2.1++[Option.getD (Option.map (λx=>x.1) (qq A.2.2.1.1 A.2.2.1.2 y)) 0],!ef),(qq A.2.2.1.1 A.2.2.1.2 y,G4 A.2.2.1.2 y),())) else ar (mpure (A.2.1,())) λr=>mpure (aL.aX r)) (x.1,x.2.2.1,(none,x.2.1),())
theorem afv{bet:Type}:∀ (l:List bet) (i:Nat) (h:i<l.length),(l[i]::l.eraseIdx i).Perm l
 | x::l,0,_=>.refl _
 | x::l,i+1,h=>by
  exact (List.Perm.swap x _ _).trans ((afv l i (by grind)).cons x)
theorem afw(l:Nat)(m:List (Int×af)):c8 (afu (l,m,(l,lV (some m),[],false),())) λy=>y.1.2.2.2=false->lV (some m) y.1.2.2.1:=by
 unfold afu;rw[aP];refine Ah (λA=>∃ p c b9,A=(l,(l,lV (some m),p,false),(c,b9),())/\(m.map (·.1)).Perm (p++b9.map (·.1))) (λA=>A.2.2.1.2.length) ?_ _ ⟨[],none,m,rfl,.refl _⟩;rintro A ⟨p,c,b9,rfl,ak⟩;rw[fS];refine⟨trivial,λy bf=>?_⟩;cases y with
 | none=>
  have D:b9=[]:=bf;grind [aP,dR,xO]
 | some i=>
  have G:i<b9.length:=bf;have aA:qq c b9 (some i)=some b9[i]:=am3 G;have D:G4 b9 (some i)=b9.eraseIdx i:=rfl;have yJ:(m.map (·.1)).Perm (p++b9[i].1::(b9.eraseIdx i).map (·.1)):=ak.trans (List.Perm.append_left p ((afv b9 i G).symm.map (·.1)));simp only[aQG,if_true,aA,ck,aP,aR2,aQs];rw[fS,ib];refine⟨⟨trivial,trivial,(b9.eraseIdx i).map (·.1),xO.2 yJ⟩,⟨true,trivial⟩,λb _=>?_⟩;grind [dR]
end
theorem axB(l:Nat)(m:z4'):c8 (T9 (l,m,(l,lV (some m),[],false),())) λy=>y.1.2.2.2=false->lV (some m) y.1.2.2.1:=afw l m
theorem axC(l:Nat)(m:List (Int×bt)):c8 (T_ (l,m,(l,lV (some m),[],false),())) λy=>y.1.2.2.2=false->lV (some m) y.1.2.2.1:=afw l m
def dM(cl:z4'):List b6->List b6
 | a::b::r=>(a.1,oA cl a.2 b.2)::dM cl r
 | _=>[]
def Iz(c:bb)(hK:List (List b6)):Prop:=hK.length=10/\∀ l∈hK,l.length<=12/\∀ i,(h:i+1<l.length)->EB (c,l[i].2,l[i+1].2)
def u2(c:bb)(hK:List (List b6)):List b6:=hK.flatMap (dM c.2.2.2.1)
def wv(x:Option (Option hh)×Option (Option h7))(ad:List b6):Prop:=∃ t b,x.1=some (some t)/\x.2=some (some b)/\Iz b.1 t.2/\ad=u2 b.1 t.2
theorem axD(h:i+1<l.length):dM cl (l.drop i)=(l[i].1,oA cl l[i].2 l[i+1].2)::dM cl (l.drop (i+2)):=by
 rw[aQy (by omega),aQy h];rfl
theorem axE(h:¬i+1<l.length):dM cl (l.drop i)=[]:=by
 have:(l.drop i).length<=1:=by grind
 match h:l.drop i with
 | []=>rfl
 | [_]=>rfl
 | _::_::_=>grind
set_option maxHeartbeats 1000000 in
theorem axF(fO:Nat)(t:hh)(b:h7)(h:Iz b.1 t.2):c8 (MV zd.sh (fO,some t,some b,(fO,wv (some (some t),some (some b)),[],false),())) λy=>y.1.2.2.2=false->wv (some (some t),some (some b)) y.1.2.2.1:=by
 obtain⟨E,M⟩:=h;have uO:∀ ad,wv (some (some t),some (some b)) ad<->ad=u2 b.1 t.2:=λad=>⟨λ⟨dO,bk,aF,bB,_,e⟩=>by cases aF;cases bB;exact e,λe=>⟨t,b,rfl,rfl,⟨E,M⟩,e⟩⟩
 generalize wv (some (some t),some (some b))=S at *
 unfold MV e1 hy bF cy bl bh di j0 b4 pL bg bY dy v_;simp only[aQG,ck,aQs];refine Ah (λA=>∃ (u:Nat),u<=10/\A=(fO,some b,t.2,(u:Int),(fO,S,(t.2.take u).flatMap (dM b.1.2.2.2.1),false),())) (λA=>(10 - A.2.2.2.1).toNat) ?_ _ ⟨0,by omega,rfl⟩;rintro A ⟨u,hu,rfl⟩;by_cases Hg:u<10
 ·have ay:decide ((u:Int)<10)=true:=by simpa using (by omega:(u:Int)<10)
  have v8:u<t.2.length:=by omega
  have axG:=bA (n:=(u:Int)+1);have hm:=amV v8;obtain⟨al,a7⟩:=M _ hm;simp only[ay,if_true,d' v8];rw[bd (show (0:Int)<=(u:Int)/\(u:Int)<Int.ofNat 10 by rw[cD];omega)];have gA:u2 b.1 t.2=(t.2.take u).flatMap (dM b.1.2.2.2.1)++(dM b.1.2.2.2.1 t.2[u]++(t.2.drop (u+1)).flatMap (dM b.1.2.2.2.1)):=by
   unfold u2;conv=>lhs;rw[<-aRP u t.2,aQy v8]
   simp only[aRM,aQV]
  generalize axH:t.2[u]=l0 at *
  generalize (t.2.drop (u+1)).flatMap (dM b.1.2.2.2.1)=R at *
  generalize jX:(t.2.take u).flatMap (dM b.1.2.2.2.1)=P at *
  have axI:(t.2.take (u+1)).flatMap (dM b.1.2.2.2.1)=P++dM b.1.2.2.2.1 l0:=by
   rw[aRu,am3 v8,aR4,aRM,jX,axH];simp
  rw[fS];refine (Ah (p:=λz=>match z with | .az z=>z=(fO,some b,t.2,(u:Int),(fO,S,P++dM b.1.2.2.2.1 l0,false),()) | .aX z=>(match z with | .az _=>False | .aX y=>y.1.2.2.2=true)) (λA=>∃ (i:Nat) (Q:List b6),i<=l0.length+1/\Q++dM b.1.2.2.2.1 (l0.drop i)=dM b.1.2.2.2.1 l0/\A=(fO,some b,l0,(i:Int),t.2,(u:Int),(fO,S,P++Q,false),())) (λA=>(20 - A.2.2.2.1).toNat) ?_ _ ⟨0,[],by omega,by simp,by simp⟩).mono λz bz=>?_
  ·rintro A ⟨i,Q,sY,qw,rfl⟩;have hw:=bA (n:=(i:Int)+1);have gJ:=bA (n:=(i:Int)+2);by_cases G:i+1<l0.length
   ·have afx:i<l0.length:=by omega
    have ay:decide ((i:Int)+1<(l0.length:Int))=true:=by simpa using (by omega:(i:Int)+1<(l0.length:Int))
    have cN:(0:Int)<=(i:Int)+1/\(i:Int)+1<(l0.length:Int):=⟨by omega,by omega⟩
    have ka:l0.getD ((i:Int)+1).toNat ((0,0,0,0,0,0),0)=l0[i+1]:=by
     rw[show ((i:Int)+1).toNat=i+1 from by omega,xP G]
    have em:zd.sh (b.1,l0[i].2,l0[i+1].2)=mpure (oA b.1.2.2.2.1 l0[i].2 l0[i+1].2):=bO (a7 i G) _;simp only[Prod.cv,Prod.fI,cD,dn,hw,ay,if_true,d' afx,dH afx,cN,ka,aQG,aQs,em,tV,kN,aRx,ck,aR8];rw[fS,ib];have dj:=axD (cl:=b.1.2.2.2.1) G;refine⟨⟨trivial,trivial,dM b.1.2.2.2.1 (l0.drop (i+2))++R,(uO _).2 ?_⟩,⟨true,trivial⟩,λy _=>?_⟩
    ·rw[gA,<-qw,dj];simp
    ·cases y with
     | false=>
      simp only[aRh,if_true,aP];exact dR.2 rfl
     | true=>
      simp only[aRc,amW,aQv,gJ];refine dR.2 ⟨⟨i+2,Q++[(l0[i].1,oA b.1.2.2.2.1 l0[i].2 l0[i+1].2)],by omega,?_,?_⟩,?_⟩
      ·rw[<-qw,dj];simp
      ·rw[aQ1];rfl
      ·show (20 - ((i:Int)+2)).toNat<(20 - (i:Int)).toNat;omega
   ·have ay:decide ((i:Int)+1<(l0.length:Int))=false:=by simpa using (by omega:(l0.length:Int)<=(i:Int)+1)
    simp only[cD,dn,hw,ay,amW,aQv,aP];refine dR.2 ?_;rw[axE G,aQD]at qw;show (fO,some b,t.2,(u:Int),(fO,S,P++Q,false),())=_;rw[qw]
  ·cases z with
   | az z=>
    have bz:z=_:=bz;subst bz;simp only[db,dn,axG];refine dR.2 ⟨⟨u+1,by omega,?_⟩,?_⟩
    ·rw[axI];rfl
    ·show (10 - ((u:Int)+1)).toNat<(10 - (u:Int)).toNat;omega
   | aX z=>
    cases z with
    | az z=>exact absurd bz id
    | aX y=>
     have bz:y.1.2.2.2=true:=bz;simp only[uU];refine dR.2 λh=>?_;rw[bz]at h;cases h
 ·have Bn:u=10:=by omega
  subst Bn;simp only[show decide (((10:Nat):Int)<10)=false from by decide,amW,aQv,aP];refine dR.2 λ_=>(uO _).2 ?_;show (t.2.take 10).flatMap _=_;rw[<-E,aQ4];rfl
abbrev EG:aQ:=⟨.aw (.bP we) (.bP BK),.cI (.aw i' bK),λ_=>True,λx=>wv (some x.2,some x.1)⟩
theorem axJ(x):a_ (avU wv x) (EG.sh x):=bu λ_=>rfl
end Go.Fer.H
namespace Go.Fer.H
theorem EH{af bet:Type}{f:af->bet}:∀ {l:List af},(l.map f).Nodup->∀ {a b:af},a∈l->b∈l->f a=f b->a=b
 | [],_,a,b,aZ,_,_=>by grind
 | x::l,aA,a,b,aZ,U,e=>by
  rw[aQ0,List.nodup_cons]at aA;rcases List.mem_cons.1 aZ with E | E<;>rcases List.mem_cons.1 U with M | M
  ·grind
  ·grind
  ·grind
  ·exact EH aA.2 E M e
theorem axK{l m:z1'}(h:l.Perm m):l.sum=m.sum:=by
 induction h with
 | nil=>rfl
 | cons x _ aR=>grind
 | swap x y l=>grind
 | trans _ _ E M=>omega
variable {l:List b6}
theorem UD(h:jc l=true){i:Nat}(G:i<l.length):fz l[i].1=1+((i % 2:Nat):Int)/\(0<i->l[i].2≠(l.getD (i - 1) bQ).2):=by
 unfold jc at h;rw[aQL]at h;have:=h i (by grind);unfold tB at this;grind
theorem afy(cl:z4'):∀ l:List b6,(∀ i,(h:i<l.length)->fz l[i].1=1+((i % 2:Nat):Int))->dM cl l=((xS l).filter λp=>fz p.1.1 == 1).map λp=>(p.1.1,oA cl p.1.2 p.2.2)
 | [],_=>rfl
 | [_],_=>rfl
 | [a,b],h=>by
  have aZ:fz a.1=1:=h 0 (by simp);simp[dM,xS,aZ]
 | a::b::c::r,h=>by
  have aZ:fz a.1=1:=h 0 (by simp);have U:fz b.1=2:=h 1 (by simp);have aR:=afy cl (c::r) λi G=>by
   have:=h (i+2) (by grind);grind
  have e:xS (a::b::c::r)=(a,b)::(b,c)::xS (c::r):=rfl;rw[e,List.filter_cons_of_pos (by grind),List.filter_cons_of_neg (by grind),aQ0,<-aR];rfl
abbrev pU(c:bb)(w:z1'):List b6:=u2 c (pT c w)
theorem Ng(c:bb)(w:z1'):pU c w=(fy 0 9).flatMap λu=>dM c.2.2.2.1 (cL c w u):=by
 rfl
variable {c:bb}{w:z1'}
theorem UE(hw:j2 c w=true){u:Int}(hu:0<=u/\u<=9):iM c w u=cL c w u:=by
 unfold iM;rw[if_pos (Na hw hu)]
theorem axL{cl:z4'}(h:jc l=true)(k4:Int):Is cl k4 l=((dM cl l).find? λp=>p.1.1 == k4).map (·.2):=by
 rw[afy cl l λi G=>(UD h G).1];unfold Is;rw[List.find?_map,List.find?_filter,Option.map_map];refine congrArg _ (congrArg (λf=>(xS l).find? f) ?_);grind
theorem afz{af bet:Type}{f g:af->Option bet}:∀ {l:List af},(∀ x∈l,f x=g x)->l.findSome? f=l.findSome? g
 | [],_=>rfl
 | x::l,h=>by
  rw[List.findSome?_cons,List.findSome?_cons,h x (by simp),afz λy bf=>h y (by grind)]
theorem UF(hw:j2 c w=true)(k4:Int):lZ c w k4=((pU c w).find? λp=>p.1.1 == k4).map (·.2):=by
 unfold lZ;rw[Ng,List.find?_flatMap,List.map_findSome?];refine afz λu hu=>?_;have hu:=rD.1 hu;rw[UE hw hu,axL (Na hw hu)];rfl
theorem afA(aB:im c)(hw:j2 c w=true):Iz c (pT c w):=by
 have M:=Iu aB.Io hw;have key:∀ u:Int,0<=u/\u<=9->(cL c w u).length<=12/\∀ i,(h:i+1<(cL c w u).length)->EB (c,(cL c w u)[i].2,(cL c w u)[i+1].2):=by
  intro u hu;have:=UE hw hu;refine⟨Ip aB w u,?_⟩;have k:=λi=>@afg c aB w M u i;simp only[this]at k;exact k
 refine⟨rfl,λl ai=>?_⟩;simp only[pT,aRK,aRW,or_false]at ai;rcases ai with rfl | rfl | rfl | rfl | rfl | rfl | rfl | rfl | rfl | rfl<;>exact key _ (by omega)
theorem afB{cl:z4'}:∀ {l:List b6} {p:b6},p∈dM cl l->∃ i,∃ h:i+1<l.length,i % 2=0/\p=(l[i].1,oA cl l[i].2 l[i+1].2)
 | [],_,h=>by simp[dM]at h
 | [_],_,h=>by simp[dM]at h
 | a::b::r,p,h=>by
  unfold dM at h;rcases List.mem_cons.1 h with rfl | h
  ·exact⟨0,by simp,rfl,rfl⟩
  ·obtain⟨i,G,M,e⟩:=afB h;exact⟨i+2,by grind,by omega,e⟩
theorem afC(cl:z4'):∀ l:List b6,((dM cl l).map (·.1)).Sublist (l.map (·.1))
 | []=>.slnil
 | [_]=>List.nil_sublist _
 | a::b::r=>by
  unfold dM;simp only[aQ0];exact ((afC cl r).cons _).cons_cons _
theorem UG(l:List bt):((eg l).map (·.1)).Nodup:=by
 unfold eg;have key:∀ ad:z1',ad.Nodup->((ad.filterMap λid=>l.find? λs=>s.1 == id).map (·.1)).Nodup/\∀ k∈(ad.filterMap λid=>l.find? λs=>s.1 == id).map (·.1),k∈ad:=by
  grind
 refine (key _ ?_).1;unfold fy;show List.Pairwise _ _;rw[aRS];exact (aRw).imp λh=>by omega
theorem UH(c:bb):((gH c).map (·.1)).Nodup:=by
 unfold gH;exact (UG c.2.1).sublist (List.filter_sublist.map _)
theorem UI{a b:bt}(aZ:a∈gH c)(U:b∈gH c)(h:a.1=b.1):a=b:=by
 exact EH (UH c) aZ U h
theorem afD(c:bb)(w:z1')(u:Int):((cL c w u).map (·.1)).Perm ((gH c).filter λs=>decide (xK s=u)):=by
 unfold cL qJ;refine ((Ik ky _).map _).trans ?_;rw[aRZ];exact List.Perm.of_eq (List.map_id' _)
variable {p:b6}
theorem afE(h:p∈pU c w):∃ u,0<=u/\u<=9/\∃ i,∃ G:i+1<(cL c w u).length,i % 2=0/\p=((cL c w u)[i].1,oA c.2.2.2.1 (cL c w u)[i].2 (cL c w u)[i+1].2):=by
 rw[Ng,List.mem_flatMap]at h;obtain⟨u,hu,ak⟩:=h;obtain⟨i,G,M,e⟩:=afB ak;exact⟨u,(rD.1 hu).1,(rD.1 hu).2,i,G,M,e⟩
theorem EI(h:p∈pU c w):p.1∈gH c:=by
 obtain⟨u,_,_,i,G,_,rfl⟩:=afE h;exact (Iq (amV (by omega:i<(cL c w u).length))).1
theorem axM(hw:j2 c w=true)(h:p∈pU c w):fz p.1=1:=by
 obtain⟨u,E,M,i,G,al,rfl⟩:=afE h;have:=(UD (Na hw ⟨E,M⟩) (by omega:i<(cL c w u).length)).1;grind
theorem UJ(c:bb)(w:z1'):((pU c w).map (·.1)).Nodup:=by
 have hc:(gH c).Nodup:=by
  have:=UH c;exact List.Pairwise.of_map _ (λa b h e=>h (by rw[e])) this
 have hu:∀ u,((dM c.2.2.2.1 (cL c w u)).map (·.1)).Nodup/\∀ s∈(dM c.2.2.2.1 (cL c w u)).map (·.1),xK s=u:=by
  intro u;have ax:=afC c.2.2.2.1 (cL c w u);have ak:=afD c w u;grind
 rw[Ng,List.map_flatMap];have key:∀ ad:z1',ad.Nodup->(ad.flatMap λu=>(dM c.2.2.2.1 (cL c w u)).map (·.1)).Nodup/\∀ s∈(ad.flatMap λu=>(dM c.2.2.2.1 (cL c w u)).map (·.1)),xK s∈ad:=by
  grind
 refine (key _ ?_).1;unfold fy;show List.Pairwise _ _;rw[aRS];exact (aRw).imp λh=>by omega
theorem afF{af:Type}(B0:af->Int):∀ (l:List af) (n:Int),l.foldl (λn x=>n+B0 x) n=n+(l.map B0).sum
 | [],n=>by simp
 | x::l,n=>by simp only[aQQ,aQ0,List.sum_cons];rw[afF B0 l];omega
variable {af:Type}
theorem axN{f g:af->Int}{l:List af}(h:∀ x∈l,f x=g x):(l.map f).sum=(l.map g).sum:=by rw[aQz h]
theorem axO{psiq:b6->Int}:∀ (C:List bt) (H:List b6),(C.map (·.1)).Nodup->(H.map (·.1)).Nodup->(∀ p∈H,p.1∈C)->(C.map λs=>(((H.find? λp=>p.1.1 == s.1).map psiq).getD 0)).sum=(H.map psiq).sum:=by
 intro C H kH pw uz;have e:(H.map psiq).sum=((C.filterMap λs=>H.find? λp=>p.1.1 == s.1).map psiq).sum:=by
  refine axK (List.Perm.map psiq ?_);have axP:H.Nodup:=List.Pairwise.of_map _ (λa b h e=>h (by rw[e])) pw;refine (aRy axP ?_).2 λp=>?_
  ·have:∀ C:List bt,(C.map (·.1)).Nodup->(C.filterMap λs=>H.find? λp=>p.1.1 == s.1).Nodup/\∀ q∈(C.filterMap λs=>H.find? λp=>p.1.1 == s.1),q.1.1∈C.map (·.1):=by
    grind
   grind
  ·rw[List.mem_filterMap];constructor
   ·intro ak;refine⟨p.1,uz p ak,?_⟩;have hex:(H.find? λq=>q.1.1 == p.1.1).isSome=true:=List.find?_isSome.2 ⟨p,ak,by simp⟩;obtain⟨q,bC⟩:=Option.isSome_iff_exists.1 hex;have IA:q.1.1=p.1.1:=by grind
    have zh:=aQU bC;have DL:q.1=p.1:=EH kH (uz q zh) (uz p ak) IA;have:q=p:=EH pw zh ak DL;grind
   grind
 rw[e];have:∀ C:List bt,(C.map λs=>(((H.find? λp=>p.1.1 == s.1).map psiq).getD 0)).sum=((C.filterMap λs=>H.find? λp=>p.1.1 == s.1).map psiq).sum:=by
  intro C;induction C with
  | nil=>rfl
  | cons s C aR=>
   grind
 grind
def zi(c:bb)(g:Int)(p:b6):Int:=if kQ p.1=g then oB c.2.2.2.2 p.2 else 0
theorem axQ(hw:j2 c w=true)(g:Int):EC c w g=((pU c w).map (zi c g)).sum:=by
 rw[<-axO (psiq:=zi c g) (gH c) (pU c w) (UH c) (UJ c w) λp ak=>EI ak];unfold EC;have e:(λ(n:Int) (s:bt)=>if (fz s=1/\kQ s=g)/\(lZ c w (oy s)).isSome=true then n+oB c.2.2.2.2 ((lZ c w (oy s)).getD 0) else n)=λn s=>n+(if (fz s=1/\kQ s=g)/\(lZ c w (oy s)).isSome=true then oB c.2.2.2.2 ((lZ c w (oy s)).getD 0) else 0):=by
  grind
 rw[e,afF,aSc];refine axN λs ax=>?_;rw[UF hw];cases aC:(pU c w).find? λp=>p.1.1 == oy s with
 | none=>simp
 | some p=>
  have ak:=aQU aC;have E:p.1.1=s.1:=by grind
  have M:p.1=s:=UI (EI ak) ax E;have al:=axM hw ak;rw[M]at al;simp only[aR2,aQs,aQG,aR1,al,aSi,zi,M]
theorem EJ(c:bb)(b:Bool):((fq c b).2≠0/\(fq c b).1=[]/\jd c b=(none,(fq c b).2))\/(fq c b=(dw c,0)/\c_ c=0/\b=true/\jd c b=(some (x0 c),0)):=by
 unfold fq jd;grind
theorem UK{af bet:Type}{f g:af->Option bet}:∀ {l:List af},(∀ x∈l,f x=g x)->l.filterMap f=l.filterMap g
 | [],_=>rfl
 | x::l,h=>by
  rw[aRX,aRX,h x (by simp),UK λy bf=>h y (by grind)]
theorem afG:xU []=(0,0):=rfl
theorem axR(ad:List af)(P:af->Option hh)(f:Option hh->L (z27'))(v:af->z27')(h:∀ w∈ad,f (P w)=mpure (v w)):EE (ad.map P) f=BU (ad.filterMap λw=>if (v w).2=true then some (v w).1 else none):=by
 unfold EE;rw[List.filterMap_map];refine congrArg BU (UK λw hw=>?_);simp_all
theorem afH(B0:af->Int)(ad:List af):(ad.filterMap λw=>if ((B0 w,true):z27').2=true then some ((B0 w,true):z27').1 else none)=ad.map B0:=by
 simp
theorem UL(ai:(dw c).length<=60){f:Option hh->L (z27')}{v:z1'->z27'}(h:∀ w∈dw c,f (k5 c w)=mpure (v w)):EF.sh (some (x0 c),f)=mpure ((BU ((dw c).filterMap λw=>if (v w).2=true then some (v w).1 else none)).getD (0,0),(BU ((dw c).filterMap λw=>if (v w).2=true then some (v w).1 else none)).isSome):=by
 refine (bO ⟨x0 c,rfl,show ((dw c).map (k5 c)).length<=60 by grind,λt aH=>?_⟩ _).trans (congrArg mpure ?_)
 ·show ((EE ((dw c).map (k5 c)) f).getD (0,0),(EE ((dw c).map (k5 c)) f).isSome)=_;rw[axR _ _ f v h]
 grind
theorem axS:∀ {l:z1'},(BU l).isSome=!l.isEmpty:=by
 intro l;have key:∀ (l:z1') (o:Option (z11')),o.isSome=true->(l.foldl (λo n=>some (Nb o n)) o).isSome=true:=by
  intro l;induction l<;>grind
 cases l with
 | nil=>rfl
 | cons n l=>exact key l _ rfl
theorem IB{f:Option h7->L Bool}{b:Bool}(h:iN c)(aC:c_ c=0->f (some (c,gH c,[]))=mpure b):qP.sh (c,f)=mpure (jd c b):=by
 refine (bO ⟨h,λhc=>⟨b,aC hc⟩⟩ _).trans (congrArg mpure ?_);show jd c (Iy c f)=jd c b;unfold jd Iy;simp_all
theorem IC(h:iN c)(hc:c_ c=0):(dw c).length<=60:=am5 (Ut c _ _) (h.2 hc)
theorem zj(h:w∈dw c):j2 c w=true:=Uu c _ _ _ h
abbrev EK:aQ:=⟨.aw i' (.bP bK),d_,λx=>∃ k:Int,x.2=some k/\True,λx=>decide (oy x.1=x.2.getD 0)&&decide (fz x.1=1)⟩
theorem axT(x):a_ (avZ x) (EK.sh x):=bu λ_=>rfl
abbrev UM:aQ:=⟨.aw (.bP we) (.bP bK),d_,λx=>∃ (b:h7) (k:Int),x.2=some k/\x.1=some b/\b.2.1.length<2 ^ 63,λx=>(x.1.getD (xZ,[],[])).2.1.any λs=>oy s == x.2.getD 0&&fz s == 1⟩
theorem axU(x):a_ (aeu (h_ i').sh EK.sh x) (UM.sh x):=bu λh=>by
 obtain⟨o,k⟩:=x;obtain⟨b,_,_,U,h⟩:=h;subst U;unfold aeu;simp only[aQG,ck,aQs];have ag:∀ s,EK.sh (s,some (k.getD 0))=mpure (decide (oy s=k.getD 0)&&decide (fz s=1)):=λs=>bO ⟨_,rfl,trivial⟩ _;rw[show (h_ i').sh (b.2.1,λs=>EK.sh (s,some (k.getD 0)))=mpure (b.2.1.any λs=>(EK.sh (s,some (k.getD 0))).val false) from bO ⟨h,λs _=>⟨_,ag s⟩⟩ _,aP];refine congrArg mpure ?_;refine congrArg (λp=>b.2.1.any p) ?_;funext s;rw[ag,kN];rfl
theorem afI{f:Int->L Int}{n:Int}:∀ (ad:List b6),(∀ p∈ad,p.1.1=n->∃ v,f p.2=mpure v)->
  kr (λ(A:Int×(Int->L Int)×Int×Bool×Unit) (y:bt×Int)=>ar (if decide (y.1.1=A.1)=true then ar (A.2.1 y.2) λy=>mpure (dU.ret,y,true,()) else mpure
 (dU.normal,A.2.2.1,A.2.2.2.1,())) λp=>mpure (p.1,A.1,A.2.1,p.2.1,p.2.2.1,())) ad (n,f,0,false,())=(ad.find? λp=>p.1.1 == n).elim (mpure (dU.normal,n,f,0,false,())) λp=>mpure (dU.ret,n,f,(f p.2).val 0,true,())
 | [],_=>rfl
 | p::ad,h=>by
  unfold kr;by_cases ak:p.1.1=n
  ·obtain⟨v,ag⟩:=h p (by simp) ak;simp_all
  ·have aR:=afI ad λq bC=>h q (by grind);simp_all
abbrev UN:aQ:=⟨.aw (.bP BK) (.aw (.bP (.bP we)) (.aw (.bP bK) (.bP (.fn bK bK)))),.aw bK .bool,λx=>∃ (t:hh) (b:h7) (n:Int) (f:Int->L Int),x=(some t,some (some b),some n,some f)/\Iz b.1 t.2/\∀ p∈u2 b.1 t.2,p.1.1=n->∃ v,f p.2=mpure v,λx=>((u2 ((x.2.1.getD none).getD (xZ,[],[])).1 (x.1.getD ([],[])).2).find? λp=>p.1.1 == x.2.2.1.getD 0).elim (0,false) λp=>(((x.2.2.2.getD λ_=>eb) p.2).val 0,true)⟩
theorem axV(x):a_ (aev EG.sh x) (UN.sh x):=tm λh=>by
 obtain⟨t,b,n,f,rfl,E,M⟩:=h;unfold aev bl;simp only[aQs];rw[show EG.sh (some b,some t)=mpure (wv (some (some t),some (some b))) from rfl,aP,fS];refine⟨⟨_,t,b,rfl,rfl,E,rfl⟩,λad iJ=>?_⟩;obtain⟨dO,bk,aF,bB,_,rfl⟩:=iJ;cases aF;cases bB;rw[afI     _ M];cases (u2 b.1 t.2).find? λp=>p.1.1 == n with
 | none=>simp;exact dR.2 rfl
 | some p=>simp;exact dR.2 rfl
abbrev EL:aQ:=⟨.aw kx (.aw bK (.fn bK bK)),.aw o6 bK,λx=>iN x.1/\∀ w∈dw x.1,∀ m,c_ x.1=0->lZ x.1 w x.2.1=some m->∃ v,x.2.2 m=mpure v,λx=>(xU ((mr x.1 x.2.1).1.map λm=>(x.2.2 m).val 0),(mr x.1 x.2.1).2)⟩
theorem axW(x):a_ (aee qP.sh EF.sh UM.sh UN.sh x) (EL.sh x):=bu λh=>by
 obtain⟨c,n,f⟩:=x;obtain⟨h,aC⟩:=h;unfold aee bl;show _=mpure (xU ((mr c n).1.map λm=>(f m).val 0),(mr c n).2);unfold mr;rw[IB (b:=xT c n) h λhc=>bO ⟨(c,gH c,[]),n,rfl,rfl,by have:=(o8 hc).Up;grind⟩ _];rcases EJ c (xT c n) with⟨E,M,al⟩ | ⟨E,M,al,a7⟩
 ·rw[al];simp only[aP];rw[if_pos (by grind),if_pos E];rfl
 ·rw[E,a7];simp only[aP];have aB:=o8 M;rw[UL   (IC h M) λw hw=>?_,aP]
  ·have e:((dw c).filterMap λw=>if ((lZ c w n).elim ((0,false)) λm=>((f m).val 0,true)).2=true then some ((lZ c w n).elim ((0,false)) λm=>((f m).val 0,true)).1 else none)=((dw c).filterMap λw=>lZ c w n).map λm=>(f m).val 0:=by
    rw[List.map_filterMap];refine UK λw _=>?_;cases lZ c w n<;>rfl
   rw[e,axS];generalize (dw c).filterMap (λw=>lZ c w n)=l;cases l<;>rfl
  ·have aH:=zj hw;have GK:=UF aH n;refine (bO ⟨(w,pT c w),x0 c,n,f,rfl,afA aB aH,λp ak UO=>?_⟩ _).trans (congrArg mpure ?_)
   ·show ((pU c w).find? λp=>p.1.1 == n).elim (0,false) (λp=>((f p.2).val 0,true))=_;rw[GK];cases (pU c w).find? λp=>p.1.1 == n<;>rfl
   ·have hex:((pU c w).find? λq=>q.1.1 == n).isSome=true:=List.find?_isSome.2 ⟨p,ak,by grind⟩;obtain⟨q,bC⟩:=Option.isSome_iff_exists.1 hex;have IA:q.1.1=n:=by grind
    have zh:=aQU bC;have ax:=UI (EI zh) (EI ak) (IA.trans UO.symm);have:=EH (UJ c w) zh ak ax;grind
abbrev B1:aQ:=⟨bK,bK,λ_=>True,λx=>x⟩
theorem axX(x):a_ (avT x) (B1.sh x):=bu λ_=>rfl
theorem axY(x):a_ (ad5 EL.sh B1.sh x) (Nc.sh x):=bu λh=>by
 obtain⟨c,n⟩:=x;unfold ad5;rw[show EL.sh (c,n,B1.sh)=mpure (xU ((mr c n).1.map λm=>(B1.sh m).val 0),(mr c n).2) from bO ⟨h,λ_ _ m _ _=>⟨m,rfl⟩⟩ _];simp;unfold Uv;have:((mr c n).1.map λm=>(B1.sh m).val 0)=(mr c n).1:=by
  have:(λm=>(B1.sh m).val 0)=λm=>m:=by
   funext m;exact kN
  simp_all
 grind
abbrev B2:aQ:=⟨.aw bK (.bP kx),bK,λx=>∃ c:bb,x.2=some c/\BS (c.2.2.2.2,x.1),λx=>oB (x.2.getD xZ).2.2.2.2 x.1⟩
theorem axZ(x):a_ (aef ze.sh x) (B2.sh x):=bu λh=>by
 obtain⟨m,q⟩:=x;obtain⟨c,hc,h⟩:=h;subst hc;unfold aef;simp only[aQs];rw[show ze.sh (c.2.2.2.2,m)=mpure (oB c.2.2.2.2 m) from bO h _,aP]
theorem afJ(aB:im c)(hw:j2 c w=true){n m:Int}(hm:lZ c w n=some m):B2.sh (m,some c)=mpure (oB c.2.2.2.2 m):=by
 have:=afk aB (Iu aB.Io hw) hm;exact bO ⟨c,rfl,aB.Uo,show -100000<=m by omega,show m<=20000 by omega⟩ _
theorem ax0{n m:Int}(hm:m∈(mr c n).1):c_ c=0/\∃ w,j2 c w=true/\w∈dw c/\lZ c w n=some m:=by
 unfold mr at hm;split at hm
 ·grind
 ·split at hm
  ·grind
  ·rw[List.mem_filterMap]at hm;obtain⟨w,hw,he⟩:=hm;obtain⟨E,M,al,_⟩:=axh hw;grind
theorem ax1(x):a_ (ad4 EL.sh B2.sh x) (BV.sh x):=bu λh=>by
 obtain⟨c,n⟩:=x;unfold ad4;rw[show EL.sh (c,n,λm=>B2.sh (m,some c))=mpure (xU ((mr c n).1.map λm=>(B2.sh (m,some c)).val 0),(mr c n).2) from bO ⟨h,λw hw m hc hm=>⟨_,afJ (o8 hc) (zj hw) hm⟩⟩ _];simp;unfold zf;have:((mr c n).1.map λm=>(B2.sh (m,some c)).val 0)=(mr c n).1.map λm=>oB c.2.2.2.2 m:=by
  refine aQz λm hm=>?_;obtain⟨hc,w,hw,_,he⟩:=ax0 hm;rw[afJ (o8 hc) hw he,kN]
 grind
abbrev UP:aQ:=⟨.aw (.bP we) (.bP bK),d_,λx=>∃ k:Int,x.2=some k/\True,λx=>cz (x.2.getD 0) 0 99⟩
theorem ax2(x):a_ (aek El.sh x) (UP.sh x):=bu λ_=>by
 unfold aek;rw[show El.sh (x.2.getD 0)=mpure (cz (x.2.getD 0) 0 99) from rfl,aP]
abbrev UQ:aQ:=⟨.aw (.bP BK) (.aw (.bP (.bP we)) (.aw (.bP bK) (.bP kx))),.aw bK .bool,λx=>∃ (t:hh) (b:h7) (n:Int) (c:bb),x=(some t,some (some b),some n,some c)/\Iz b.1 t.2/\(u2 b.1 t.2).length<=1000/\∀ p∈u2 b.1 t.2,BS (c.2.2.2.2,p.2),λx=>(((u2 ((x.2.1.getD none).getD (xZ,[],[])).1 (x.1.getD ([],[])).2).map (zi (x.2.2.2.getD xZ) (x.2.2.1.getD 0))).sum,true)⟩
theorem UR{c:bb}{n:Int}:∀ (ad:List b6) (a:Int),(∀ p∈ad,BS (c.2.2.2.2,p.2))->0<=a->a+100000*(ad.length:Int)<=1000000000->
  kr (λ(A:Int×bb×Int×Unit) (y:bt×Int)=>ar (if decide (y.1.2.2.2.2.2=A.1)=true then ah (ze.sh (A.2.1.2.2.2.2,y.2)).fr (mpure (dU.normal,IntKind.wrap
 .i64 (Add.add A.2.2.1 (L.val (ze.sh (A.2.1.2.2.2.2,y.2)) 0)),())) else mpure (dU.normal,A.2.2.1,())) λp=>mpure (p.1,A.1,A.2.1,p.2.1,())) ad (n,c,a,())=mpure (dU.normal,n,c,a+(ad.map (zi c n)).sum,())
 | [],a,_,_,_=>by simp[kr]
 | p::ad,a,h,aV,E=>by
  unfold kr;simp  at E;by_cases ak:p.1.2.2.2.2.2=n
  ·have U:=aw7 (h p (by simp));have ag:ze.sh (c.2.2.2.2,p.2)=mpure (oB c.2.2.2.2 p.2):=bO (h p (by simp)) _;have hw:=bA (n:=a+oB c.2.2.2.2 p.2);have aR:=UR   (n:=n) ad (a+oB c.2.2.2.2 p.2) (λq bC=>h q (by grind)) (by omega) (by omega);simp only[ak,aR8,if_true,ag,tV,kN,ck,dn,aP];simp only[dn]at aR;rw[aQ0];rw[show zi c n p=oB c.2.2.2.2 p.2 from if_pos ak];grind
  ·have aR:=UR   (n:=n) ad a (λq bC=>h q (by grind)) aV (by omega);simp only[ak,aQ9,amW,aQv,aP];rw[aR,aQ0,List.sum_cons];rw[show zi c n p=0 from if_neg ak,aSc]
theorem ax3(x):a_ (aem ze.sh EG.sh x) (UQ.sh x):=tm λh=>by
 obtain⟨t,b,n,c,rfl,E,M,al⟩:=h;unfold aem e1 bl dy v_;simp only[aQs];rw[show EG.sh (some b,some t)=mpure (wv (some (some t),some (some b))) from rfl,aP,fS];refine⟨⟨_,t,b,rfl,rfl,E,rfl⟩,λad iJ=>?_⟩;obtain⟨dO,bk,aF,bB,_,rfl⟩:=iJ;cases aF;cases bB;rw[UR _ 0 al (by omega) (by omega)];simp;exact dR.2 rfl
theorem afK(cl:z4'):∀ l:List b6,(dM cl l).length<=l.length
 | []=>by simp[dM]
 | [_]=>by simp[dM]
 | a::b::r=>by unfold dM;simp;have:=afK cl r;omega
theorem ax4(aB:im c)(w:z1'):(pU c w).length<=1000:=by
 rw[Ng];have:=Us (λu=>dM c.2.2.2.1 (cL c w u)) 12 (fy 0 9) λu _=>am5 (afK _ _) (Ip aB w u);rw[show (fy 0 9).length=10 from by decide]at this;omega
theorem ax5(aB:im c)(hw:j2 c w=true)(ak:p∈pU c w):BS (c.2.2.2.2,p.2):=by
 have hex:((pU c w).find? λq=>q.1.1 == p.1.1).isSome=true:=List.find?_isSome.2 ⟨p,ak,by simp⟩;obtain⟨q,bC⟩:=Option.isSome_iff_exists.1 hex;have IA:q.1.1=p.1.1:=by grind
 have zh:=aQU bC;have:=EH (UJ c w) zh ak (UI (EI zh) (EI ak) IA);have ag:lZ c w p.1.1=some p.2:=by rw[UF hw,bC,this];rfl
 have:=afk aB (Iu aB.Io hw) ag;exact⟨aB.Uo,show -100000<=p.2 by omega,show p.2<=20000 by omega⟩
theorem ax6(x):a_ (ad7 qP.sh EF.sh UP.sh UQ.sh x) (BW.sh x):=bu λh=>by
 obtain⟨c,g⟩:=x;unfold ad7 bl;show _=mpure (xV c g);unfold xV;rw[IB (b:=cz g 0 99) h λhc=>bO ⟨g,rfl,trivial⟩ _];rcases EJ c (cz g 0 99) with⟨E,M,al⟩ | ⟨E,M,al,a7⟩
 ·rw[M];simp  [afG];grind
 ·rw[E,a7];simp;have aB:=o8 M;rw[UL   (IC h M) λw hw=>?_,aP,afH]
  ·rfl
  ·have aH:=zj hw;refine (bO ⟨(w,pT c w),x0 c,g,c,rfl,afA aB aH,ax4 aB w,λp ak=>ax5 aB aH ak⟩ _).trans (congrArg mpure ?_);show (((pU c w).map (zi c g)).sum,true)=_;rw[axQ aH]
def o_(t:Int):List b6->b6×Bool->b6×Bool
 | [],b=>b
 | e::l,b=>o_ t l (if e.2<=t then (e,decide (fz e.1=1)) else b)
def je(l:List b6)(t:Int):b6×Bool:=o_ t l (bQ,false)
variable {b:b6×Bool}{t:Int}{e:b6}
theorem afL(h:e.2<=t):o_ t (e::l) b=o_ t l (e,decide (fz e.1=1)):=by rw[o_,if_pos h]
theorem afM(h:¬e.2<=t):o_ t (e::l) b=o_ t l b:=by rw[o_,if_neg h]
theorem afN(t:Int):∀ (l:List b6) (b:b6×Bool),l.foldl (λb e=>if e.2<=t then (e,decide (fz e.1=1)) else b) b=o_ t l b
 | [],_=>rfl
 | e::l,b=>afN t l _
theorem ax7(l:List b6)(t:Int)(h:∀ e∈l,fz e.1=1\/fz e.1=2):qK l t=(if (je l t).2=true then kQ (je l t).1.1 else -1,(je l t).1.2):=by
 have key:∀ (l:List b6) (b:b6×Bool),(∀ e∈l,fz e.1=1\/fz e.1=2)->l.foldl (λb e=>if e.2<=t then (if fz e.1=2 then (-1,e.2) else (kQ e.1,e.2)) else b) (if b.2=true then kQ b.1.1 else -1,b.1.2)=(if (o_ t l b).2=true then kQ (o_ t l b).1.1 else -1,(o_ t l b).1.2):=by
  intro l;induction l with
  | nil=>intro b _;rfl
  | cons e l aR=>
   intro b h;rw[aQQ];by_cases he:e.2<=t
   ·rw[afL he,<-aR (e,decide (fz e.1=1)) λx an=>h x (by grind),if_pos he];grind
   ·rw[afM he,if_neg he];grind
 exact key l (bQ,false) h
theorem afO(l:List b6)(t:Int):je l t=(bQ,false)\/((je l t).1∈l/\(je l t).1.2<=t/\(je l t).2=decide (fz (je l t).1.1=1)):=by
 have key:∀ (l:List b6) (b:b6×Bool),o_ t l b=b\/((o_ t l b).1∈l/\(o_ t l b).1.2<=t/\(o_ t l b).2=decide (fz (o_ t l b).1.1=1)):=by
  intro l;induction l with
  | nil=>intro b;exact .inl rfl
  | cons e l aR=>
   intro b;by_cases he:e.2<=t
   ·rw[afL he];grind
   ·rw[afM he];grind
 exact key l (bQ,false)
abbrev US(t:hh):Prop:=t.2.length=10/\∀ l∈t.2,l.length<=12
abbrev B3:aQ:=⟨.aw (.bP BK) (.aw bK bK),.aw MZ .bool,λx=>∃ t:hh,x.1=some t/\US t/\0<=x.2.1/\x.2.1<=9,λx=>je ((x.1.getD ([],[])).2.getD x.2.1.toNat []) x.2.2⟩
theorem ax8(x):a_ (aec x) (B3.sh x):=bu λh=>by
 obtain⟨o,u,m⟩:=x;obtain⟨t,E,⟨M,al⟩,a7,bR⟩:=h;change o=some t at E;change 0<=u at a7;change u<=9 at bR;subst E;unfold aec cu bF cy bl bh aY b4 bg bY;show _=mpure (je (t.2.getD u.toNat []) m);simp only[aQG,ck,aQs];rw[bd (show (0:Int)<=u/\u<Int.ofNat 10 by grind)];have hm:t.2.getD u.toNat []∈t.2:=BE a7 (by omega);have ai:=al _ hm;generalize t.2.getD u.toNat []=l at *
 rw[e2 l (λi (b:b6×Bool)=>(m,b.2,l,(l.length:Int),(i:Int),bQ,b.1,())) (λe b=>.az (if e.2<=m then (e,decide (fz e.1=1)) else b)) (λb=>.az (b.2,bQ,b.1,())) (bQ,false) ?_ ?_ ?_]
 ·rw[ew,aP,afN];rfl
 ·rfl
 ·intro i G b;have hw:=bA (n:=(i:Int)+1);simp only[Prod.cv,Prod.fI,cD,dQ G,if_true,d' G,dH G,ck,dn,hw,aL.pM,am0];by_cases he:l[i].2<=m
  ·simp_all
  ·simp only[he,aQv,aP,db,hw];rfl
 simp
theorem afP(c:bb)(w:z1'){u:Int}(aV:0<=u)(h:u<=9):(pT c w).getD u.toNat []=cL c w u:=by
 have hu:u=0\/u=1\/u=2\/u=3\/u=4\/u=5\/u=6\/u=7\/u=8\/u=9:=by omega
 rcases hu with rfl | rfl | rfl | rfl | rfl | rfl | rfl | rfl | rfl | rfl<;>rfl
theorem afQ(aB:im c)(w:z1'):US (w,pT c w):=by
 refine⟨rfl,λl ai=>?_⟩;simp only[pT,aRK,aRW,or_false]at ai;rcases ai with rfl | rfl | rfl | rfl | rfl | rfl | rfl | rfl | rfl | rfl<;>exact Ip aB w _
theorem afR(aB:im c)(w:z1'){u:Int}(aV:0<=u)(h:u<=9):B3.sh (k5 c w,u,t)=mpure (je (cL c w u) t):=by
 refine (bO ⟨_,rfl,afQ aB w,aV,h⟩ _).trans (congrArg mpure ?_);show je ((pT c w).getD u.toNat []) t=_;rw[afP c w aV h]
theorem ax9(aB:im c){u:Int}(he:e∈cL c w u):fz e.1=1\/fz e.1=2/\kQ e.1=0:=(Ez.1 (aB.EA (Iq he).1)).2.2.2.2.2
theorem UT(aB:im c){u:Int}(he:e∈cL c w u):0<=kQ e.1/\kQ e.1<=99:=(Ez.1 (aB.EA (Iq he).1)).2.2.2.2.1
theorem Nh(aB:im c)(hw:j2 c w=true){u:Int}(hu:0<=u/\u<=9)(t:Int):qK (iM c w u) t=(if (je (cL c w u) t).2=true then kQ (je (cL c w u) t).1.1 else -1,(je (cL c w u) t).1.2)/\(decide ((qK (iM c w u) t).1>=0)=(je (cL c w u) t).2):=by
 have e:=ax7 (cL c w u) t λe he=>(ax9 aB he).imp id And.left;rw[UE hw hu];refine⟨e,?_⟩;rw[e];cases U:(je (cL c w u) t).2 with
 | false=>simp
 | true=>
  simp only[if_true,am0];rcases afO (cL c w u) t with h | ⟨h,_⟩
  ·grind
  ·exact (UT aB h).1
abbrev EM:aQ:=⟨.aw (.bP we) (.bP bK),d_,λx=>∃ k:Int,x.2=some k/\True,λx=>cz (x.2.getD 0) 0 9999⟩
theorem afS(x):a_ (aeh BN.sh x) (EM.sh x):=bu λ_=>by
 unfold aeh;rw[show BN.sh (x.2.getD 0)=mpure (cz (x.2.getD 0) 0 9999) from rfl,aP]
theorem ax_(x):a_ (avX BN.sh x) (EM.sh x):=afS x
def ID(t:hh)(m p:Int):Int:=(fy 0 9).foldl (λn u=>if (je (t.2.getD u.toNat []) m).2=true then n+p else n) 0
abbrev UU:aQ:=⟨.aw (.bP BK) (.aw (.bP bK) (.bP kx)),.aw bK .bool,λx=>∃ (t:hh) (m:Int) (c:bb),x=(some t,some m,some c)/\US t/\0<=c.2.2.2.2.2.2.2.2.2.2/\c.2.2.2.2.2.2.2.2.2.2<=100000,λx=>(ID (x.1.getD ([],[])) (x.2.1.getD 0) (x.2.2.getD xZ).2.2.2.2.2.2.2.2.2.2,true)⟩
theorem ax'(x):a_ (aej B3.sh x) (UU.sh x):=bu λh=>by
 obtain⟨t,m,c,rfl,E,M,al⟩:=h;unfold aej e1 cy bJ bl bS b4 bg;simp only[aQs];show _=mpure (ID t m c.2.2.2.2.2.2.2.2.2.2,true);rw[eW (fy 0 9) (λi (n:Int)=>(some t,m,c,n,(i:Int),())) (λu n=>.az (if (je (t.2.getD u.toNat []) m).2=true then n+c.2.2.2.2.2.2.2.2.2.2 else n)) (λn=>.az (n,())) (λi n=>0<=n/\n<=100000*(i:Int)) 0 ?_ ?_ ?_ ?_]
 ·rw[ew,aP];rfl
 ·rfl
 ·omega
 ·intro i G n aA;have G:i<10:=by simpa [fy]using G
  have hw:=bA (n:=(i:Int)+1);have gJ:=bA (n:=n+c.2.2.2.2.2.2.2.2.2.2);have ay:decide ((i:Int)<10)=true:=by grind
  refine⟨?_,λbk dZ=>?_⟩
  ·simp only[ay,if_true,H7,aSc];rw[show B3.sh (some t,(i:Int),m)=mpure (je (t.2.getD ((i:Int)).toNat []) m) from bO ⟨t,rfl,E,by simp,by grind⟩ _];simp only[aP,dn,hw,gJ,aL.pM];by_cases aj:(je (t.2.getD ((i:Int)).toNat []) m).2=true
   ·simp only[aj,if_true,aP,db,hw];rfl
   ·simp only[aj,amW,aQv,aP,db,hw];rfl
  grind
 ·intro n aA;have:(fy 0 9).length=10:=by decide
  simp[this]
theorem aya(aB:im c)(hw:j2 c w=true)(m:Int):ID (w,pT c w) m c.2.2.2.2.2.2.2.2.2.2=BT c w m*c.2.2.2.2.2.2.2.2.2.2:=by
 unfold ID BT;have key:∀ (ad:z1') (n:Int),(∀ u∈ad,0<=u/\u<=9)->ad.foldl (λn u=>if (je ((pT c w).getD u.toNat []) m).2=true then n+c.2.2.2.2.2.2.2.2.2.2 else n) (n*c.2.2.2.2.2.2.2.2.2.2)=(ad.foldl (λn u=>if (qK (iM c w u) m).1>=0 then n+1 else n) n)*c.2.2.2.2.2.2.2.2.2.2:=by
  intro ad;induction ad with
  | nil=>simp
  | cons u ad aR=>
   intro n h;have hu:=h u (by simp);obtain⟨_,M⟩:=Nh aB hw hu m;simp only[aQQ];rw[afP c w hu.1 hu.2];grind
 have:=key (fy 0 9) 0 λu hu=>rD.1 hu;grind
theorem ayb(x):a_ (ad6 qP.sh EF.sh EM.sh UU.sh x) (BX.sh x):=bu λh=>by
 obtain⟨c,t⟩:=x;change iN c at h;unfold ad6 bl;show _=mpure (xW c t);unfold xW;rw[IB (b:=cz t 0 9999) h λhc=>bO ⟨t,rfl,trivial⟩ _];rcases EJ c (cz t 0 9999) with⟨E,M,al⟩ | ⟨E,M,al,a7⟩
 ·rw[M,al];simp only[aP,List.map_nil,afG];grind
 ·rw[E,a7];simp only[aP];rw[if_neg (by simp)];have aB:=o8 M;have ak:=(M_.1 aB.Uo).2.2.2.2.2.2;rw[UL (v:=λw=>(BT c w t*c.2.2.2.2.2.2.2.2.2.2,true)) (IC h M) λw hw=>?_,aP,afH]
  ·rfl
  ·refine (bO ⟨(w,pT c w),t,c,rfl,afQ aB w,ak.1,ak.2⟩ _).trans (congrArg mpure ?_);show (ID (w,pT c w) t c.2.2.2.2.2.2.2.2.2.2,true)=_;rw[aya aB (zj hw)]
theorem afT(p:z11')(m:z4')(k v:Int):hf (p::m) k v=if decide (k=p.1)=true then (p.1,v)::m else p::hf m k v:=rfl
theorem UW(k v:Int):∀ m:z4',((m.map (·.1)).Nodup->((hf m k v).map (·.1)).Nodup)/\∀ x,x∈(hf m k v).map (·.1)<->x∈m.map (·.1)\/x=k
 | []=>by
  rw[show hf [] k v=[(k,v)] from rfl];simp
 | p::m=>by
  obtain⟨E,M⟩:=UW k v m;grind [afT]
theorem afU(k v:Int){B:Int}:∀ m:z4',(∀ p∈m,0<=p.2/\p.2<=B)->0<=v/\v<=B->∀ p∈hf m k v,0<=p.2/\p.2<=B
 | [],_,ag,p,ak=>by
  rw[show hf [] k v=[(k,v)] from rfl]at ak;grind
 | q::m,h,ag,p,ak=>by
  rw[afT]at ak;split at ak
  ·grind
  ·rcases List.mem_cons.1 ak with rfl | ak
   ·grind
   ·exact afU k v m (λx an=>h x (by grind)) ag p ak
def o'(c:bb)(w:z1')(u t:Int):Int:=if (je (cL c w u) t).2=true then kQ (je (cL c w u) t).1.1 else -1
def B4(m:z4')(k:Int):Int:=Option.getD (Option.map (λx=>x.2) (List.find? (λp=>decide (k=p.1)) m)) 0
structure EN(ad:z1')(i:Nat)(m:z4'):Prop where
 kt:(m.map (·.1)).Nodup
 mem:∀ x,x∈m.map (·.1)<->x∈ad
 val:∀ p∈m,0<=p.2/\p.2<=(i:Int)
theorem EN.add{ad:z1'}{i:Nat}{m:z4'}(h:EN ad i m)(k:Int)(G:i<=60):IntKind.wrap .i64 (B4 m k+1)=B4 m k+1/\EN (ad++[k]) (i+1) (hf m k (B4 m k+1)):=by
 have U:0<=B4 m k/\B4 m k<=i:=by
  unfold B4;cases aC:m.find? λp=>decide (k=p.1) with
  | none=>simp
  | some p=>exact h.val p (aQU aC)
 refine⟨bA,(UW _ _ _).1 h.kt,λx=>?_,afU _ _ _ (λp ak=>by have:=h.val p ak;omega) (by omega)⟩;rw[(UW _ _ _).2,h.mem];simp
theorem ayc(aB:im c)(hw:j2 c w=true){u:Int}(hu:0<=u/\u<=9):((cL c w u).filter λe=>fz e.1 == 1).length<=11:=by
 have ai:=Ip aB w u;by_cases aOY:(cL c w u).length=12
 ·have E:=(UD (Na hw hu) (by omega:1<(cL c w u).length)).1;have hm:=amV (by omega:1<(cL c w u).length);have:((cL c w u).filter λe=>fz e.1 == 1).length<(cL c w u).length:=by
   refine List.length_filter_lt_length_iff_exists.2 ⟨_,hm,by grind⟩
  omega
 grind
theorem ayd(c:bb)(w w':z1')(u:Int):(((cL c w u).filter λe=>fz e.1 == 1).map (·.1)).Perm (((cL c w' u).filter λe=>fz e.1 == 1).map (·.1)):=by
 have e:∀ w,((cL c w u).filter λe=>fz e.1 == 1).map (·.1)=((cL c w u).map (·.1)).filter λs=>fz s == 1:=λw=>by rw[List.filter_map];rfl
 grind [afD]
theorem UX(c:bb)(w:z1')(u t:Int):o' c w u t=-1\/∃ s∈((cL c w u).filter λe=>fz e.1 == 1).map (·.1),o' c w u t=kQ s:=by
 grind [o',afO]
theorem aye(aB:im c){u:Int}(hu:0<=u/\u<=9){K:z1'}(aA:K.Nodup)(kL:∀ x∈K,x∈(dw c).map λw=>o' c w u t):K.length<=12:=by
 cases aU:dw c with
 | nil=>
  cases K with
  | nil=>simp
  | cons x K=>have:=kL x (by simp);grind
 | cons et T=>
  have xE:j2 c et=true:=zj (by grind);have uz:K ⊆ -1::(((cL c et u).filter λe=>fz e.1 == 1).map (·.1)).map kQ:=by
   intro x an;obtain⟨w,hw,rfl⟩:=List.mem_map.1 (kL x an);rcases UX c w u t with h | ⟨s,ax,h⟩
   ·grind
   ·rw[h];exact am2 _ (aQ' ((ayd c w et u).mem_iff.1 ax))
  have:=aA.length_le_of_subset uz;grind [ayc]
abbrev UY:aQ:=⟨.aw (.bP we) (.aw (.bP bK) (.bP bK)),d_,λx=>∃ a b:Int,x.2=(some a,some b),λx=>zg (x.2.1.getD 0) (x.2.2.getD 0)⟩
theorem ayf(x):a_ (aea dC.sh BN.sh x) (UY.sh x):=bu λ_=>by
 unfold aea cj;rw[axi,aP,show BN.sh (x.2.2.getD 0)=mpure (cz (x.2.2.getD 0) 0 9999) from rfl,ov,aP,xH];rfl
theorem afV(aB:im c)(hw:j2 c w=true){u:Int}(hu:0<=u/\u<=9)(t:Int):(qK (iM c w u) t).1=o' c w u t:=by rw[(Nh aB hw hu t).1];rfl
theorem ayg(x):a_ (ad2 qP.sh B3.sh wh.sh M5.sh UY.sh x) (BY.sh x):=tm λh=>by
 obtain⟨c,u,t⟩:=x;change iN c at h;unfold ad2 cu ho bF cy bJ bl bh aY b4 bg bY;show c8 _ λy=>y=qL c u t;unfold qL Nd;rw[IB (b:=zg u t) h λhc=>bO ⟨u,t,rfl⟩ _];rcases EJ c (zg u t) with⟨E,M,al⟩ | ⟨E,M,al,a7⟩
 ·simp_all[dR]
 ·rw[a7];simp only[aP];rw[if_neg (by simp)];have aB:=o8 M;have b8:(0<=u/\u<=9)/\0<=t/\t<=9999:=by
   grind [zg,pS]
  have hu:=b8.1;have hlen:=IC h M;simp only[aQG,ck];rw[fS];refine (Ah (p:=λz=>∃ m,z=.az (m,())/\EN ((dw c).map λw=>o' c w u t) 60 m) (λA=>∃ (i:Nat) (m:z4'),i<=(dw c).length/\A=((dw c).map (k5 c),(((dw c).map (k5 c)).length:Int),(i:Int),u,t,m,())/\EN (((dw c).take i).map λw=>o' c w u t) i m) (λA=>((dw c).length - A.2.2.1).toNat) ?_ _ ⟨0,[],aQF _,rfl,⟨.nil,by simp,by simp⟩⟩).mono ?_
  ·rintro A ⟨i,m,sY,rfl,bq⟩;by_cases G:i<(dw c).length
   ·have dM:i<((dw c).map (k5 c)).length:=by grind
    have hw:=bA (n:=i+1);obtain⟨cH,b1⟩:=bq.add (o' c (dw c)[i] u t) (by omega);have tA:((dw c).take (i+1)).map (λw=>o' c w u t)=((dw c).take i).map (λw=>o' c w u t)++[o' c (dw c)[i] u t]:=by
     grind [List.take_add_one]
    simp only[cD,dQ dM,d' dM,dH dM,ck,aRf];rw[afR aB _ hu.1 hu.2,aP];have fin:∀ k,k=o' c (dw c)[i] u t->(∃ (oe:Nat) (dz:z4'),oe<=(dw c).length/\(((dw c).map (k5 c),(((dw c).map (k5 c)).length:Int),IntKind.wrap .i64 (i+1),u,t,hf m k (IntKind.wrap .i64 (B4 m k+1)),()))=((dw c).map (k5 c),(((dw c).map (k5 c)).length:Int),(oe:Int),u,t,dz,())/\EN (((dw c).take oe).map λw=>o' c w u t) oe dz)/\((dw c).length - IntKind.wrap .i64 (i+1)).toNat<((dw c).length - (i:Int)).toNat:=by
     grind
    cases U:(je (cL c (dw c)[i] u) t).2 with
    | true=>
     simp only[if_true];rw[aP];exact dR.2 (fin _ (by grind [o']))
    | false=>
     simp only[amW,aQv];rw[aP];exact dR.2 (fin (-1) (by grind [o']))
   ·have ayh:i=(dw c).length:=by omega
    subst ayh;simp;refine dR.2 ⟨m,rfl,bq.kt,?_,λp ak=>by have:=bq.val p ak;omega⟩;have:=bq.mem;grind
  ·rintro z ⟨m,rfl,bq⟩;rw[db];rw[show M5.sh m=mpure (lV (some m)) from rfl,aP];have u3:m.length<=12:=by
    have:=aye aB hu   bq.kt λx an=>(bq.mem x).1 an;grind
   rw[show wh.sh (lV (some m))=mpure (hl jw (m.map (·.1))) from (bO (ae1 (by omega)) _).trans (congrArg mpure ae2),aP];refine dR.2 ?_;have aF:hl jw (m.map (·.1))=(fy (-1) 99).filter λg=>((dw c).map λw=>(qK (iM c w u) t).1).contains g:=by
    have ayi:=aQz λw hw=>afV aB (zj hw) hu t;rw[ayi];have G:(fy (-1) 99).Pairwise (·<·):=by
     grind [fy,List.pairwise_lt_range]
    refine En ((G.filter _).imp λh=>Int.le_of_lt h) ((aRy bq.kt ((G.filter _).imp λh=>by omega)).2 λk=>?_);rw[bq.mem,List.mem_filter,rD];simp only[List.contains_iff_mem];refine⟨λaj=>⟨?_,aj⟩,λaj=>aj.2⟩;obtain⟨w,hw,rfl⟩:=List.mem_map.1 aj;rcases UX c w u t with h | ⟨s,ax,h⟩
    ·omega
    ·obtain⟨e,he,rfl⟩:=List.mem_map.1 ax;have:=UT aB (List.mem_filter.1 he).1;omega
   grind
def UZ(c:bb)(l:List b6)(t:Int):Bool:=(je l t).2&&decide (oA c.2.2.2.1 (je l t).1.2 t>=c.2.2.2.2.2.2.2.2.1)
theorem ayj(aB:im c)(hw:j2 c w=true){u:Int}(hu:0<=u/\u<=9)(t:Int):UZ c (cL c w u) t=Iv c w u t:=by
 grind [Nh,UZ,Iv]
theorem ayk(x):a_ (ad_ qP.sh B3.sh zd.sh EM.sh x) (Nf.sh x):=bu λh=>by
 obtain⟨c,t⟩:=x;change iN c at h;unfold ad_ bF cy bl bh aY bS b4 bg ed bY v_;show _=mpure (wq c t);unfold wq;rw[IB (b:=cz t 0 9999) h λhc=>bO ⟨t,rfl,trivial⟩ _];rcases EJ c (cz t 0 9999) with⟨E,M,al⟩ | ⟨E,M,al,a7⟩
 ·simp_all
 ·rw[E,a7];simp only[aP];have aB:=o8 M;have aH:=pS.1 al;have hlen:=IC h M;have aU:∀ w∈dw c,j2 c w=true:=λw hw=>zj hw;rw[eW (fy 0 9) (λi b=>(some (x0 c),(i:Int),c,t,b.1,b.2,())) (λu b=>.az (if decide (rH c (dw c) u t=(dw c).length)=true then b.1++[u] else b.1,if decide (rH c (dw c) u t > 0)=true then b.2++[u] else b.2)) (λb=>.az (b.1,b.2,())) (λi b=>b.1.length<=i/\b.2.length<=i) ([],[]) ?_ (by simp) ?_ ?_]
  ·rw[ew];have key:∀ (p q:Int->Bool) (l:z1') (a b:z1'),l.foldl (λz u=>(if p u=true then z.1++[u] else z.1,if q u=true then z.2++[u] else z.2)) (a,b)=(a++l.filter p,b++l.filter q):=by
    intro p q l;induction l with
    | nil=>simp
    | cons u l aR=>
     simp;grind
   rw[key (λu=>decide (rH c (dw c) u t=(dw c).length)) (λu=>decide (rH c (dw c) u t > 0))];simp
  ·rfl
  ·intro i G b hv;have G:=by simpa [fy]using G
   have hw:=bA (n:=i+1);have ay:decide ((i:Int)<10)=true:=by grind
   refine⟨?_,λbk dZ=>?_⟩
   ·simp only[ay,H7,aSc,aQG,ck];rw[eW (dw c) (λk (n:Nat)=>(some (x0 c),(i:Int),(n:Int),(i:Int),(dw c).map (k5 c),(((dw c).map (k5 c)).length:Int),(k:Int),c,t,b.1,b.2,())) (λw n=>.az (if Iv c w i t=true then n+1 else n)) (λn=>.az (some (x0 c),i,n,i,c,t,b.1,b.2,())) (λk n=>n<=k) 0 ?_ (by simp) ?_ ?_]
    ·rw[ew];have key:∀ (l:List (z1')) (n:Nat),l.foldl (λn w=>if Iv c w i t=true then n+1 else n) n=n+rH c l i t:=by
      intro l;induction l with
      | nil=>intro n;rfl
      | cons w l aR=>
       grind [rH]
     rw[key,aRt,aP,db];have J':((dw c).map (k5 c)).length=(dw c).length:=aQJ _;simp only[cD];have fC:b2 (Add.add b.1.length (Add.add 0 1)):=hk (by grind);have fR:b2 (Add.add b.2.length (Add.add 0 1)):=hk (by grind);have d1:decide ((rH c (dw c) i t:Int) > 0)=decide (rH c (dw c) i t > 0):=by simp
     have d2:decide ((rH c (dw c) i t)=((dw c).length:Int))=decide (rH c (dw c) i t=(dw c).length):=by grind
     rw[d1];cases E:decide (rH c (dw c) i t > 0)<;>cases M:decide (rH c (dw c) i t=(dw c).length)<;>
      simp only[if_true,amW,aQv,bd fC,bd fR,aP,db,aQG,ck,aQs,J',d2,M,dn,hw]<;>rfl
    ·rfl
    ·intro k aj n aA;have oz:k<((dw c).map (k5 c)).length:=by grind
     have hw:=bA (n:=k+1);have gJ:=bA (n:=n+1);have mF:=aU _ (amV aj);have nl:=Iu M mF;have hu:0<=(i:Int)/\(i:Int)<=9:=by omega
     have xh:=ayj aB mF hu t;obtain⟨ch,dP⟩:=Nh aB mF hu t;refine⟨?_,λbk dZ=>?_⟩
     ·simp only[cD,dQ oz,d' oz,dH oz,dn,aRf];rw[afR aB _ hu.1 hu.2,aP,<-xh];unfold UZ;cases U:(je (cL c (dw c)[k] i) t).2 with
      | true=>
       have QM:EB (c,(je (cL c (dw c)[k] i) t).1.2,t):=by
        have:=axj aB nl aH.2 (u:=i)   (by grind);grind
       have ayl:zd.sh (c,(je (cL c (dw c)[k] i) t).1.2,t)=mpure (oA c.2.2.2.1 (je (cL c (dw c)[k] i) t).1.2 t):=bO QM _;simp only[ayl,tV,kN,aRL,forall_const,ck,aSi];by_cases hm:oA c.2.2.2.1 (je (cL c (dw c)[k] i) t).1.2 t>=c.2.2.2.2.2.2.2.2.1
       ·simp_all
       ·simp only[hm,aQ9,amW,aQv,aP,db,hw];rfl
      | false=>
       simp_all
     grind
    simp
   grind
  ·intro b hv;rfl
variable (aym:bb->L Bool) (aOZ:Int->L Bool) (ayn:Unit->L Bool) (IE:bb×Int×Int->L (z19')) (Ni:bb->L bb) (aO0:bb×Unit->L (Int×Int×Int×Int×Int×Int×Int×z4'×List bt×z1'×z4'×Unit)) (aO1:z19'->L Bool) (ayo:z34'->L Bool) (IF afW:bb×Int->L (z23')) (avm:uY×Int->L Int) (aO2:(Int×Int)×z11'->L Bool) (Nj:bb×Int->L (z23')) (avE:bb->L (List bt)) (IG:bb×Int->L (z23')) (U0:bb->L Bool) (BI BJ:bb->L Int) (aO3:bb×Int×Int->L (z19')) (aO4 aO5 aO6 aO7 aO8 aO9:bb×Int->L (z23')) (ayp:bb×bb->L Bool) (afX aO_:bb×Int->L (z1'×z19')) (aO':Unit->L bb)
def afY(x:bb):L Bool:=
 if dr (aY x.1) 20||dr (aY x.2.1) 40||dr (aY x.2.2.1) 60||dr (aY x.2.2.2.1) 40 then ku else ar (BJ x) λy=>bl (y≠0) jL (bS (λA=>letI d:=A.2.2.1;letI c:=bF d.1 A.2.1 (0,0);gx A.2.1 d.1 (bY A.2.1 d.1 (bg (IntKind.wrap .i64 (A.1*bh (cF c.2 c.1)),bh A.2.1,d,()))) (b4 (A.1,()))) (1,0,x,()) (λA=>mpure (dr A.1 60)))
end Go.Fer.H
namespace Go.Fer.H
def nm(c:bb):Bool:=decide (c.1.length > 20)||decide (c.2.1.length > 40)||decide (c.2.2.1.length > 60)||decide (c.2.2.2.1.length > 40)||(decide (c_ c=0)&&decide (mq c.1 > 60))
theorem afZ:∀ (l:z4') (n:Nat),l.foldl (λn s=>n*(s.2 - s.1+1).toNat) n=n*mq l
 | [],n=>by simp[mq]
 | s::l,n=>by simp  [mq];rw[afZ l,Nat.mul_assoc]
abbrev zk:aQ:=⟨kx,d_,nC,nm⟩
theorem ayq(x):a_ (afY iU.sh x) (zk.sh x):=bu λh=>by
 unfold afY dr gx bF bl bh aY bS b4 bg jL ku bY cF;show _=mpure (nm x);by_cases ax:(decide ((x.1.length) > 20)||decide ((x.2.1.length) > 40)||decide ((x.2.2.1.length) > 60)||decide ((x.2.2.2.1.length) > 40))=true
 ·unfold nm;grind
 ·rw[show iU.sh x=mpure (c_ x) from bO h _,aP];have e:nm x=(decide (c_ x=0)&&decide (mq x.1 > 60)):=by
   unfold nm;grind
  by_cases hc:c_ x=0
  ·have aB:=o8 hc;have aA:=aB.eH;rw[eW x.1 (λi (n:Nat)=>((n:Int),(i:Int),x,())) (λs n=>.az (n*(s.2 - s.1+1).toNat)) (λn=>.az (n,())) (λi n=>n<=61 ^ i) 1 ?_ ?_ ?_ ?_]
   ·rw[ew,afZ,aP,db];grind
   ·rfl
   ·simp
   ·intro i G n jo;have aj:=aB.clk _ (amV G);have hw:=bA (n:=i+1);have ch:=bA (n:=x.1[i].2 - x.1[i].1);have dP:=bA (n:=x.1[i].2 - x.1[i].1+1);have Dm:((n*(x.1[i].2 - x.1[i].1+1).toNat))=n*(x.1[i].2 - x.1[i].1+1):=by
     grind
    have hm:n*(x.1[i].2 - x.1[i].1+1).toNat<=61 ^ (i+1):=by
     exact Nat.mul_le_mul jo (by omega)
    have Mm:n*(x.1[i].2 - x.1[i].1+1).toNat<=61 ^ 4:=am5 hm (aRE (by omega) (by omega));have hM:=bA (n:=n*(x.1[i].2 - x.1[i].1+1));simp_all
   simp
  grind
theorem ayr{c:bb}(h:nm c=false):iN c:=by
 unfold nm at h;simp  at h;exact⟨⟨by omega,by omega,by omega,by omega⟩,λhc=>by omega⟩
end Go.Fer.H
