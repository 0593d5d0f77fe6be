/- Part 2 of the proof of TopPlanned: shallow programs of Go functions, and what they compute. No condition. -/
import Derived.Test.YtjjgkigajpocoaaGreatDoorTopPlannedA
import Derived.Laws.BytesString
import Derived.Lib.UnsafeStr
noncomputable section
set_option linter.unusedVariables false
set_option linter.unusedSimpArgs false
namespace Go.Fer
open Go.RowKit
theorem F6{p:Addr}(h:p.spot=none)(n:Nat):p.add n=⟨p.block,p.off+n,none⟩:=by
 obtain⟨b,o,sp⟩:=p;grind [tW]
theorem YK{e:V}{xs:List e.aj}{i:Int}(E:0<=i)(L:i<(xs.length:Int)):n1 e xs i=xs[i.toNat]'(by omega):=by
 unfold n1;grind
section
variable {C:cH} {T:Nat->V} {br:Nat->Option aO} {o:Oper} {s:aB} {res:ez}
variable {w:World}{ty:TypeId}
theorem Kr{P:Program}{e:V}(h:cx P (.slice e) ty){p:Addr}(ai:p.spot=none){n cap:Nat}{k:IntKind}{i:Int}(E:0<=i)(L:i<(n:Int)) :
  (Instr.indexAt ty (.slice (some p) n cap) (.int k i)).run P w=.ok (.pointer (some ⟨p.block,p.off+i.toNat*e.size,none⟩)) w:=by
 obtain⟨j,aK,iB,_⟩:=h.sl;simp[Instr.indexAt,asIntOf,en aK,E,L,iB.size,F6 ai]
variable {x:Operand}
theorem anD(aU:eg C.P T){i:Operand}(bo:∀ i,o.dst=some i->i<C.bZ)(au:o.op=.indexAddr ty x i)(h:(cP C.aX T br (bh C.aX s.aA) o).run s.aa=some res):cR C o s res:=by
 simp only[cP,au]at h;split at h
 ·rename_i bN k n aH G;have dF:=aU.ca aH (by simp);simp only[da,aF.fZ,amj,aF.dC,amo]at h;obtain⟨⟨c,v⟩,ki,rfl⟩:=h;refine cR.pure (by grind) bo λa w kap F D bb hc=>?_;have al:bM C.P s.aa kap F w (use (bh C.aX s.aA x)).2 (a.eval x):=db D x rfl bb.1;have L:=qb (db D i rfl bb.2) G;have Aq:∀ (xs:List bN.aj),cw C.P (.slice bN) F w [a.eval x] xs->0<=n/\n<xs.length->∃ r,(execOp a.eval o).run C.P w=.ok (.value r) w/\bM C.P s.aa kap F w (.eL bN (n1 bN xs n)) r:=by
   intro xs kg aC;obtain⟨a',cap,aE,m1,m2,m3,m4⟩:=kg;have aE:=(aPQ aE).1;cases a' with
   | none=>grind
   | some p=>
    obtain⟨eA,eG,lk⟩:=m4 p rfl (by omega);obtain⟨bC,d1,d2⟩:=lk n.toNat (by omega);refine⟨_,by simp[execOp,au,aE,L.1,Kr dF eG aC.1 aC.2],⟨p.block,p.off+n.toNat*bN.size,none⟩,bC,rfl,d1,?_⟩;grind [YK]
  unfold Yh at ki;split at ki
  ·rename_i e xs gm;simp only[aF.dC]at ki;split at ki
   ·rename_i he;subst he;obtain⟨rfl,rfl⟩:=ki;rw[gm]at al;exact Aq xs ((ee rfl).1 al).2 hc
   grind
  ·rename_i b g gm;rw[gm]at al;simp only[aF.gR,aF.dC]at ki;split at ki
   ·rename_i aD;have a1:=D.bF b;unfold c6 at a1;split at ki
    ·rename_i e xs cm;split at ki
     ·rename_i he;subst he;obtain⟨rfl,rfl⟩:=ki;have af:=al.2 aD.symm (by rw[cm];rfl);rw[cm]at af a1;have ub:(kap b).fO=false:=by
       cases aC:(kap b).fO with
       | false=>rfl
       | true=>rw[a1.1 aC]at hc;grind
      simp  [bL.slice,ub,b'.len]at af;refine⟨_,by simp[execOp,au,af,L.1,Kr dF (p:=⟨(kap b).aa,(kap b).off,none⟩) rfl hc.1 hc.2];rfl,⟨al.1.1,rfl⟩,λ_ _=>?_⟩;rw[cm];exact⟨by grind [b'.len],ub,rfl⟩
     grind
    ·rename_i e xs cm;split at ki
     ·rename_i he;subst he;obtain⟨rfl,rfl⟩:=ki;have af:=al.2 aD.symm (by rw[cm];rfl);rw[cm]at af a1;refine Aq xs ?_ hc;rw[af];exact a1
     grind
    grind
   grind
  ·rename_i b g a7 G gm;rw[gm]at al;simp only[aF.gR,aF.dC]at ki;split at ki
   ·rename_i aD;have a1:=D.bF b;unfold c6 at a1;split at ki
    ·rename_i e xs cm;split at ki
     ·obtain⟨rfl,rfl⟩:=ki;obtain⟨⟨aM,aT⟩,b5⟩:=al.2 aD.symm (by rw[cm];rfl);rw[cm]at aT b5 a1;simp  [b'.len]at aT b5;rcases b5 with⟨aC,_⟩ | ⟨aC,pn,af,jO,gS⟩
      ·rw[a1.1 aC]at aT;grind
      ·obtain⟨cs,h8,bG,c2,c3,c4,c5⟩:=a1.2 aC;refine⟨_,by simp[execOp,au,af,L.1,Kr dF (p:=⟨(kap b).aa,pn,none⟩) rfl hc.1 hc.2];rfl,⟨al.1.1,rfl⟩,λ_ _=>?_⟩;grind [b'.len,b'.gP]
     grind
    ·rename_i e xs cm;split at ki
     ·rename_i he;subst he;obtain⟨rfl,rfl⟩:=ki;obtain⟨⟨aM,aT⟩,b5⟩:=al.2 aD.symm (by rw[cm];rfl);rw[cm]at aT b5 a1;simp  [b'.len]at aT b5;have hlen:((xs.take G).drop a7).length=G - a7:=by grind
      obtain⟨r,cq,c7⟩:=Aq ((xs.take G).drop a7) (J4 a1 aM aT b5) (by omega);grind [YK]
     grind
    grind
   grind
  ·simp_all
  ·cases ki
 ·rename_i m bN k n aH G;split at h
  ·rename_i dw aZ xs gm;split at h
   ·rename_i he;obtain⟨rfl,rfl⟩:=he;simp  [da]at h;subst h;refine cR.pure (by grind) bo λa w kap F D bb hc=>?_;have al:bM C.P s.aa kap F w (use (bh C.aX s.aA x)).2 (a.eval x):=db D x rfl bb.1;rw[gm]at al;have L:=qb (db D i rfl bb.2) G;obtain⟨j,aK,tX,_⟩:=(aU.ca aH (by simp)).bn;obtain⟨p,bC,af,dh,qZ⟩:=al;obtain⟨bG,c2,c3,rfl,bz,c_⟩:=PV qZ (i:=n.toNat) (by omega);refine⟨.pointer (some ⟨p.block,p.off+n.toNat*aZ.size,none⟩),?_,⟨p.block,p.off+n.toNat*aZ.size,none⟩,c2,rfl,⟨dh.1,rfl,λq bB=>?_⟩,c_⟩
    ·simp[execOp,au,Instr.indexAt,af,L.1,asIntOf,en aK,hc.1,hc.2,tX.size,F6 dh.2.1,Instr.sureAddr]
    ·have:=dh.2.2 (bG.length+q) (by grind);grind
   ·cases h
  ·rename_i b g off gm;simp only[aF.gR,aF.dC]at h;split at h
   ·rename_i bA;simp  at bA;simp  at h;subst h;refine cR.pure (by grind) bo λa w kap F D bb hc=>?_;have E:bM C.P s.aa kap F w (use (bh C.aX s.aA x)).2 (a.eval x):=db D x rfl bb.1;rw[gm]at E;have L:=qb (db D i rfl bb.2) G;have an:=E.2 bA.1.symm bA.2;obtain⟨j,aK,tX,_⟩:=(aU.ca aH (by simp)).bn;exact⟨_,by simp[execOp,au,Instr.indexAt,an,L.1,asIntOf,en aK,hc.1,hc.2,tX.size,F6 (p:=⟨(kap b).aa,off,none⟩) rfl,Instr.sureAddr],⟨E.1.1,rfl⟩,λ_ _=>rfl⟩
   grind
  ·cases h
 ·cases h
theorem Ar{a:Act}{kap:Nat->bL}{F:Nat->Prop}(D:bu C s a w kap F){x:Option Operand}{p:Prop}{n:Option Int}(h:lh (bh C.aX s.aA) x=some (p,n))(ai:p) :
  (x=none/\n=none)\/∃ y k m,x=some y/\n=some m/\a.eval y=.int k m:=by
 cases x with
 | none=>grind [lh]
 | some y=>
  simp  [lh]at h;split at h
  ·rename_i q k m hu;obtain⟨rfl,rfl⟩:=h;exact .inr ⟨y,k,m,rfl,rfl,(hL.1 (db D y hu ai)).1⟩
  grind
theorem P7{P:Program}{isS:Bool}{len cap:Nat}{a7 G:Option Value}{l h:Option Int}(ah:(a7=none/\l=none)\/∃ k m,a7=some (.int k m)/\l=some m)(dh:(G=none/\h=none)\/∃ k m,G=some (.int k m)/\h=some m)
  (E:0<=dD l) (L:dD l<=fP len h) (an:fP len h<=(cap:Int)) (_h4:len<=cap):(Instr.sliceBounds isS len cap a7 G none).run P w=.ok ((dD l).toNat,(fP len h).toNat,cap) w:=by
 rcases ah with⟨rfl,rfl⟩ | ⟨k,m,rfl,rfl⟩<;>rcases dh with⟨rfl,rfl⟩ | ⟨k',dw,rfl,rfl⟩<;>simp  [dD,fP]at E L an ⊢
 ·rfl
 ·simp_all[Instr.sliceBounds,Instr.sliceBound,asIntOf]
 ·simp_all[Instr.sliceBounds,Instr.sliceBound,asIntOf]
 ·have aE:0<=dw/\dw<=cap:=by omega
  have c_:max dw 0=dw:=by omega
  simp_all[Instr.sliceBounds,Instr.sliceBound,asIntOf]
theorem anE{l h:Option Int}{n m:Nat}(YL:n<=m):FN l h n m<=m:=by
 unfold FN;grind
theorem anF(aU:eg C.P T){a7 G:Option Operand}(bo:∀ i,o.dst=some i->i<C.bZ)(au:o.op=.slice ty x a7 G none)(h:(cP C.aX T br (bh C.aX s.aA) o).run s.aa=some res):cR C o s res:=by
 simp  [cP,au,J7]at h;split at h
 ·rename_i ol l sG qe bQ As;have ax:∀ c,o.op≠.defer c:=by grind
  have u9:∀ (a:Act) (w:World) kap F,bu C s a w kap F->ol->sG->((a7.map a.eval=none/\l=none)\/∃ k m,a7.map a.eval=some (.int k m)/\l=some m)/\((G.map a.eval=none/\qe=none)\/∃ k m,G.map a.eval=some (.int k m)/\qe=some m):=by
   intro a w kap F D yp F7;constructor
   ·rcases Ar D bQ yp with⟨rfl,rfl⟩ | ⟨y,k,m,rfl,rfl,e⟩<;>grind
   ·rcases Ar D As F7 with⟨rfl,rfl⟩ | ⟨y,k,m,rfl,rfl,e⟩<;>grind
  split at h
  ·rename_i bN aH;have dF:=aU.ca aH (by simp);obtain⟨j,aK,iB,oM⟩:=dF.sl;simp only[aF.fZ,amj]at h;obtain⟨⟨c,v⟩,jR,h⟩:=h;simp  [da,amo]at h;subst h;have runs:∀ (a:Act) (w:World) kap F,bu C s a w kap F->ol->sG->∀ (q:Option Addr) (n cap:Nat),a.eval x=.slice q n cap->n<=cap->0<=dD l/\dD l<=fP n qe/\fP n qe<=cap->
     (execOp a.eval o).run C.P w=.ok (.value (.slice (if cap=(dD l).toNat then q else q.map (·.add ((dD l).toNat*bN.size))) ((fP n qe).toNat - (dD l).toNat) (cap - (dD l).toNat))) w:=by
    intro a w kap F D yp F7 q n cap af aC hc;obtain⟨cT,fc⟩:=u9 a w kap F D yp F7;have:=P7 (P:=C.P) (w:=w) (isS:=true) cT fc hc.1 hc.2.1 hc.2.2 aC;simp[execOp,au,af,Instr.sliceAt,Instr.slice,en aK,this,iB.size]
   unfold Yi at jR;split at jR
   ·rename_i e xs gm;simp only[aF.dC]at jR;split at jR
    ·obtain⟨rfl,rfl⟩:=jR;refine cR.pure ax bo λa w kap F D bb hc=>?_;have al:bM C.P s.aa kap F w (use (bh C.aX s.aA x)).2 (a.eval x):=db D x rfl bb.1;rw[gm]at al;obtain⟨_,a',cap,aE,m1,m2,m3,m4⟩:=(ee rfl).1 al;have aE:=(aPQ aE).1;refine⟨_,runs a w kap F D bb.2.1 bb.2.2 a' xs.length cap aE m1 ⟨hc.1,hc.2.1,by omega⟩,(ee rfl).2 ⟨rfl,?_⟩⟩;have hlen:((xs.take (fP xs.length qe).toNat).drop (dD l).toNat).length=(fP xs.length qe).toNat - (dD l).toNat:=by
      simp_all
     refine⟨_,_,by rw[hlen],by omega,by omega,?_,λp ai CL=>?_⟩
     ·intro aC;split at aC
      ·omega
      simp_all
     ·cases a' with
      | none=>split at ai<;>cases ai
      | some q=>
       obtain⟨eA,eG,lk⟩:=m4 q rfl (by omega);have bB:∃ d,p=⟨q.block,q.off+d,none⟩/\(d=(dD l).toNat*e.size\/cap=(dD l).toNat):=by
        split at ai
        ·omega
        ·simp  at ai;rw[F6 eG]at ai;grind
       obtain⟨d,rfl,J1⟩:=bB;refine⟨eA,rfl,λi G=>?_⟩;obtain⟨bC,d1,d2⟩:=lk ((dD l).toNat+i) (by omega);rcases J1 with rfl | w3<;>grind
    grind
   ·rename_i gm;obtain⟨rfl,rfl⟩:=jR;refine cR.pure ax bo λa w kap F D bb hc=>?_;have al:bM C.P s.aa kap F w (use (bh C.aX s.aA x)).2 (a.eval x):=db D x rfl bb.1;rw[gm]at al;have kx:=hc;have du:=runs a w kap F D bb.2.1 bb.2.2 none 0 0 al (amn _) kx;have aW:(fP 0 qe).toNat=0:=by omega
    rw[aW]at du;refine⟨_,du,?_⟩;simp only[bM];simp
   ·rename_i b g gm;simp only[aF.gR,aF.dC]at jR;split at jR
    ·rename_i bA;simp  at bA;obtain⟨⟨aD,ga⟩,Kg⟩:=bA;obtain⟨rfl,rfl⟩:=jR;refine cR.pure ax bo λa w kap F D bb hc=>?_;have al:bM C.P s.aa kap F w (use (bh C.aX s.aA x)).2 (a.eval x):=db D x rfl bb.1;rw[gm]at al;have af:=al.2 aD.symm ga;obtain⟨eA,eG⟩:=CV D ga;cases aC:(kap b).fO with
     | true=>
      have aW:=eA aC;simp  [bL.slice,aC]at af;rw[aW]at hc;have du:=runs a w kap F D bb.2.1 bb.2.2 none 0 0 af (amn _) hc;refine⟨_,du,⟨al.1.1,by rfl⟩,λ_ _=>⟨by grind,.inl ⟨aC,?_⟩⟩⟩;grind
     | false=>
      have w3:=PW D ga aC;simp  [bL.slice,aC,aPH]at af;have du:=runs a w kap F D bb.2.1 bb.2.2 _ _ _ af w3 ⟨hc.1,hc.2.1,by omega⟩;refine⟨_,du,⟨al.1.1,by rfl⟩,λ_ _=>⟨by omega,.inr ⟨aC,?_⟩⟩⟩;rw[<-Kg];by_cases kP:(kap b).cap=(dD l).toNat
      ·grind
      ·rw[if_neg kP];simp only[aRf,tW];simp
    grind
   ·rename_i b g fJ aW gm;simp only[aF.gR,aF.dC]at jR;split at jR
    ·rename_i bA;simp  at bA;obtain⟨⟨aD,ga⟩,Kg⟩:=bA;obtain⟨rfl,rfl⟩:=jR;refine cR.pure ax bo λa w kap F D bb hc=>?_;have al:bM C.P s.aa kap F w (use (bh C.aX s.aA x)).2 (a.eval x):=db D x rfl bb.1;rw[gm]at al;obtain⟨⟨aM,aT⟩,b5⟩:=al.2 aD.symm ga;obtain⟨eA,eG⟩:=CV D ga;have vi:FN l qe (aW - fJ) ((s.aa b).body.len - fJ)<=(s.aa b).body.len - fJ:=anE (by omega);revert hc vi;generalize FN l qe (aW - fJ) ((s.aa b).body.len - fJ)=lim;intro hc vi;rcases b5 with⟨aC,af⟩ | ⟨aC,pn,af,jO,gS⟩
     ·have Ks:=eA aC;have bN:aW - fJ=0:=by omega
      have elim:lim=0:=by omega
      rw[elim]at hc;grind
     ·have w3:=PW D ga aC;have du:=runs a w kap F D bb.2.1 bb.2.2 _ _ _ af (by omega) ⟨hc.1,hc.2.1,by omega⟩;refine⟨_,du,⟨al.1.1,by rfl⟩,λ_ _=>⟨by omega,.inr ⟨aC,?_⟩⟩⟩;rw[<-Kg];have aE:(fP (aW - fJ) qe).toNat - (dD l).toNat=fJ+(fP (aW - fJ) qe).toNat - (fJ+(dD l).toNat):=by omega
      have bz:(kap b).cap - fJ - (dD l).toNat=(kap b).cap - (fJ+(dD l).toNat):=by omega
      rw[aE,bz];have c_:(fJ+(dD l).toNat)*(s.aa b).body.gP=fJ*(s.aa b).body.gP+(dD l).toNat*(s.aa b).body.gP:=aQi _ _ _;by_cases kP:(kap b).cap - fJ=(dD l).toNat
      ·rw[if_pos kP];exact⟨_,rfl,by omega,λh=>by omega⟩
      ·rw[if_neg kP];simp only[aRf,tW];exact⟨_,rfl,by omega,λh=>by omega⟩
    grind
   ·cases jR
  ·rename_i aH;have dF:=(aU.ca aH (by simp)).str;split at h
   ·rename_i c v jR;simp  [da]at h;subst h;unfold Yj at jR;split at jR
    ·rename_i xs gm;obtain⟨rfl,rfl⟩:=jR;refine cR.pure ax bo λa w kap F D bb hc=>?_;have al:bM C.P s.aa kap F w (use (bh C.aX s.aA x)).2 (a.eval x):=db D x rfl bb.1;rw[gm]at al;obtain⟨af,dv⟩:=k7.1 al;obtain⟨cT,fc⟩:=u9 a w kap F D bb.2.1 bb.2.2;have az:ByteArray.size ⟨xs.toArray⟩=xs.length:=by rfl
     have:=P7 (P:=C.P) (w:=w) (isS:=false)     cT fc hc.1 hc.2.1 hc.2.2 (amn _);refine⟨.string ⟨((xs.take (fP xs.length qe).toNat).drop (dD l).toNat).toArray⟩,?_,k7.2 ⟨rfl,by grind⟩⟩;simp  [execOp,au,af,Instr.sliceAt,Instr.slice,en dF,az,this];have he:ByteArray.extract ⟨xs.toArray⟩ (dD l).toNat (fP xs.length qe).toNat=⟨((xs.take (fP xs.length qe).toNat).drop (dD l).toNat).toArray⟩:=by
      apply ByteArray.ext;rw[ByteArray.data_extract];grind
     grind
    grind
   ·cases h
  ·cases h
 ·cases h
end
end Go.Fer
namespace Go.Fer
open Go.RowKit
def hZ(P:Program)(e:V)(F:Nat->Prop)(w:World)(all:List Value)(xs:List e.aj):Prop:=
 all.length=xs.length*e.size/\∀ i (h:i<xs.length),cw P e F w ((all.drop (i*e.size)).take e.size) xs[i]
variable {P:Program}{e:V}{F:Nat->Prop}{w:World}
theorem hZ.append{l m:List Value}{xs bq:List e.aj}(h:hZ P e F w l xs)(k:hZ P e F w m bq):hZ P e F w (l++m) (xs++bq):=by
 refine⟨by simp[h.1,k.1,aQi],λi G=>?_⟩;by_cases al:i<xs.length
 ·have aE:(xs++bq)[i]=xs[i]:=List.getElem_append_left al;rw[aE];have hle:(i+1)*e.size<=xs.length*e.size:=amt _ (by omega);rw[aQi]at hle;have:((l++m).drop (i*e.size)).take e.size=(l.drop (i*e.size)).take e.size:=by
   rw[List.drop_append_of_le_length (by rw[h.1];omega),List.take_append_of_le_length (by simp[h.1];omega)]
  rw[this];exact h.2 i al
 ·have d_:i - xs.length<bq.length:=by grind
  have aE:(xs++bq)[i]=bq[i - xs.length]:=aQP (by omega);rw[aE];have hm:i*e.size=xs.length*e.size+(i - xs.length)*e.size:=by rw[<-aQi];grind
  have:(l++m).drop (i*e.size)=m.drop ((i - xs.length)*e.size):=by
   rw[hm,<-h.1];simp
  rw[this];exact k.2 _ d_
theorem hZ.F8{all pre post:List Value}{cs:Array Value}{xs:List e.aj}(h:hZ P e F w all xs)(hc:cs.toList=pre++(all++post)):ns P e F w cs pre.length xs:=by
 intro i G;refine⟨_,λj aK=>?_,h.2 i G⟩;rw[<-aP2,hc];grind
theorem Kt{P:Program}{e:V}{F:Nat->Prop}{w:World}:∀ {xs:List e.aj} {p:Addr},(0<xs.length->p.spot=none)->(∀ i (h:i<xs.length),∃ bC,mP w ⟨p.block,p.off+i*e.size,none⟩ bC/\cw P e F w bC xs[i])->
  ∃ all,hZ P e F w all xs/\mP w p all
 | [],p,ai,_=>⟨[],⟨by simp,λi G=>by grind⟩,λh=>by grind,λj aK=>by grind⟩
 | x::xs,p,ai,h=>by
  obtain⟨bC,d1,d2⟩:=h 0 (by simp);have iA:=jN e d2;obtain⟨all,cr,b4⟩:=Kt (P:=P) (F:=F) (w:=w) (xs:=xs) (p:=⟨p.block,p.off+e.size,none⟩) (λ_=>rfl) (λi G=>by
   obtain⟨YJ,aM,aT⟩:=h (i+1) (by grind);grind)
  refine⟨bC++all,?_,λ_=>ai (by simp),λj aK=>?_⟩
  ·have E:hZ P e F w bC [x]:=⟨by grind,λi G=>by
    have:i=0:=by grind
    subst this;grind⟩
   exact E.append cr
  ·rcases aQF j bC.length with E | E
   ·have:=d1.2 j E;grind
   ·have:=b4.2 (j - bC.length) (by grind);grind
section
variable {C:cH} {T:Nat->V} {br:Nat->Option aO} {o:Oper} {s:aB} {res:ez}
variable {v:Value}
theorem Au{a:Act}{kap:Nat->bL}(D:bu C s a w kap F){av:aL}{bq:List e.aj}{l:List Nat}(h:(ej (.slice e) av).run s.aa=some (bq,l))(af:bM C.P s.aa kap F w av v) :
  ∃ q cap,v=.slice q bq.length cap/\((q=none/\bq=[]/\cap=0)\/∃ p all,q=some p/\hZ C.P e F w all bq/\mP w p all):=by
 have Aq:∀ {xs:List e.aj},cw C.P (.slice e) F w [v] xs->∃ q cap,v=.slice q xs.length cap/\((q=none/\xs=[]/\cap=0)\/∃ p all,q=some p/\hZ C.P e F w all xs/\mP w p all):=by
  intro xs al;obtain⟨q,cap,aE,m1,m2,m3,m4⟩:=al;refine⟨q,cap,(aPQ aE).1,?_⟩;cases q with
  | none=>
   simp_all
  | some p=>
   obtain⟨all,cr,b4⟩:=Kt           (λh=>(m4 p rfl (by omega)).2.1) (λi G=>let ⟨bC,d1,d2⟩:=(m4 p rfl (by omega)).2.2 i G;⟨bC,d1.PN,d2⟩);grind
 cases av with
 | val dM y=>
  simp  [ej]at h;obtain⟨z,bA,rfl,_⟩:=h;exact Aq (((ee rfl).1 (CK bA af)).2)
 | dW=>
  simp  [ej,l4,V.fY,eK]at h;grind [bM]
 | own b g=>
  simp only[ej,l4,V.fY,if_true,eK,aF.gR,aF.dC]at h;split at h
  ·rename_i aD;have a1:=D.bF b;unfold c6 at a1;split at h
   ·rename_i aZ xs cm;simp  at h;obtain⟨z,bA,rfl,_⟩:=h;obtain⟨F9,rfl⟩:=mO bA;have C2:=af.2 aD.symm (by rw[cm];rfl);rw[cm]at C2 a1;simp  [b'.len]at C2;cases aC:(kap b).fO with
    | true=>
     have kg:=a1.1 aC;grind [bL.slice]
    | false=>
     obtain⟨cs,h8,bG,c2,c3,c4,c5⟩:=a1.2 aC;simp  [bL.slice]at C2;obtain⟨all,cr,b4⟩:=Kt         (p:=⟨(kap b).aa,(kap b).off,none⟩) (λ_=>rfl) (λi G=>by
      obtain⟨bC,d1,d2⟩:=c5 i G;exact⟨bC,⟨λ_=>rfl,λj aK=>by grind [Al]⟩,d2⟩)
     grind
   ·rename_i aZ xs cm;simp  at h;obtain⟨z,bA,rfl,_⟩:=h;obtain⟨F9,rfl⟩:=mO bA;have C2:=af.2 aD.symm (by rw[cm];rfl);grind [b'.len,mr]
   grind
  grind
 | sub b g a7 G=>
  simp only[ej,l4,V.fY,if_true,eK,aF.gR,aF.dC]at h;split at h
  ·rename_i aD;have a1:=D.bF b;unfold c6 at a1;split at h
   ·rename_i aZ xs cm;simp  at h;obtain⟨z,bA,rfl,_⟩:=h;obtain⟨F9,rfl⟩:=mO bA;cases F9;obtain⟨⟨aM,aT⟩,b5⟩:=af.2 aD.symm (by rw[cm];rfl);rw[cm]at aT b5 a1;simp  [b'.len,b'.gP]at aT b5;have hlen:((xs.take G).drop a7).length=G - a7:=by grind
    rcases b5 with⟨aC,C2⟩ | ⟨aC,pn,C2,jO,gS⟩
    ·have kg:=a1.1 aC;grind
    ·obtain⟨cs,h8,bG,c2,c3,c4,c5⟩:=a1.2 aC;obtain⟨all,cr,b4⟩:=Kt (P:=C.P) (F:=F)   (xs:=(xs.take G).drop a7) (p:=⟨(kap b).aa,pn,none⟩) (λ_=>rfl) (λi d_=>by
      obtain⟨bC,d1,d2⟩:=c5 (a7+i) (by omega);refine⟨bC,⟨λ_=>rfl,λj aK=>?_⟩,?_⟩
      ·rw[Al bG];grind
      grind)
     grind
   ·rename_i aZ xs cm;simp  at h;obtain⟨z,bA,rfl,_⟩:=h;obtain⟨F9,rfl⟩:=mO bA;cases F9;obtain⟨⟨aM,aT⟩,b5⟩:=af.2 aD.symm (by rw[cm];rfl);rw[cm]at aT b5 a1;exact Aq (J4 a1 aM aT b5)
   grind
  grind
 | eL dM y=>simp_all[ej,l4,eK,aF.none]
 | u_ aZ y=>
  simp  [ej,l4,V.fY,eK,aPK]at h;obtain⟨z,bA,rfl,_⟩:=h;exact Aq (((ee rfl).1 (CK bA af.1)).2)
 | k8 u=>simp_all[ej,l4,V.fY,eK,FI]
 | _=>simp[ej,l4,V.fY,eK,aF.none]at h
variable {cap:Nat}
theorem P8{q:Option Addr}{n:Nat}{xs:List e.aj}(aC:n=xs.length)(h:(q=none/\xs=[]/\cap=0)\/∃ p all,q=some p/\hZ P e F w all xs/\mP w p all) :
  ∃ all,(Builtin.firstCells e.size n (.slice q n cap)).run P w=.ok all.toArray w/\hZ P e F w all xs:=by
 subst aC;rcases h with⟨rfl,rfl,rfl⟩ | ⟨p,all,rfl,cr,b4⟩
 ·exact⟨[],by rfl,by simp[hZ]⟩
 ·refine⟨all,?_,cr⟩;simp  [Builtin.firstCells];rw[<-cr.1];exact CQ b4
theorem anG(n:Nat):∀ (k c:Nat),Builtin.growBy n k c<=max c (2*n+768):=by
 intro k;induction k with
 | zero=>grind [Builtin.growBy]
 | succ k aP=>
  grind [Builtin.growBy]
theorem anH{P9:Nat}(h:cap<P9):Builtin.nextslicecap P9 cap<=2*P9+768:=by
 grind [Builtin.nextslicecap,anG]
theorem anI{z:Array Value}{n k:Nat}(h:z.size=k):(Builtin.zeroCells z n).size=n*k:=by grind [Builtin.zeroCells]
structure w4(P:Program)(e:V)(F:Nat->Prop)(w:World)(mQ:TypeId)(v:Value)(bq:List e.aj):Prop where
 YM:(∃ j,P.underlying mQ=some (.slice j))\/P.underlying mQ=some .string
 len:∀ cj,(Builtin.lenOf v).run P cj=.ok bq.length cj
 cells:∃ fo:List Value,(∀ cj,cj=w\/cj=w.drew->(Builtin.firstCells e.size bq.length v).run P cj=.ok fo.toArray cj)/\hZ P e F w fo bq
theorem w4.slice{mQ:TypeId}{q':Option Addr}{yq:Nat}{bq:List e.aj}(hu:∃ j,P.underlying mQ=some (.slice j))(af:v=.slice q' bq.length yq)
  (ba:(q'=none/\bq=[]/\yq=0)\/∃ p all,q'=some p/\hZ P e F w all bq/\mP w p all):w4 P e F w mQ v bq:=by
 subst af;refine⟨.inl hu,λcj=>rfl,?_⟩;rcases ba with⟨rfl,rfl,rfl⟩ | ⟨p,all,rfl,cr,b4⟩
 ·simp_all[Builtin.firstCells,hZ]
 ·refine⟨all,λcj E=>?_,cr⟩;simp  [Builtin.firstCells];rw[<-cr.1];rcases E with rfl | rfl
  ·exact CQ b4
  ·exact CQ   b4
theorem anJ{ty mQ:TypeId}(h:cx P (.slice e) ty){q:Option Addr}{xs bq:List e.aj}
  (al:(q=none/\xs=[]/\cap=0)\/∃ p all,q=some p/\hZ P e F w all xs/\mP w p all) (ba:w4 P e F w mQ v bq)
  (hc:cap<xs.length+bq.length) (ah:cb (xs.length+bq.length)) (rt:TypeId) :
  ∃ l8 uc cs,(Builtin.append_ #[ty,mQ] rt #[.slice q xs.length cap,v]).run P w=.ok (.slice (some ⟨w.heap.size,0,none⟩) (xs.length+bq.length) uc) (w.drew.alloc (.cells cs l8))/\
   (uc<2 ^ 63/\wV P e l8)/\xs.length+bq.length<=uc/\cs.size=uc*e.size/\ns P e F w cs 0 (xs++bq):=by
 obtain⟨l8,aK,iB,oM⟩:=h.sl;obtain⟨Ku,F_,fo,w5,jj⟩:=ba;obtain⟨i,z,i1,i2,i3,i4,i5,i6⟩:=nv iB.nu;have bA:=(F3 e (P:=P) i5).2;have anK:∀ t,xs.length+bq.length<=xs.length+bq.length+t % (2 ^ 63 - (xs.length+bq.length))/\xs.length+bq.length+t % (2 ^ 63 - (xs.length+bq.length))<2 ^ 63:=by
  intro t;unfold cb at ah;have:t % (2 ^ 63 - (xs.length+bq.length))<2 ^ 63 - (xs.length+bq.length):=Nat.mod_lt _ (by omega);omega
 generalize YN:xs.length+bq.length+(w.tape w.drawn (.appendCap (xs.length+bq.length) cap l8)) % (2 ^ 63 - (xs.length+bq.length))=uc;have P_:=anK (w.tape w.drawn (.appendCap (xs.length+bq.length) cap l8));rw[YN]at P_;have anL:∀ {p:Addr} {all:List Value},mP w p all->mP w.drew p all:=λh=>h;have YO:∀ {all:List Value} {zs:List e.aj},hZ P e F w all zs->hZ P e F w.drew all zs:=λh=>⟨h.1,λi G=>fH e     (w:=w)   (λ_ D=>D) ⟨amn _,λ_ _=>rfl⟩ (h.2 i G)⟩
 have oH:(q=none/\xs=[]/\cap=0)\/∃ p all,q=some p/\hZ P e F w.drew all xs/\mP w.drew p all:=al.imp id λ⟨p,all,a,b,c⟩=>⟨p,all,a,YO b,anL c⟩
 obtain⟨q0,jO,gS⟩:=P8       rfl oH;have eA:=w5 w.drew (.inr rfl);have eG:=YO jj;refine⟨l8,uc,q0.toArray++fo.toArray++Builtin.zeroCells z.cells (uc - (xs.length+bq.length)),?_,⟨P_.2,iB.Kh⟩,P_.1,?_,?_⟩
 ·have U:=anH hc;have w6:=by
   unfold cb at ah;calc Builtin.nextslicecap (xs.length+bq.length) cap*i.bytes<=(2*4294967296+768)*1024:=Nat.mul_le_mul (by omega) i3
    _<=281474976710656:=by decide
  have Av:¬((xs.length+bq.length:Nat)) > IntKind.i64.max:=by
   have:IntKind.i64.max=9223372036854775807:=by decide
   omega
  have YP:¬Builtin.nextslicecap (xs.length+bq.length) cap*i.bytes > 2 ^ 48:=by
   omega
  have P':(Question.appendCap (xs.length+bq.length) cap l8).cut (w.tape w.drawn (.appendCap (xs.length+bq.length) cap l8))=uc:=by
   rw[<-YN];rfl
  have YQ:(Question.appendCap (xs.length+bq.length) cap l8).forced=false:=rfl;rcases Ku with⟨mT,gQ⟩ | gQ
  ·simp only[Builtin.append_,aQB,aQW,aQv,Sem.run_bind,en aK,en gQ,Result.andThen_ok,tS i1,i2,Sem.run_pure,F_,aml,aPH,if_neg (show ¬xs.length+bq.length<=cap by omega),Av,false_and,FW i1,YP,run_choose,YQ,P',run_askRoom,aQu,if_true,World.drew_eq,jO,eA,sJ i1 i4];rfl
  ·simp only[Builtin.append_,aQB,aQW,aQv,Sem.run_bind,en aK,en gQ,Result.andThen_ok,tS i1,i2,Sem.run_pure,F_,aml,aPH,if_neg (show ¬xs.length+bq.length<=cap by omega),Av,false_and,FW i1,YP,run_choose,YQ,P',run_askRoom,aQu,if_true,World.drew_eq,jO,eA,sJ i1 i4];rfl
 ·have E:=gS.1;have L:=eG.1;simp  [anI bA,L];grind [Nat.add_mul]
 ·have hP:=gS.append eG;have anM:hZ P e F w (q0++fo) (xs++bq):=⟨hP.1,λi G=>fH e     (w:=w.drew)   (λ_ D=>D) ⟨amn _,λ_ _=>rfl⟩ (hP.2 i G)⟩
  exact anM.F8 (pre:=[]) (post:=(Builtin.zeroCells z.cells (uc - (xs.length+bq.length))).toList) (by simp)
end
end Go.Fer
namespace Go.Fer
open Go.RowKit
section
variable {C:cH} {T:Nat->V} {br:Nat->Option aO} {o:Oper} {s:aB} {res:ez}
variable {w:World}{F:Nat->Prop}{e:V}
theorem bu.Ga{a:Act}{w':World}{kap:Nat->bL}(h:bu C s a w kap F){b g:Nat}{zs:List e.aj}{k:bL}(aD:(s.aa b).gen<g)(l9:k.fO=true\/k.aa=w.heap.size)(cN:w.heap.size<=w'.heap.size)
  (oN:∀ r,r<w.heap.size->w'.heap[r]?=w.heap[r]?) (dv:k.fO=false->k.aa<w'.heap.size) (hc:dL w w')
  (cm:∀ H bT,mr C.P H bT F w' k (.bn e zs)):bu C (s.ct b ⟨g,.bn e zs⟩) a w' (λi=>if i=b then k else kap i) F:=by
 have ah:fI s.aa kap (λi=>if i=b then (⟨g,.bn e zs⟩) else s.aa i) (λi=>if i=b then k else kap i):=CG aD λbj ef=>by grind
 have he:di F w w':=⟨cN,λr D=>oN r (h.ds r D)⟩
 refine h.move   ah (λ_ D=>D) (λ_ D=>.inl D) cN (λr D _=>oN r D) hc (λ_=>?_) ?_ ?_ (λr D=>aPG (h.ds r D) cN) (CH (.inr ⟨rfl,rfl⟩) λbj ef=>by grind)
 ·intro i;by_cases G:i=b
  ·grind [c6]
  ·exact c6.k_ (h.bF i) ah (λ_ D=>D) he (by grind) (by grind) λau=>oN _ (h.own i au).1
 ·intro i G;by_cases bD:i=b
  ·subst bD;simp  [b'.ch]at G ⊢;have ak:=l9.resolve_left (by grind);refine⟨dv G,λay=>?_,.inr (by omega)⟩;have:=h.ds _ ay;omega
  ·simp  [if_neg bD]at G ⊢;have:=h.own i G;grind
 ·intro i j G aK aZ;by_cases bD:i=b<;>by_cases pc:j=b
  ·omega
  ·simp  [if_pos bD,if_neg pc,b'.ch]at G aK aZ;have ak:=l9.resolve_left (by grind);have:=(h.own j aK).1;omega
  ·simp  [if_neg bD,if_pos pc,b'.ch]at G aK aZ;have ak:=l9.resolve_left (by grind);have:=(h.own i G).1;omega
  ·simp  [if_neg bD,if_neg pc]at G aK aZ;exact h.inj i j G aK aZ
theorem anN(s:aB)(b:Nat)(x y:b9):(s.ct b x).ct b y=s.ct b y:=by
 simp_all[aB.ct]
theorem bu.anO{a:Act}{kap:Nat->bL}(h:bu C s a w kap F){b:Nat}{xs:List e.aj}(U:(s.aa b).body=.bn e xs){a7 G:Nat}(E:a7<=G)(L:G<=xs.length){v:Value}(az:JY (kap b) e.size a7 G v) :
  ∃ bT,bu C (s.ct b ⟨(s.aa b).gen+1,.bn e ((xs.take G).drop a7)⟩) a w bT F/\v=(bT b).slice ((xs.take G).drop a7).length:=by
 have hlen:((xs.take G).drop a7).length=G - a7:=by simp;omega
 have hp:∀ bT:Nat->bL,(∀ bj,bj≠b->bT bj=kap bj)->fI s.aa kap (λi=>if i=b then (⟨(s.aa b).gen+1,.bn e ((xs.take G).drop a7)⟩:b9) else s.aa i) bT:=
  λbT J2=>CG (aQq _) J2
 have a1:=h.bF b;unfold c6 at a1;rw[U]at a1;rcases az with⟨aC,rfl⟩ | ⟨aC,o,rfl,jO,gS⟩
 ·have kg:=a1.1 aC;subst kg;refine⟨kap,?_,by simp[bL.slice,aC]⟩;refine h.move (H':=λi=>if i=b then (⟨(s.aa b).gen+1,.bn e ((([]:List e.aj).take G).drop a7)⟩:b9) else s.aa i) (hp kap λ_ _=>rfl) (λ_ D=>D) (λ_ D=>.inl D) (amn _) (λ_ _ _=>rfl) (dL.refl _) (λ_=>?_) ?_ ?_ h.ds (CH (.inr ⟨rfl,rfl⟩) λ_ _=>rfl)
  ·intro i;by_cases G:i=b
   ·subst G;simp only[c6,if_true];exact⟨λ_=>by simp,λh=>by rw[aC]at h;cases h⟩
   ·exact c6.k_ (h.bF i) (hp kap λ_ _=>rfl) (λ_ D=>D) (di.refl _ _) (by simp[G]) rfl λ_=>rfl
  ·intro i G;by_cases bD:i=b
   ·subst bD;simp[b'.ch,aC]at G
   ·simp only[if_neg bD]at G;exact⟨(h.own i G).1,(h.own i G).2.1,.inl ⟨i,G,rfl⟩⟩
  ·intro i j G aK aZ;by_cases bD:i=b
   ·grind [b'.ch]
   ·by_cases pc:j=b
    ·grind [b'.ch]
    ·simp  [if_neg bD,if_neg pc]at G aK;exact h.inj i j G aK aZ
 ·obtain⟨cs,h8,bG,c2,c3,c4,c5⟩:=a1.2 aC;let k':bL:=⟨(kap b).aa,o,(kap b).cap - a7,false⟩
  let bT:=λi=>if i=b then k' else kap i
  have Gb:∀ bj,bj≠b->bT bj=kap bj:=λbj h=>if_neg h;have Qa:bT b=k':=if_pos rfl;have eJ:=h.own b (by grind [b'.ch]);refine⟨bT,?_,by grind [bL.slice]⟩;refine h.move   (hp bT Gb) (λ_ D=>D) (λ_ D=>.inl D) (amn _) (λ_ _ _=>rfl) (dL.refl _) (λ_=>?_) ?_ ?_ h.ds (CH (.inr ⟨rfl,rfl⟩) Gb)
  ·intro i;by_cases d_:i=b
   ·subst d_;simp  [c6,Qa];have hmul:a7*e.size<=(kap i).cap*e.size:=amt _ (by omega);refine⟨λh=>(by grind),λ_=>⟨cs,h8,bG,?_,by grind,⟨by grind,c4.2⟩,λj aK=>?_⟩⟩
    ·grind [Nat.sub_mul]
    ·obtain⟨bC,d1,d2⟩:=c5 (a7+j) (by omega);grind
   ·exact c6.k_ (h.bF i) (hp bT Gb) (λ_ D=>D) (di.refl _ _) (by grind) (Gb i d_) λ_=>rfl
  ·intro i d_;by_cases bD:i=b
   ·grind [b'.ch]
   ·simp  [if_neg bD]at d_;rw[Gb i bD]at d_ ⊢;exact⟨(h.own i d_).1,(h.own i d_).2.1,.inl ⟨i,d_,rfl⟩⟩
  ·intro i j d_ aK aZ;have YR:∀ i,(bT i).aa=(kap i).aa:=λi=>by
    grind
   have cy:∀ i,((if i=b then (⟨(s.aa b).gen+1,.bn e ((xs.take G).drop a7)⟩) else s.aa i).body.ch (bT i)=true)->(s.aa i).body.ch (kap i)=true:=λi G=>by
    grind [b'.ch]
   rw[YR,YR]at aZ;exact h.inj i j (cy i d_) (cy j aK) aZ
variable {P:Program}
theorem ns.later{w':World}{cs:Array Value}{off:Nat}{xs:List e.aj}(h:ns P e F w cs off xs)(he:di F w w'):ns P e F w' cs off xs:=h.mono (λ_ D=>D) he
theorem w4.string{mQ:TypeId}{v:Value}{str:List UInt8}(hu:P.underlying mQ=some .string)(af:v=.string ⟨str.toArray⟩):w4 P (.int .u8) F w mQ v (de str):=by
 subst af;have cN:(ByteArray.mk str.toArray).size=str.length:=by rfl
 have ah:(de str).length=str.length:=by simp[de]
 refine⟨.inr hu,λcj=>?_,(de str).map (Value.int .u8),λcj _=>?_,?_,λi G=>?_⟩
 ·show Result.ok (ByteArray.mk str.toArray).size cj=_;grind
 ·rw[ah];show Result.ok ((((ByteArray.mk str.toArray).extract 0 str.length).data.map λb=>Value.int .u8 b.toNat)) cj=_;simp_all[de]
 ·rw[aPW];exact (Nat.mul_one _).symm
 ·have az:V.size (.int .u8)=1:=rfl;have dR:i<((de str).map (Value.int .u8)).length:=by grind
  rw[az,Nat.mul_one,aPM dR];simp;refine⟨rfl,?_⟩;simp  [de];have:=(str[i]'(by omega)).toNat_lt;exact⟨by show (0)<=_;omega,by show _<=(255);omega⟩
theorem YS(aU:eg C.P T){x y:Operand}{t u:TypeId}(bo:∀ i,o.dst=some i->i<C.bZ)(au:o.op=.call { callee:=.builtin .append,args:=⟨[x,y]⟩,argTypes:=⟨[t,u]⟩ })(aH:T t=.slice e){kO:aL}{lH:Prop}
  (Kv:∀ {a:Act} {w:World} {kap:Nat->bL} {F:Nat->Prop} {bq:List e.aj} {l:List Nat},bu C s a w kap F->lH->(ej (.slice e) kO).run s.aa=some (bq,l)->w4 C.P e F w u (a.eval y) bq)
  (h:(FO o.dst e (use (bh C.aX s.aA x)).2 kO ((use (bh C.aX s.aA x)).1/\lH)).run s.aa=some res):cR C o s res:=by
 have ax:∀ c,o.op≠.defer c:=by rw[au];intro c hc;cases hc
 have dF:=aU.ca aH (by simp);obtain⟨l8,aK,iB,oM⟩:=dF.sl;obtain⟨inf,z,i1,i2,i3,i4,i5,i6⟩:=nv iB.nu;have pg:∀ (a:Act) (w w':World) v,(Builtin.append_ #[t,u] o.type #[a.eval x,a.eval y]).run C.P w=.ok v w'->(execOp a.eval o).run C.P w=.ok (.value v) w':=by
  intro a w w' v af;refine sL au ?_;simp[builtin,af]
 have main:∀ (s:aB) (a:Act) (w:World) (kap:Nat->bL) (F:Nat->Prop) (Q:Exit->Act->World->Prop) (b g:Nat) (xs bq:List e.aj),bu C s a w kap F->
   w4 C.P e F w u (a.eval y) bq->
   (s.aa b).gen<g->(∃ q cap,a.eval x=.slice q xs.length cap/\((q=none/\xs=[]/\cap=0)\/∃ p all,q=some p/\hZ C.P e F w all xs/\mP w p all))->
   (∀ q cap,a.eval x=.slice q xs.length cap->q≠none->xs.length+bq.length<=cap->(s.aa b).body=.bn e xs/\(kap b).fO=false/\q=some ⟨(kap b).aa,(kap b).off,none⟩/\cap=(kap b).cap)->cb (xs.length+bq.length)->
   o.wpIn (eY C.r) 0 C.P a w (λa' w'=>dd C ((s.ct b ⟨g,.bn e (xs++bq)⟩).set o.dst (.own b g)) a' w') Q:=by
  intro s a w kap F Q b g xs bq D rN Qb vj anP hlen;obtain⟨q,cap,vj,Qc⟩:=vj;obtain⟨Ku,F_,fo,anQ,eG⟩:=id rN;have eA:=anQ w (.inl rfl);have Qd:∀ (bT:Nat->bL) (v:Value) (w':World),bu C (s.ct b ⟨g,.bn e (xs++bq)⟩) a w' bT F->v=(bT b).slice (xs++bq).length->dd C ((s.ct b ⟨g,.bn e (xs++bq)⟩).set o.dst (.own b g)) (a.put o.dst v) w':=by
   intro bT v w' bk af;refine⟨bT,F,bu.set bk bo ⟨⟨by simp[aB.ct],?_⟩,λ_ _=>?_⟩⟩
   ·rw[af];unfold bL.slice;split<;>rfl
   ·rw[af];simp[aB.ct,b'.len]
  by_cases Gc:xs.length+bq.length<=cap
  ·cases bB:q with
   | none=>
    subst bB;obtain⟨anR,CL⟩:xs=[]/\cap=0:=by
     grind
    subst anR;subst CL;have Qe:bq=[]:=by grind
    subst Qe;have du:(Builtin.append_ #[t,u] o.type #[a.eval x,a.eval y]).run C.P w=.ok (.slice none 0 0) w:=by
     rw[vj];simp  at eA ⊢;rcases Ku with⟨mT,gQ⟩ | gQ<;>(simp[Builtin.append_,en aK,en gQ,tS i1,F_];rw[i2,eA];simp)
    refine h7 ax (pg a w w _ du) (Qd _ _ _ (D.Ga (k:=⟨0,0,0,true⟩) Qb (.inl rfl) (amn _) (λ_ _=>rfl) (λh=>by grind) (dL.refl _) λH bT=>⟨λ_=>rfl,λh=>by grind⟩) ?_);simp[bL.slice]
   | some Kw=>
    obtain⟨U,ub,ai,w3⟩:=anP q cap vj (by rw[bB];simp) Gc;rw[bB]at ai;have ai:=aQh ai;subst ai;subst w3;have a1:=D.bF b;unfold c6 at a1;rw[U]at a1;obtain⟨cs,h8,bG,c2,c3,c4,c5⟩:=a1.2 ub;skip;have q1:=eG.1;have qd:∀ v∈fo,v.oneCell'=true:=by
     intro v af;obtain⟨j,aK,rfl⟩:=List.mem_iff_getElem.1 af;have kh:0<e.size:=aQZ oM;have hdiv:j / e.size<bq.length:=(Nat.div_lt_iff_lt_mul kh).2 (by rw[<-q1];exact aK);have qZ:=eG.2 (j / e.size) hdiv;have ka:=CJ (P:=C.P) (H:=λ_=>⟨0,.ev⟩) (kap:=λ_=>⟨0,0,0,true⟩) e qZ;have Kx:=Nat.mod_lt j kh;have YT:j / e.size*e.size+j % e.size=j:=Nat.div_add_mod' j e.size;have YU:((fo.drop (j / e.size*e.size)).take e.size).length=e.size:=jN e qZ;have:=(ka.n1 (j % e.size) (by rw[ka.len,YU];exact Kx)).2;rw[amq,aQ0,if_pos Kx,aQC,YT,ams aK]at this;exact this
    have anS:(kap b).off+xs.length*e.size+0+fo.length<=cs.size:=by
     rw[q1];have:(xs.length+bq.length)*e.size<=(kap b).cap*e.size:=amt _ Gc;rw[aQi]at this;omega
    obtain⟨w',ew,cq,c7,fL,oJ,n9,oK⟩:=yn (P:=C.P) fo ((kap b).off+xs.length*e.size) 0 w cs bG anS qd;have du:(Builtin.append_ #[t,u] o.type #[a.eval x,a.eval y]).run C.P w=.ok (.slice (some ⟨(kap b).aa,(kap b).off,none⟩) (xs.length+bq.length) (kap b).cap) w':=by
     rw[vj,bB];rcases Ku with⟨mT,gQ⟩ | gQ<;>(simp only[Builtin.append_,aQB,aQW,aQv,Sem.run_bind,en aK,en gQ,Result.andThen_ok,tS i1,i2,Sem.run_pure,F_,aml,aPH,if_pos Gc,aQu,if_true,eA,tW];simp only[cq,Result.andThen_ok])
    have hp:fI s.aa kap (λi=>if i=b then (⟨g,.bn e (xs++bq)⟩:b9) else s.aa i) kap:=CG Qb λ_ _=>rfl;refine h7 ax (pg a w w' _ du) (Qd kap _ _ (D.qU (b:=b) (by rw[U];simp[b'.ch,ub]) (by simp[b'.ch,ub]) hp (λh=>by cases h) (λh=>by cases h) oJ n9 oK λH pk dv he=>?_) (by simp[bL.slice,ub]));refine⟨λh=>(by rw[ub]at h;cases h),λ_=>?_⟩;have Ko:ew.size=cs.size:=by
     rw[<-aPY,fL];simp only[aP8,aQl,List.length_drop,aPY];omega
    refine⟨ew,h8,c7,by omega,by simp;omega,c4,λi G=>?_⟩;simp only[aRl]at fL;have hQ:(cs.toList.take ((kap b).off+xs.length*e.size)).length=(kap b).off+xs.length*e.size:=by grind
    by_cases YV:i<xs.length
    ·obtain⟨bC,d1,d2⟩:=c5 i YV;have aE:(xs++bq)[i]=xs[i]:=List.getElem_append_left YV;rw[aE];refine⟨bC,λk ak=>?_,fH e (λ_ D=>D) he d2⟩;have anT:=jN e d2;have hle:(i+1)*e.size<=xs.length*e.size:=amt _ (by omega);rw[aQi]at hle;rw[<-aP2,fL,aP1 (by omega),aQ0];grind
    ·have d_:i - xs.length<bq.length:=by grind
     have aE:(xs++bq)[i]=bq[i - xs.length]:=aQP (by omega);rw[aE];have qf:=eG.F8     fL;obtain⟨bC,d1,d2⟩:=qf (i - xs.length) d_;refine⟨bC,λk ak=>?_,fH e (λ_ D=>D) he d2⟩;have:=d1 k ak;rw[<-this];congr 1;have:i*e.size=xs.length*e.size+(i - xs.length)*e.size:=by rw[<-aQi];grind
     omega
  ·obtain⟨anU,uc,cs,cq,c7,fL,oJ,n9⟩:=anJ         dF Qc rN (by omega) hlen o.type;rw[<-vj]at cq;refine h7 ax (pg a w _ _ cq) (Qd _ _ _ (D.Ga (k:=⟨w.heap.size,0,uc,false⟩) Qb (.inr rfl) (by simp) (λr D=>?_) (λ_=>by simp) ⟨rfl,rfl,rfl⟩ λH bT=>⟨λh=>(by grind),λ_=>⟨cs,anU,?_,by grind,by grind,c7,?_⟩⟩) ?_)
   ·exact rH w.drew _ D
   ·exact tR w.drew _
   ·exact n9.later ⟨by simp,λr bk=>rH w.drew _ (D.ds r bk)⟩
   ·simp[bL.slice]
 simp only[FO]at h;split at h
 ·rename_i b g gm;simp  at h;split at h
  ·rename_i aZ xs cm;split at h
   ·rename_i ud;subst ud;simp only[aF.fZ,amj,aF.dC,amo]at h;obtain⟨⟨bq,l⟩,l7,rfl⟩:=h;have aD:(s.aa b).gen=g/\(s.aa b).body=.bn aZ xs:=by
     grind
    intro a w kap F Q D bb hc;have al:bM C.P s.aa kap F w (use (bh C.aX s.aA x)).2 (a.eval x):=db D x rfl bb.1;have oH:=al;rw[gm]at oH;have af:=oH.2 aD.1.symm (by rw[aD.2];rfl);have kg:(ej (.slice aZ) (use (bh C.aX s.aA x)).2).run s.aa=some (xs,[b]):=by
     rw[gm];simp[ej,l4,V.fY,eK,aD.1,aD.2,fA]
    refine main s a w kap F Q b (g+1) xs bq D (Kv D bb.2 l7) (by omega) (Au D kg al) (λq cap bB Qf _=>?_) hc;grind [bL.slice]
   ·cases h
  ·cases h
 ·rename_i b g a7 G gm;simp only[aF.gR]at h;split at h
  ·rename_i aZ xs cm;split at h
   ·rename_i ud;subst ud;simp only[aF.fZ,amj,aF.dC,amo]at h;obtain⟨⟨bq,l⟩,l7,rfl⟩:=h;have aD:(s.aa b).gen=g/\(s.aa b).body=.bn aZ xs:=by
     grind
    intro a w kap F Q D bb hc;have al:bM C.P s.aa kap F w (use (bh C.aX s.aA x)).2 (a.eval x):=db D x rfl bb.1;rw[gm]at al;obtain⟨⟨aM,aT⟩,b5⟩:=al.2 aD.1.symm (by rw[aD.2];rfl);rw[aD.2]at aT b5;obtain⟨bT,bk,af⟩:=D.anO aD.2 aM aT b5;have rN:=Kv D bb.2 l7;have YW:(s.ct b ⟨(s.aa b).gen+1,.bn aZ ((xs.take G).drop a7)⟩).aa b=⟨(s.aa b).gen+1,.bn aZ ((xs.take G).drop a7)⟩:=by simp[aB.ct]
    have kg:(ej (.slice aZ) (.own b (g+1))).run (s.ct b ⟨(s.aa b).gen+1,.bn aZ ((xs.take G).drop a7)⟩).aa=some ((xs.take G).drop a7,[b]):=by
     simp[ej,l4,V.fY,eK,aB.ct,aD.1,fA]
    have Qc:bM C.P (s.ct b ⟨(s.aa b).gen+1,.bn aZ ((xs.take G).drop a7)⟩).aa bT F w (.own b (g+1)) (a.eval x):=by
     refine⟨⟨by grind,al.1.2⟩,λ_ _=>?_⟩;rw[YW];exact af
    have:=main (s.ct b ⟨(s.aa b).gen+1,.bn aZ ((xs.take G).drop a7)⟩) a w bT F Q b (g+2) ((xs.take G).drop a7) bq bk rN (by grind) (Au bk kg Qc) (λq cap bB Qf _=>?_) hc
    ·rw[anN]at this;exact this
    grind [bL.slice]
   ·cases h
  ·cases h
 ·rename_i gm;simp only[aF.fZ,amj]at h;obtain⟨⟨bq,l⟩,l7,h⟩:=h;obtain⟨b,U,ak⟩:=tV h;simp  at ak;subst ak;intro a w kap F Q D bb hc;have al:bM C.P s.aa kap F w (use (bh C.aX s.aA x)).2 (a.eval x):=db D x rfl bb.1;rw[gm]at al;simp  [bM]at al;have:=main s a w kap F Q b ((s.aa b).gen+1) [] bq D (Kv D bb.2 l7) (aQq _) ⟨none,0,al,.inl ⟨rfl,rfl,rfl⟩⟩ (λq cap bB Qf _=>by grind) (by grind);exact this
 ·rename_i aZ xs gm;split at h
  ·rename_i ud;subst ud;simp only[aF.fZ,amj]at h;obtain⟨⟨bq,l⟩,l7,h⟩:=h;obtain⟨b,U,ak⟩:=tV h;simp  at ak;subst ak;intro a w kap F Q D bb hc;have al:bM C.P s.aa kap F w (use (bh C.aX s.aA x)).2 (a.eval x):=db D x rfl bb.1;rw[gm]at al;obtain⟨P4,nt,An⟩:=al;have kg:(ej (.slice aZ) (.val (.slice aZ) xs)).run s.aa=some (xs,[]):=by
    simp[ej,fA]
   exact main s a w kap F Q b ((s.aa b).gen+1) xs bq D (Kv D bb.2 l7) (aQq _) (Au D kg P4) (λq cap bB Qf Gc=>by
    grind) hc.2
  ·cases h
 ·cases h
theorem anV(aU:eg C.P T){args:Array Operand}{dr:Array TypeId}(bo:∀ i,o.dst=some i->i<C.bZ)(au:o.op=.call { callee:=.builtin .append,args:=args,argTypes:=dr })(h:(FQ T (bh C.aX s.aA) o.dst args.toList dr.toList).run s.aa=some res):cR C o s res:=by
 obtain⟨args⟩:=args;obtain⟨dr⟩:=dr;simp  [FQ]at h;split at h
 ·rename_i x y t u;split at h
  ·rename_i e bz aH hu;obtain⟨anW,gQ,_⟩:=(aU.ca hu (by simp)).sl;refine YS aU bo au aH (λ{a w kap F bq l} D bb l7=>?_) h;obtain⟨q',yq,Aw,rN⟩:=Au D l7 (db D y rfl bb);grind [w4.slice]
  ·rename_i aH hu;split at h
   ·rename_i str Ky;have aLt:=(aU.ca hu (by simp)).str;refine YS aU bo au aH (λ{a w kap F bq l} D bb l7=>?_) h;have ba:bM C.P s.aa kap F w (use (bh C.aX s.aA y)).2 (a.eval y):=db D y rfl bb;rw[Ky]at ba;obtain⟨Aw,Qg⟩:=k7.1 ba;have L:(ej (.slice (.int .u8)) (.val (.slice (.int .u8)) (de str))).run s.aa=some (de str,[]):=by rfl
    grind [w4.string]
   ·cases h
  ·cases h
 ·cases h
theorem anX{all:List Value}{bq:z1'}(h:hZ P (.int .u8) F w all bq):all=bq.map (Value.int .u8):=by
 obtain⟨E,L⟩:=h;have E:=E.trans (Nat.mul_one _);apply aRa (by grind);intro i G d_;have dR:i<bq.length:=by omega
 obtain⟨e,_⟩:=L i dR;have az:V.size (.int .u8)=1:=rfl;rw[az,Nat.mul_one,aPM G]at e;grind
theorem YX:∀ (bq:z1') (s:ByteArray),bq.foldl (λr n=>r.push (UInt8.ofNat n.toNat)) s=⟨s.data++(ff bq).toArray⟩
 | [],s=>by rfl
 | y::bq,s=>by
  rw[aP3,YX bq];simp_all[ff]
theorem anY(bq:z1'):bq.foldl (λr n=>r.push (UInt8.ofNat n.toNat)) ByteArray.empty=⟨(ff bq).toArray⟩:=by
 rw[YX];simp
theorem anZ(aU:eg C.P T){Qh Qi:TypeId}{x:Operand}(bo:∀ i,o.dst=some i->i<C.bZ)(au:o.op=.convert Qh Qi x)(h:(cP C.aX T br (bh C.aX s.aA) o).run s.aa=some res):cR C o s res:=by
 simp  [cP,au]at h;split at h
 ·rename_i aM k aT n t1 bX al;simp  [da,amo]at h;subst h;refine cR.pure (by grind) bo λa w kap F D bb _=>?_;have E:=qb (db D x rfl bb) al;have aE:=(aU.ca t1 (by simp)).int;have bz:=(aU.ca bX (by simp)).int;refine⟨.int k (k.wrap n),?_,hL.2 ⟨rfl,sK _ _⟩⟩;simp_all[execOp,convert,en,Conv.intToInt]
 ·rename_i t1 bX;simp only[aF.fZ,amj,da,aF.dC,amo]at h;obtain⟨⟨bq,l⟩,l7,rfl⟩:=h;refine cR.pure (by grind) bo λa w kap F D bb _=>?_;have hu:=db D x rfl bb;obtain⟨q,cap,af,rN⟩:=Au D l7 hu;have dv:bq.length<2 ^ 63:=by
   have E:=oF   D.bF (λ_ _=>trivial) l7 (λ_ _ _=>trivial) hu;obtain⟨_,L⟩:=(ee rfl).1 E;obtain⟨q',yq,aE,m1,m2,_⟩:=L;omega
  obtain⟨l8,aK,iB,_⟩:=(aU.ca t1 (by simp)).sl;have aE:=iB.int;have bz:=(aU.ca bX (by simp)).str;refine⟨.string ⟨(ff bq).toArray⟩,?_,k7.2 ⟨rfl,by grind [ff]⟩⟩;have hc:(convert Qh Qi (a.eval x)).run C.P w=.ok (.string ⟨(ff bq).toArray⟩) w:=by
   rw[af,run_convert_bytes_string w Qh Qi l8 q bq.length cap aK aE bz];rcases rN with⟨rfl,rfl,rfl⟩ | ⟨p,all,rfl,aY,ue⟩
   ·rfl
   ·have gu:=anX aY;have ah:=CQ (P:=C.P) ue;rw[gu,aPW]at ah;rw[run_bytesToString w p bq.length cap bq ah];grind [anY]
  simp_all[execOp]
 ·cases h
end
end Go.Fer
namespace Go.Fer
open Go.RowKit
variable {P:Program}{k:FuncId}{ts:V}
theorem hA.va{aS:V}{sh YY:ts.aj->M aS.aj}(h:hA P k ts aS sh)(az:∀ x,a8 (sh x) (YY x)):hA P k ts aS YY where
 enter:=h.enter
 ik:=λF w args x bp fm aY uf=>by
  obtain⟨E,L⟩:=az x uf;exact (h.ik F w args x bp fm aY E).mono λe w' ⟨v,y,aE,bz,c_⟩=>⟨v,y,aE,L y bz,c_⟩
def aO.sh(c:aO)(x:c.ts.aj):M c.aS.aj:=eE (c.pre x) (c.g x)
def an0(P:Program)(k:FuncId)(ts:V)(x:ts.aj)(e:V)(bq:List e.aj):Prop:=
 ∀ (F:Nat->Prop) (w:World) (args:List Value),(∀ r,F r->r<w.heap.size)->pa P F w->gv P ts F w args x->Calls P k args.toArray w λz w'=>∃ (b:bL) (F':Nat->Prop),z=.returned (b.slice bq.length)/\(∀ r,F r->F' r)/\(∀ r,F' r->F r\/(w.heap.size<=r/\r<w'.heap.size))/\
  (b.fO=true->bq=[])/\(b.fO=false->(w.heap.size<=b.aa/\b.aa<w'.heap.size/\¬F' b.aa)/\∃ cs T,w'.heap[b.aa]?=some (.cells cs T (0,0))/\b.off+b.cap*e.size<=cs.size/\bq.length<=b.cap/\(b.cap<2 ^ 63/\wV P e T)/\ns P e F' w' cs b.off bq)/\Below w.heap.size w w'
def Gd(P:Program)(k:FuncId)(c:aO):Prop:=(∀ args w,(callFunc k args).run P w=.ok (.enter k args) w)/\∀ x,c.pre x->∀ y,FT c.aS (c.g x)=some y->an0 P k c.ts x y.1 y.2
def lK(P:Program)(br:Nat->Option aO):Prop:=∀ k c,br k=some c->(p_ c.aS=false->hA P k c.ts c.aS c.sh)/\(p_ c.aS=true->Gd P k c)
variable {t:V}
theorem an1{y:t.aj}{z:(e:V)×List e.aj}(h:FT t y=some z):p_ t=true:=by
 unfold FT at h;unfold p_;grind
theorem an2{y:t.aj}(h:FT t y=none):p_ t=false:=by
 cases hc:p_ t with
 | false=>rfl
 | true=>
  unfold p_ at hc;split at hc
  ·cases h
  grind
theorem ll(aH:t.hK=true)(cV:List aL):kd t cV=(match cV with | [v]=>ej t v | _=>.none:aF (Option (t.aj×List Nat))):=by
 cases t<;>first
  | (cases aH;done)
  | (rcases cV with _ | ⟨v,_ | ⟨u,aG⟩⟩<;>rfl)
variable {H:Nat->b9}{kap:Nat->bL}{F:Nat->Prop}{F':Nat->Prop}{w:World}
theorem w7(a1:∀ b,c6 P H kap F w b)(bp:∀ r,F r->F' r):∀ (t:V) {cV:List aL} {aG:List Value} {x:t.aj} {l:List Nat},(kd t cV).run H=some (x,l)->
  kN H kap F' l->cV.length=aG.length->(∀ i (h:i<cV.length) (e0:i<aG.length),bM P H kap F w cV[i] aG[i])->gv P t F' w aG x:=by
 have hK:∀ (t:V),t.hK=true->∀ {cV:List aL} {aG:List Value} {x:t.aj} {l:List Nat},(match cV with | [v]=>ej t v | _=>.none).run H=some (x,l)->
   kN H kap F' l->cV.length=aG.length->(∀ i (h:i<cV.length) (e0:i<aG.length),bM P H kap F w cV[i] aG[i])->gv P t F' w aG x:=by
  intro t aH cV aG x l h ah hlen gu;split at h
  ·match aG,hlen with
   | [u],_=>
    refine (pb aH).2 ⟨u,rfl,oF a1 bp h ah ?_⟩;exact gu 0 (by simp) (by simp)
  ·cases h
 intro t;induction t with
 | ar a b hi gj=>
  intro cV aG x l h ah hlen gu;match cV,aG,hlen with
  | [],_,_=>simp[kd,aF.none]at h
  | v::cV,u::aG,hlen=>
   simp only[kd,aF.fZ,amj,aPK]at h;obtain⟨⟨y,m⟩,E,⟨z,dw⟩,L,rfl,rfl⟩:=h;refine zZ.2 ⟨oF a1 bp E ah.left (gu 0 (by simp) (by simp)),?_⟩;exact gj L ah.right (by grind) λi G d_=>by
    have:=gu (i+1) (by grind) (by grind);grind
 | dc=>
  intro cV aG x l h ah hlen gu;match cV,aG,hlen with
  | [],[],_=>exact⟨rfl,rfl⟩
  | _::_,_,_=>simp[kd,aF.none]at h
 | bool=>intro cV aG x l h;rw[ll rfl]at h;exact hK _ rfl h
 | int k=>intro cV aG x l h;rw[ll rfl]at h;exact hK (.int k) rfl h
 | str=>intro cV aG x l h;rw[ll rfl]at h;exact hK _ rfl h
 | ad t _=>intro cV aG x l h;rw[ll rfl]at h;exact hK (.ad t) rfl h
 | slice e _=>intro cV aG x l h;rw[ll rfl]at h;exact hK (.slice e) rfl h
 | array n e _=>intro cV aG x l h;rw[ll rfl]at h;exact hK (.array n e) rfl h
 | bO e _=>intro cV aG x l h;rw[ll rfl]at h;exact hK (.bO e) rfl h
 | map k v _ _=>intro cV aG x l h;rw[ll rfl]at h;exact hK (.map k v) rfl h
 | fn a b _ _=>intro cV aG x l h;rw[ll rfl]at h;exact hK (.fn a b) rfl h
 | cG a _=>intro cV aG x l h;rw[ll rfl]at h;exact hK (.cG a) rfl h
 | eW=>intro cV aG x l h;rw[ll rfl]at h;exact hK .eW rfl h
 | cM e _=>intro cV aG x l h;rw[ll rfl]at h;exact hK (.cM e) rfl h
theorem rO:∀ (t:V) {cV:List aL} {x:t.aj} {l:List Nat},(kd t cV).run H=some (x,l)->iJ H l:=by
 have hK:∀ (t:V),t.hK=true->∀ {cV:List aL} {x:t.aj} {l:List Nat},(match cV with | [v]=>ej t v | _=>.none).run H=some (x,l)->iJ H l:=by
  intro t _ cV x l h;split at h
  ·exact pj h
  ·cases h
 intro t;induction t with
 | ar a b hi gj=>
  intro cV x l h;match cV with
  | []=>simp[kd,aF.none]at h
  | v::cV=>
   simp only[kd,aF.fZ,amj,aPK]at h;obtain⟨⟨y,m⟩,E,⟨z,dw⟩,L,rfl,rfl⟩:=h;exact (pj E).append (gj L)
 | dc=>
  intro cV x l h;match cV with
  | []=>
   simp only[kd,aF.dC,amo,aPK]at h;rw[<-h.2];exact .nil H
  | _::_=>simp[kd,aF.none]at h
 | bool=>intro cV x l h;rw[ll rfl]at h;exact hK _ rfl h
 | int k=>intro cV x l h;rw[ll rfl]at h;exact hK (.int k) rfl h
 | str=>intro cV x l h;rw[ll rfl]at h;exact hK _ rfl h
 | ad t _=>intro cV x l h;rw[ll rfl]at h;exact hK (.ad t) rfl h
 | slice e _=>intro cV x l h;rw[ll rfl]at h;exact hK (.slice e) rfl h
 | array n e _=>intro cV x l h;rw[ll rfl]at h;exact hK (.array n e) rfl h
 | bO e _=>intro cV x l h;rw[ll rfl]at h;exact hK (.bO e) rfl h
 | map k v _ _=>intro cV x l h;rw[ll rfl]at h;exact hK (.map k v) rfl h
 | fn a b _ _=>intro cV x l h;rw[ll rfl]at h;exact hK (.fn a b) rfl h
 | cG a _=>intro cV x l h;rw[ll rfl]at h;exact hK (.cG a) rfl h
 | eW=>intro cV x l h;rw[ll rfl]at h;exact hK .eW rfl h
 | cM e _=>intro cV x l h;rw[ll rfl]at h;exact hK (.cM e) rfl h
variable {e:V}
theorem an3{bt:List (Nat×aL)}:∀ (n i:Nat) {xs:List e.aj} {l:List Nat},(w1 e bt i n).run H=some (xs,l)->iJ H l:=by
 intro n;induction n with
 | zero=>intro i xs l h;cases h;exact .nil H
 | succ n aP=>
  intro i xs l h;simp only[w1,aF.fZ,amj,aPK]at h;obtain⟨⟨x,m⟩,E,⟨bq,dw⟩,L,rfl,rfl⟩:=h;refine iJ.append ?_ (aP (i+1) L);split at E
  ·exact pj E
  ·simp only[aF.dC,amo,aPK]at E;rw[<-E.2];exact .nil H
variable {w':World}
theorem Qj{aG:List Value}{x:t.aj}(aH:t.pure=true)(h:gv P t F w aG x):gv P t F' w' aG x:=⟨h.1,PH t aH h.2⟩
theorem vk{P:Program}{H:Nat->b9}{kap:Nat->bL}{F:Nat->Prop}{w:World}:∀ (t:V) {aG:List Value} {y:t.aj},gv P t F w aG y->t≠.dc->aG.length=jQ t/\∀ i,i<jQ t->bM P H kap F w (kc t y i) (aG.getD i Go.undef):=by
 intro t;induction t with
 | ar a b _ gj=>
  intro aG y h _;obtain⟨v,us,rfl,E,L⟩:=FE h;by_cases U:b=.dc
  ·subst U;have:=L.1;subst this;refine⟨rfl,λi G=>?_⟩;cases i with
   | zero=>exact E
   | succ i=>simp only[jQ]at G;omega
  ·obtain⟨aM,aT⟩:=gj L U;refine⟨by simp[jQ,aM],λi G=>?_⟩;cases i with
   | zero=>exact E
   | succ i=>
    have:=aT i (by simp  [jQ]at G;omega);simpa [kc]using this
 | dc=>simp
 | _=>
  intro aG y h _;obtain⟨v,rfl,E⟩:=(pb rfl).1 h;refine⟨rfl,λi G=>?_⟩;simp only[jQ]at G;have:i=0:=by omega
  subst this;exact E
theorem Ax{v:Value}{y:t.aj}(h:tL P t F w v y):bM P H kap F w (qV t y) v:=by
 have sF:=@vk P H kap F w;obtain⟨aG,E,L⟩:=h;cases t with
 | ar a b=>
  obtain⟨aM,aT⟩:=sF (.ar a b) L (by simp);exact⟨aG,E,aM,aT⟩
 | dc=>exact E.1
 | _=>
  obtain⟨u,rfl,hu⟩:=(pb rfl).1 L;have:v=u:=by simpa [JS,eq_comm]using E
  rw[this];exact hu
section
variable {C:cH} {T:Nat->V} {br:Nat->Option aO} {o:Oper} {s:aB} {res:ez}
variable {a:Act}
theorem bu.grow(h:bu C s a w kap F)(U:Below w.heap.size w w'):bu C s a w' kap (wT F w w'):=by
 have he:di F w w':=⟨U.size,λr D=>U.block r (h.ds r D)⟩
 refine h.move   (fI.refl _ _) (λ_ D=>.inl D) (λr D=>D.imp id λD=>.inr D.1) U.size (λr D _=>U.block r D) ⟨U.os,U.tape,U.output⟩ (λ_=>?_) ?_ h.inj ?_ (λ_ _ h=>⟨rfl,h⟩)
 ·intro b;exact c6.k_ (h.bF b) (fI.refl _ _) (λ_ D=>.inl D) he rfl rfl λau=>U.block _ (h.own b au).1
 ·intro b au;have:=h.own b au;refine⟨aPG this.1 U.size,λay=>?_,.inl ⟨b,au,rfl⟩⟩;rcases ay with ay | ⟨ay,_⟩<;>grind
 ·intro r D;rcases D with D | ⟨_,D⟩
  ·exact aPG (h.ds r D) U.size
  omega
theorem yr{r:Option Nat}{o:Oper}{K:Act->World->Prop}{Q:Exit->Act->World->Prop}{f:FuncId}{args:Array Value}{R:Ending->World->Prop}(ax:∀ c,o.op≠.defer c)
  (h:(execOp a.eval o).run P w=.ok (.enter f args) w) (hc:Calls P f args w R) (ak:∀ e w',R e w'->∃ v,e=.returned v/\K (a.put o.dst v) w'):o.wpIn (eY r) 0 P a w K Q:=by
 refine⟨λ_ _=>trivial,?_⟩;rw[CS ax,h];refine⟨λaz=>(by cases az),?_⟩;have E:CallsIn Fence.wide 0 P f args w R:=callsIn_wide.2 hc;have L:=by
  cases r with
  | none=>exact E
  | some l=>exact CallsIn.inRound l E
 refine L.mono λe w' he=>?_;grind
theorem YZ(D:bu C s a w kap F){args:Array Operand}(bb:kf (args.toList.map (bh C.aX s.aA))){x:ts.aj}{l:List Nat}
  (al:(kd ts ((args.toList.map (bh C.aX s.aA)).map λv=>(use v).2)).run s.aa=some (x,l)):∃ F',(∀ r,F r->F' r)/\bu C (s.cD l) a w kap F'/\gv C.P ts F' w (args.toList.map a.eval) x:=by
 obtain⟨args⟩:=args;obtain⟨F',f1,bk,f2⟩:=bu.mR (rO ts al) D;refine⟨F',f1,bk,w7 D.bF f1 ts al f2 (by simp) λi G d_=>?_⟩;simp;have dR:i<args.length:=by grind
 have E:=tY bb i (by grind);have aE:(args.map (bh C.aX s.aA)).getD i .undef=bh C.aX s.aA args[i]:=by grind
 rw[aE]at E;exact qW (lJ D args[i]) E
theorem Qk{Q:Exit->Act->World->Prop}{K:Act->World->Prop}{aS:V}{sh:ts.aj->M aS.aj}(D:bu C s a w kap F)(ay:hA C.P k ts aS sh)
  (bo:∀ i,o.dst=some i->i<C.bZ) {args:Array Operand} {dr:Array TypeId} (au:o.op=.call { callee:=.value (.func k),args:=args,argTypes:=dr }) (bb:kf (args.toList.map (bh C.aX s.aA))) {x:ts.aj} {l:List Nat}
  (al:(kd ts ((args.toList.map (bh C.aX s.aA)).map λv=>(use v).2)).run s.aa=some (x,l)) (az:(sh x).e3)
  (ak:∀ y w',(sh x).a_ y->∀ v,dd C ((if aS.pure then s else s.cD l).set o.dst (qV aS y)) (a.put o.dst v) w'->K (a.put o.dst v) w'):o.wpIn (eY C.r) 0 C.P a w K Q:=by
 have ax:∀ c,o.op≠.defer c:=by grind
 obtain⟨args⟩:=args;have du:(execOp a.eval o).run C.P w=.ok (.enter k (args.map a.eval).toArray) w:=by
  simp  [execOp,au,resolve,Act.eval,Deferred.ofValue,invoke];have:=ay.enter (args.map a.eval).toArray w;grind
 obtain⟨F',f1,bk,fu⟩:=YZ D bb al;refine yr ax du (ay.ik F' w _ x bk.ds bk.hX fu az) λe w' ⟨v,y,he,ba,gT,U⟩=>⟨v,he,ak y w' ba v ?_⟩
 by_cases ai:aS.pure=true
 ·rw[if_pos ai];have aD:=D.grow U;refine⟨kap,_,aD.set bo (Ax ?_)⟩;obtain⟨aG,cU,cO⟩:=gT;exact⟨aG,cU,Qj ai cO⟩
 ·rw[if_neg ai];have aD:=bk.grow U;exact⟨kap,_,aD.set bo (Ax gT)⟩
theorem bu.fB(h:bu C s a w kap F){b g:Nat}{bq:List e.aj}{k:bL}(FH:b<fz)(aD:(s.aa b).gen<g)(U:Below w.heap.size w w')
  (bp:∀ r,F r->F' r) (yc:∀ r,F' r->F r\/(w.heap.size<=r/\r<w'.heap.size)) (E:k.fO=true->bq=[])
  (L:k.fO=false->(w.heap.size<=k.aa/\k.aa<w'.heap.size/\¬F' k.aa)/\∃ cs T,w'.heap[k.aa]?=some (.cells cs T (0,0))/\k.off+k.cap*e.size<=cs.size/\bq.length<=k.cap/\(k.cap<2 ^ 63/\wV C.P e T)/\ns C.P e F' w' cs k.off bq) :
  bu C (s.ct b ⟨g,.bn e bq⟩) a w' (λi=>if i=b then k else kap i) F':=by
 have ah:fI s.aa kap (λi=>if i=b then ⟨g,.bn e bq⟩ else s.aa i) (λi=>if i=b then k else kap i):=CG aD λbj ef=>by grind
 refine h.move   ah bp (λr D=>(yc r D).imp id λh=>.inr h.1) U.size (λr D _=>U.block r D) ⟨U.os,U.tape,U.output⟩ (λhe=>?_) ?_ ?_ ?_ (CH (.inl FH) λbj ef=>by grind)
 ·intro i;by_cases G:i=b
  ·subst G;simp  [c6];exact⟨E,λaC=>(L aC).2⟩
  ·refine c6.k_ (h.bF i) ah bp he (by grind) (by grind) λau=>?_;exact U.block _ (h.own i au).1
 ·intro i G;by_cases bD:i=b
  ·simp  [b'.ch]at G ⊢;grind
  ·simp  [if_neg bD]at G ⊢;have:=h.own i G;refine⟨aPG this.1 U.size,λay=>?_,.inl ⟨i,G,rfl⟩⟩;grind
 ·intro i j G aK aZ;by_cases bD:i=b<;>by_cases pc:j=b
  ·omega
  ·simp  [if_neg pc,b'.ch]at G aK aZ;have:=(h.own j aK).1;grind
  ·simp  [if_neg bD,b'.ch]at G aK aZ;have:=(h.own i G).1;grind
  ·simp  [if_neg bD,if_neg pc]at G aK aZ;exact h.inj i j G aK aZ
 ·intro r D;rcases yc r D with e0 | e0
  ·exact aPG (h.ds r e0) U.size
  omega
theorem an4(dn:lK C.P br){args:Array Operand}{dr:Array TypeId}(bo:∀ i,o.dst=some i->i<C.bZ)(au:o.op=.call { callee:=.value (.func k),args:=args,argTypes:=dr })(h:(cP C.aX T br (bh C.aX s.aA) o).run s.aa=some res):cR C o s res:=by
 simp only[cP,au,pe,J9]at h;split at h
 ·rename_i c hc;simp only[aF.fZ,amj]at h;obtain⟨⟨x,l⟩,al,h⟩:=h;split at h
  ·rename_i y ba;simp  [aF.run_bind]at h;obtain⟨d,ax,h⟩:=tV h;split at h
   ·grind
   cases h;have Ge:d ∉ l:=by grind
   have e6:=bo d ax;intro a w kap F Q D bb hQ;obtain⟨aM,aT⟩:=(dn k c hc).2 (an1 ba);obtain⟨F',f1,bk,fu⟩:=YZ D bb al;have du:(execOp a.eval o).run C.P w=.ok (.enter k (args.map a.eval)) w:=by
    simp  [execOp,au,resolve,Act.eval,Deferred.ofValue,invoke];grind
   have ky:=aT x hQ y ba F' w _ bk.ds bk.hX fu;rw[show (args.toList.map a.eval).toArray=args.map a.eval from by grind]at ky;refine yr (by grind) du ky λz w' ⟨b,fR,bA,dt,ei,j2,g4,q2⟩=>⟨_,bA,?_⟩
   have Ql:(s.cD l).aa d=s.aa d:=by simp[aB.cD,Ge]
   have hP:=bk.fB   (g:=(s.aa d).gen+1)       (aPG e6 D.hB) (by grind) q2 dt ei j2 g4;refine⟨λi=>if i=d then b else kap i,fR,?_⟩;simp  [aB.jE];rw[CX,tZ];refine hP.set bo ⟨⟨by simp[aB.ct],by unfold bL.slice;split<;>rfl⟩,λ_ _=>by simp[aB.ct,b'.len]⟩
  rename_i ba;simp  [aF.run_bind,amo]at h;subst h;intro a w kap F Q D bb hQ;refine Qk D ((dn k c hc).1 (an2 ba)) bo au bb al hQ λy w' ba v hrel=>?_;have ba:y=c.g x:=ba;have e:∀ (r:aF (List (Nat×b9))),r=(if c.aS.pure then .ret [] else ke l)->s.iw (r.run s.aa)=(if c.aS.pure then s else s.cD l):=by
   intro r D;subst D;split
   ·rfl
   ·exact tZ s l
  simp  [aB.jE];grind
 ·cases h
theorem Y0(a1:∀ b,c6 P H kap F w b)(bp:∀ r,F r->F' r){zero:List Value}(bA:cw P e F' w zero e.dU){bt:List (Nat×aL)}{iz:List (Nat×Value)}(hlen:bt.length=iz.length)
  (gu:∀ i (h:i<bt.length) (e0:i<iz.length),bt[i].1=iz[i].1/\bM P H kap F w bt[i].2 iz[i].2):∀ (n i:Nat) {xs:List e.aj} {l:List Nat},(w1 e bt i n).run H=some (xs,l)->
  kN H kap F' l->xs.length=n/\∀ j (h:j<xs.length),∃ bC,cw P e F' w bC xs[j]/\(match iz.find? (λp=>p.1 == i+j) with | some q=>bC=q.2.cells.toList | none=>bC=zero):=by
 have find:∀ (bt:List (Nat×aL)) (iz:List (Nat×Value)),bt.length=iz.length->(∀ i (h:i<bt.length) (e0:i<iz.length),bt[i].1=iz[i].1/\bM P H kap F w bt[i].2 iz[i].2)->∀ i,(bt.find? (λp=>p.1 == i)=none/\iz.find? (λp=>p.1 == i)=none)\/∃ p q,bt.find? (λp=>p.1 == i)=some p/\iz.find? (λp=>p.1 == i)=some q/\bM P H kap F w p.2 q.2:=by
  intro bt;induction bt with
  | nil=>grind
  | cons p bt aP=>
   intro iz ah h i;cases iz with
   | nil=>grind
   | cons q iz=>
    by_cases ai:p.1=i
    ·grind
    ·have:=aP iz (by grind) (λj aK gQ=>by have:=h (j+1) (by grind) (by grind);grind) i;grind
 intro n;induction n with
 | zero=>intro i xs l h _;cases h;simp
 | succ n aP=>
  intro i xs l h ah;simp only[w1,aF.fZ,amj,aPK]at h;obtain⟨⟨x,m⟩,E,⟨bq,dw⟩,L,rfl,rfl⟩:=h;obtain⟨aM,aT⟩:=aP (i+1) L ah.right;refine⟨by grind,λj aK=>?_⟩;cases j with
  | zero=>
   rcases find bt iz hlen gu i with⟨f1,f2⟩ | ⟨p,q,f1,f2,f3⟩
   ·rw[f1]at E;simp  at E;grind
   ·rw[f1]at E;refine⟨q.2.cells.toList,(oF a1 bp E ah.left f3).2,?_⟩;grind
  | succ j=>
   obtain⟨bC,d1,d2⟩:=aT j (by grind);grind
end
end Go.Fer
namespace Go.Fer
open Go.RowKit
def vl(d:Nat)(em:Bool)(xs:Array Value):List Field->Sem Unit
 | []=>pure ()
 | f::gw=>
  if f.name ≠ "_" then do
   let a <-part f.type xs f.offset
   Instr.checkKey em d f.type a
   vl d em xs gw
  else vl d em xs gw
variable {P:Program}
theorem an5(w:World)(em:Bool)(d:Nat)(t:TypeId)(xs:Array Value)(aH:P.underlying t=some (.struct (P.fieldsOf t))) :
  (Instr.checkKey em (d+1) t (.agg xs)).run P w=(vl d em xs (P.fieldsOf t).toList).run P w:=by
 simp only[Instr.checkKey,Sem.run_bind,en aH,Result.andThen_ok];rw[<-Array.forIn_toList];generalize (P.fieldsOf t).toList=gw;induction gw generalizing w with
 | nil=>rfl
 | cons f gw aP=>
  simp only[List.forIn_cons,vl,Sem.run_bind,Sem.run_ite];split
  ·generalize (part f.type xs f.offset).run P w=cq;cases cq with
   | ok a cj=>
    simp;generalize (Instr.checkKey em d f.type a).run P cj=c7;cases c7<;>simp_all
   | halt x cj=>rfl
  simp_all
variable {F:Nat->Prop}{w:World}
theorem Gf{em:Bool}:∀ (t:V) (d:Nat),t.oE=true->t.nw<=d->
  (∀ {id:TypeId} {v:Value} {x:t.aj},cx P t id->fr P t F w v x->(Instr.checkKey em d id v).run P w=.ok () w)/\
  (∀ {l:List Field} {off:Nat} {xs:Array Value} {p c q:List Value} {x:t.aj},df P t (.inr (l,off))=true->xs.toList=p++(c++q)->p.length=off->cw P t F w c x->
   (vl d em xs l).run P w=.ok () w):=by
 intro t;induction t with
 | bool=>
  intro d _ ax;refine⟨λ{id v x} h E=>?_,λh=>by simp[df]at h⟩;obtain⟨d,rfl⟩:∃ e,d=e+1:=⟨d - 1,by grind [V.nw]⟩
  unfold cx at h;simp  [df]at h;split at h
  ·simp_all[Instr.checkKey,en]
  grind
 | int k=>
  intro d _ ax;refine⟨λ{id v x} h E=>?_,λh=>by simp[df]at h⟩;obtain⟨d,rfl⟩:∃ e,d=e+1:=⟨d - 1,by grind [V.nw]⟩
  simp[Instr.checkKey,en (cx.int h)]
 | str=>
  intro d _ ax;refine⟨λ{id v x} h E=>?_,λh=>by simp[df]at h⟩;obtain⟨d,rfl⟩:∃ e,d=e+1:=⟨d - 1,by grind [V.nw]⟩
  simp[Instr.checkKey,en (cx.str h)]
 | dc=>intro d h;cases h
 | slice e _=>intro d h;cases h
 | array n e _=>intro d h;cases h
 | bO e _=>intro d h;cases h
 | map k v _ _=>intro d h;cases h
 | fn a b _ _=>intro d h;cases h
 | cG a _=>intro d h;cases h
 | eW=>intro d h;cases h
 | cM e _=>intro d h;cases h
 | ar a b hi gj=>
  intro d hc ax;simp  [V.oE]at hc;simp  [V.nw]at ax;have PR:=hi d hc.1 (by omega);have rF:=gj d hc.2 (by omega);refine⟨λh=>by unfold cx at h;simp[df]at h,?_⟩;intro l off xs p c q x h al ai tU;obtain⟨bG,c2,rfl,aM,aT⟩:=tU;have fq:=jN a aM;have step : ∀ (f : Field) (b8 : List Field), f.offset = off -> cx P a f.type -> f.name ≠ "_" -> (vl d em xs (f :: b8)).run P w = (vl d em xs b8).run P w := by
   intro f b8 au ay aC;obtain⟨v,cq,c7⟩:=tT (cs:=xs) (p:=p)   (q:=c2++q) ay (by grind) aM;simp  [vl,aC,Sem.run_bind];rw[au,<-ai,cq,Result.andThen_ok,PR.1 ay c7,Result.andThen_ok]
  match l,h with
  | [],h=>rfl
  | [f],h=>simp  [df]at h
  | [f,g],h=>
   simp  [df,ne_eq]at h;obtain⟨⟨⟨⟨E,L⟩,an⟩,a6⟩,⟨⟨⟨bS,ek⟩,iQ⟩,k6⟩⟩:=h;rw[step f [g] E L a6];obtain⟨v,cq,c7⟩:=tT (cs:=xs) (p:=p++bG)   (q:=q) ek (by grind) aT;have aE:(p++bG).length=g.offset:=by grind
   rw[aE]at cq;simp  [vl,cq,rF.1 ek c7]
  | f::g::i::l,h=>
   simp  [df,ne_eq]at h;obtain⟨⟨⟨⟨E,L⟩,an⟩,a6⟩,bS⟩:=h;rw[step f _ E L a6,rF.2 bS (p:=p++bG)   (q:=q) (by grind) (by grind) aT]
 | ad t aP=>
  intro d hc ax;simp  [V.nw]at ax;obtain⟨d,rfl⟩:∃ e,d=e+1:=⟨d - 1,by omega⟩
  refine⟨λ{id v x} h E=>?_,λh=>by simp[df]at h⟩;have i:=aP d hc (by omega);obtain⟨aE,bz,c_,bV⟩:=h.FZ;obtain⟨⟨xs,rfl,kg⟩,tU⟩:=E;simp  [Value.cells]at tU;rw[an5 w em d id xs bV];rcases c_ with c_ | ⟨f,c_,ey,mq,CT⟩ | ⟨rfl,c_⟩
  ·exact i.2 c_ (p:=[])   (q:=[]) (by simp) rfl tU
  ·rw[c_];obtain⟨v,cq,c7⟩:=tT (cs:=xs) (p:=[])   (q:=[]) mq (by simp) tU;simp  at cq;simp  [vl,ey,cq,i.1 mq c7]
  ·cases hc
theorem Qm:∀ (t:V),t.oE=true->∀ (x y:t.aj),ji t x y=true<->x=y:=by
 intro t;induction t with
 | bool=>simp[ji]
 | int k=>simp[ji]
 | str=>simp[ji]
 | ad t aP=>intro h x y;exact aP h x y
 | ar a b hi gj=>
  grind [V.oE,ji]
 | _=>intro h;cases h
variable {k:V}{bet:Type}
def C3(x:k.aj)(es:List MapEntry)(xs:List (k.aj×bet))(i:Nat)(r:Option (Nat×Value)):Prop:=
 (r=none/\∀ p∈xs,ji k x p.1=false)\/∃ j e p,es[j]?=some e/\xs[j]?=some p/\ji k x p.1=true/\(∀ mT q,mT<j->xs[mT]?=some q->ji k x q.1=false)/\r=some (i+j,e.val)
theorem C3.next{x:k.aj}{e:MapEntry}{es:List MapEntry}{p:k.aj×bet}{xs:List (k.aj×bet)}{i:Nat}{r:Option (Nat×Value)}(h:C3 x es xs (i+1) r)(ai:ji k x p.1=false):C3 x (e::es) (p::xs) i r:=by
 rcases h with⟨E,L⟩ | ⟨j,aZ,p',E,L,an,a6,bS⟩
 ·exact .inl ⟨E,λq bB=>by
   grind⟩
 ·refine .inr ⟨j+1,aZ,p',by grind,by grind,an,λmT q gQ bB=>?_,by grind⟩;grind
theorem Y1{P:Program}{F:Nat->Prop}{w:World}{k:V}{bet:Type}(hc:k.oE=true)(aC:k.nw<=10000){ny:TypeId}(ak:cx P k ny){w8:Value}{x:k.aj}(al:fr P k F w w8 x):∀ (es:List MapEntry) (xs:List (k.aj×bet)) (i:Nat),es.length=xs.length->(∀ (j:Nat) (e:MapEntry) (p:k.aj×bet),es[j]?=some e->xs[j]?=some p->fr P k F w e.key p.1)->∃ r,(Instr.findAsking ny w8 es i).run P w=.ok r w/\C3 x es xs i r
 | [],[],i,_,_=>⟨none,rfl,.inl ⟨rfl,λp ai=>by grind⟩⟩
 | e::es,p::xs,i,ah,h=>by
  have aW:=h 0 e p rfl rfl;have he:=(PQ k 10000 hc aC).1 ak al aW;obtain⟨r,cq,c7⟩:=Y1   hc aC ak al es xs (i+1) (by grind) λj aZ p' E L=>h (j+1) aZ p' (by grind) (by grind);cases bB:ji k x p.1 with
  | true=>
   refine⟨some (i,e.val),by simp_all[Instr.findAsking,Op.equal,Op.maxDepth],.inr ⟨0,e,p,rfl,rfl,bB,λmT q gQ=>by omega,rfl⟩⟩
  | false=>exact⟨r,by simp_all[Instr.findAsking,Op.equal,Op.maxDepth],c7.next bB⟩
theorem Y2{ny:TypeId}(ak:cx P k ny){d:TypeDesc}(ax:P.underlying ny=some d){u v:Value}{x y:k.aj}(hu:fr P k F w u x)(af:fr P k F w v y){b:Bool}(h:Instr.sameNow d u v=some b):b=ji k x y:=by
 cases k with
 | bool=>
  rw[hV.1 hu,hV.1 af]at h;cases d<;>simp  [Instr.sameNow]at h;rw[<-h];rfl
 | int k=>
  rw[(hL.1 hu).1,(hL.1 af).1]at h;cases d<;>simp  [Instr.sameNow]at h;rw[<-h];rfl
 | str=>
  rw[(k7.1 hu).1,(k7.1 af).1]at h;cases d<;>simp  [Instr.sameNow]at h;grind [beq_toListBytes,ByteArray.toList_eq,ji]
 | ad t=>
  obtain⟨⟨us,rfl,_⟩,_⟩:=hu;grind [Instr.sameNow]
 | array n t=>
  obtain⟨⟨us,rfl,_⟩,_⟩:=hu;grind [Instr.sameNow]
 | dc=>exact hu.1.elim
 | ar a b=>exact hu.1.elim
 | slice e=>
  obtain⟨_,a,cap,aE,_⟩:=(ee rfl).1 hu;grind [Instr.sameNow]
 | bO e=>
  obtain⟨_,al⟩:=(ee rfl).1 hu;rcases al with⟨aE,_⟩ | ⟨p,y,bC,aE,_⟩<;>(grind [Instr.sameNow])
 | map k' iu=>
  obtain⟨_,al⟩:=(ee rfl).1 hu;rcases al with⟨aE,_⟩ | ⟨r,es,clk,aE,_⟩<;>(grind [Instr.sameNow])
 | fn a b=>
  grind [cx,df,Instr.sameNow]
 | cG a=>
  grind [cx,df,Instr.sameNow]
 | eW=>
  grind [cx,df,Instr.sameNow]
 | cM e=>
  obtain⟨_,al⟩:=(ee rfl).1 hu;rcases al with⟨aE,_⟩ | ⟨o,c,aE,_⟩<;>(grind [Instr.sameNow])
theorem Y3{P:Program}{F:Nat->Prop}{w:World}{k:V}{bet:Type}{ny:TypeId}(ak:cx P k ny){d:TypeDesc}(ax:P.underlying ny=some d){w8:Value}{x:k.aj}(al:fr P k F w w8 x):∀ (es:List MapEntry) (xs:List (k.aj×bet)) (i:Nat) {r:Option (Nat×Value)},es.length=xs.length->(∀ (j:Nat) (e:MapEntry) (p:k.aj×bet),es[j]?=some e->xs[j]?=some p->fr P k F w e.key p.1)->Instr.findNow d w8 es i=some r->C3 x es xs i r
 | [],[],i,r,_,_,h=>by cases h;exact .inl ⟨rfl,λp ai=>by grind⟩
 | e::es,p::xs,i,r,ah,h,ay=>by
  have aW:=h 0 e p rfl rfl;simp  [Instr.findNow]at ay;split at ay
  ·rename_i az;have:=Y2 ak ax al aW az;cases ay;exact .inr ⟨0,e,p,rfl,rfl,this.symm,λmT q gQ=>by omega,rfl⟩
  ·rename_i az;have:=Y2 ak ax al aW az;exact (Y3 ak ax al es xs (i+1) (by grind) (λj aZ p' E L=>h (j+1) aZ p' (by grind) (by grind)) ay).next this.symm
  grind
theorem cx.YM{t:V}{id:TypeId}(h:cx P t id)(hc:t.oE=true):∃ d,P.underlying id=some d:=by
 cases t with
 | bool=>
  grind [cx,df]
 | int k=>exact⟨_,cx.int h⟩
 | str=>simp_all[cx.str]
 | ad t=>exact⟨_,h.FZ.2.2.2⟩
 | ar a b=>grind [cx,df]
 | _=>cases hc
theorem Ay(hc:yl k=true){ny:TypeId}(ak:cx P k ny){w8:Value}{x:k.aj}(al:fr P k F w w8 x){es:List MapEntry}{xs:List (k.aj×bet)}
  (ah:es.length=xs.length) (h:∀ (j:Nat) (e:MapEntry) (p:k.aj×bet),es[j]?=some e->xs[j]?=some p->fr P k F w e.key p.1):∃ r,(Instr.findKey ny w8 es).run P w=.ok r w/\C3 x es xs 0 r:=by
 simp  [yl]at hc;obtain⟨d,ax⟩:=ak.YM hc.1;simp  [Instr.findKey,en ax];cases aC:Instr.findNow d w8 es 0 with
 | some r=>exact⟨r,rfl,Y3 ak ax al es xs 0 ah h aC⟩
 | none=>exact Y1 hc.1 (by omega) ak al es xs 0 ah h
variable {v:V}
theorem Y4{es:List (k.aj×v.aj)}{x:k.aj}:∀ {j:Nat} {p:k.aj×v.aj},es[j]?=some p->ji k x p.1=true->(∀ mT q,mT<j->es[mT]?=some q->ji k x q.1=false)->CO es x=some p.2/\∀ y,oG es x y=es.set j (p.1,y):=by
 induction es with
 | nil=>simp
 | cons q es aP=>
  intro j p E L an;cases j with
  | zero=>
   grind [CO,oG]
  | succ j=>
   have aW:=an 0 q (by omega) rfl;grind [CO,oG]
theorem Y5{es:List (k.aj×v.aj)}{x:k.aj}(h:∀ p∈es,ji k x p.1=false):CO es x=none/\∀ y,oG es x y=es++[(x,y)]:=by
 induction es with
 | nil=>exact⟨rfl,λ_=>rfl⟩
 | cons q es aP=>
  grind [CO,oG]
section
variable {C:cH} {T:Nat->V} {br:Nat->Option aO} {o:Oper} {s:aB} {res:ez}
theorem an6{z:Value}(af:v.fY=true\/v.isAgg=true)(i5:l5 v z.cells.toList=some [])(i6:(∃ cs,z=.agg cs)<->v.isAgg=true):fr P v F w z v.dU:=by
 obtain⟨c,e,iy,z2⟩:=yj (P:=P) (H:=λ_=>⟨0,.ev⟩) (kap:=λ_=>⟨0,0,0,true⟩) (F:=F) (w:=w) v i5;rw[aPT]at e;refine⟨?_,by grind⟩;have ah:=jN v iy;rcases af with af | af
 ·have P3:∀ cs,z≠.agg cs:=λcs bA=>by
   have:=i6.1 ⟨cs,bA⟩;cases v<;>simp[V.fY,V.isAgg]at af this
  have bA:z.cells=#[z]:=by
   cases z<;>first | rfl | grind
  cases v<;>simp  [V.fY]at af<;>exact bA
 ·obtain⟨cs,rfl⟩:=i6.2 af;have aZ:cs.toList=c:=e;cases v<;>simp  [V.isAgg]at af
  ·exact⟨cs,rfl,by rw[<-aPY,aZ,ah];rfl⟩
  ·exact⟨cs,rfl,by rw[<-aPY,aZ,ah];rfl⟩
def Qn(P:Program)(k v:V)(F:Nat->Prop)(w:World)(ms:List MapEntry)(xs:List (k.aj×v.aj)):Prop:=
 ms.length=xs.length/\∀ (j:Nat) (e:MapEntry) (p:k.aj×v.aj),ms[j]?=some e->xs[j]?=some p->fr P k F w e.key p.1/\fr P v F w e.val p.2
theorem yf.es{ms:Array MapEntry}{clk:Nat}{xs:List (k.aj×v.aj)}(h:yf P k v F w ms clk xs):Qn P k v F w ms.toList xs:=by
 obtain⟨E,L,an,a6⟩:=h;refine⟨by omega,λj e p he ai=>?_⟩;obtain⟨aK,rfl⟩:=List.getElem?_eq_some_iff.1 ai;obtain⟨gQ,rfl⟩:=List.getElem?_eq_some_iff.1 he;obtain⟨a,b,c,d,_⟩:=an j aK (by omega);exact⟨⟨a,by grind⟩,c,by grind⟩
theorem an7{a:Act}{kap:Nat->bL}(D:bu C s a w kap F){av:aL}{u:Value}{xs:List (k.aj×v.aj)}(h:(J_ k v av).run s.aa=some xs)(hu:bM C.P s.aa kap F w av u) :
  (u=.map none/\xs=[])\/∃ r ms clk,u=.map (some r)/\w.heap[r]?=some (.map ms clk)/\Qn C.P k v F w ms.toList xs:=by
 have cD:∀ {xs:List (k.aj×v.aj)},cw C.P (.map k v) F w [u] xs->(u=.map none/\xs=[])\/∃ r ms clk,u=.map (some r)/\w.heap[r]?=some (.map ms clk)/\Qn C.P k v F w ms.toList xs:=by
  intro xs al;rcases al with⟨aE,bz⟩ | ⟨r,ms,clk,aE,E,L,an,a6,bS,ek⟩
  ·grind
  ·exact .inr ⟨r,ms,clk,(aPQ aE).1,L,yf.es ⟨an,a6,bS,ek⟩⟩
 cases av with
 | val t es=>
  exact cD ((ee rfl).1 (CK h hu)).2
 | k8 x=>
  simp  [bM]at hu;have al:u=.map none/\xs=[]:=by
   unfold J_ at h;split at h
   ·grind
   ·simp_all
   ·grind
   ·cases h
  grind
 | hj b g=>
  simp only[J_,aF.gR,aF.dC]at h;split at h
  ·rename_i aD;have a1:=D.bF b;unfold c6 at a1;split at h
   ·rename_i k' iu es U;obtain⟨e,rfl⟩:=mO h;cases e;rw[U]at a1;obtain⟨ms,clk,E,L⟩:=a1;exact .inr ⟨_,ms,clk,hu.2 aD.symm (by rw[U];rfl),E,L.es⟩
   ·rename_i k' iu es U;obtain⟨e,rfl⟩:=mO h;have:=hu.2 aD.symm (by rw[U];rfl);grind [mr]
   grind
  grind
 | _=>cases h
variable {ty:TypeId}
theorem an8{r:Option Operand}(bo:∀ i,o.dst=some i->i<C.bZ)(au:o.op=.makeMap ty r)(h:(cP C.aX T br (bh C.aX s.aA) o).run s.aa=some res):cR C o s res:=by
 simp  [cP,au]at h;split at h
 ·cases h
 ·have an9:r=none:=by simp_all
  subst an9;split at h
  ·rename_i k v aH;obtain⟨b,ax,ak⟩:=tV h;simp  at ak;subst ak;intro a w kap F Q D _ _;have du:(execOp a.eval o).run C.P w=.ok (.value (.map (some w.heap.size))) (w.alloc (.map #[] 0)):=by
    simp[execOp,au,Instr.makeMap]
   have E:=D.alloc   (x:=⟨(s.aa b).gen+1,.mp k v []⟩) (D.iT (bo b ax)) (aQq _)   (k:=⟨w.heap.size,0,0,false⟩) rfl λH bT _ _ _=>
    ⟨#[],0,tR _ _,rfl,by simp,λi G=>by simp,λi j G=>by simp⟩
   refine h7 (by grind) du ⟨_,F,bu.set   E bo ⟨⟨by simp[aB.ct],rfl⟩,λ_ _=>by simp⟩⟩
  ·cases h
theorem an_(aU:eg C.P T){m x:Operand}{ok:Bool}(bo:∀ i,o.dst=some i->i<C.bZ)(au:o.op=.lookup ty m x ok)(h:(cP C.aX T br (bh C.aX s.aA) o).run s.aa=some res):cR C o s res:=by
 simp only[cP,au,CP]at h;split at h
 ·rename_i k v aH;split at h
  ·rename_i hc;simp  at hc;obtain⟨i,j,G,po,ki⟩:=(aU.ca aH (by simp)).mp;simp only[aF.fZ,amj,da,aF.dC,amo]at h;obtain⟨es,rL,⟨y,l⟩,ba,rfl⟩:=h;refine cR.pure (by grind) bo λa w kap F D bb _=>?_;have hm:=db D m rfl bb.1;have al:=F2 D ba (db D x rfl bb.2);obtain⟨inf,z,i1,i2,i3,i4,i5,i6⟩:=nv ki.nu;have hzero:fr C.P v F w z v.dU:=an6 hc.2 i5 i6;have fin:∀ (u:Value) (q:Option v.aj),fr C.P v F w u (q.getD v.dU)->bM C.P s.aa kap F w (Yl v q ok) (if ok=true then .tuple #[u,.bool q.isSome] else u):=by
    intro u q an;cases ok with
    | true=>
     refine⟨[u,.bool q.isSome],rfl,rfl,λi G=>?_⟩;match i,G with
     | 0,_=>exact an
     | 1,_=>exact hV.2 rfl
    | false=>exact an
   have oD:=hc.1;have gE:=by simpa [yl]using oD
   rcases an7 D rL hm with⟨hu,aC⟩ | ⟨r,ms,clk,hu,hw,my⟩
   ·subst aC;have fg:=(Gf (em:=true) k 10000 gE.1 (by omega)).1 po al;obtain⟨f,f1,f2⟩:=Ay (bet:=v.aj) (xs:=[]) (es:=[]) oD po al rfl (λj e p h=>by simp);rcases f2 with⟨rfl,_⟩ | ⟨j,e,p,E,_⟩
    ·refine⟨_,?_,fin z none hzero⟩;simp_all[execOp,Instr.lookup,en,sJ]
    grind
   ·have fg:=(Gf (em:=ms.isEmpty) k 10000 gE.1 (by omega)).1 po al;obtain⟨f,f1,f2⟩:=Ay       oD po al my.1 (λj e p E L=>by
     have:=(my.2 j e p E L).1;exact⟨this.1,fH k (λ_ _=>trivial) (di.refl F w) this.2⟩)
    have f':(getObj r).run C.P w=.ok (.map ms clk) w:=by grind [getObj,Sem.run]
    rcases f2 with⟨rfl,eM⟩ | ⟨j,e,p,E,L,an,a6,rfl⟩
    ·refine⟨_,?_,by rw[(Y5 eM).1];exact fin z none hzero⟩;simp_all[execOp,Instr.lookup,en,sJ]
    ·refine⟨_,?_,by rw[(Y4 L an a6).1];exact fin e.val (some p.2) (my.2 j e p E L).2⟩;simp_all[execOp,Instr.lookup,en]
  ·cases h
 ·cases h
theorem Qo(P:Program)(w:World)(q0 fo:Value):∃ k' w',(Instr.keyThatStays q0 fo).run P w=.ok k' w'/\(k'=fo\/k'=q0)/\(w'=w\/w'=w.drew):=by
 unfold Instr.keyThatStays;split
 ·exact⟨fo,w,rfl,.inl rfl,.inl rfl⟩
 ·have ay : (Question.extern "map.whichKeyStays" 2).forced = false := rfl;simp only[Sem.run_bind,run_choose,ay,aml,aPH,Result.andThen_ok];split
  ·exact⟨fo,_,rfl,.inl rfl,.inr rfl⟩
  ·exact⟨q0,_,rfl,.inr rfl,.inr rfl⟩
theorem vm{r:Nat}{es:Array MapEntry}{clk:Nat}(h:w.heap[r]?=some (.map es clk))(o:Obj):(setObj r o).run P w=.ok () { w with heap:=w.heap.setIfInBounds r o }:=by
 grind [setObj,Sem.run]
theorem Qp(aU:eg C.P T){m x y:Operand}(e6:o.dst=none)(au:o.op=.mapUpdate ty m x y\/o.op=.insert ty m x y)(h:(cP C.aX T br (bh C.aX s.aA) o).run s.aa=some res):cR C o s res:=by
 have ax:∀ c,o.op≠.defer c:=by grind
 have sM:∀ rho,cP C.aX T br rho o=vd T rho ty m x y:=λrho=>by rcases au with au | au<;>simp  [cP,au]
 have hex:∀ rho w,(execOp rho o).run C.P w=(do Instr.mapUpdate ty (rho m) (rho x) (rho y);pure .skip:Sem Next).run C.P w:=λrho w=>by rcases au with au | au<;>simp  [execOp,au]
 rw[sM]at h;simp  [vd]at h;split at h
 ·rename_i k v aH;obtain⟨ny,C4,G,po,ki⟩:=(aU.ca aH (by simp)).mp;split at h
  ·rename_i hc;split at h
   ·rename_i b g w9;simp only[aF.fZ,amj,aF.run_bind,aF.gR,aF.dC]at h;obtain⟨⟨eS,sH⟩,al,⟨sN,lj⟩,ba,h⟩:=h;split at h
    ·rename_i aD;obtain⟨aD,C0⟩:=aD;split at h
     ·rename_i k' iu es U;simp  at h;obtain⟨Y6,rL,rfl⟩:=h;obtain⟨e,rfl⟩:=mO rL;cases e;intro a w kap F Q D bb _;obtain⟨F',f1,bk,f2⟩:=bu.mR ((pj al).append (pj ba)) D;have hm:bM C.P s.aa kap F w (use (bh C.aX s.aA m)).2 (a.eval m):=db D m rfl bb.1;rw[w9]at hm;have mU:=hm.2 aD.symm (by rw[U];rfl);have w_:=oF D.bF f1 al f2.left (db D x rfl bb.2.1);have Ky:=oF D.bF f1 ba f2.right (db D y rfl bb.2.2);have sO:(s.cD (sH++lj)).aa b=s.aa b:=by simp  [aB.cD];grind
      have a1:=bk.bF b;unfold c6 at a1;rw[sO,U]at a1;obtain⟨ms,clk,hw,q3⟩:=a1;have gE:=by simpa [yl]using hc
      have fg:=(Gf (em:=false) k 10000 gE.1 (by omega)).1 po w_;have my:=q3.es;obtain⟨f,cU,cO⟩:=Ay       hc po w_ my.1 (λj e p E L=>(my.2 j e p E L).1);have f':(getObj (kap b).aa).run C.P w=.ok (.map ms clk) w:=by simp[getObj,Sem.run,hw]
      have ua:s.iw ((ke (sH++lj)).run s.aa++[(b,⟨(s.aa b).gen,.mp k v (oG es eS sN)⟩)])=(s.cD (sH++lj)).ct b ⟨(s.aa b).gen,.mp k v (oG es eS sN)⟩:=by
       rw[CX,tZ]
      have hp:fI (s.cD (sH++lj)).aa kap (λi=>if i=b then (⟨(s.aa b).gen,.mp k v (oG es eS sN)⟩) else (s.cD (sH++lj)).aa i) kap:=
       pd (by grind) (λh=>by cases h) (λh=>by cases h) (λ_=>by rw[sO,U];rfl) (λh=>by cases h)
      obtain⟨ir,Qq,Qr,Y7⟩:=q3;have done:∀ (cj:World) (Kz:Array MapEntry) (KA:Nat),(cj=w\/cj=w.drew)->
        (execOp a.eval o).run C.P w=.ok .skip { cj with heap:=cj.heap.setIfInBounds (kap b).aa (.map Kz KA) }->
        (∀ {w'},di F' w w'->yf C.P k v F' w' Kz KA (oG es eS sN))->
        o.wpIn (eY C.r) 0 C.P a w (λa' w'=>dd C (s.jE o.dst ⟨(use (bh C.aX s.aA m)).1/\(use (bh C.aX s.aA x)).1/\(use (bh C.aX s.aA y)).1,True,.undef,(ke (sH++lj)).run s.aa++[(b,⟨(s.aa b).gen,.mp k v (oG es eS sN)⟩)]⟩) a' w') Q:=by
       intro cj Kz KA pq du an';have dh:cj.heap=w.heap:=by rcases pq with rfl | rfl<;>rfl
       have ku:dL w cj:=by rcases pq with rfl | rfl<;>exact⟨rfl,rfl,rfl⟩
       refine FY ax du ⟨kap,F',?_⟩;simp  [aB.jE];rw[ua,e6];refine bk.qU     (by rw[sO,U];rfl) rfl hp (λh=>by cases h) (λ_=>by rw[sO,U];rfl) (λr Qs=>?_) (by grind) ⟨ku.os,ku.tape,ku.output⟩ λH _ _ he=>?_
       ·grind
       ·exact⟨Kz,KA,by grind,an' he⟩
      rcases cO with⟨rfl,eM⟩ | ⟨j,e,p,E,L,an,a6,rfl⟩
      ·refine done w (ms.push { key:=a.eval x,val:=a.eval y,born:=clk }) (clk+1) (.inl rfl) ?_ λ{w'} he=>?_
       ·rw[hex];simp  [mU,Instr.mapUpdate,en G,f',fg,cU,vm hw]
       ·rw[(Y5 eM).2];refine⟨by grind,?_,λi G d_=>?_,λi j G aK e=>?_⟩
        ·rw[aP7,List.nodup_append];refine⟨Qq,by simp,λq bB q' vh=>?_⟩;obtain⟨p,ai,rfl⟩:=List.mem_map.1 bB;simp  at vh;subst vh;intro e;have:=eM p ai;rw[e,(Qm k gE.1 _ _).2 rfl]at this;grind
        ·by_cases Az:i<es.length
         ·obtain⟨aM,aT,b5,hC,q4⟩:=Qr i Az (by omega);have aE:(es++[(eS,sN)])[i]=es[i]:=List.getElem_append_left Az;have bz:(ms.push { key:=a.eval x,val:=a.eval y,born:=clk })[i]=ms[i]'(by omega):=Array.getElem_push_lt (by omega);rw[aE,bz];exact⟨aM,fH k (λ_ h=>h) he aT,b5,fH v (λ_ h=>h) he hC,by omega⟩
         ·have aoa:i=es.length:=by grind
          subst aoa;have aE:(es++[(eS,sN)])[es.length]=(eS,sN):=by simp
          have bz:(ms.push { key:=a.eval x,val:=a.eval y,born:=clk })[es.length]={ key:=a.eval x,val:=a.eval y,born:=clk }:=by
           grind
          rw[aE,bz];exact⟨w_.1,fH k (λ_ h=>h) he w_.2,Ky.1,fH v (λ_ h=>h) he Ky.2,by simp⟩
        grind
      ·have aK:=(List.getElem?_eq_some_iff.1 L).1;have aob:ms[j]=e:=by
        grind
       have qg:=(List.getElem?_eq_some_iff.1 L).2;have J3:=(Qm k gE.1 _ _).1 an;obtain⟨qh,cj,cq,c7,fL⟩:=Qo C.P w e.key (a.eval x);have pq:cj.heap[(kap b).aa]?=some (.map ms clk):=by rcases fL with rfl | rfl<;>exact hw
       refine done cj (ms.modify j λe=>{ e with key:=qh,val:=a.eval y }) clk fL ?_ λ{w'} he=>?_
       ·rw[hex];simp  [mU,Instr.mapUpdate,en G,f',fg,cU];have oN:((ms[j]?).map (·.key)).getD (a.eval x)=e.key:=by
         grind
        rw[oN,cq];simp  [vm pq]
       ·rw[(Y4 L an a6).2];refine⟨by grind,?_,λi G d_=>?_,λi mT G gQ aZ=>?_⟩
        ·have:(es.set j (p.1,sN)).map (·.1)=es.map (·.1):=by
          apply aQ5;grind
         grind
        ·have Az:i<es.length:=by grind
         have aLu:i<ms.size:=by omega
         grind [fr,fH]
        grind
     grind
    grind
   ·cases h
  ·cases h
 ·cases h
end
end Go.Fer
namespace Go.Fer
open Go.RowKit
section
variable {C:cH} {T:Nat->V} {br:Nat->Option aO} {o:Oper} {s:aB} {res:ez}
variable {P:Program}{F:Nat->Prop}{w:World}{e:V}
theorem Y8{z:Value}(bS:l5 e z.cells.toList=some [])(n:Nat) :
  hZ P e F w ((Array.range (n*e.size)).map (λi=>z.cells[i % z.cells.size]!)).toList (List.replicate n e.dU):=by
 obtain⟨c,C5,iy,z2⟩:=yj (P:=P) (H:=λ_=>⟨0,.ev⟩) (kap:=λ_=>⟨0,0,0,true⟩) (F:=F) (w:=w) e bS;have ys:z.cells.size=e.size:=by grind [Array.length_toList,jN]
 refine⟨by simp,λi G=>?_⟩;have d_:i<n:=by grind
 have hle:(i+1)*e.size<=n*e.size:=amt _ (by omega);have:((((Array.range (n*e.size)).map (λi=>z.cells[i % z.cells.size]!)).toList.drop (i*e.size)).take e.size)=z.cells.toList:=by
  apply aQ5;grind [Nat.add_mul_mod_self_right,Nat.mod_eq_of_lt]
 grind
theorem aoc{n:Int}(aW:0<=n)(E:n<=4294967296):IntKind.i64.wrap n=n:=by
 grind [IntKind.wrap,IntKind.bits]
theorem aod(aU:eg C.P T){ty:TypeId}{l c:Operand}(bo:∀ i,o.dst=some i->i<C.bZ)(au:o.op=.makeSlice ty l c)(h:(cP C.aX T br (bh C.aX s.aA) o).run s.aa=some res):cR C o s res:=by
 simp  [cP,au,J']at h;split at h
 ·rename_i e aH;split at h
  ·rename_i n m ah hm;have dF:=aU.ca aH (by simp);obtain⟨l8,aK,iB,oM⟩:=dF.sl;obtain⟨inf,z,i1,i2,i3,i4,i5,i6⟩:=nv iB.nu;obtain⟨b,ax,ak⟩:=tV h;simp  at ak;subst ak;intro a w kap F Q D bb hc;have aR:=qb (db D l rfl bb.1) ah;have ku:=qb (db D c rfl bb.2) hm;obtain⟨c0,rfl,bG⟩:=hc;unfold cb at bG;obtain⟨k,rfl⟩:∃ k:Nat,n=k:=⟨n.toNat,by omega⟩
   have hw:=aoc (by omega) (by omega);let cs:=(Array.range (k*e.size)).map (λi=>z.cells[i % z.cells.size]!);have hP:hZ C.P e F w cs.toList (List.replicate k e.dU):=Y8 i5 k;have aLv:=by
    calc inf.bytes*k<=1024*4294967296:=Nat.mul_le_mul i3 (by omega)
     _<=2 ^ 47:=by decide
   have du:(execOp a.eval o).run C.P w=.ok (.value (.slice (some ⟨w.heap.size,0,none⟩) k k)) (w.alloc (.cells cs l8)):=by
    have aoe:¬(inf.bytes*(k:Int) > 2 ^ 48):=by
     omega
    have AA:¬((k:Int)<0):=by omega
    have Kf:¬(k > (k:Int)):=by omega
    simp only[execOp,au,Instr.makeSlice,aR.1,ku.1,Sem.run_bind,en aK,Result.andThen_ok,asInt,asIntOf,Sem.run_pure,FW i1,hw,aoe,AA,Kf,aQj,aQA,aml,aPH,tS i1,i2];by_cases yt:k*e.size=0
    ·simp[newRow];grind
    ·simp[yt,sJ i1 i4,newRow,cs]
   have an:=D.Ga   (g:=(s.aa b).gen+1)   (k:=⟨w.heap.size,0,k,false⟩)   (aQq _) (.inr rfl) (by simp) (λr D=>rH w _ D) (λ_=>by simp) ⟨rfl,rfl,rfl⟩
    (λH bT=>⟨λh=>(by grind),λ_=>⟨cs,l8,tR w _,by grind,by simp,⟨by grind,iB.Kh⟩,(hP.F8 (pre:=[]) (post:=[]) (by simp)).later (di.alloc D.ds _)⟩⟩)
   refine h7 (by grind) du ⟨_,F,bu.set   an bo ⟨⟨by simp[aB.ct],rfl⟩,λ_ _=>by simp[aB.ct,bL.slice,b'.len]⟩⟩
  ·cases h
 ·cases h
theorem hZ.take{P:Program}{e:V}{F:Nat->Prop}{w:World}{all:List Value}{xs:List e.aj}(h:hZ P e F w all xs){n:Nat}(aC:n<=xs.length):hZ P e F w (all.take (n*e.size)) (xs.take n):=by
 refine⟨by simp only[aQl,h.1];simp,λi G=>?_⟩;have d_:i<n:=by grind
 have aLw:(i+1)*e.size<=n*e.size:=amt _ (by omega);have:((all.take (n*e.size)).drop (i*e.size)).take e.size=(all.drop (i*e.size)).take e.size:=by
  grind [List.drop_take]
 rw[this];simpa using h.2 i (by omega)
theorem Y9{q:Option Addr}{n cap:Nat}{xs:List e.aj}(aC:n<=xs.length)(h:(q=none/\xs=[]/\cap=0)\/∃ p all,q=some p/\hZ P e F w all xs/\mP w p all) :
  ∃ all,(Builtin.firstCells e.size n (.slice q xs.length cap)).run P w=.ok all.toArray w/\hZ P e F w all (xs.take n):=by
 rcases h with⟨rfl,rfl,rfl⟩ | ⟨p,all,rfl,cr,b4⟩
 ·exact⟨[],by rfl,by simp[hZ]⟩
 ·have hle:n*e.size<=xs.length*e.size:=amt _ aC;refine⟨all.take (n*e.size),?_,cr.take aC⟩;simp  [Builtin.firstCells];have ah:(all.take (n*e.size)).length=n*e.size:=by simp only[aQl,cr.1];omega
  grind [mP,CQ]
theorem ns.hU{P:Program}{e:V}{F:Nat->Prop}{w w':World}{cs ew:Array Value}{off a7:Nat}{xs zs:List e.aj}{fo:List Value}(h:ns P e F w cs off xs)(he:di F w w')(aC:hZ P e F w fo zs)(ah:a7+zs.length<=xs.length)
  (qX:off+xs.length*e.size<=cs.size) (hc:ew.toList=cs.toList.take (off+a7*e.size)++(fo++cs.toList.drop (off+a7*e.size+fo.length))):ns P e F w' ew off (Go.Fer.hU xs a7 zs):=by
 have hlen:(Go.Fer.hU xs a7 zs).length=xs.length:=by simp[Go.Fer.hU];omega
 have aof:(a7+zs.length)*e.size<=xs.length*e.size:=amt _ ah;rw[aQi]at aof;have q1:=aC.1;have hQ:(cs.toList.take (off+a7*e.size)).length=off+a7*e.size:=by grind
 intro i G;rw[hlen]at G;have aog:i<a7\/(a7<=i/\i<a7+zs.length)\/a7+zs.length<=i:=by omega
 rcases aog with E | ⟨E,L⟩ | E
 ·obtain⟨bC,d1,d2⟩:=h i G;have anT:=jN e d2;have aE:(Go.Fer.hU xs a7 zs)[i]'(by omega)=xs[i]:=by
   simp  [Go.Fer.hU];grind
  rw[aE];refine⟨bC,λj aK=>?_,fH e (λ_ h=>h) he d2⟩;have hle:(i+1)*e.size<=a7*e.size:=amt _ (by omega);rw[aQi]at hle;rw[<-aP2,hc,aP1 (by omega),aQ0,aP2];grind
 ·have qf:=aC.F8     hc;obtain⟨bC,d1,d2⟩:=qf (i - a7) (by omega);have aE:(Go.Fer.hU xs a7 zs)[i]'(by omega)=zs[i - a7]'(by omega):=by
   grind [Go.Fer.hU]
  rw[aE];refine⟨bC,λj aK=>?_,fH e (λ_ h=>h) he d2⟩;have:=d1 j aK;rw[<-this];congr 1;have:i*e.size=a7*e.size+(i - a7)*e.size:=by rw[<-aQi];grind
  omega
 ·obtain⟨bC,d1,d2⟩:=h i G;have aE:(Go.Fer.hU xs a7 zs)[i]'(by omega)=xs[i]:=by
   simp  [Go.Fer.hU];have hp:(xs.take a7).length=a7:=by grind
   rw[aQP (by omega)];grind
  rw[aE];refine⟨bC,λj aK=>?_,fH e (λ_ h=>h) he d2⟩;have bw:(a7+zs.length)*e.size<=i*e.size:=amt _ E;rw[aQi]at bw;rw[<-aP2,hc,amu (by omega),amu (by omega)];grind
theorem hZ.one{fo:List Value}{bq:List e.aj}(h:hZ P e F w fo bq)(kh:0<e.size):∀ v∈fo,v.oneCell'=true:=by
 intro v af;obtain⟨j,aK,rfl⟩:=List.mem_iff_getElem.1 af;have hdiv:=(Nat.div_lt_iff_lt_mul kh).2 (by rw[<-h.1];omega);have qZ:=h.2 (j / e.size) hdiv;have ka:=CJ   (H:=λ_=>⟨0,.ev⟩) (kap:=λ_=>⟨0,0,0,true⟩) e qZ;have Kx:=Nat.mod_lt j kh;have YT:=Nat.div_add_mod' j e.size;have YU:=jN e qZ;have:=(ka.n1 (j % e.size) (by rw[ka.len];omega)).2;grind
theorem aoh(aU:eg C.P T){args:Array Operand}{dr:Array TypeId}(bo:∀ i,o.dst=some i->i<C.bZ)(au:o.op=.call { callee:=.builtin .copy,args:=args,argTypes:=dr })(h:(cP C.aX T br (bh C.aX s.aA) o).run s.aa=some res):cR C o s res:=by
 obtain⟨args⟩:=args;obtain⟨dr⟩:=dr;have ax:∀ c,o.op≠.defer c:=by grind
 simp  [cP,au,pe,Ka]at h;split at h
 ·rename_i x y t u;split at h
  ·rename_i e bz aH hu;have dF:=aU.ca aH (by simp);obtain⟨l8,aK,iB,oM⟩:=dF.sl;obtain⟨inf,z,i1,i2,i3,i4,i5,i6⟩:=nv iB.nu;have kh:=aQZ oM;split at h
   ·rename_i b g a7 G KB;simp only[aF.fZ,amj,aF.gR,aF.dC]at h;obtain⟨⟨bq,l⟩,l7,h⟩:=h;split at h
    ·rename_i aD;split at h
     ·rename_i aZ xs U;split at h
      ·rename_i ud;subst ud;simp  at h;subst h;intro a w kap F Q D bb _;obtain⟨q',yq,Aw,rN⟩:=Au D l7 (db D y rfl bb.2);have al:bM C.P s.aa kap F w (use (bh C.aX s.aA x)).2 (a.eval x):=db D x rfl bb.1;have a1:=D.bF b;unfold c6 at a1;rw[U]at a1;have place:a7<=G.getD xs.length/\G.getD xs.length<=xs.length/\(((kap b).fO=true/\∃ cap,a.eval x=.slice none 0 cap)\/((kap b).fO=false/\∃ pn cap,a.eval x=.slice (some ⟨(kap b).aa,pn,none⟩) (G.getD xs.length - a7) cap/\(a7<G.getD xs.length->pn=(kap b).off+a7*aZ.size))):=by
        split at KB
        ·rename_i bj g' gm;simp  at KB;obtain⟨rfl,rfl,rfl,rfl⟩:=KB;rw[gm]at al;have af:=al.2 aD.symm (by rw[U];rfl);rw[U]at af;simp  [b'.len]at af;refine⟨aPR _,amn _,?_⟩;cases aC:(kap bj).fO with
         | true=>exact .inl ⟨rfl,0,by simpa [bL.slice,aC]using af⟩
         | false=>exact .inr ⟨rfl,(kap bj).off,(kap bj).cap,by simpa [bL.slice,aC]using af,λ_=>by simp⟩
        ·rename_i bj g' aLx d_ gm;obtain⟨rfl,rfl,rfl,rfl⟩:=KB;rw[gm]at al;obtain⟨⟨aM,aT⟩,b5⟩:=al.2 aD.symm (by rw[U];rfl);simp  [b'.len,b'.gP]at aT b5;rcases b5 with⟨aC,af⟩ | ⟨aC,pn,af,jO,gS⟩
         ·grind
         ·obtain⟨cs,h8,bG,c2,c3,c4,c5⟩:=a1.2 aC;grind
        grind
       obtain⟨fs,fQ,mu⟩:=place;have Y_:∀ m,m<=bq.length->m<=xs.length->gM .i64 m:=by
        intro m _ hm;have:=CV D   (by rw[U];rfl);rw[U]at this;simp  [b'.len]at this;exact CW (by omega)
       generalize bY:G.getD xs.length=dh at *
       have YL:Nat.min bq.length (dh - a7)=min (dh - a7) bq.length:=Nat.min_comm _ _;have aoi:(bq.take (dh - a7)).length=min (dh - a7) bq.length:=by simp
       have Gg:(hU xs a7 (bq.take (dh - a7))).length=xs.length:=by simp[hU];omega
       have hp:fI s.aa kap (λi=>if i=b then (⟨(s.aa b).gen,.bn aZ (hU xs a7 (bq.take (dh - a7)))⟩) else s.aa i) kap:=
        pd rfl (λh=>by cases h) (λ_=>by rw[U];exact⟨rfl,Gg,rfl⟩) (λh=>by cases h) (λh=>by cases h)
       have pg:∀ (w':World) v,(Builtin.copy_ #[t,u] o.type #[a.eval x,a.eval y]).run C.P w=.ok v w'->(execOp a.eval o).run C.P w=.ok (.value v) w':=by
        intro w' v af;refine sL au ?_;simp[builtin,af]
       rcases mu with⟨aC,cap,vj⟩ | ⟨aC,pn,cap,vj,aLy⟩
       ·have kg:=a1.1 aC;subst kg;have aoj:dh=0:=by grind
        subst aoj;obtain⟨fo,eA,eG⟩:=Y9       (aPR _) rN;have du:(Builtin.copy_ #[t,u] o.type #[a.eval x,a.eval y]).run C.P w=.ok (.int .i64 ((0))) w:=by
         simp  [Builtin.copy_,en aK,vj,Aw,Builtin.lenOf,tS i1,i2];rw[eA];rfl
        refine h7 ax (pg w _ du) ⟨kap,F,bu.set (s:=s.ct b _) ?_ bo (hL.2 ⟨by simp,Y_ _ (by simp) (by simp)⟩)⟩;have bN:hU ([]) 0 (bq.take (0 - 0))=[]:=by rfl
        have es:s.ct b ⟨(s.aa b).gen,.bn aZ (hU ([]) 0 (bq.take (0 - 0)))⟩=s:=by
         rw[bN];unfold aB.ct;have:(λi=>if i=b then (⟨(s.aa b).gen,.bn aZ []⟩) else s.aa i)=s.aa:=by
          funext i;by_cases G:i=b
          ·subst G;simp;rw[<-U]
          grind
         rw[this]
        grind
       ·obtain⟨cs,h8,bG,c2,c3,c4,c5⟩:=a1.2 aC;have Qt:min (dh - a7) bq.length<=bq.length:=Nat.min_le_right _ _;obtain⟨fo,eA,eG⟩:=Y9     Qt rN;have mx:bq.take (min (dh - a7) bq.length)=bq.take (dh - a7):=by
         simp
        rw[mx]at eG;have q1:=eG.1;rw[aoi]at q1;have qd:=eG.one kh;have Y':xs.length*aZ.size<=(kap b).cap*aZ.size:=amt _ c3;have Gh:(a7+min (dh - a7) bq.length)*aZ.size<=xs.length*aZ.size:=amt _ (by omega);rw[aQi]at Gh;obtain⟨w',ew,cq,c7,fL,oJ,n9,oK⟩:∃ w' ew,(storeCells ⟨(kap b).aa,pn,none⟩ fo).run C.P w=.ok () w'/\w'.heap[(kap b).aa]?=some (.cells ew h8 (0,0))/\ew.toList=cs.toList.take ((kap b).off+a7*aZ.size)++(fo++cs.toList.drop ((kap b).off+a7*aZ.size+fo.length))/\
          (∀ r,r≠(kap b).aa->w'.heap[r]?=w.heap[r]?)/\w'.heap.size=w.heap.size/\dL w w':=by
         by_cases dv:a7<dh
         ·obtain⟨w',ew,cq,c7,fL,oJ,n9,oK⟩:=yn (P:=C.P) fo ((kap b).off+a7*aZ.size) 0 w cs bG (by omega) qd;grind
         ·have aW:min (dh - a7) bq.length=0:=by omega
          rw[aW,Nat.zero_mul]at q1;have:=aP6 q1;subst this;exact⟨w,cs,by rfl,bG,by simp,λ_ _=>rfl,rfl,dL.refl w⟩
        have du:(Builtin.copy_ #[t,u] o.type #[a.eval x,a.eval y]).run C.P w=.ok (.int .i64 ((min (dh - a7) bq.length:Nat))) w':=by
         simp  [Builtin.copy_,en aK,vj,Aw,Builtin.lenOf,tS i1,i2];rw[YL,eA];simp  [cq];rfl
        refine h7 ax (pg w' _ du) ⟨kap,F,bu.set (s:=s.ct b _) ?_ bo (hL.2 ⟨rfl,Y_ _ (by omega) (by omega)⟩)⟩;refine D.qU   (by grind [b'.ch]) (by simp[b'.ch,aC]) hp (λh=>by cases h) (λh=>by cases h) oJ n9 oK λH pk dv he=>?_;refine⟨λh=>(by grind),λ_=>⟨ew,h8,c7,?_,by omega,c4,?_⟩⟩
        ·have:ew.size=cs.size:=by
          rw[<-aPY,fL];simp;omega
         omega
        ·exact c5.hU he eG (by omega) (by omega) fL
      grind
     grind
    grind
   ·cases h
  ·cases h
 ·cases h
theorem Za(au:(cP C.aX T br (bh C.aX s.aA) o).run s.aa=some ⟨True,False,.undef,[]⟩)(h:(cP C.aX T br (bh C.aX s.aA) o).run s.aa=some res):cR C o s res:=by
 intro a w kap F Q _ _ hc;grind
end
end Go.Fer
namespace Go.Fer
open Go.RowKit
section
variable {C:cH} {T:Nat->V} {br:Nat->Option aO} {o:Oper} {s:aB} {res:ez}
theorem aok{P:Program}{w:World}{len cap:Nat}{a7:Option Value}{l:Option Int}{k k':IntKind}{h m:Int}(ah:(a7=none/\l=none)\/∃ k m,a7=some (.int k m)/\l=some m)
  (E:0<=dD l) (L:dD l<=h) (an:h<=m) (a6:m<=(cap:Int)):(Instr.sliceBounds true len cap a7 (some (.int k h)) (some (.int k' m))).run P w=.ok ((dD l).toNat,h.toNat,m.toNat) w:=by
 rcases ah with⟨rfl,rfl⟩ | ⟨k,n,rfl,rfl⟩<;>simp  [dD]at E L ⊢
 ·have aE:0<=m/\m<=cap:=by omega
  have c_:max m 0=m:=by omega
  simp_all[Instr.sliceBounds,Instr.sliceBound,asIntOf]
 ·have aE:0<=m/\m<=cap:=by omega
  have bz:0<=h/\h<=m:=by omega
  have c_:max m 0=m:=by omega
  have ey:max h 0=h:=by omega
  simp_all[Instr.sliceBounds,Instr.sliceBound,asIntOf]
theorem aol(aU:eg C.P T){ty:TypeId}{x:Operand}{a7 G:Option Operand}{l6:Operand}(bo:∀ i,o.dst=some i->i<C.bZ)(au:o.op=.slice ty x a7 G (some l6))(h:(cP C.aX T br (bh C.aX s.aA) o).run s.aa=some res):cR C o s res:=by
 simp  [cP,au,J8]at h;split at h
 ·rename_i ol l sG dh Ae m bQ As vn;have ax:∀ c,o.op≠.defer c:=by grind
  split at h
  ·rename_i bN aH;have dF:=aU.ca aH (by simp);obtain⟨j,aK,iB,oM⟩:=dF.sl;simp only[aF.fZ,amj]at h;obtain⟨⟨c,v⟩,jR,h⟩:=h;simp  [da,amo]at h;subst h;have runs:∀ (a:Act) (w:World) kap F,bu C s a w kap F->ol->sG->Ae->∀ (q:Option Addr) (n cap:Nat),a.eval x=.slice q n cap->0<=dD l->dD l<=dh->dh<=m->m<=cap->
     (execOp a.eval o).run C.P w=.ok (.value (.slice (if m.toNat=(dD l).toNat then q else q.map (·.add ((dD l).toNat*bN.size))) (dh.toNat - (dD l).toNat) (m.toNat - (dD l).toNat))) w:=by
    intro a w kap F D yp F7 aom q n cap af bG c2 c3 c4;have cT:(a7.map a.eval=none/\l=none)\/∃ k m,a7.map a.eval=some (.int k m)/\l=some m:=by
     rcases Ar D bQ yp with⟨rfl,rfl⟩ | ⟨y,k,m,rfl,rfl,e⟩<;>grind
    obtain⟨xa,aT,m2,rfl,bz,c_⟩:∃ y k n,G=some y/\dh=n/\a.eval y=.int k n:=by
     rcases Ar D As F7 with⟨_,h⟩ | ⟨y,k,m,rfl,h,e⟩<;>grind
    obtain⟨b5,bV⟩:∃ k,a.eval l6=.int k m:=by
     rcases Ar D vn aom with⟨h,_⟩ | ⟨y,k,m,E,L,e⟩<;>grind
    subst bz;have:=aok (P:=C.P) (w:=w) (len:=n) (k:=aT) (k':=b5) cT bG c2 c3 c4;simp[execOp,au,af,Instr.sliceAt,Instr.slice,en aK,c_,bV,this,iB.size]
   unfold Yk at jR;split at jR
   ·rename_i e xs gm;simp only[aF.dC]at jR;split at jR
    ·obtain⟨rfl,rfl⟩:=jR;refine cR.pure ax bo λa w kap F D bb hc=>?_;have al:bM C.P s.aa kap F w (use (bh C.aX s.aA x)).2 (a.eval x):=db D x rfl bb.1;rw[gm]at al;obtain⟨_,a',cap,aE,m1,m2,m3,m4⟩:=(ee rfl).1 al;have aE:=(aPQ aE).1;simp  [fP]at hc;obtain⟨bG,c2,c3,c4⟩:=hc;subst c3;have hlen:((xs.take dh.toNat).drop (dD l).toNat).length=dh.toNat - (dD l).toNat:=by
      grind
     refine⟨_,runs a w kap F D bb.2.1 bb.2.2.1 bb.2.2.2 a' xs.length cap aE bG c2 (aPP _) (by omega),(ee rfl).2 ⟨rfl,?_⟩,_,by rw[hlen]⟩;refine⟨_,_,by rw[hlen],by omega,by omega,?_,λp ai CL=>?_⟩
     ·intro aC;split at aC
      ·omega
      ·cases a'<;>grind
     ·cases a' with
      | none=>grind
      | some q=>
       obtain⟨eA,eG,lk⟩:=m4 q rfl (by omega);have bB:p=⟨q.block,q.off+(dD l).toNat*e.size,none⟩:=by
        grind [F6]
       subst bB;refine⟨eA,rfl,λi G=>?_⟩;obtain⟨bC,d1,d2⟩:=lk ((dD l).toNat+i) (by omega);grind
    grind
   ·rename_i gm;obtain⟨rfl,rfl⟩:=jR;refine cR.pure ax bo λa w kap F D bb hc=>?_;have al:bM C.P s.aa kap F w (use (bh C.aX s.aA x)).2 (a.eval x):=db D x rfl bb.1;rw[gm]at al;simp  [fP]at hc;have du:=runs a w kap F D bb.2.1 bb.2.2.1 bb.2.2.2 none 0 0 al (by omega) (by omega) (by omega) (by omega);have aW:dh.toNat=0:=by omega
    have E:m.toNat=0:=by omega
    have L:(dD l).toNat=0:=by omega
    rw[aW,E,L]at du;exact⟨_,du,(ee rfl).2 ⟨rfl,none,0,rfl,amn _,by decide,λ_=>rfl,λp ai=>by simp⟩,none,rfl⟩
   ·rename_i b g gm;simp only[aF.gR,aF.dC]at jR;split at jR
    ·rename_i bA;simp  at bA;obtain⟨aD,ga⟩:=bA;obtain⟨rfl,rfl⟩:=jR;refine cR.pure ax bo λa w kap F D bb hc=>?_;have al:bM C.P s.aa kap F w (use (bh C.aX s.aA x)).2 (a.eval x):=db D x rfl bb.1;rw[gm]at al;have af:=al.2 aD.symm ga;obtain⟨eA,eG⟩:=CV D ga;obtain⟨bG,c2,c3,c4⟩:=hc;cases aC:(kap b).fO with
     | true=>
      have aW:=eA aC;simp  [bL.slice,aC]at af;exact⟨_,runs a w kap F D bb.2.1 bb.2.2.1 bb.2.2.2 none 0 0 af bG c2 c3 (by omega),trivial⟩
     | false=>
      have w3:=PW D ga aC;simp  [bL.slice,aC]at af;exact⟨_,runs a w kap F D bb.2.1 bb.2.2.1 bb.2.2.2 _ _ _ af bG c2 c3 (by omega),trivial⟩
    grind
   ·cases jR
  ·cases h
 ·cases h
theorem aon{b:Nat}{e:V}(U:(s.aa b).body=.bn e []):s.ct b ⟨(s.aa b).gen,.bn e []⟩=s:=by
 unfold aB.ct;have:(λi=>if i=b then (⟨(s.aa b).gen,.bn e []⟩) else s.aa i)=s.aa:=by
  funext i;by_cases G:i=b
  ·subst G;simp;rw[<-U]
  grind
 rw[this]
theorem aoo(aU:eg C.P T){args:Array Operand}{dr:Array TypeId}(bo:∀ i,o.dst=some i->i<C.bZ)(au:o.op=.call { callee:=.builtin .append,args:=args,argTypes:=dr }){b g a7 G:Nat}(az:Ag (bh C.aX s.aA) args.toList=some (b,g,a7,G))
  (h:(FU T (bh C.aX s.aA) args.toList dr.toList b g a7 G).run s.aa=some res):cR C o s res:=by
 obtain⟨args⟩:=args;obtain⟨dr⟩:=dr;have ax:∀ c,o.op≠.defer c:=by grind
 simp  [FU]at h;split at h
 ·rename_i x y t u;have gm:(use (bh C.aX s.aA x)).2=.sub b g a7 G:=by
   simp  [Ag]at az;grind
  split at h
  ·rename_i e bz aH hu;have dF:=aU.ca aH (by simp);have F5:=aU.ca hu (by simp);obtain⟨l8,aK,iB,oM⟩:=dF.sl;obtain⟨anW,gQ,_⟩:=F5.sl;obtain⟨inf,z,i1,i2,i3,i4,i5,i6⟩:=nv iB.nu;have kh:=aQZ oM;simp only[aF.fZ,amj,aF.gR,aF.dC]at h;obtain⟨⟨bq,l⟩,l7,h⟩:=h;split at h
   ·rename_i aD;split at h
    ·rename_i aZ xs U;split at h
     ·rename_i ud;subst ud;simp  at h;subst h;intro a w kap F Q D bb hc;obtain⟨q',yq,Aw,rN⟩:=Au D l7 (db D y rfl bb.2);have al:bM C.P s.aa kap F w (use (bh C.aX s.aA x)).2 (a.eval x):=db D x rfl bb.1;rw[gm]at al;have a1:=D.bF b;unfold c6 at a1;rw[U]at a1;obtain⟨⟨aM,aT⟩,b5⟩:=al.2 aD.symm (by rw[U];rfl);rw[U]at aT b5;simp  [b'.gP]at aT b5;have pg:∀ (w':World) v,(Builtin.append_ #[t,u] o.type #[a.eval x,a.eval y]).run C.P w=.ok v w'->(execOp a.eval o).run C.P w=.ok (.value v) w':=by
       intro w' v af;refine sL au ?_;simp[builtin,af]
      have Gg:(hU xs G bq).length=xs.length:=by simp[hU];omega
      have hp:fI s.aa kap (λi=>if i=b then (⟨(s.aa b).gen,.bn aZ (hU xs G bq)⟩) else s.aa i) kap:=
       pd rfl (λh=>by cases h) (λ_=>by rw[U];exact⟨rfl,Gg,rfl⟩) (λh=>by cases h) (λh=>by cases h)
      rcases b5 with⟨aC,af⟩ | ⟨aC,pn,af,jO,gS⟩
      ·have kg:=a1.1 aC;subst kg;have sP:G=0:=by grind
       subst sP;have aop:a7=0:=by omega
       subst aop;have Qe:bq=[]:=by grind
       subst Qe;obtain⟨fo,eA,eG⟩:=P8       rfl rN;have du:(Builtin.append_ #[t,u] o.type #[a.eval x,a.eval y]).run C.P w=.ok (.slice none 0 0) w:=by
        rw[af,Aw];simp[Builtin.append_,en aK,en gQ,tS i1,Builtin.lenOf];simp_all
       have bN:hU ([]:List aZ.aj) 0 []=[]:=by rfl
       refine h7 ax (pg w _ du) ⟨kap,F,bu.set (s:=s.ct b _) ?_ bo ⟨⟨by simp[aB.ct,aD],rfl⟩,λ_ _=>⟨by simp,.inl ⟨aC,rfl⟩⟩⟩⟩;rw[bN,aon U];omega
      ·obtain⟨cs,h8,bG,c2,c3,c4,c5⟩:=a1.2 aC;obtain⟨fo,eA,eG⟩:=P8       rfl rN;have q1:=eG.1;have qd:=eG.one kh;have Y':xs.length*aZ.size<=(kap b).cap*aZ.size:=amt _ c3;have Gh:(G+bq.length)*aZ.size<=xs.length*aZ.size:=amt _ hc;rw[aQi]at Gh;obtain⟨w',ew,cq,c7,fL,oJ,n9,oK⟩:∃ w' ew,(storeCells ⟨(kap b).aa,pn+(G - a7)*aZ.size,none⟩ fo).run C.P w=.ok () w'/\w'.heap[(kap b).aa]?=some (.cells ew h8 (0,0))/\ew.toList=cs.toList.take ((kap b).off+G*aZ.size)++(fo++cs.toList.drop ((kap b).off+G*aZ.size+fo.length))/\
         (∀ r,r≠(kap b).aa->w'.heap[r]?=w.heap[r]?)/\w'.heap.size=w.heap.size/\dL w w':=by
        by_cases dv:a7<(kap b).cap
        ·have C6:pn+(G - a7)*aZ.size=(kap b).off+G*aZ.size:=by
          rw[gS dv,Nat.add_assoc,<-aQi];grind
         obtain⟨w',ew,cq,c7,fL,oJ,n9,oK⟩:=yn (P:=C.P) fo ((kap b).off+G*aZ.size) 0 w cs bG (by omega) qd;grind
        ·have aW:bq.length=0:=by omega
         rw[aW,Nat.zero_mul]at q1;have:=aP6 q1;subst this;exact⟨w,cs,by rfl,bG,by simp,λ_ _=>rfl,rfl,dL.refl w⟩
       have Gc:G - a7+bq.length<=(kap b).cap - a7:=by omega
       have du:(Builtin.append_ #[t,u] o.type #[a.eval x,a.eval y]).run C.P w=.ok (.slice (some ⟨(kap b).aa,pn,none⟩) (G - a7+bq.length) ((kap b).cap - a7)) w':=by
        rw[af,Aw];simp only[Builtin.append_,aQB,aQW,aQv,Sem.run_bind,en aK,en gQ,Result.andThen_ok,tS i1,Sem.run_pure,Builtin.lenOf,aml,aPH,tW];simp_all
       refine h7 ax (pg w' _ du) ⟨kap,F,bu.set (s:=s.ct b _) ?_ bo ⟨⟨by simp[aB.ct,aD],rfl⟩,λ_ _=>⟨by simp  [aB.ct,b'.len];omega,.inr ⟨aC,pn,?_,?_,?_⟩⟩⟩⟩
       ·refine D.qU   (by rw[U];grind [b'.ch]) (by simp[b'.ch,aC]) hp (λh=>by cases h) (λh=>by cases h) oJ n9 oK λH pk dv he=>?_;refine⟨λh=>(by grind),λ_=>⟨ew,h8,c7,?_,by omega,c4,?_⟩⟩
        ·grind [Array.length_toList]
        ·exact c5.hU he eG hc (by omega) fL
       ·grind
       ·grind [aB.ct,b'.gP]
       grind [aB.ct,b'.gP]
     grind
    grind
   grind
  ·cases h
 ·cases h
theorem aoq(aU:eg C.P T){args:Array Operand}{dr:Array TypeId}(bo:∀ i,o.dst=some i->i<C.bZ)(au:o.op=.call { callee:=.builtin .clear,args:=args,argTypes:=dr })
  (h:(FV T (bh C.aX s.aA) args.toList dr.toList).run s.aa=some res):cR C o s res:=by
 obtain⟨args⟩:=args;obtain⟨dr⟩:=dr;have ax:∀ c,o.op≠.defer c:=by grind
 simp  [FV]at h;split at h
 ·rename_i x t;split at h
  ·rename_i e aH;have dF:=aU.ca aH (by simp);obtain⟨l8,aK,iB,oM⟩:=dF.sl;obtain⟨inf,z,i1,i2,i3,i4,i5,i6⟩:=nv iB.nu;have kh:=aQZ oM;split at h
   ·rename_i b g a7 G gm;simp only[aF.gR,aF.dC]at h;split at h
    ·rename_i aD;split at h
     ·rename_i aZ xs U;split at h
      ·rename_i ud;subst ud;simp  at h;subst h;intro a w kap F Q D bb _;have al:bM C.P s.aa kap F w (use (bh C.aX s.aA x)).2 (a.eval x):=db D x rfl bb;rw[gm]at al;have a1:=D.bF b;unfold c6 at a1;rw[U]at a1;obtain⟨⟨aM,aT⟩,b5⟩:=al.2 aD.symm (by rw[U];rfl);rw[U]at aT b5;simp  [b'.len,b'.gP]at aT b5;have pg:∀ (w':World) v,(Builtin.clear_ #[t] o.type #[a.eval x]).run C.P w=.ok v w'->(execOp a.eval o).run C.P w=.ok (.value v) w':=by
        intro w' v af;refine sL au ?_;simp[builtin,af]
       have eB:(List.replicate (G - a7) aZ.dU).length=G - a7:=by simp
       have Gg:(hU xs a7 (List.replicate (G - a7) aZ.dU)).length=xs.length:=by simp[hU];omega
       have hp:fI s.aa kap (λi=>if i=b then (⟨(s.aa b).gen,.bn aZ (hU xs a7 (List.replicate (G - a7) aZ.dU))⟩) else s.aa i) kap:=
        pd rfl (λh=>by cases h) (λ_=>by rw[U];exact⟨rfl,Gg,rfl⟩) (λh=>by cases h) (λh=>by cases h)
       have nothing:G - a7=0->hU xs a7 (List.replicate (G - a7) aZ.dU)=xs:=λaW=>by rw[aW];simp[hU]
       have ix:G - a7=0->s.ct b ⟨(s.aa b).gen,.bn aZ (hU xs a7 (List.replicate (G - a7) aZ.dU))⟩=s:=λaW=>by
        rw[nothing aW];unfold aB.ct;have:(λi=>if i=b then (⟨(s.aa b).gen,.bn aZ xs⟩) else s.aa i)=s.aa:=by
         funext i;by_cases G:i=b
         ·subst G;simp;rw[<-U]
         grind
        rw[this]
       rcases b5 with⟨aC,af⟩ | ⟨aC,pn,af,jO,gS⟩
       ·have kg:=a1.1 aC;have du:(Builtin.clear_ #[t] o.type #[a.eval x]).run C.P w=.ok (.tuple #[]) w:=by
         rw[af];simp[Builtin.clear_,en aK]
        refine h7 ax (pg w _ du) ⟨kap,F,bu.set (s:=s.ct b _) ?_ bo trivial⟩;grind
       ·obtain⟨cs,h8,bG,c2,c3,c4,c5⟩:=a1.2 aC;by_cases aW:G - a7=0
        ·have du:(Builtin.clear_ #[t] o.type #[a.eval x]).run C.P w=.ok (.tuple #[]) w:=by
          rw[af,aW];simp[Builtin.clear_,en aK]
         refine h7 ax (pg w _ du) ⟨kap,F,bu.set (s:=s.ct b _) ?_ bo trivial⟩;grind
        ·have hP:hZ C.P aZ F w ((Array.range ((G - a7)*aZ.size)).map (λi=>z.cells[i % z.cells.size]!)).toList (List.replicate (G - a7) aZ.dU):=Y8 i5 _;have ys:z.cells.size=aZ.size:=by
          obtain⟨c,C5,iy,z2⟩:=yj (P:=C.P) (H:=λ_=>⟨0,.ev⟩) (kap:=λ_=>⟨0,0,0,true⟩) (F:=F) (w:=w) aZ i5;rw[aPT]at C5;rw[<-aPY,C5];exact jN aZ iy
         have q1:=hP.1;rw[eB]at q1;have qd:=hP.one kh;revert hP q1 qd;generalize l9:((Array.range ((G - a7)*aZ.size)).map (λi=>z.cells[i % z.cells.size]!)).toList=fo;intro hP q1 qd;have Y':xs.length*aZ.size<=(kap b).cap*aZ.size:=amt _ c3;have Gh:(a7+(G - a7))*aZ.size<=xs.length*aZ.size:=amt _ (by omega);rw[aQi]at Gh;have C6:=gS (by omega);obtain⟨w',ew,cq,c7,fL,oJ,n9,oK⟩:=yn (P:=C.P) fo ((kap b).off+a7*aZ.size) 0 w cs bG (by omega) qd;have du:(Builtin.clear_ #[t] o.type #[a.eval x]).run C.P w=.ok (.tuple #[]) w':=by
          rw[af];have bA:(Builtin.zeroCells z.cells (G - a7)).toList=fo:=by rw[<-l9,<-ys];rfl
          simp  [Builtin.clear_,en aK,sJ i1 i4];simp_all
         refine h7 ax (pg w' _ du) ⟨kap,F,bu.set (s:=s.ct b _) ?_ bo trivial⟩;refine D.qU   (by grind [b'.ch]) (by grind [b'.ch]) hp (λh=>by cases h) (λh=>by cases h) oJ n9 oK λH pk dv he=>?_;refine⟨λh=>(by grind),λ_=>⟨ew,h8,c7,?_,by omega,c4,?_⟩⟩
         ·grind [Array.length_toList]
         ·exact c5.hU he hP (by omega) (by omega) (by omega)
      grind
     grind
    grind
   ·cases h
  ·cases h
 ·cases h
end
end Go.Fer
namespace Go.Fer
open Go.RowKit
section
variable {C:cH} {T:Nat->V} {br:Nat->Option aO} {o:Oper} {s:aB} {res:ez}
theorem Qu{place:Nat->Option (z21')}{size:Nat}(ai:∀ i,place i=some (i*size,size)):∀ (iz:List (Nat×Value)) (cs:Array Value),(∀ q∈iz,q.2.cells.size=size/\q.1*size+size<=cs.size)->(iz.map (·.1)).Nodup->
  ∃ ew,Instr.fill place cs iz=some ew/\ew.size=cs.size/\∀ i,i*size+size<=cs.size->(ew.toList.drop (i*size)).take size=(match iz.find? (λp=>p.1 == i) with | some q=>q.2.cells.toList | none=>(cs.toList.drop (i*size)).take size)
 | [],cs,_,_=>⟨cs,rfl,rfl,λi _=>rfl⟩
 | (k,v)::iz,cs,h,aC=>by
  obtain⟨E,L⟩:=h (k,v) (by simp);have Km:=Kj v.cells.toList 0 (k*size) cs (by grind);have e:(v.cells.zipIdx.foldl (λcs p=>cs.setIfInBounds (k*size+p.2) p.1) cs)=((v.cells.toList.zipIdx 0).foldl (λcs p=>cs.setIfInBounds (k*size+p.2) p.1) cs):=by
   rw[<-Array.foldl_toList];simp
  generalize aLz:(v.cells.zipIdx.foldl (λcs p=>cs.setIfInBounds (k*size+p.2) p.1) cs)=KC at *
  have Gi:KC.toList=cs.toList.take (k*size)++(v.cells.toList++cs.toList.drop (k*size+size)):=by
   grind
  have cN:KC.size=cs.size:=by
   rw[<-aPY];grind
  have xb:(iz.map (·.1)).Nodup/\k ∉ iz.map (·.1):=by
   grind
  obtain⟨ew,aM,aT,b5⟩:=Qu ai iz KC (λq bB=>by grind) xb.1;refine⟨ew,?_,by omega,λi G=>?_⟩
  ·simp  [Instr.fill,ai];grind
  ·by_cases po:k=i
   ·grind
   ·have hP:(KC.toList.drop (i*size)).take size=(cs.toList.drop (i*size)).take size:=by
     apply aQ5;intro j;simp only[aQ0,aQC];split
     ·rw[Gi];have mx:(List.take (k*size) cs.toList).length=k*size:=by grind
      have Ao:v.cells.toList.length=size:=by omega
      rcases aQF i k with an | an
      ·have:(i+1)*size<=k*size:=amt _ (by omega);grind
      ·have:(k+1)*size<=i*size:=amt _ (by omega);rw[aQi]at this;rw[amu (by omega),amu (by omega),aQC];congr 1;omega
     ·rfl
    grind
theorem aor(aU:eg C.P T){ty n:Nat}{bt:Array (Nat×Operand)}(bo:∀ i,o.dst=some i->i<C.bZ)(au:o.op=.buildSlice ty n bt)(h:(cP C.aX T br (bh C.aX s.aA) o).run s.aa=some res):cR C o s res:=by
 obtain⟨bt⟩:=bt;have ax:∀ c,o.op≠.defer c:=by grind
 simp  [cP,au]at h;split at h
 ·rename_i e aH;have dF:=aU.ca aH (by simp);obtain⟨l8,aK,iB,oM⟩:=dF.sl;obtain⟨inf,z,i1,i2,i3,i4,i5,i6⟩:=nv iB.nu;simp only[aF.fZ,amj,aF.run_bind]at h;obtain⟨⟨xs,b_⟩,kg,h⟩:=h;obtain⟨b,aLA,ak⟩:=tV h;split at ak
  ·rename_i Gj;obtain⟨aLB,Zb⟩:=Gj;simp only[amm,amp]at Zb;obtain⟨⟨gU,Ge⟩,Qv⟩:=Zb;have C0:b ∉ b_:=by grind
   simp  at ak;subst ak;intro a w kap F Q D bb _;obtain⟨F',f1,bk,f2⟩:=bu.mR (an3 n 0 kg) D;obtain⟨Qw,aos,iy,z2⟩:=yj   (H:=s.aa) (kap:=kap)     e i5;have Qx:=P2 D bt bb;have mz:=Y0 D.bF f1 iy     (by simp[lG]) Qx n 0 kg f2;have ys:=(F3 e (P:=C.P) i5).2;have Qy:∀ p∈bt,p.1<n:=by
    intro p ai;have:=List.all_eq_true.1 Qv (p.1,(use (bh C.aX s.aA p.2)).2) (by simp  [lG,aRb];grind);grind
   have Qz:((bt.map λp=>(p.1,a.eval p.2)).map (·.1)).Nodup:=by
    have:(lG (bt.map λp=>(p.1,bh C.aX s.aA p.2))).map (·.1)=(bt.map λp=>(p.1,a.eval p.2)).map (·.1):=by simp[lG]
    grind
   have KD:∀ q∈bt.map (λp=>(p.1,a.eval p.2)),q.2.cells.size=e.size/\q.1*e.size+e.size<=n*e.size:=by
    intro q bB;obtain⟨p,ai,rfl⟩:=List.mem_map.1 bB;have dv:=Qy p ai;refine⟨?_,by
     have:(p.1+1)*e.size<=n*e.size:=amt _ (by omega);grind⟩
    obtain⟨bC,d1,d2⟩:=mz.2 p.1 (by omega);have Gk:(bt.map λp=>(p.1,a.eval p.2)).find? (λr=>r.1 == p.1)=some (p.1,a.eval p.2):=by
     have aot:∀ (l:List (Nat×Value)),(l.map (·.1)).Nodup->∀ q∈l,l.find? (λr=>r.1 == q.1)=some q:=by
      intro l;induction l<;>grind
     grind
    have:=jN e d1;grind
   let base:=(Array.range (n*e.size)).map (λi=>z.cells[i % z.cells.size]!);have aLC:base.size=n*e.size:=by grind
   obtain⟨ew,aM,aT,b5⟩:=Qu (place:=λi=>some (i*e.size,e.size)) (λi=>rfl) (bt.map λp=>(p.1,a.eval p.2)) base (by grind) Qz;have aLD:∀ i,i<n->(base.toList.drop (i*e.size)).take e.size=z.cells.toList:=by
    intro i G;have hle:(i+1)*e.size<=n*e.size:=amt _ (by omega);apply aQ5;intro j;simp  [aQ0];split
    ·rename_i aK;have Kx:(i*e.size+j) % z.cells.size=j:=by rw[ys,Nat.add_comm,Nat.add_mul_mod_self_right,Nat.mod_eq_of_lt aK]
     grind
    grind
   have aou:hZ C.P e F' w ew.toList xs:=by
    refine⟨by grind,λi G=>?_⟩;have hle:(i+1)*e.size<=n*e.size:=amt _ (by omega);grind
   have du:(execOp a.eval o).run C.P w=.ok (.value (.slice (some ⟨w.heap.size,0,none⟩) n n)) (w.alloc (.cells ew l8)):=by
    have aov:¬n*e.size > 2 ^ 24:=by omega
    simp only[execOp,au,Instr.buildSlice,Sem.run_bind,en aK,Result.andThen_ok,tS i1,i2,aov,aPH];by_cases yt:n*e.size=0
    ·have vo:base=#[]:=Array.eq_empty_of_size_eq_zero (by omega);rw[vo]at aM;simp only[yt,if_true,Sem.run_bind,Sem.run_pure,Result.andThen_ok];rw[show ((Array.range 0).map (λi=>(#[])[i % (#[]).size]!))=#[] from by simp];simp  at aM ⊢;rw[aM];rfl
    ·simp only[yt,aPH,Sem.run_bind,sJ i1 i4,Sem.run_pure];simp;rw[aM];rfl
   have ua:s.iw ((ke b_).run s.aa++[(b,⟨(s.aa b).gen+1,.bn e xs⟩)])=(s.cD b_).ct b ⟨(s.aa b).gen+1,.bn e xs⟩:=by
    rw[CX,tZ]
   have sO:(s.cD b_).aa b=s.aa b:=by simp[aB.cD,C0]
   have an:=bk.Ga (b:=b) (g:=(s.aa b).gen+1)   (k:=⟨w.heap.size,0,n,false⟩)   (by grind) (.inr rfl) (by simp) (λr D=>rH w _ D) (λ_=>by simp) ⟨rfl,rfl,rfl⟩
    (λH bT=>⟨λh=>(by grind),λ_=>⟨ew,l8,tR w _,by grind,by grind,by
     have:n<=n*e.size:=Nat.le_mul_of_pos_right _ (aQZ oM);exact⟨by grind,iB.Kh⟩,(aou.F8 (pre:=[]) (post:=[]) (by simp)).later (di.alloc bk.ds _)⟩⟩)
   refine h7 ax du ?_;simp  [aB.jE];rw[ua];exact⟨_,F',bu.set an bo ⟨⟨by simp[aB.ct],rfl⟩,λ_ _=>by simp[aB.ct,bL.slice,b'.len,mz.1]⟩⟩
  grind
 ·cases h
theorem Zc(qi:Nat):∀ (m:Nat) (l:List Value),l.length=m*qi->((List.range m).map λi=>(l.drop (i*qi)).take qi).flatten=l
 | 0,l,h=>by
  grind
 | m+1,l,h=>by
  have aP:=Zc qi m (l.take (m*qi)) (by grind);rw[aQ2,aP7];have e:((List.range m).map λi=>(l.drop (i*qi)).take qi)=((List.range m).map λi=>((l.take (m*qi)).drop (i*qi)).take qi):=by
   refine aPN λi G=>?_;have hle:(i+1)*qi<=m*qi:=amt _ (by grind);rw[aQi]at hle;rw[List.drop_take,List.take_take,Nat.min_eq_left (by omega)]
  rw[e];have:(l.drop (m*qi)).take qi=l.drop (m*qi):=aQI (by grind);simp_all
theorem aow(aU:eg C.P T){ty m:Nat}{e:V}{bt:Array (Nat×Operand)}(bo:∀ i,o.dst=some i->i<C.bZ)(au:o.op=.build ty bt)(aH:T ty=.array m e)
  (h:((w1 e (lG (bt.toList.map λp=>(p.1,bh C.aX s.aA p.2))) 0 m).eF λ(xs,b_)=>if (b_.isEmpty&&decide ((lG (bt.toList.map λp=>(p.1,bh C.aX s.aA p.2))).map (·.1)).Nodup&&(lG (bt.toList.map λp=>(p.1,bh C.aX s.aA p.2))).all (λp=>decide (p.1<m)))=true then da (yk (bt.toList.map λp=>(p.1,bh C.aX s.aA p.2))) True (.val (.array m e) xs) else .none).run s.aa=some res):cR C o s res:=by
 obtain⟨bt⟩:=bt;simp only[aF.fZ,amj]at h;obtain⟨⟨xs,b_⟩,kg,h⟩:=h;have dF:=aU.ca aH (by simp);obtain⟨l8,aK,iB,oM⟩:=dF.bn;obtain⟨i,z,E,L,an,a6,bS,ek⟩:=nv dF.nu;split at h
 ·rename_i hc;simp only[amm,amp,List.isEmpty_iff,aPZ]at hc;obtain⟨⟨rfl,Ge⟩,Qv⟩:=hc;simp  [da,amo]at h;subst h;refine cR.pure (by grind) bo λa w kap F D bb _=>?_;obtain⟨Qw,aos,iy,z2⟩:=yj (P:=C.P) (H:=s.aa) (kap:=kap) (F:=F) (w:=w) (.array m e) bS;have ys:=(F3 (.array m e) (P:=C.P) bS).2;have aLE:z.cells.size=m*e.size:=ys;have Qx:=P2 D bt bb;have mz:=λzero (bA:cw C.P e F w zero e.dU)=>Y0 D.bF (λ_ h=>h) bA     (by simp[lG]) Qx m 0 kg (λ_ h=>by grind);have Qy:∀ p∈bt,p.1<m:=by
   intro p ai;exact Qv (p.1,(use (bh C.aX s.aA p.2)).2) (by simp  [lG,aRb];grind)
  have Qz:((bt.map λp=>(p.1,a.eval p.2)).map (·.1)).Nodup:=by
   have:(lG (bt.map λp=>(p.1,bh C.aX s.aA p.2))).map (·.1)=(bt.map λp=>(p.1,a.eval p.2)).map (·.1):=by simp[lG]
   grind
  have hP:∀ i,i<m->cw C.P e F w ((z.cells.toList.drop (i*e.size)).take e.size) e.dU:=by
   intro i G;have aox:cw C.P (.array m e) F w z.cells.toList (V.array m e).dU:=by grind
   obtain⟨p,c,q,aM,aT,b5⟩:=PV aox G;have ah:=jN e b5;have:(V.dU (.array m e)).getD i e.dU=e.dU:=by
    show (List.replicate m e.dU).getD i e.dU=e.dU;grind
   grind
  have Zd:xs.length=m:=by
   rcases Nat.eq_zero_or_pos m with aW | aW
   ·subst aW;simp  [w1,aPK]at kg;grind
   grind
  have KD:∀ q∈bt.map (λp=>(p.1,a.eval p.2)),q.2.cells.size=e.size/\q.1*e.size+e.size<=z.cells.size:=by
   intro q bB;obtain⟨p,ai,rfl⟩:=List.mem_map.1 bB;have dv:=Qy p ai;refine⟨?_,by
    have:(p.1+1)*e.size<=m*e.size:=amt _ (by omega);grind⟩
   obtain⟨bC,d1,d2⟩:=(mz _ (hP p.1 dv)).2 p.1 (by omega);have Gk:(bt.map λp=>(p.1,a.eval p.2)).find? (λr=>r.1 == p.1)=some (p.1,a.eval p.2):=by
    have aot:∀ (l:List (Nat×Value)),(l.map (·.1)).Nodup->∀ q∈l,l.find? (λr=>r.1 == q.1)=some q:=by
     intro l;induction l<;>grind
    grind
   have:=jN e d1;grind
  obtain⟨ew,aM,aT,b5⟩:=Qu   (λi=>rfl) (bt.map λp=>(p.1,a.eval p.2)) z.cells KD Qz;refine⟨.agg ew,?_,⟨ew,rfl,by omega⟩,?_⟩
  ·simp  [execOp,au,Instr.build,sJ E a6,en aK,iB.size];simp_all
  ·refine⟨(List.range m).map λi=>(ew.toList.drop (i*e.size)).take e.size,(Zc e.size m ew.toList (by grind)).symm,by simp,Zd,λi G d_=>?_⟩;have hle:(i+1)*e.size<=m*e.size:=amt _ (by omega);grind
 ·cases h
theorem gv.mono{P:Program}{t:V}{F F':Nat->Prop}{w w':World}{aG:List Value}{x:t.aj}(h:gv P t F w aG x)(bp:∀ r,F r->F' r)(he:di F w w'):gv P t F' w' aG x:=⟨h.1,fH t bp he h.2⟩
variable {k:FuncId}{dP:List Operand}
theorem aoy(bo:∀ i,o.dst=some i->i<C.bZ)(au:o.op=.makeFunc (.func k) #[] ⟨dP⟩){v:JX}(af:C.aX.tP k=some v)
  (h:((kd (hW (v.cs.map .bO)) ((dP.map (bh C.aX s.aA)).map λv=>(use v).2)).eF λ(y,b_)=>(ke b_).bind λwl=>.ret (some ⟨kf (dP.map (bh C.aX s.aA)),True,.val (.fn (hW v.as) v.aS) (λx=>v.sh (JW v.as (v.cs.map .bO) x y)),wl⟩):aF (Option ez)).run s.aa=some res):cR C o s res:=by
 simp only[aF.fZ,amj,aF.run_bind,aF.dC,amo]at h;obtain⟨⟨y,l⟩,ba,rfl⟩:=h;intro a w kap F Q D bb _;obtain⟨F',f1,bk,f2⟩:=bu.mR (rO _ ba) D;have fu:gv C.P (hW (v.cs.map .bO)) F' w (dP.map a.eval) y:=by
  refine w7 D.bF f1 _ ba f2 (by simp) λi G d_=>?_;simp;have dR:i<dP.length:=by grind
  have E:=tY bb i (by grind);have aE:(dP.map (bh C.aX s.aA)).getD i .undef=bh C.aX s.aA dP[i]:=by grind
  rw[aE]at E;exact qW (lJ D dP[i]) E
 obtain⟨az,AB⟩:=D.j1.tP k v af;have du:(execOp a.eval o).run C.P w=.ok (.value (.func (.func k) #[] (dP.map a.eval).toArray)) w:=by simp[execOp,au,Instr.makeFunc]
 refine h7 (by grind) du ⟨kap,F',?_⟩;simp  [aB.jE];rw[tZ];refine bu.set bk bo ((ee rfl).2 ⟨rfl,_,rfl,⟨rfl,rfl⟩,λfR dN xc AD pr AE args x E L an=>⟨k,_,rfl,AB.enter,?_⟩⟩);have aK:=X4 v.as (v.cs.map .bO) az       ⟨E,L⟩ (fu.mono xc AD);have:=AB.ik fR dN _ _ pr AE aK an;have e:(args++dP.map a.eval).toArray=args.toArray++(dP.map a.eval).toArray:=by simp
 rw[e]at this;exact this.mono λe wU ⟨v,y,aE,bz,⟨aG,c_,bV,ey⟩,mq⟩=>⟨v,y,aG,aE,bz,c_,bV,ey,mq⟩
theorem aoz(bo:∀ i,o.dst=some i->i<C.bZ)(au:o.op=.makeFunc (.func k) #[] ⟨dP⟩){v:z1}(af:C.aX.z6 k=some v)
  (h:((kd (hW (v.cs.map .bO)) ((dP.map (bh C.aX s.aA)).map λv=>(use v).2)).eF λ(y,b_)=>(ke b_).bind λwl=>.ret (some ⟨kf (dP.map (bh C.aX s.aA)),True,.val (.cG v.aI) (v.S y),wl⟩):aF (Option ez)).run s.aa=some res):cR C o s res:=by
 simp only[aF.fZ,amj,aF.run_bind,aF.dC,amo]at h;obtain⟨⟨y,l⟩,ba,rfl⟩:=h;intro a w kap F Q D bb _;obtain⟨F',f1,bk,f2⟩:=bu.mR (rO _ ba) D;have fu:gv C.P (hW (v.cs.map .bO)) F' w (dP.map a.eval) y:=by
  refine w7 D.bF f1 _ ba f2 (by simp) λi G d_=>?_;simp;have dR:i<dP.length:=by grind
  have E:=tY bb i (by grind);have aE:(dP.map (bh C.aX s.aA)).getD i .undef=bh C.aX s.aA dP[i]:=by grind
  rw[aE]at E;exact qW (lJ D dP[i]) E
 have AB:=D.j1.z6 k v af;have du:(execOp a.eval o).run C.P w=.ok (.value (.func (.func k) #[] (dP.map a.eval).toArray)) w:=by simp[execOp,au,Instr.makeFunc]
 refine h7 (by grind) du ⟨kap,F',?_⟩;simp  [aB.jE];rw[tZ];refine bu.set bk bo ((ee rfl).2 ⟨rfl,_,rfl,⟨rfl,rfl⟩,λfR dN xc AD pr AE eM=>⟨k,_,rfl,AB.enter,λl I Y jk jS fk=>?_⟩⟩);exact AB.ik fR dN _ _ pr AE (fu.mono xc AD) eM l I Y jk jS fk
variable {dP:Array Operand}
theorem aoA(bo:∀ i,o.dst=some i->i<C.bZ)(au:o.op=.makeFunc (.func k) #[] dP)(h:(cP C.aX T br (bh C.aX s.aA) o).run s.aa=some res):cR C o s res:=by
 obtain⟨dP⟩:=dP;simp only[cP,au,Array.isEmpty_empty,if_true]at h;split at h;case h_1 v af=>exact aoy bo au af h
 split at h;case h_1 v af=>exact aoz bo au af h
 simp only[da,aF.dC,amo]at h;subst h;refine cR.pure (by grind) bo λa w kap F D bb _=>?_;refine⟨.func (.func k) #[] (dP.map a.eval).toArray,by simp[execOp,au,Instr.makeFunc],dP.map a.eval,rfl,by simp,λi G=>?_⟩;have d_:i<dP.length:=by grind
 have E:=tY bb i (by omega);have aE:(dP.map (bh C.aX s.aA)).getD i .undef=bh C.aX s.aA dP[i]:=by grind
 rw[aE]at E;have L:=qW (lJ D dP[i]) E;have c_:hY ((dP.map (bh C.aX s.aA)).map λv=>(use v).2) i=(use (bh C.aX s.aA dP[i])).2:=by simp[hY,d_]
 grind
theorem aoB{first:Array Operand}(bo:∀ i,o.dst=some i->i<C.bZ)(au:o.op=.makeFunc (.func k) first dP)(ay:first.isEmpty=false)(h:(cP C.aX T br (bh C.aX s.aA) o).run s.aa=some res):cR C o s res:=by
 obtain⟨first⟩:=first
 simp  [cP,au,ay,aPH]at h;split at h
 ·have hc:dP=#[]:=by grind
  subst hc;simp  [da,amo]at h;subst h;refine cR.pure (by grind) bo λa w kap F D bb _=>?_;refine⟨.func (.func k) (first.map a.eval).toArray #[],by simp[execOp,au,Instr.makeFunc],first.map a.eval,rfl,by simp,λi G=>?_⟩;have d_:i<first.length:=by omega
  have E:=tY bb i (by grind);have aE:(first.map (bh C.aX s.aA)).getD i .undef=bh C.aX s.aA first[i]:=by grind
  rw[aE]at E;have L:=qW (lJ D first[i]) E;have c_:hY ((first.map (bh C.aX s.aA)).map λv=>(use v).2) i=(use (bh C.aX s.aA first[i])).2:=by simp[hY,d_]
  grind
 ·cases h
def mV(o:Oper)(bZ:Nat):Bool:=
 (match o.dst with | some d=>decide (d<bZ) | none=>true)&&(match o.op with | .store _ _ _=>o.dst.isNone | .mapUpdate _ _ _ _=>o.dst.isNone | .insert _ _ _ _=>o.dst.isNone | _=>true)
theorem aoC(aU:eg C.P T)(dn:lK C.P br)(ax:mV o C.bZ=true)(h:(cP C.aX T br (bh C.aX s.aA) o).run s.aa=some res):cR C o s res:=by
 simp  [mV]at ax;have bo:∀ i,o.dst=some i->i<C.bZ:=λi G=>by
  grind
 cases au:o.op with
 | move x=>exact am4 bo au h
 | assign x=>exact am5 bo au h
 | pick c a b=>exact am6 bo au h
 | binOp op t x y dM=>exact anf aU bo au h
 | unOp op t x=>exact am7 bo au h
 | extract t i=>exact am8 bo au h
 | nilCheck x=>exact am9 bo au h
 | fieldAddr t x f=>exact am_ aU bo au h
 | field t x f=>exact am' aU bo au h
 | load t x=>exact ang aU bo au h
 | store t x y=>
  exact anz aU (by grind) au h
 | alloc t=>
  by_cases aH:T t=.dc
  ·simp  [cP,au]at h;obtain⟨_,_,ak⟩:=tV h;grind
  ·exact anr aU bo au h aH
 | box t x=>exact ant aU bo au h
 | build t bt=>
  by_cases P3:∀ m e,T t≠.array m e
  ·exact anw aU bo au P3 h
  ·obtain⟨m,e,aH⟩:∃ m e,T t=.array m e:=by grind
   refine aow aU bo au aH ?_;simpa only [cP,au,aH]using h
 | buildSlice t n bt=>exact aor aU bo au h
 | indexAddr t x i=>exact anD aU bo au h
 | index t x i=>exact ani aU bo au h
 | convert a b x=>exact anZ aU bo au h
 | makeFunc fn first dP=>
  cases fn with
  | func k=>
   by_cases ay:first=#[]
   ·subst ay;exact aoA bo au h
   ·exact aoB bo au (by grind) h
  | _=>simp[cP,au,aF.none]at h
 | makeMap t r=>exact an8 bo au h
 | lookup t m x ok=>exact an_ aU bo au h
 | mapUpdate t m x y=>
  exact Qp aU (by grind) (.inl au) h
 | insert t m x y=>
  exact Qp aU (by grind) (.inr au) h
 | makeSlice t l c=>exact aod aU bo au h
 | makeInterface t x=>exact Za (by simp[cP,au,da]) h
 | panic x=>exact Za (by simp[cP,au,da]) h
 | slice t x a7 G l6=>
  cases l6 with
  | none=>exact anF aU bo au h
  | some m=>exact aol aU bo au h
 | call c=>
  obtain⟨callee,args,dr⟩:=c;cases callee with
  | value f=>
   cases f with
   | func k=>exact an4 dn bo au h
   | _=>simp[cP,au,pe,aF.none]at h
  | invoke r m=>simp[cP,au,pe,aF.none]at h
  | builtin b=>
   cases b with
   | len=>exact anm aU bo au h
   | append=>
    cases az:Ag (bh C.aX s.aA) args.toList with
    | none=>exact anV aU bo au (by simpa [cP,au,pe,az]using h)
    | some p=>exact aoo aU bo au az (by simpa [cP,au,pe,az]using h)
   | clear=>exact aoq aU bo au (by simpa [cP,au,pe]using h)
   | copy=>exact aoh aU bo au h
   | min=>exact YA (.inl ⟨rfl,rfl⟩) bo au (by simpa [cP,au,pe]using h)
   | max=>exact YA (.inr ⟨rfl,rfl⟩) bo au (by simpa [cP,au,pe]using h)
   | cap=>exact ano aU bo au (by simpa [cP,au,pe]using h)
   | _=>simp[cP,au,pe,aF.none]at h
 | _=>simp[cP,au,aF.none]at h
end
end Go.Fer
namespace Go.Fer
open Go.RowKit
def aF.er{ag:Type}(p:ag->Prop):aF ag->Prop
 | .ret a=>p a
 | .fl _ k=>∀ x,(k x).er p
theorem Ze{rho:Operand->aL}{k:IntKind}:∀ (l:List Operand) {cy:Prop} {jD:z1'},(∀ x∈l,(use (rho x)).1)->p9 rho k l=some (cy,jD)->cy
 | [],_,_,_,h=>by cases h
 | [x],cy,jD,hu,h=>by
  simp  [p9]at h;grind
 | x::y::l,cy,jD,hu,h=>by
  simp  [p9]at h;split at h
  ·rename_i ah;split at h
   ·cases h;exact⟨hu x (by simp),Ze (y::l) (λz bA=>hu z (amr _ bA)) ah⟩
   grind
  grind
theorem aF.er.run{ag:Type}{p:ag->Prop}{m:aF ag}(h:m.er p)(H:Nat->b9):p (m.run H):=by
 induction m with
 | ret a=>exact h
 | fl b k aP=>exact aP _ (h _)
theorem aF.er.bind{ag bet:Type}{p:bet->Prop}{m:aF ag}{f:ag->aF bet}(h:∀ a,(f a).er p):(m.bind f).er p:=by
 induction m with
 | ret a=>exact h a
 | fl b k aP=>exact λx=>aP x
variable {ag:Type}
def l_(p:ag->Prop)(x:Option ag):Prop:=∀ a,x=some a->p a
theorem aF.er.eF{ag bet:Type}{p:bet->Prop}{m:aF (Option ag)}{f:ag->aF (Option bet)}(h:∀ a,(f a).er (l_ p)):(m.eF f).er (l_ p):=by
 refine aF.er.bind λa=>?_;cases a with
 | none=>intro a h;grind
 | some a=>grind
theorem aF.er.Zf{bet:Type}{q:ag->Prop}{p:bet->Prop}{m:aF (Option ag)}{f:ag->aF (Option bet)}(hm:m.er (l_ q))(h:∀ a,q a->(f a).er (l_ p)):(m.eF f).er (l_ p):=by
 induction m with
 | ret a=>
  cases a with
  | none=>intro b U;grind
  | some a=>exact h a (hm a rfl)
 | fl b k aP=>exact λx=>aP x (hm x)
theorem aF.er.l'{p:ag->Prop}:(aF.none:aF (Option ag)).er (l_ p):=by intro a h;grind
theorem aF.er.ug{p:ag->Prop}{a:ag}(h:p a):(aF.ret (some a)).er (l_ p):=by intro b U;grind
theorem aF.er.nil{p:ag->Prop}:(aF.ret (Option.none:Option ag)).er (l_ p):=by intro b U;grind
theorem aF.er.da{p:ez->Prop}{cy c:Prop}{v:aL}(h:p ⟨cy,c,v,[]⟩):(da cy c v).er (l_ p):=aF.er.ug h
theorem aF.er.n5{p:ez->Prop}{d:Option Nat}{k:Nat->Nat->Option ez}(h:∀ b g,l_ p (k b g)):(n5 d k).er (l_ p):=by
 unfold Go.Fer.n5;split
 ·exact .l'
 ·exact λx=>h _ _
def aL.C7:aL->Bool
 | .ks _ _=>true
 | _=>false
theorem KE{a:aL}(h:a.C7=false):(use a).1:=by
 cases a<;>first | trivial | cases h
def uh(rho:Operand->aL)(o:Oper):Bool:=o.op.operands.toList.all λx=>!(rho x).C7
def aL.aoD:aL->Bool
 | .hj _ _=>false
 | .val (.map _ _) _=>false
 | _=>true
def C8(rho:Operand->aL)(b:Builtin)(args:List Operand):Bool:=
 match b with
 | .len=>match args with
  | [x]=>(use (rho x)).2.aoD
  | _=>false
 | .min=>true
 | .max=>true
 | _=>false
def aL.Zg:aL->Bool
 | .kM ..=>true
 | _=>false
def q5(rho:Operand->aL)(o:Oper):Bool:=
 match o.op with
 | .move _ | .assign _ | .pick .. | .unOp .. | .extract .. | .fieldAddr .. | .field .. | .alloc .. | .box .. | .build .. | .buildSlice .. | .convert .. | .makeFunc .. | .makeMap .. | .lookup .. | .mapUpdate .. | .insert ..=>true
 | .load _ x=>!(use (rho x)).2.Zg
 | .store _ x _=>!(use (rho x)).2.Zg
 | .binOp op _ x _ _=>match op with
  | .quo | .rem | .shl | .shr=>false
  | .add=>(use (rho x)).2.n3.isSome
  | _=>true
 | .call c=>match c.callee with
  | .builtin b=>C8 rho b c.args.toList
  | _=>false
 | _=>false
variable {op:BinOp}{v:aL}
theorem aoE{k:IntKind}{a b:Int}{c:Prop}(h:CM op k a b=some (c,v))(E:op≠.quo)(L:op≠.rem):c:=by
 cases op<;>simp only[CM,reduceCtorEq]at h<;>first | (obtain⟨rfl,_⟩:=h;trivial) | contradiction
theorem aoF{a b:List UInt8}{c:Prop}(h:FL op a b=some (c,v))(E:op≠.add):c:=by
 cases op<;>simp only[FL,reduceCtorEq]at h<;>first | (obtain⟨rfl,_⟩:=h;trivial) | contradiction
theorem aoG{t:V}{x y:aL}:(FM op t x y).er (l_ λr=>r.1):=by
 refine aF.er.eF λe=>?_;cases op<;>first | exact .ug trivial | exact .nil
section
variable {aQ:dV} {T:Nat->V} {br:Nat->Option aO} {rho:Operand->aL} {o:Oper}
variable {x:Operand}{y:Operand}{ty:TypeId}
theorem aoH{t:TypeId}(au:o.op=.binOp op ty x y t)(hc:q5 rho o=true):(cP aQ T br rho o).er (l_ λr=>r.c):=by
 unfold cP;rw[au];simp;simp  [q5,au]at hc;split
 ·split
  ·grind
  ·grind
  ·split
   ·split
    ·rename_i c v G;refine .da (aoE G ?_ ?_)<;>(grind)
    ·exact .l'
   ·exact .l'
 ·split
  ·rename_i a b E L;split
   ·rename_i c v G;refine .da (aoF G ?_);intro e;subst e;generalize (use (rho x)).2=z at hc E;cases z<;>try (cases E;done)
    rename_i t d;cases t<;>first | (cases E;done) | (cases hc;done)
   ·exact .l'
  ·exact aF.er.Zf aoG λr D=>.da D
theorem Zh{p:ez->Prop}{m:Operand}(h:∀ wl,p ⟨(use (rho m)).1/\(use (rho x)).1/\(use (rho y)).1,True,.undef,wl⟩):(vd T rho ty m x y).er (l_ p):=by
 unfold vd;split
 ·simp;split
  ·split
   ·refine aF.er.eF λ_=>aF.er.eF λ_=>aF.er.bind λ_=>λz=>?_;intro r D;split at D
    ·split at D
     ·simp  at D;grind
     grind
    grind
   ·exact .l'
  ·exact .l'
 ·exact .l'
theorem aoI{m:Operand}:(vd T rho ty m x y).er (l_ λr=>r.c):=Zh λ_=>trivial
theorem aoJ(hc:q5 rho o=true):(cP aQ T br rho o).er (l_ λr=>r.c):=by
 cases au:o.op with
 | binOp op ty x y t=>exact aoH au hc
 | call c=>
  obtain⟨callee,args,dr⟩:=c;simp  [q5,au]at hc;unfold cP;rw[au];simp only[pe];cases callee with
  | builtin b=>
   cases b with
   | len=>
    simp  [FP];split
    ·simp  [C8]at hc;refine aF.er.Zf   ?_ λr D=>.da D;unfold J5;repeat' first | exact .l' | exact .ug trivial | split | (cases hc;done) | (intro z r D;grind) | simp_all
    ·exact .l'
   | min | max=>
    simp  [Af];repeat' first | exact .da trivial | exact .l' | split
   | _=>simp[C8]at hc
  | _=>grind
 | _=>
  simp only[q5,au]at hc;unfold cP;rw[au];simp only[CP];repeat' first | exact .l' | exact .da trivial | exact .ug trivial | exact aoI | refine aF.er.eF λ_=>?_ | refine aF.er.bind λ_=>?_ | refine .n5 λb g=>λr D=>by grind | split | (cases hc;done) | (intro z r D;grind) | simp_all
theorem Gl:∀ {l:List aL},(∀ v∈l,(use v).1)->kf l
 | [],_=>trivial
 | v::l,h=>by
  have E:=h v (by simp);have L:=Gl (l:=l) λu hu=>h u (by grind);cases v<;>first | exact L | exact⟨E,L⟩
theorem Zi:∀ {l:List (Nat×aL)},(∀ v∈l,(use v.2).1)->yk l
 | [],_=>trivial
 | (i,v)::l,h=>by
  have E:=h (i,v) (by simp);have L:=Zi (l:=l) λu hu=>h u (by grind);cases v<;>first | exact L | exact⟨E,L⟩
theorem Gm{x:Option Operand}{p:Prop}{n:Option Int}(h:lh rho x=some (p,n))(al:∀ y,x=some y->(use (rho y)).1):p:=by
 unfold lh at h;grind
def vp(rho:Operand->aL)(o:Oper):Prop:=∀ x∈o.op.operands.toList,(use (rho x)).1
theorem QA{rho:Operand->aL}{o:Oper}(h:uh rho o=true):vp rho o:=λx al=>KE (by simpa using List.all_eq_true.1 h x al)
theorem vp.use{rho:Operand->aL}{o:Oper}(h:vp rho o)(al:x∈o.op.operands.toList){cy:Prop}(hu:use (rho x)=(cy,v)):cy:=by
 have:=h x al;grind
set_option maxHeartbeats 1600000 in
theorem aoK(nz:vp rho o):(cP aQ T br rho o).er (l_ λr=>r.cy):=by
 have ay:∀ x∈o.op.operands.toList,(use (rho x)).1:=nz;have bp:∀ (l:List Operand),(∀ x∈l,x∈o.op.operands.toList)->kf (l.map rho):=λl ah=>Gl λv af=>by
  grind
 have jS:∀ (l:List (Nat×Operand)),(∀ p∈l,p.2∈o.op.operands.toList)->yk (l.map λp=>(p.1,rho p.2)):=λl ah=>Zi λv af=>by
  grind
 cases au:o.op with
 | build ty bt=>
  have h:=jS bt.toList λp ai=>by simp  [Op.operands];grind
  unfold cP;rw[au];simp only;repeat' first | exact .l' | exact .da h | refine aF.er.eF λ_=>?_ | split
 | buildSlice ty n bt=>
  have h:=jS bt.toList λp ai=>by simp  [Op.operands];grind
  unfold cP;rw[au];simp only;repeat' first | exact .l' | refine aF.er.eF λ_=>aF.er.bind λ_=>.n5 λb g=>λr D=>by grind | split
 | makeFunc fn first dP=>
  have h:=bp dP.toList λp ai=>by simp[Op.operands];grind
  have L:=bp first.toList λp ai=>by simp[Op.operands];grind
  unfold cP;rw[au];simp only;repeat' first | exact .l' | exact .da h | exact .da L | exact aF.er.eF λ_=>aF.er.bind λ_=>.ug h | split
 | slice ty x a7 G l6=>
  rw[au]at ay;unfold cP;rw[au];simp only[J8,J7];have al:=ay x (by simp[Op.operands]);have ah:∀ p n,lh rho a7=some (p,n)->p:=λp n h=>Gm h λy ba=>ay y (by subst ba;simp[Op.operands]);have dh:∀ p n,lh rho G=some (p,n)->p:=λp n h=>Gm h λy ba=>ay y (by subst ba;simp[Op.operands]);have hm:∀ p n,lh rho l6=some (p,n)->p:=λp n h=>Gm h λy ba=>ay y (by subst ba;simp[Op.operands]);repeat' first | exact .l' | exact .da (by grind) | exact aF.er.eF λ_=>.ug (by grind) | split
 | call c=>
  obtain⟨callee,args,dr⟩:=c;have aY:∀ x∈args.toList,(use (rho x)).1:=λx al=>ay x (by simp[Op.operands,Call.operands];grind);have gu:kf (args.toList.map rho):=Gl λv af=>by grind
  have G:∀ (x:Operand) (l:List Operand) {k:IntKind} {cy:Prop} {jD:z1'},args.toList=x::l->p9 rho k l=some (cy,jD)->cy:=λx l _ _ _ e h=>Ze l (λp ai=>aY p (by grind)) h;unfold cP;rw[au];simp only[pe,FP,FU,FQ,FO,FV,Ka,Af,FR,J9];repeat' first | exact .l' | exact .da (by grind) | exact .ug (by grind) | refine aF.er.eF λ_=>?_ | refine aF.er.bind λ_=>?_ | refine .n5 λb g=>λr D=>by grind | split | (intro z;dsimp only) | (intro r D;grind)
 | _=>
  rw[au]at ay;simp only[Op.operands]at ay;unfold cP;rw[au];simp only[CP,J'];repeat' first | exact .l' | exact .da (by grind) | exact .ug (by grind) | refine aF.er.eF λ_=>?_ | refine aF.er.bind λ_=>?_ | refine .n5 λb g=>λr D=>by grind | exact Zh λ_=>by grind | split | (unfold PK) | (intro z;dsimp only) | (intro r D;grind)
end
end Go.Fer
namespace Go.Fer
open Go.RowKit
theorem Zj{rho kz:Operand->aL}{k:IntKind}:∀ (l:List Operand),(∀ x∈l,rho x=kz x)->p9 rho k l=p9 kz k l
 | [],_=>rfl
 | [x],h=>by simp only[p9,h x (by simp)]
 | x::y::l,h=>by simp only[p9,h x (by simp),Zj (y::l) λz bA=>h z (amr _ bA)]
section
variable {aQ:dV} {T:Nat->V} {br:Nat->Option aO} {rho kz:Operand->aL} {o:Oper}
theorem QB{x:Option Operand}(h:∀ y,x=some y->rho y=kz y):lh rho x=lh kz x:=by
 cases x with
 | none=>rfl
 | some y=>have:=h y rfl;unfold lh;grind
theorem aoL(h:∀ x∈o.op.operands.toList,rho x=kz x):cP aQ T br rho o=cP aQ T br kz o:=by
 have hm:∀ l:List Operand,(∀ x∈l,x∈o.op.operands.toList)->l.map rho=l.map kz:=λl ah=>aPN λp ai=>h p (ah p ai);have ai:∀ l:List (Nat×Operand),(∀ p∈l,p.2∈o.op.operands.toList)->l.map (λp=>(p.1,rho p.2))=l.map λp=>(p.1,kz p.2):=λl ah=>aPN λp ai=>by rw[h p.2 (ah p ai)]
 unfold cP;cases au:o.op with
 | build ty bt | buildSlice ty n bt=>simp only[ai bt.toList λp ai=>by rw[au];simp only[Op.operands,aRb];grind]
 | makeFunc fn first dP=>simp only[hm dP.toList λp ai=>by rw[au];simp[Op.operands];simp_all,hm first.toList λp ai=>by rw[au];simp[Op.operands];simp_all]
 | slice ty x a7 G l6=>
  rw[au]at h;have U:∀ z,z=a7\/z=G\/z=l6->lh rho z=lh kz z:=λz bA=>QB λy ba=>h y (by grind [Op.operands]);simp only[J7,J8,h x (by simp[Op.operands]),U a7 (.inl rfl),U G (.inr (.inl rfl)),U l6 (.inr (.inr rfl))]
 | call c=>
  rw[au]at h;obtain⟨callee,args,dr⟩:=c;have aY:∀ x∈args.toList,rho x=kz x:=λx al=>h x (by simp[Op.operands,Call.operands];simp_all);have G:∀ (k:IntKind) (x:Operand) (l:List Operand),args.toList=x::l->p9 rho k l=p9 kz k l:=λk x l e=>Zj l λp ai=>aY p (by rw[e];exact amr _ ai);have az:Ag rho args.toList=Ag kz args.toList:=by unfold Ag;grind
  simp only[pe,az,J9,aPN aY];split
  ·split<;>simp only[FP,FU,FQ,FV,Ka,Af,FR];all_goals first | (split<;>first | rfl | (simp_all;done)) | (split<;>split<;>first | rfl | (simp_all;done))
  all_goals rfl
 | _=>rw[au]at h<;>simp[Op.operands]at h<;>simp_all[CP,vd,J']
end
end Go.Fer
namespace Go.Fer
open Go.RowKit
variable {P:Program}{e:V}
theorem cx.KF{id:TypeId}(h:cx P (.cM e) id):cx P (.slice e) id:=by
 have G:n2 P (.cM e) id=n2 P (.slice e) id:=by
  unfold n2;cases P.info? id with
  | none=>rfl
  | some i=>
   cases bA:i.zero with
   | none=>grind
   | some z=>simp  [bA];cases z<;>rfl
 grind [cx,df]
theorem KG{b:b'}{m:List (Nat×List e.aj)}(h:Aj e b=some m):b=.bR e m:=by
 unfold Aj at h;grind
variable {id:Nat}{ag:Type}
theorem aoM{m:List (Nat×List ag)}(h:m.any (λp=>p.1 == id)=true):(id,cQ m id)∈m:=by
 unfold cQ;grind
theorem Zk{m:List (Nat×List ag)}(aC:(m.map (·.1)).Nodup){xs:List ag}(h:(id,xs)∈m):cQ m id=xs:=by
 have ak:∀ (l:List (Nat×List ag)),(l.map (·.1)).Nodup->(id,xs)∈l->l.find? (λp=>p.1 == id)=some (id,xs):=by
  intro l;induction l<;>grind
 grind [cQ]
theorem Zl{m:List (Nat×List ag)}{i:Nat}(h:i<(cQ m id).length):(id,cQ m id)∈m:=by
 grind [cQ]
theorem aoN(m:List (Nat×List ag))(id i:Nat)(d:ag):(eT m id i d).map (·.1)=m.map (·.1):=by
 grind [eT,List.map_congr_left]
theorem Gn:∀ t:V,t.iI.size=t.size
 | .cM _=>rfl
 | .ad t=>Gn t
 | .ar a b=>by simp  [V.iI,V.size,Gn a,Gn b]
 | .slice _=>rfl
 | .bool | .int _ | .str | .dc | .array _ _ | .bO _ | .map _ _ | .fn _ _ | .cG _ | .eW=>rfl
theorem Zm:∀ (t:V) {v:Value},l1 t v->l1 t.iI v
 | .cM _,_,h=>h
 | .ad t,_,⟨cs,E,L⟩=>⟨cs,E,L.trans (Gn t).symm⟩
 | .ar _ _,_,h=>h.elim
 | .slice _,_,h=>h
 | .bool,_,h=>h
 | .int _,_,h=>h
 | .str,_,h=>h
 | .dc,_,h=>h
 | .array _ _,_,h=>h
 | .bO _,_,h=>h
 | .map _ _,_,h=>h
 | .fn _ _,_,h=>h
 | .cG _,_,h=>h
 | .eW,_,h=>h
theorem Zn:∀ (t:V) {aG:List Value},wS t aG->wS t.iI aG
 | .ar a b,_::_,h=>⟨Zm a h.1,Zn b h.2⟩
 | .ar _ _,[],h=>h.elim
 | .dc,_,h=>h
 | .cM _,_,⟨v,E,L⟩=>⟨v,E,L⟩
 | .ad t,_,⟨v,E,L⟩=>⟨v,E,Zm (.ad t) L⟩
 | .slice _,_,⟨v,E,L⟩=>⟨v,E,L⟩
 | .bool,_,h=>h
 | .int _,_,h=>h
 | .str,_,h=>h
 | .array _ _,_,h=>h
 | .bO _,_,h=>h
 | .map _ _,_,h=>h
 | .fn _ _,_,h=>h
 | .cG _,_,h=>h
 | .eW,_,h=>h
theorem aoO{m:List (Nat×List e.aj)}{F F':Nat->Prop}{w:World}(bp:∀ r,F r->F' r)(hm:∀ id xs,(id,xs)∈m->F' id/\Aa P e F w id xs):∀ (t:V) {cs:List Value} {x:t.aj},cw P t F w cs x->n7 e m t x->cw P t.iI F' w cs (gx e m t x):=by
 intro t;induction t with
 | cM aZ _=>
  intro cs x h D;obtain⟨he,ak,ah⟩:=D;subst he;obtain⟨Zo,ew,T,a7,G,fs,fQ,mu,aoP⟩:=hm _ _ (aoM ak);have hlen:(((cQ m x.1).drop x.2.1).take x.2.2).length=x.2.2:=by grind
  have ax:gx aZ m (.cM aZ) x=((cQ m x.1).drop x.2.1).take x.2.2:=by
   grind [gx]
  rw[ax];generalize bA:((cQ m x.1).drop x.2.1).take x.2.2=zs at hlen;rcases h with⟨rfl,aW⟩ | ⟨o,c,rfl,E,L,an⟩
  ·have:zs=[]:=List.length_eq_zero_iff.1 (by omega);subst this;exact⟨none,0,rfl,amn _,by decide,λ_=>rfl,λp ai=>by omega⟩
  ·refine⟨some ⟨x.1,o,none⟩,c,by grind,by omega,L,(by simp),λp ai hc=>?_⟩;cases ai;refine⟨Zo,rfl,λi G=>?_⟩;have d_:x.2.1+i<(cQ m x.1).length:=by omega
   obtain⟨bC,d1,d2⟩:=aoP (x.2.1+i) d_;refine⟨bC,⟨Zo,rfl,λj aK=>?_⟩,?_⟩
   ·grind [World.cell?]
   ·have:zs[i]=(cQ m x.1)[x.2.1+i]:=by
     grind
    rw[this];exact fH _ bp (di.refl _ _) d2
 | ad t aP=>intro cs x h D;exact aP h D
 | ar a b hi gj=>
  intro cs x h D;obtain⟨c,d,rfl,E,L⟩:=h;exact⟨c,d,rfl,hi E D.1,gj L D.2⟩
 | slice t aP=>
  intro cs xs h D;obtain⟨a,cap,rfl,E,L,an,a6⟩:=h;have hlen:(List.map (gx e m t) xs).length=List.length xs:=aPW _;show cw P (.slice t.iI) F' w _ (List.map (gx e m t) xs);refine⟨a,cap,by simp,by omega,L,an,λp ai hc=>?_⟩;obtain⟨aM,aT,b5⟩:=a6 p ai hc;refine⟨bp _ aM,aT,λi G=>?_⟩;have d_:i<List.length xs:=by omega
  obtain⟨bC,m1,m2⟩:=b5 i d_;refine⟨bC,by rw[Gn];exact m1.mono bp (di.refl _ _),?_⟩;have:(List.map (gx e m t) xs)[i]=gx e m t xs[i]:=by simp
  rw[this];exact aP m2 (D _ (amk _))
 | bool=>intro cs x h _;exact h
 | int k=>intro cs x h _;exact h
 | str=>intro cs x h _;exact h
 | dc=>intro cs x h _;exact h
 | array n t _=>intro cs x h _;exact fH (.array n t) bp (di.refl _ _) h
 | bO t _=>intro cs x h _;exact fH (.bO t) bp (di.refl _ _) h
 | map k v _ _=>intro cs x h _;exact fH (.map k v) bp (di.refl _ _) h
 | fn a b _ _=>intro cs x h _;exact fH (.fn a b) bp (di.refl _ _) h
 | cG a _=>intro cs x h _;exact fH (.cG a) bp (di.refl _ _) h
 | eW=>intro cs x h _;exact h
section
variable {C:cH} {s:aB} {a:Act} {w:World} {kap:Nat->bL} {F:Nat->Prop}
theorem bu.aoQ(h:bu C s a w kap F):bu C (s.ct cF ⟨(s.aa cF).gen,.ev⟩) a w kap (λr=>F r\/la s.aa r):=by
  have ah:fI s.aa kap (λi=>if i=cF then (⟨(s.aa cF).gen,.ev⟩) else s.aa i) kap:=pd rfl (λh=>by cases h) (λh=>by cases h) (λh=>by cases h) (λh=>by cases h);have bp:∀ r,F r->F r\/la s.aa r:=λr D=>.inl D;have n':∀ b,b≠cF->(s.ct cF ⟨(s.aa cF).gen,.ev⟩).aa b=s.aa b:=λb U=>by grind [aB.ct]
  have ai:(s.ct cF ⟨(s.aa cF).gen,.ev⟩).aa cF=⟨(s.aa cF).gen,.ev⟩:=by rfl
  have eJ:∀ b,((s.ct cF ⟨(s.aa cF).gen,.ev⟩).aa b).body.ch (kap b)=true->(s.aa b).body.ch (kap b)=true:=λb U=>by
    by_cases e:b=cF
    · subst e;cases U
    grind
  exact { h with
    dX:=h.dX,dj:=h.dj
    b1:=λi=>bM.later ah bp (di.refl _ _) (h.b1 i)
    bF:=λb=>by
      by_cases e:b=cF
      · subst e
        trivial
      · exact c6.k_ (h.bF b) ah bp (di.refl _ _) (by grind) rfl λ_=>rfl
    own:=λb U=>by
      obtain⟨E,L,an⟩:=h.own b (eJ b U);exact⟨E,λk=>k.elim L λk=>(h.bR.nZ k).2.2.2.2 b (eJ b U) rfl,an⟩
    inj:=λb bj U ef=>h.inj b bj (eJ b U) (eJ bj ef)
    ds:=λr D=>D.elim (h.ds r) λk=>(h.bR.nZ k).2.1
    hN:=λr D=>D.elim (h.hN r) λk=>.inr (h.bR.nZ k).2.2.2.1
    iq:=λr D=>.inl (h.iq r D)
    iS:=λb r D hc=>by
      by_cases e:b=cF
      · subst e;rcases hc with hc | hc<;>cases hc
      · rw[n' b e]at hc;exact h.iS b r D hc
    jB:=λb k ak aW aY=>by
      by_cases e:b=cF
      · subst e;cases aY
      · rw[n' b e]at aW aY ⊢;exact h.jB b k ak aW aY
    e7:=λl aI ab n ad e=>by
      obtain⟨E,L,Y,an,a6,bS⟩:=h.e7 l aI ab n ad e;have jk:∀ r,(F r\/la s.aa r)->¬Y r:=λr D ba=>D.elim (an r ba).2.1 λk=>(h.bR.nZ k).1 l aI ab n ad e;exact⟨E,L,Y,λr D=>⟨(an r D).1,λk=>jk r k D,(an r D).2.2⟩,λb U=>a6 b (eJ b U),L.JZ bS bp (λ_ _=>rfl) (amn _) (dL.refl _) (λr D=>D.elim (h.ds r) λk=>(h.bR.nZ k).2.1) jk⟩
    bR:=λe m hm=>by grind
    hX:=h.hX.mono bp (di.refl _ _) }
theorem bu.aoR(h:bu C s a w kap F){m:List (Nat×List e.aj)}(U:(s.aa cF).body=.bR e m\/((s.aa cF).body=.ev/\m=[])){xs:List e.aj}(h9:∀ l aI ab n ad,s.aA cd≠.aS l aI ab n ad)
    (E:id<w.heap.size) (L:¬F id) (an:¬C.K0 id) (a6:∀ b,(s.aa b).body.ch (kap b)=true->(kap b).aa≠id) (bS:id ∉ m.map (·.1)) (ek:Aa C.P e F w id xs) :
    bu C (s.ct cF ⟨(s.aa cF).gen,.bR e ((id,xs)::m)⟩) a w kap F:=by
  have ah:fI s.aa kap (λi=>if i=cF then (⟨(s.aa cF).gen,.bR e ((id,xs)::m)⟩) else s.aa i) kap:=pd rfl (λh=>by cases h) (λh=>by cases h) (λh=>by cases h) (λh=>by cases h);have n':∀ b,b≠cF->(s.ct cF ⟨(s.aa cF).gen,.bR e ((id,xs)::m)⟩).aa b=s.aa b:=λb U=>by grind [aB.ct]
  have eJ:∀ b,((s.ct cF ⟨(s.aa cF).gen,.bR e ((id,xs)::m)⟩).aa b).body.ch (kap b)=true->(s.aa b).body.ch (kap b)=true:=λb U=>by
    by_cases e:b=cF
    · subst e;cases U
    grind
  exact { h with
    dX:=h.dX,dj:=h.dj
    b1:=λi=>bM.later ah (λ_ h=>h) (di.refl _ _) (h.b1 i)
    bF:=λb=>by
      by_cases e:b=cF
      · subst e
        trivial
      · exact c6.k_ (h.bF b) ah (λ_ h=>h) (di.refl _ _) (by grind) rfl λ_=>rfl
    own:=λb U=>h.own b (eJ b U)
    inj:=λb bj U ef=>h.inj b bj (eJ b U) (eJ bj ef)
    iS:=λb r D hc=>by
      by_cases e:b=cF
      · subst e;rcases hc with hc | hc<;>cases hc
      · rw[n' b e]at hc;exact h.iS b r D hc
    jB:=λb k ak aW aY=>by
      by_cases e:b=cF
      · subst e;cases aY
      · rw[n' b e]at aW aY ⊢;exact h.jB b k ak aW aY
    e7:=λl aI ab n ad e=>(h9 l aI ab n ad e).elim
    bR:=λaZ dw hm=>by
      cases hm;have q0:(m.map (·.1)).Nodup/\∀ sQ KH,(sQ,KH)∈m->(∀ l aI ab n ad,s.aA cd≠.aS l aI ab n ad)/\sQ<w.heap.size/\¬F sQ/\¬C.K0 sQ/\(∀ b,(s.aa b).body.ch (kap b)=true->(kap b).aa≠sQ)/\Aa C.P e F w sQ KH:=by
        rcases U with k | ⟨_,rfl⟩
        · exact h.bR e m k
        simp
      refine⟨by grind,λsQ KH al=>?_⟩;rcases List.mem_cons.1 al with al | al
      · cases al
        exact⟨h9,E,L,an,λb U=>a6 b (eJ b U),ek⟩
      · obtain⟨iC,aM,aT,b5,hC,q4⟩:=q0.2 sQ KH al
        exact⟨iC,aM,aT,b5,λb U=>hC b (eJ b U),q4⟩ }
variable {k:IntKind}
theorem bu.aoS(h:bu C s a w kap F){m:List (Nat×z1')}(U:(s.aa cF).body=.bR (.int k) m){i:Nat}{d:Int}(G:i<(cQ m id).length)(ax:gM k d) :
    ∃ w',(storeCells ⟨id,i,none⟩ [.int k d]).run C.P w=.ok () w'/\bu C (s.ct cF ⟨(s.aa cF).gen,.bR (.int k) (eT m id i d)⟩) a w' kap F:=by
  have ps:=Zl G;obtain⟨aC,gu⟩:=h.bR (.int k) m U;obtain⟨nt,cU,cO,hO,lE,cs,T,a7,d_,bG,c2,c3,c4⟩:=gu _ _ ps;have KI:V.size (.int k)=1:=rfl;have aLF:i<cs.size:=by grind
  have hc:w.cell? ⟨id,i,none⟩=some cs[i]:=by grind [World.cell?]
  have ay:w.frozen? ⟨id,i,none⟩=false:=by
    grind [World.frozen?]
  refine⟨w.setCell ⟨id,i,none⟩ (.int k d),?_,?_⟩
  · simp only[storeCells,Sem.run_bind,tW,run_store C.P w _ (.int k d) _ rfl,aRl,hc,ay,Result.andThen_ok]
    rfl
  have yu:∀ r,r≠id->(w.setCell ⟨id,i,none⟩ (.int k d)).heap[r]?=w.heap[r]?:=λr D=>Below.heap_setCell _ _ _ _ (by omega);have vq:(w.setCell ⟨id,i,none⟩ (.int k d)).heap[id]?=some (.cells (cs.setIfInBounds i (.int k d)) T (a7,d_)):=by
    grind [World.setCell]
  have Gp:(w.setCell ⟨id,i,none⟩ (.int k d)).heap.size=w.heap.size:=by simp
  have he:di F w (w.setCell ⟨id,i,none⟩ (.int k d)):=⟨by omega,λr D=>yu r λe=>cO (e ▸ D)⟩
  have q6:dL w (w.setCell ⟨id,i,none⟩ (.int k d)):=⟨rfl,rfl,rfl⟩
  have ah:fI s.aa kap (λj=>if j=cF then (⟨(s.aa cF).gen,.bR (.int k) (eT m id i d)⟩) else s.aa j) kap:=pd rfl (λh=>by cases h) (λh=>by cases h) (λh=>by cases h) (λh=>by cases h);have n':∀ b,b≠cF->(s.ct cF ⟨(s.aa cF).gen,.bR (.int k) (eT m id i d)⟩).aa b=s.aa b:=λb U=>by grind [aB.ct]
  have eJ:∀ b,((s.ct cF ⟨(s.aa cF).gen,.bR (.int k) (eT m id i d)⟩).aa b).body.ch (kap b)=true->(s.aa b).body.ch (kap b)=true:=λb U=>by
    by_cases e:b=cF
    · subst e;cases U
    grind
  exact { h with
    dX:=h.dX,dj:=h.dj
    b1:=λi=>bM.later ah (λ_ h=>h) he (h.b1 i)
    bF:=λb=>by
      by_cases e:b=cF
      · subst e
        trivial
      · exact c6.k_ (h.bF b) ah (λ_ h=>h) he (by grind) rfl λau=>yu _ (lE b au)
    own:=λb U=>by
      obtain⟨E,L,an⟩:=h.own b (eJ b U);grind
    inj:=λb bj U ef=>h.inj b bj (eJ b U) (eJ bj ef)
    ds:=λr D=>by rw[Gp];exact h.ds r D
    e5:=λr D=>(yu r λe=>hO (e ▸ D)).trans (h.e5 r D)
    size:=by rw[Gp];exact h.size
    eN:=h.eN.trans q6
    iS:=λb r D hc=>by
      by_cases e:b=cF
      · subst e;rcases hc with hc | hc<;>cases hc
      · rw[n' b e]at hc;exact h.iS b r D hc
    jB:=λb k' ak aW aY=>by
      by_cases e:b=cF
      · subst e;cases aY
      · rw[n' b e]at aW aY ⊢;exact h.jB b k' ak aW aY
    e7:=λl aI ab n ad e=>(nt l aI ab n ad e).elim
    bR:=λe dw hm=>by
      cases hm;refine⟨by grind [aoN],λZp aLG al=>?_⟩;obtain⟨p,C9,xd⟩:=List.mem_map.1 al;obtain⟨nZ,QC⟩:=p;obtain⟨Zq,h_,lL,Zr,Zs,aoT⟩:=gu nZ QC C9;by_cases e:nZ=id
      · subst e
        simp  at xd
        obtain⟨rfl,rfl⟩:=xd
        have KJ:=Zk aC C9
        refine⟨Zq,by omega,lL,Zr,λb U=>Zs b (eJ b U),cs.setIfInBounds i (.int k d),T,a7,d_,vq,?_,?_,λj aK=>?_⟩
        · grind
        · grind
        · have gQ:j<List.length (cQ m nZ):=by grind
          by_cases AF:j=i
          · subst AF
            refine⟨[.int k d],λmT gQ=>?_,?_⟩
            · grind
            · have:(List.set QC j d)[j]=d:=by simp
              rw[this]
              exact⟨rfl,ax⟩
          · obtain⟨bC,d1,d2⟩:=c4 j gQ
            refine⟨bC,λmT gQ=>?_,?_⟩
            · grind [jN]
            · have aE:(List.set QC i d)[j]=(cQ m nZ)[j]:=by
                grind
              rw[aE]
              exact PH (.int k) rfl d2
      · simp  [if_neg e]at xd
        obtain⟨rfl,rfl⟩:=xd
        exact⟨Zq,by omega,lL,Zr,λb U=>Zs b (eJ b U),aoT.mono (λ_ h=>h) he (yu _ e)⟩
    hX:=h.hX.mono (λ_ h=>h) he }
end
section
variable {C:cH} {T:Nat->V} {br:Nat->Option aO} {o:Oper} {s:aB} {res:ez}
variable {ty:TypeId}{x:Operand}{r:aF (Option ez)}
theorem aoU(aU:eg C.P T)(bo:∀ i,o.dst=some i->i<C.bZ)(au:o.op=.load ty x)(ai:e1 C.aX T (bh C.aX s.aA) o=some r)(h:r.run s.aa=some res):cR C o s res:=by
 simp only[e1,au]at ai;split at ai
 ·rename_i cz k id i hu;cases ai;simp only[aF.gR,aF.dC]at h;split at h
  ·rename_i m hm;split at h
   ·rename_i aH;cases h;refine cR.pure (by grind) bo λa w kap F D bb hc=>?_;have al:a.eval x=.pointer (some ⟨id,i*1,none⟩):=db D x hu bb;have U:=KG hm;obtain⟨nt,cU,cO,hO,lE,cs,h8,a7,G,bG,c2,c3,c4⟩:=(D.bR _ m U).2 _ _ (Zl hc);obtain⟨bC,d1,d2⟩:=c4 i hc;obtain⟨rfl,bf⟩:=d2;have oI:w.cell? ⟨id,i,none⟩=some (.int k (cQ m id)[i]):=by
     simp_all[World.cell?,V.size]
    have dF:=aU.ca aH (by simp);have aE:(cQ m id).getD i (0)=(cQ m id)[i]:=by grind
    have ue:mP w ⟨id,i,none⟩ [.int k (cQ m id)[i]]:=⟨λ_=>rfl,λj aK=>by
     grind⟩
    obtain⟨r,cq,c7⟩:=Kc   dF ue ⟨rfl,bf⟩;refine⟨r,by simp_all[execOp,Instr.loadAt,Instr.sureAddr],?_⟩;rw[aE];exact c7
   grind
  grind
 grind
theorem aoV(aU:eg C.P T){y:Operand}(bo:o.dst=none)(au:o.op=.store ty x y)(ai:e1 C.aX T (bh C.aX s.aA) o=some r)(h:r.run s.aa=some res):cR C o s res:=by
 simp  [e1,au]at ai;split at ai
 ·rename_i cz k id i hu;split at ai
  ·rename_i lH k' d af;cases ai;simp  at h;split at h
   ·rename_i m hm;split at h
    ·rename_i aH;obtain⟨aH,rfl⟩:=aH;cases h;intro a w kap F Q D bb hc;have al:a.eval x=.pointer (some ⟨id,i*1,none⟩):=db D x hu bb.1;have ba:=hL.1 (db D y af bb.2);have ax:∀ c,o.op≠.defer c:=by grind
     obtain⟨w',cq,c7⟩:=D.aoS (KG hm) hc ba.2;have dF:=aU.ca aH (by simp);refine FY (w':=w') ax ?_ ?_
     ·have:=Kn   dF (show (Value.int k' d).cells.size=V.size (.int k') from rfl) cq;simp_all[execOp,Instr.storeAt,Instr.sureAddr]
     ·rw[bo];exact⟨kap,F,c7⟩
    grind
   grind
  grind
 grind
theorem aoW(aU:eg C.P T){i:Operand}(bo:∀ i,o.dst=some i->i<C.bZ)(au:o.op=.indexAddr ty x i)(ai:e1 C.aX T (bh C.aX s.aA) o=some r)(h:r.run s.aa=some res):cR C o s res:=by
 simp  [e1,au]at ai;split at ai
 ·rename_i cz e q hu;split at ai
  ·rename_i k n G;cases ai;simp only[aF.dC]at h;split at h
   ·rename_i aH;cases h;refine cR.pure (by grind) bo λa w kap F D bb hc=>?_;have al:=((ee rfl).1 (db D x hu bb.1)).2;have L:=qb (db D i rfl bb.2) G;rcases al with⟨_,aW⟩ | ⟨f_,c,aE,E,t',an⟩
    ·omega
    ·have aE:=(aPQ aE).1;have dF:=(aU.ca aH (by simp)).KF;refine⟨.pointer (some ⟨q.1,f_+n.toNat*e.size,none⟩),by simp[execOp,au,aE,L.1,Kr dF (p:=⟨q.1,f_,none⟩) rfl hc.1 hc.2],?_⟩;show Value.pointer _=Value.pointer _;grind
   grind
  grind
 grind
theorem aoX(aU:eg C.P T){a7 G l6:Option Operand}(bo:∀ i,o.dst=some i->i<C.bZ)(au:o.op=.slice ty x a7 G l6)(ai:e1 C.aX T (bh C.aX s.aA) o=some r)(h:r.run s.aa=some res):cR C o s res:=by
 simp  [e1,au]at ai;split at ai
 ·rename_i cz e q hu;split at ai
  ·rename_i ol l sG dh bQ As;cases ai;simp only[aF.dC]at h;split at h
   ·rename_i aH;cases h;refine cR.pure (by grind) bo λa w kap F D bb hc=>?_;have cT:(a7.map a.eval=none/\l=none)\/∃ k m,a7.map a.eval=some (.int k m)/\l=some m:=by
     rcases Ar D bQ bb.2.1 with⟨rfl,rfl⟩ | ⟨y,k,m,rfl,rfl,e⟩<;>grind
    have fc:(G.map a.eval=none/\dh=none)\/∃ k m,G.map a.eval=some (.int k m)/\dh=some m:=by
     rcases Ar D As bb.2.2 with⟨rfl,rfl⟩ | ⟨y,k,m,rfl,rfl,e⟩<;>grind
    have al:=((ee rfl).1 (db D x hu bb.1)).2;have dF:=(aU.ca aH (by simp)).KF;obtain⟨j,aK,iB,oM⟩:=dF.sl;have run:∀ (p:Option Addr) (n cap:Nat),a.eval x=.slice p n cap->n<=cap->0<=dD l/\dD l<=fP n dh/\fP n dh<=cap->
      (execOp a.eval o).run C.P w=.ok (.value (.slice (if cap=(dD l).toNat then p else p.map (·.add ((dD l).toNat*e.size))) ((fP n dh).toNat - (dD l).toNat) (cap - (dD l).toNat))) w:=by
     intro p n cap af aC hc;have:=P7 (P:=C.P) (w:=w) (isS:=true) cT fc hc.1 hc.2.1 hc.2.2 aC;simp[execOp,au,af,Instr.sliceAt,Instr.slice,en aK,this,iB.size]
    rcases al with⟨aE,aW⟩ | ⟨f_,c,aE,E,t',an⟩
    ·have aE:=(aPQ aE).1;have bA:0<=dD l/\dD l<=fP 0 dh/\fP 0 dh<=((0)):=by grind
     refine⟨_,run none 0 0 aE (amn _) bA,(ee rfl).2 ⟨rfl,.inl ⟨?_,?_⟩⟩⟩<;>grind
    ·have aE:=(aPQ aE).1;refine⟨_,run _ _ _ aE E ⟨hc.1,hc.2.1,by omega⟩,(ee rfl).2 ⟨rfl,.inr ?_⟩⟩;by_cases kP:c=(dD l).toNat
     ·rw[if_pos kP];exact⟨f_,_,rfl,by show (fP q.2.2 dh).toNat - (dD l).toNat<=_;omega,by omega,λh=>by omega⟩
     ·rw[if_neg kP];refine⟨f_+(dD l).toNat*e.size,c - (dD l).toNat,?_,by show (fP q.2.2 dh).toNat - (dD l).toNat<=_;omega,by omega,λh=>?_⟩
      ·simp[tW]
      grind
   grind
  grind
 grind
variable {dr:Array TypeId}
theorem aoY(aU:eg C.P T){args:Array Operand}(bo:∀ i,o.dst=some i->i<C.bZ)(au:o.op=.call { callee:=.builtin .len,args:=args,argTypes:=dr })(ai:e1 C.aX T (bh C.aX s.aA) o=some r)(h:r.run s.aa=some res):cR C o s res:=by
 obtain⟨args⟩:=args;obtain⟨dr⟩:=dr;simp  [e1,au]at ai;split at ai
 ·rename_i x t;split at ai
  ·rename_i cz e q hu;cases ai;simp only[aF.dC]at h;split at h
   ·rename_i pf;cases h;refine cR.pure (by grind) bo λa w kap F D bb hc=>?_;obtain⟨i,G,_⟩:=(aU.ca pf (by simp)).KF.sl;have PX:∀ a' m cap,a.eval x=.slice a' m cap->m<2 ^ 63->(Builtin.len_ #[t] o.type #[a.eval x]).run C.P w=.ok (.int .i64 m) w/\gM .i64 m:=by
     simp_all[Builtin.len_,en,goInt,CW]
    have al:=((ee rfl).1 (db D x hu bb)).2;rcases al with⟨aE,aW⟩ | ⟨f_,c,aE,E,t',an⟩
    ·obtain⟨aM,aT⟩:=PX _ _ _ (aPQ aE).1 (by decide);refine⟨_,sL au ?_,hL.2 ⟨rfl,by grind⟩⟩;rw[aW];simp[builtin,aM]
    ·obtain⟨aM,aT⟩:=PX _ _ _ (aPQ aE).1 (by omega);refine⟨_,sL au ?_,hL.2 ⟨rfl,aT⟩⟩;simp[builtin,aM]
   grind
  grind
 grind
theorem aoZ{k:FuncId}{args:Array Operand}(bo:∀ i,o.dst=some i->i<C.bZ)(au:o.op=.call { callee:=.value (.func k),args:=args,argTypes:=dr })(ai:e1 C.aX T (bh C.aX s.aA) o=some r)(h:r.run s.aa=some res):cR C o s res:=by
 simp  [e1,au]at ai;obtain⟨c,hc,rfl⟩:=ai;simp only[PM,aF.run_bind]at h;split at h;rotate_left
 ·simp only[aF.fZ,amj,aF.run_bind,aF.dC,amo]at h;obtain⟨⟨x,l⟩,al,rfl⟩:=h;intro a w kap F Q D bb hQ;refine Qk D (D.j1.z7 k c hc).1 bo au bb al hQ λy w' ba v hrel=>?_;have ba:y=c.g x:=ba;have e:∀ (r:aF (List (Nat×b9))),r=(if c.aS.pure then .ret [] else ke l)->s.iw (r.run s.aa)=(if c.aS.pure then s else s.cD l):=by
   intro r D;subst D;split
   ·rfl
   grind [tZ]
  grind [aB.jE]
 rename_i x b_ al;simp only[aF.gR]at h;split at h
 ·rename_i m hm;simp only[aF.run_bind,aF.dC,amo]at h;subst h;have U:=KG hm;intro a w kap F Q D bb hQ;obtain⟨ay,AG⟩:=D.j1.z7 k c hc;have ax:∀ c,o.op≠.defer c:=by grind
  obtain⟨args⟩:=args;have du:(execOp a.eval o).run C.P w=.ok (.enter k (args.map a.eval).toArray) w:=by
   simp  [execOp,au,resolve,Act.eval,Deferred.ofValue,invoke];have:=ay.enter (args.map a.eval).toArray w;grind
  obtain⟨ui,f1,gn,f2⟩:=bu.mR (rO c.nX al) D;have fu:gv C.P c.nX ui w (args.map a.eval) x:=by
   refine w7 D.bF f1 c.nX al f2 (by simp) λi G d_=>?_;have E:=tY bb i (by grind);grind [qW,lJ]
  have oa:((s.cD b_).aa cF).body=.bR c.e m:=by
   grind [aB.cD,fK]
  have mS:=gn.bR c.e m oa;have c1:=gn.aoQ;have xc:∀ r,ui r->ui r\/la (s.cD b_).aa r:=λr h=>.inl h;have QD:gv C.P c.nX.iI (λr=>ui r\/la (s.cD b_).aa r) w (args.map a.eval) (gx c.e m c.nX x):=
   ⟨Zn _ fu.1,aoO xc (λid xs al=>⟨.inr ⟨c.e,m,xs,oa,al⟩,(mS.2 id xs al).2.2.2.2.2⟩) _ fu.2 hQ.1⟩
  by_cases h':(c.aS.pure||c.tN)=true
  ·have key:∀ v w',tL C.P c.aS (wT F w w') w' v (c.g (gx c.e m c.nX x))->Below w.heap.size w w'->
     dd C (s.jE o.dst ⟨kf (args.map (bh C.aX s.aA)),n7 c.e m c.nX x/\c.pre (gx c.e m c.nX x),qV c.aS (c.g (gx c.e m c.nX x)),[]⟩) (a.put o.dst v) w':=λv w' gT ho=>by
    exact⟨kap,_,(D.grow ho).set bo (Ax gT)⟩
   have fin:∀ (l:List (Nat×b9)),(if (c.aS.pure||c.tN)=true then [] else l)=[]:=λl=>if_pos h';rw[fin];rw[aPU]at h';by_cases yv:c.aS.pure=true
   ·refine yr ax du (ay.ik _ w _ _ c1.ds c1.hX QD hQ.2) λe w' ⟨v,y,he,ba,gT,ho⟩=>⟨v,he,?_⟩
    obtain rfl:=ba;obtain⟨aG,cU,cO⟩:=gT;exact key v w' ⟨aG,cU,Qj yv cO⟩ ho
   ·refine yr ax du ((AG (h'.resolve_left yv)).ik _ w _ _ c1.ds c1.hX QD hQ.2) λe w' ⟨v,y,he,ba,gT,ho⟩=>⟨v,he,?_⟩
    obtain rfl:=ba;obtain⟨aG,cU,cO⟩:=gT;exact key v w' ⟨aG,cU,cO.1,fH _ (λr D=>.inr D) (di.refl _ _) cO.2⟩ ho
  ·have bN:(if (c.aS.pure||c.tN)=true then aF.ret [] else ke b_)=ke b_:=if_neg h';rw[bN,if_neg h'];have aLH:(s.aa cF).gen=((s.cD b_).aa cF).gen:=by
    grind [aB.cD,fK]
   have ua:s.iw ((ke b_).run s.aa++[(cF,⟨(s.aa cF).gen,.ev⟩)])=(s.cD b_).ct cF ⟨((s.cD b_).aa cF).gen,.ev⟩:=by
    grind [CX,tZ]
   refine yr ax du (ay.ik _ w _ _ c1.ds c1.hX QD hQ.2) λe w' ⟨v,y,he,ba,gT,ho⟩=>⟨v,he,?_⟩
   obtain rfl:=ba;simp  [aB.jE];rw[ua];exact⟨kap,_,(c1.grow ho).set bo (Ax gT)⟩
 ·cases h
theorem ao0{w:World}(sI cG ty u T:TypeId)(ai:P.underlying sI=some (.pointer u))(hu:P.underlying u=some (.int .u8))(aU:P.underlying T=some (.int .u8))(hc:P.cellsOf T=1)(g o cells:Nat)(j0:w.shape? g=some (T,cells))(l:List UInt8)(aW:l≠[])
  (aC:o+l.length<=cells) (aLI:l.length<=9223372036854775807) (oI:∀ j x,l[j]?=some x->w.cell? ((⟨g,o,none⟩:Addr).add j)=some (.int .u8 x.toNat)) :
  (Builtin.unsafeString_ #[sI,cG] ty #[.pointer (some ⟨g,o,none⟩),.int .i64 l.length]).run P w=.ok (.string ⟨l.toArray⟩) (w.freeze ⟨g,o,none⟩ l.length):=by
 have ah:l.length≠0:=by grind
 have ao1:=Lib.run_loadBytes (P:=P) w l ⟨g,o,none⟩ .empty oI;have ax:P.depth=(2*(P.types.size+Made.depth)+1)+1:=rfl;have vr:sameLayout P P.depth T u=true:=by
  grind [sameLayout]
 have ao2:liesAt P P.depth T (cells / P.cellsOf T) o u l.length=true:=by
  simp_all[rowAt,Nat.mod_one,liesAt]
 have ao3:¬(9223372036854775807)<(l.length:Int):=by omega
 have ao4:Builtin.unsafeString_ #[sI,cG] ty #[.pointer (some ⟨g,o,none⟩),.int .i64 l.length]=
   (do
    let n <-asInt (.int .i64 l.length);if n < 0 then runtimePanic (.error "unsafe.String: len out of range")
    if n > IntKind.i64.max then unsupported (.unsafePointer "String: a length above the largest int")
    if n=0 then pure (.string .empty)
    else if <-variablesAt ⟨g,o,none⟩ (<-elemOf sI) n.toNat then do
     let s <-loadBytes ⟨g,o,none⟩ .empty n.toNat;freeze ⟨g,o,none⟩ n.toNat;pure (.string s)
    else unsupported (.unsafePointer "String: not so many bytes at ptr")) := rfl
 rw[ao4];have Gq:¬(l.length:Int)<0:=by omega
 simp[asInt,asIntOf,ao3,Gq,ah,variablesAt,j0,elemOf,run_underlying ai,ao2,ao1]
theorem cx.sI{k:IntKind}{id:TypeId}(h:cx P (.bO (.int k)) id):∃ i,P.underlying id=some (.pointer i)/\cx P (.int k) i:=by
 grind [cx,df]
theorem ao5(aU:eg C.P T){args:Array Operand}(bo:∀ i,o.dst=some i->i<C.bZ)(au:o.op=.call { callee:=.builtin .unsafeSliceData,args:=args,argTypes:=dr })(ai:e1 C.aX T (bh C.aX s.aA) o=some r)(h:r.run s.aa=some res):cR C o s res:=by
 obtain⟨args⟩:=args;simp  [e1,au]at ai;split at ai
 ·rename_i x;split at ai
  ·rename_i cz b g hu;cases ai;simp  at h;split at h
   ·rename_i e xs U;split at h
    ·rename_i hc;obtain⟨aD,aH⟩:=hc;cases h;obtain⟨i,G,_⟩:=(aU.ca aH (by simp)).sI;have qc:∀ c,o.op≠.defer c:=by grind
     intro a w kap F Q D bb _;have al:=db D x hu bb;have af:=al.2 aD.symm (by rw[U];rfl);have a1:=D.bF b;unfold c6 at a1;rw[U]at a1;have fin:∀ p w',(Builtin.unsafeSliceData_ dr o.type #[a.eval x]).run C.P w=.ok (.pointer p) w'->Below w.heap.size w w'->(0<xs.length->p=some ⟨(kap b).aa,(kap b).off,none⟩)->
       o.wpIn (eY C.r) 0 C.P a w (λa' w'=>dd C (s.jE o.dst ⟨cz,True,.z8 b g,[]⟩) a' w') Q:=λp w' E L an=>by
      refine h7     qc (sL au (by simp[builtin,E])) ⟨kap,_,(D.grow L).set bo ⟨⟨aRc aD.symm,p,rfl⟩,λ_ _ aC=>?_⟩⟩;rw[U]at aC;rw[an aC]
     cases aC:(kap b).fO with
     | true=>
      have kg:=a1.1 aC;simp_all[bL.slice,Lib.run_unsafeSliceData_nil,Below.refl]
     | false=>
      obtain⟨cs,h8,bG,c2,c3,c4,c5⟩:=a1.2 aC;simp  [bL.slice,aC,aPH]at af;by_cases w3:(kap b).cap=0
      ·have j0:w.shape? (kap b).aa=some (h8,cs.size):=by grind [World.shape?]
       refine fin _ _ (by rw[af,w3];exact Lib.run_unsafeSliceData_zero w _ _ i G _ _ _ j0) ((Below.refl _ _).alloc (amn _) _) (λh=>by omega)
      simp_all[Lib.run_unsafeSliceData_row,Below.refl]
    grind
   grind
  grind
 grind
theorem ao6(aU:eg C.P T){args:Array Operand}(bo:∀ i,o.dst=some i->i<C.bZ)(au:o.op=.call { callee:=.builtin .unsafeString,args:=args,argTypes:=dr })(ai:e1 C.aX T (bh C.aX s.aA) o=some r)(h:r.run s.aa=some res):cR C o s res:=by
 obtain⟨args⟩:=args;obtain⟨dr⟩:=dr;simp  [e1,au]at ai;split at ai
 ·rename_i x n sI cG;split at ai
  ·rename_i cz b g on m hu aC;cases ai;simp  at h;split at h
   ·rename_i xs U;change z1' at xs;split at h
    ·rename_i hc;obtain⟨aD,aH⟩:=hc;cases h;obtain⟨u,G,ao7⟩:=(aU.ca aH (by simp)).sI;have qc:∀ c,o.op≠.defer c:=by grind
     intro a w kap F Q D bb hm;obtain⟨⟨_,p,ai⟩,An⟩:=db D x hu bb.1;have ao8:=(hL.1 (db D n aC bb.2)).1;have a1:=D.bF b;unfold c6 at a1;rw[U]at a1;have ho:(ff xs).length=List.length xs:=by simp[ff]
     have ah:fI s.aa kap (λi=>if i=b then (⟨(s.aa b).gen,.ev⟩) else s.aa i) kap:=pd rfl (λh=>by cases h) (λh=>by cases h) (λh=>by cases h) (λh=>by cases h);by_cases aW:xs=[]
     ·subst aW;subst hm;have du:=Lib.run_unsafeString_none (P:=C.P) w sI cG o.type p;have hw:bu C (s.ct b ⟨(s.aa b).gen,.ev⟩) a w kap F:=D.va ⟨λi=>.inl rfl,λi=>by
       grind [aB.ct]⟩
      refine h7   (v:=.string .empty) qc (sL au (by simp[builtin,ai,ao8,du])) ⟨kap,F,hw.set bo (k7.2 ⟨rfl,by grind⟩)⟩
     ·have kh:=List.length_pos_iff.2 aW;have ub:(kap b).fO=false:=by
       cases aC:(kap b).fO with
       | false=>rfl
       | true=>exact (aW (a1.1 aC)).elim
      obtain⟨cs,h8,bG,c2,c3,c4,c5⟩:=a1.2 ub;have Kp:=An aD.symm (by rw[U];rfl) (by rw[U];exact kh);obtain⟨t1,bX⟩:=c4.2 .u8 rfl;have j0:w.shape? (kap b).aa=some (h8,cs.size):=by grind [World.shape?]
      have cN:V.size (.int .u8)=1:=rfl;have oI:∀ j x,(ff xs)[j]?=some x->w.cell? ((⟨(kap b).aa,(kap b).off,none⟩:Addr).add j)=some (.int .u8 x.toNat):=λj x aK=>by
       obtain⟨ao9,iB⟩:=List.getElem?_eq_some_iff.1 aK;have oM:j<List.length xs:=by omega
       obtain⟨bC,d1,d2⟩:=c5 j oM;obtain⟨rfl,bf⟩:=d2;have:=d1 0 (by simp);rw[tW];simp  [World.cell?];have gm:x.toNat=xs[j]:=by
        rw[<-iB];simp only[ff];have E:(0)<=xs[j]:=bf.1;have L:xs[j]<=255:=bf.2;simp;omega
       grind
      have du:=ao0   sI cG o.type u h8 G ao7.int t1 bX (kap b).aa (kap b).off cs.size j0 (ff xs) (λe=>by grind) (by grind) (by omega) oI;have hw:bu C (s.ct b ⟨(s.aa b).gen,.ev⟩) a (w.freeze ⟨(kap b).aa,(kap b).off,none⟩ (ff xs).length) kap F:=by
       have eJ:(s.aa b).body.ch (kap b)=true:=by grind [b'.ch]
       have yu:∀ r,r≠(kap b).aa->(w.freeze ⟨(kap b).aa,(kap b).off,none⟩ (ff xs).length).heap[r]?=w.heap[r]?:=λr D=>by
        grind [World.freeze]
       have KD:(w.freeze ⟨(kap b).aa,(kap b).off,none⟩ (ff xs).length).heap.size=w.heap.size:=by
        grind [World.freeze]
       have q6:dL w (w.freeze ⟨(kap b).aa,(kap b).off,none⟩ (ff xs).length):=by
        unfold World.freeze;split<;>exact⟨rfl,rfl,rfl⟩
       generalize w.freeze ⟨(kap b).aa,(kap b).off,none⟩ (ff xs).length=w' at yu KD q6;show bu C ⟨s.aA,λi=>if i=b then (⟨(s.aa b).gen,.ev⟩) else s.aa i⟩ a w' kap F;obtain⟨Gr,xe⟩:∃ Gr:Nat->b9,Gr=λi=>if i=b then (⟨(s.aa b).gen,.ev⟩) else s.aa i:=⟨_,rfl⟩
       have vq:Gr b=⟨(s.aa b).gen,.ev⟩:=by grind
       have eM:∀ i,i≠b->Gr i=s.aa i:=λi G=>by grind
       have u':yg s.aa Gr:=by rw[xe];exact J0 rfl
       rw[<-xe]at ah ⊢;refine D.move   ah (λ_ h=>h) (λ_ h=>.inl h) (by omega) (λr _ h=>yu r λe=>h b eJ e.symm) q6 (λhe i=>?_) (λi G=>?_) (λi j G aK e=>?_) (λr h=>by have:=D.ds r h;omega) (λi _ hc=>⟨rfl,?_⟩) u'
       ·by_cases e:i=b
        ·subst e;unfold c6;rw[vq];trivial
        ·exact c6.k_ (D.bF i) ah (λ_ h=>h) he (by grind) rfl λau=>yu _ λaZ=>e (D.inj i b au eJ aZ)
       ·by_cases e:i=b
        ·subst e;rw[vq]at G;cases G
        ·rw[eM i e]at G;exact⟨by have:=(D.own i G).1;omega,(D.own i G).2.1,.inl ⟨i,G,rfl⟩⟩
       ·by_cases aE:i=b
        ·subst aE;rw[vq]at G;cases G
        ·by_cases bz:j=b
         ·subst bz;rw[vq]at aK;cases aK
         ·rw[eM i aE]at G;rw[eM j bz]at aK;exact D.inj i j G aK e
       ·by_cases e:i=b
        ·subst e;rw[vq]at hc;rcases hc with hc | hc<;>cases hc
        grind
      refine h7 qc (sL au (by simp_all[builtin])) ⟨kap,F,hw.set bo (k7.2 ⟨rfl,by omega⟩)⟩
    grind
   grind
  grind
 grind
theorem ao_(aU:eg C.P T)(ax:mV o C.bZ=true)(ai:e1 C.aX T (bh C.aX s.aA) o=some r)(h:r.run s.aa=some res):cR C o s res:=by
 simp  [mV]at ax;cases au:o.op with
 | load ty x=>grind [aoU]
 | store ty x y=>grind [aoV]
 | indexAddr ty x i=>grind [aoW]
 | slice ty x a7 G l6=>grind [aoX]
 | call c=>
  obtain⟨callee,args,dr⟩:=c;grind [aoY,ao5,ao6,e1,aoZ]
 | _=>simp[e1,au]at ai
theorem C_(aU:eg C.P T)(dn:lK C.P br)(ax:mV o C.bZ=true)(h:(iv C.aX T br (bh C.aX s.aA) o).run s.aa=some res):cR C o s res:=by
 grind [iv,ao_,aoC]
end
def aL.KK:aL->Bool
 | .ye _ _ _=>true
 | _=>false
def vs(rho:Operand->aL)(o:Oper):Bool:=q5 rho o&&(match o.op with
 | .load _ x=>!(use (rho x)).2.KK
 | .store _ x _=>!(use (rho x)).2.KK
 | _=>true)
section
variable {aQ:dV} {T:Nat->V} {br:Nat->Option aO} {rho kz:Operand->aL} {o:Oper}
theorem aF.er.yw{p:ez->Prop}{c:Prop}[Decidable c]{r:ez}(h:p r):(aF.ret (if c then some r else Option.none)).er (l_ p):=by
 grind [ug,nil]
theorem Gs(hc:vs rho o=true):(iv aQ T br rho o).er (l_ λr=>r.c):=by
 unfold vs at hc;unfold iv;split
 ·rename_i r ai;cases au:o.op with
  | load ty x=>
   grind [e1,aL.KK]
  | store ty x y=>
   grind [e1,aL.KK]
  | indexAddr ty x i=>grind [q5]
  | slice ty x a7 G l6=>grind [q5]
  | call c=>
   obtain⟨callee,args,dr⟩:=c;cases callee with
   | builtin b=>
    cases b with
    | len=>
     simp  [e1,au]at ai;split at ai
     ·split at ai
      ·cases ai;exact .yw trivial
      grind
     grind
    | unsafeSliceData=>grind [q5,C8]
    | unsafeString=>grind [q5,C8]
    | _=>simp[e1,au]at ai
   | value f=>grind [q5]
   | _=>grind [e1]
  | _=>simp[e1,au]at ai
 grind [aoJ]
theorem Zt(nz:vp rho o):(iv aQ T br rho o).er (l_ λr=>r.cy):=by
 unfold iv;split
 ·rename_i r ai;cases au:o.op with
  | load ty x=>
   simp  [e1,au]at ai;split at ai
   ·rename_i hu;cases ai;intro z;have:=nz.use   (by grind [Op.operands]) hu;show (aF.ret _).er _;split
    ·exact .yw this
    ·exact .nil
   grind
  | store ty x y=>
   simp  [e1,au]at ai;split at ai
   ·rename_i hu;split at ai
    ·rename_i af;cases ai;intro z;have E:=nz.use   (by grind [Op.operands]) hu;have L:=nz.use   (by grind [Op.operands]) af;show (aF.ret _).er _;split
     ·exact .yw ⟨E,L⟩
     ·exact .nil
    grind
   grind
  | indexAddr ty x i=>
   simp  [e1,au]at ai;split at ai
   ·rename_i hu;split at ai
    ·cases ai;exact .yw ⟨nz.use   (by grind [Op.operands]) hu,nz i (by grind [Op.operands])⟩
    grind
   grind
  | slice ty x a7 G l6=>
   simp  [e1,au]at ai;split at ai
   ·rename_i hu;split at ai
    ·rename_i bQ As;cases ai;exact .yw ⟨nz.use   (by grind [Op.operands]) hu,Gm bQ λy ba=>nz y (by grind [Op.operands]),Gm As λy ba=>nz y (by grind [Op.operands])⟩
    grind
   grind
  | call c=>
   obtain⟨callee,args,dr⟩:=c;cases callee with
   | builtin b=>
    cases b with
    | len=>
     simp  [e1,au]at ai;split at ai
     ·split at ai
      ·rename_i hu;cases ai;exact .yw (nz.use   (by grind [Op.operands,Call.operands]) hu)
      grind
     grind
    | unsafeSliceData=>
     simp  [e1,au]at ai;split at ai
     ·split at ai
      ·rename_i hu;cases ai;have:=nz.use   (by grind [Op.operands,Call.operands]) hu;intro z;show (aF.ret _).er _;split
       ·exact .yw this
       ·exact .nil
      grind
     grind
    | unsafeString=>
     simp  [e1,au]at ai;split at ai
     ·split at ai
      ·rename_i hu aC;cases ai;have E:=nz.use   (by grind [Op.operands,Call.operands]) hu;have L:=nz.use   (by grind [Op.operands,Call.operands]) aC;intro z;show (aF.ret _).er _;split
       ·exact .yw ⟨E,L⟩
       ·exact .nil
      grind
     grind
    | _=>simp[e1,au]at ai
   | value f=>
    cases f with
    | func k=>
     simp  [e1,au]at ai;obtain⟨c,_,rfl⟩:=ai;have AG:kf (args.toList.map rho):=Gl λv af=>by
      obtain⟨p,ai,rfl⟩:=List.mem_map.1 af;exact nz p (by grind [Op.operands,Call.operands])
     refine aF.er.bind λr=>?_;split
     ·intro z;show aF.er _ (match Aj c.e z.body with | some m=>_ | none=>_);split
      ·exact aF.er.bind λwl=>.ug AG
      ·exact .l'
     ·exact aF.er.eF λ⟨x,b_⟩=>aF.er.bind λwl=>.ug AG
    | _=>grind [e1]
   | _=>grind [e1]
  | _=>simp[e1,au]at ai
 grind [aoK]
theorem Zu(h:uh rho o=true):(iv aQ T br rho o).er (l_ λr=>r.cy):=Zt (QA h)
theorem ao'(h:∀ x∈o.op.operands.toList,rho x=kz x):e1 aQ T rho o=e1 aQ T kz o:=by
 cases au:o.op with
 | load ty x=>grind [Op.operands,e1]
 | store ty x y=>
  simp_all[Op.operands,e1]
 | indexAddr ty x i=>
  simp_all[Op.operands,e1]
 | slice ty x a7 G l6=>
  rw[au]at h;have E:=h x (by simp[Op.operands]);have L:lh rho a7=lh kz a7:=QB λy ba=>h y (by grind [Op.operands]);have an:lh rho G=lh kz G:=QB λy ba=>h y (by grind [Op.operands]);unfold e1;grind
 | call c=>
  obtain⟨callee,args,dr⟩:=c;have fu:∀ x∈args.toList,rho x=kz x:=λx al=>h x (by grind [Op.operands,Call.operands]);have ah:=aPN fu;unfold e1;rw[au];simp only;split
  ·grind
  ·grind
  ·grind
  ·unfold PM;simp  [ah]
  ·rfl
 | _=>unfold e1;rw[au]
theorem apa(h:∀ x∈o.op.operands.toList,rho x=kz x):iv aQ T br rho o=iv aQ T br kz o:=by
 grind [iv,ao',aoL]
end
end Go.Fer
namespace Go.Fer
open Go.RowKit
def KL(want b:Bool):Bool:=match want with | true=>b | false=>!b
def ma(s:Nat->aL)(ops:Array Oper):Option (Nat×Bool)->Option (Option Bool)
 | none=>some none
 | some (j,want)=>match ops[j]? with
  | some o=>match o.dst with
   | some d=>match s d with
    | .val .bool b=>some (some (KL want b))
    | .ks g (.val .bool b)=>some (some (g&&KL want b))
    | _=>none
   | none=>none
  | none=>none
def KM(ops:Array Oper):Option (Nat×Bool)->List Nat
 | none=>[]
 | some (j,_)=>match ops[j]? with
  | some o=>o.dst.toList
  | none=>[]
def apb(l:List Operand):List Nat:=l.filterMap fun | .tmp t=>some t | _=>none
def Gt(ops:Array Oper)(o:Oper):List Nat:=KM ops o.guard++apb o.op.operands.toList
structure eU where
 cs:List Prop
 dst:Option Nat
 hn:aL
 jC:List (Nat×b9)
 mA:List Nat
 xf:List Nat
def eU.jT(r:eU)(s:aB):aB:=(s.iw r.jC).set r.dst r.hn
def eU.pt(r:eU):List Nat:=r.dst.toList
def eU.oO(r:eU):List Nat:=r.jC.map (·.1)
def Gu(cU cO:Bool)(cy c:Prop):List Prop:=(match cU with | true=>[] | false=>[cy])++(match cO with | true=>[] | false=>[c])
def vt(aQ:dV)(T:Nat->V)(br:Nat->Option aO)(ops:Array Oper)(s:aB)(o:Oper):Option eU:=
 match ma s.aA ops o.guard with
 | none=>none
 | some g=>match (iv aQ T br (bh aQ s.aA) o).run s.aa with
  | none=>none
  | some res=>match g with
   | none=>some ⟨Gu (uh (bh aQ s.aA) o) (vs (bh aQ s.aA) o) res.cy res.c,o.dst,res.hn,res.jC,Gt ops o,(iv aQ T br (bh aQ s.aA) o).looks s.aa⟩
   | some b=>match res.jC with
    | []=>some ⟨Gu (uh (bh aQ s.aA) o&&(vs (bh aQ s.aA) o&&!res.hn.C7)) true (b=true->res.cy/\(res.c/\(use res.hn).1)) True,o.dst,.ks b (use res.hn).2,[],Gt ops o,(iv aQ T br (bh aQ s.aA) o).looks s.aa⟩
    | _=>none
def xg(aQ:dV)(T:Nat->V)(br:Nat->Option aO)(ops:Array Oper):List Oper->aB->Option (List eU×aB)
 | [],s=>some ([],s)
 | o::os,s=>match vt aQ T br ops s o with
  | none=>none
  | some r=>match xg aQ T br ops os (r.jT s) with
   | none=>none
   | some (l,s')=>some (r::l,s')
def C'(a b:List Nat):Bool:=a.all λx=>!b.contains x
def eU.apart(a b:eU):Bool:=C' a.pt (b.mA++b.pt)&&C' a.mA b.pt&&C' a.oO (b.xf++b.oO)&&C' a.xf b.oO
def lM(o:Oper):List Nat:=o.after.toList.filterMap λe=>if Region.binds .any e then some e.on else none
def Gv(acc:List Nat):List Nat->List Nat
 | []=>acc
 | x::l=>match acc.contains x with | true=>Gv acc l | false=>Gv (x::acc) l
theorem QE{x:Nat}:∀ {l acc:List Nat},x∈Gv acc l->x∈acc\/x∈l
 | [],acc,h=>.inl h
 | y::l,acc,h=>by
  unfold Gv at h;split at h
  ·exact (QE h).imp_right (amr _)
  ·rcases QE h with h | h<;>grind
def Da(acc:List (List Nat))(o:Oper):List (List Nat):=acc++[Gv [] ((lM o).flatMap λj=>j::acc.getD j [])]
def jF(ops:List Oper):List (List Nat):=ops.foldl Da []
def Zv(cl:List (List Nat))(l:List eU):Bool:=
 (List.range l.length).all λj=>(List.range j).all λi=>match l[i]?,l[j]? with
  | some a,some b=>(cl.getD j []).contains i||a.apart b
  | _,_=>false
def Db(ops:List Oper):Bool:=(List.range ops.length).all λj=>match ops[j]? with
 | some o=>(lM o).all λi=>decide (i<j)
 | none=>false
def AH(ops:List Oper)(l:List eU):Bool:=Db ops&&Zv (jF ops) l
def AI(R:List Nat)(s s':aB):Prop:=∀ t∈R,s.aA t=s'.aA t
def AJ(B:List Nat)(s s':aB):Prop:=∀ b∈B,s.aa b=s'.aa b
theorem KN{a b:List Nat}(h:C' a b=true){x:Nat}(al:x∈a):x ∉ b:=by
 have:=List.all_eq_true.1 h x al;grind
theorem Dc(s:aB):∀ (l:List (Nat×b9)),(s.iw l).aA=s.aA:=by
 intro l;induction l generalizing s with
 | nil=>rfl
 | cons p l aP=>simp  [aB.iw];rw[aP];rfl
variable {b:Nat}
theorem Zw:∀ (l:List (Nat×b9)) (s:aB),b ∉ l.map (·.1)->(s.iw l).aa b=s.aa b:=by
 intro l;induction l with
 | nil=>intro s _;rfl
 | cons p l aP=>
  grind [aB.iw,aB.ct]
theorem QF:∀ (l:List (Nat×b9)) (s s':aB),b∈l.map (·.1)->(s.iw l).aa b=(s'.iw l).aa b:=by
 intro l;induction l with
 | nil=>simp
 | cons p l aP=>
  grind [aB.iw,Zw,aB.ct]
theorem apc(s:aB)(d:Option Nat)(v:aL):(s.set d v).aa=s.aa:=by cases d<;>rfl
theorem KO(r:eU)(s:aB)(t:Nat):(r.jT s).aA t=if t∈r.pt then r.hn else s.aA t:=by
 unfold eU.jT eU.pt;cases h:r.dst with
 | none=>simp[aB.set,Dc]
 | some d=>grind [aB.set,Dc]
theorem AK(r:eU)(s:aB)(b:Nat):(r.jT s).aa b=(s.iw r.jC).aa b:=by grind [eU.jT,apc]
variable {r:eU}{s:aB}
theorem Zx{t:Nat}(h:t ∉ r.pt):(r.jT s).aA t=s.aA t:=by grind [KO]
theorem AL(h:b ∉ r.oO):(r.jT s).aa b=s.aa b:=by rw[AK];exact Zw _ _ h
variable {s':aB}
theorem aB.apd(E:∀ t,s.aA t=s'.aA t)(L:∀ b,s.aa b=s'.aa b):s=s':=by
 obtain⟨a,b⟩:=s;obtain⟨a',bj⟩:=s';rw[show a=a' from funext E,show b=bj from funext L]
variable {b:eU}
theorem ape{a:eU}(E:∀ t∈a.pt,t ∉ b.pt)(L:∀ x∈a.oO,x ∉ b.oO)(s:aB):a.jT (b.jT s)=b.jT (a.jT s):=by
 apply aB.apd
 ·grind [KO]
 ·intro x;by_cases aY:x∈a.oO
  ·have U:=L x aY;rw[AL U,AK,AK];exact QF _ _ _ aY
  ·rw[AL aY];by_cases U:x∈b.oO
   ·rw[AK,AK];exact QF _ _ _ U
   grind [AL]
def jU(l:List eU)(s:aB):aB:=l.foldl (λs r=>r.jT s) s
variable {R:List Nat}
theorem apf{B:List Nat}:∀ (l:List eU) (s:aB),(∀ r∈l,(∀ t∈R,t ∉ r.pt)/\∀ b∈B,b ∉ r.oO)->AI R (jU l s) s/\AJ B (jU l s) s:=by
 intro l;induction l with
 | nil=>intro s _;exact⟨λ_ _=>rfl,λ_ _=>rfl⟩
 | cons r l aP=>
  intro s h;obtain⟨E,L⟩:=aP (r.jT s) λjM bk=>h jM (amr _ bk);have D:=h r (aQM);exact⟨λt aH=>(E t aH).trans (Zx (D.1 t aH)),λb U=>(L b U).trans (AL (D.2 b U))⟩
theorem apg{B:List Nat}(E:AI R s s')(L:AJ B s s'):AI R (r.jT s) (r.jT s')/\AJ B (r.jT s) (r.jT s'):=by
 refine⟨λt aH=>?_,λb U=>?_⟩
 ·rw[KO,KO];split
  ·rfl
  ·exact E t aH
 ·by_cases hw:b∈r.oO
  ·rw[AK,AK];exact QF _ _ _ hw
  ·rw[AL hw,AL hw];exact L b U
theorem aph{B:List Nat}(p:Nat×eU->Bool):∀ (l:List (Nat×eU)) (s s':aB),AI R s s'->AJ B s s'->(∀ r∈l,p r=false->(∀ t∈R,t ∉ r.2.pt)/\∀ b∈B,b ∉ r.2.oO)->
  AI R (jU ((l.filter p).map (·.2)) s) (jU (l.map (·.2)) s')/\AJ B (jU ((l.filter p).map (·.2)) s) (jU (l.map (·.2)) s'):=by
 intro l;induction l with
 | nil=>intro s s' E L _;exact⟨E,L⟩
 | cons r l aP=>
  intro s s' E L h;have ah:=λjM bk=>h jM (amr _ bk);cases ai:p r with
  | true=>
   rw[List.filter_cons_of_pos ai];obtain⟨aM,aT⟩:=apg   E L;exact aP _ _ aM aT ah
  | false=>
   rw[List.filter_cons_of_neg (by grind)];have D:=h r (aQM) ai;exact aP _ _ (λt aH=>(E t aH).trans (Zx (D.1 t aH)).symm) (λb U=>(L b U).trans (AL (D.2 b U)).symm) ah
theorem api:∀ (l:List eU) (s:aB),(∀ x∈l,(∀ t∈r.pt,t ∉ x.pt)/\∀ b∈r.oO,b ∉ x.oO)->jU l (r.jT s)=r.jT (jU l s):=by
 intro l;induction l with
 | nil=>intro s _;rfl
 | cons x l aP=>
  intro s h;have al:=h x (aQM);show jU l (x.jT (r.jT s))=r.jT (jU l (x.jT s));rw[<-ape al.1 al.2 s];grind
def kj:Nat->List eU->List (Nat×eU)
 | _,[]=>[]
 | n,r::l=>(n,r)::kj (n+1) l
theorem QG:∀ (l m:List eU) (n:Nat),kj n (l++m)=kj n l++kj (n+l.length) m
 | [],m,n=>by rfl
 | r::l,m,n=>by simp  [kj,QG l m (n+1)];grind
theorem KP:∀ (l:List eU) (n:Nat),(kj n l).map (·.2)=l
 | [],_=>rfl
 | r::l,n=>by simp  [kj,KP l (n+1)]
theorem AM:∀ {l:List eU} {n j:Nat} {x:eU},(j,x)∈kj n l->n<=j/\l[j - n]?=some x
 | r::l,n,j,x,h=>by
  simp  [kj,aPK]at h;rcases h with⟨rfl,rfl⟩ | h
  ·simp
  ·obtain⟨E,L⟩:=AM h;grind
 | [],_,_,_,h=>by cases h
def mW(l:List eU)(s:aB)(f:Nat->Bool):aB:=jU (((kj 0 l).filter λp=>f p.1).map (·.2)) s
theorem Gw(l m:List eU)(s:aB):jU (l++m) s=jU m (jU l s):=by simp[jU]
theorem QH{a:eU}(h:a.apart b=true):(∀ t∈a.pt,t ∉ b.mA/\t ∉ b.pt)/\(∀ t∈a.mA,t ∉ b.pt)/\(∀ x∈a.oO,x ∉ b.xf/\x ∉ b.oO)/\∀ x∈a.xf,x ∉ b.oO:=by
 simp  [eU.apart]at h;obtain⟨⟨⟨E,L⟩,an⟩,a6⟩:=h;refine⟨λt aH=>?_,λt aH=>KN L aH,λx al=>?_,λx al=>KN a6 al⟩
 ·have:=KN E aH;grind
 ·have:=KN an al;grind
theorem apj{l:List eU}{f:Nat->Bool}{i:Nat}(G:l[i]?=some r)(ay:f i=false)
  (hQ:∀ j x,j<i->l[j]?=some x->f j=false->x.apart r=true) (AN:∀ j x,i<j->l[j]?=some x->f j=true->r.apart x=true) :
  AI r.mA (mW l s f) (jU (l.take i) s)/\AJ r.xf (mW l s f) (jU (l.take i) s)/\mW l s (λj=>if j=i then true else f j)=r.jT (mW l s f):=by
 have apk:kj 0 l=kj 0 (l.take i)++(i,r)::kj (i+1) (l.drop (i+1)):=by
  grind [List.take_append_drop,List.drop_eq_getElem_cons,QG,kj]
 have aLJ:∀ p∈kj 0 (l.take i),p.1<i/\l[p.1]?=some p.2:=by
  rintro⟨j,x⟩ ai;obtain⟨_,L⟩:=AM ai;grind
 have aLK:∀ p∈kj (i+1) (l.drop (i+1)),i<p.1/\l[p.1]?=some p.2:=by
  rintro⟨j,x⟩ ai;obtain⟨E,L⟩:=AM ai;grind
 have kQ:mW l s f=jU (((kj (i+1) (l.drop (i+1))).filter λp=>f p.1).map (·.2)) (jU (((kj 0 (l.take i)).filter λp=>f p.1).map (·.2)) s):=by
  grind [mW,Gw]
 have vr:=apf (R:=r.mA) (B:=r.xf) (((kj (i+1) (l.drop (i+1))).filter λp=>f p.1).map (·.2)) (jU (((kj 0 (l.take i)).filter λp=>f p.1).map (·.2)) s)
  (λx al=>by
   grind [QH])
 have uj:=aph (R:=r.mA) (B:=r.xf) (λp=>f p.1) (kj 0 (l.take i)) s s (λ_ _=>rfl) (λ_ _=>rfl) (λp ai apl=>by
  grind [QH])
 rw[KP]at uj;refine⟨λt aH=>by rw[kQ];exact (vr.1 t aH).trans (uj.1 t aH),λb U=>by rw[kQ];exact (vr.2 b U).trans (uj.2 b U),?_⟩;rw[kQ];unfold mW;have aE:(kj 0 (l.take i)).filter (λp=>if p.1=i then true else f p.1)=(kj 0 (l.take i)).filter λp=>f p.1:=by
  grind [List.filter_congr]
 have bz:(kj (i+1) (l.drop (i+1))).filter (λp=>if p.1=i then true else f p.1)=(kj (i+1) (l.drop (i+1))).filter λp=>f p.1:=by
  grind [List.filter_congr]
 rw[apk,aQw,List.filter_cons_of_pos (by simp),aP7,Gw];show jU _ (r.jT _)=_;grind [api,QH]
theorem Dd{p:Nat->Prop}:∀ (ops:List Oper) (acc:List (List Nat)),(∀ j i,i∈acc.getD j []->p j->p i)->(∀ j o,ops[j]?=some o->∀ i∈lM o,p (acc.length+j)->p i)->
  ∀ j i,i∈(ops.foldl Da acc).getD j []->p j->p i:=by
 intro ops;induction ops with
 | nil=>simp
 | cons o ops aP=>
  intro acc h ax;refine aP (Da acc o) (λj i G aK=>?_) λj f_ hR i G aK=>ax (j+1) f_ (by grind) i G (by
   have:(Da acc o).length=acc.length+1:=by simp[Da]
   grind)
  unfold Da at G;rw[amq,List.getElem?_append]at G;split at G
  ·grind
  ·by_cases e:j=acc.length
   ·subst e;simp  at G;have G:=(QE G).resolve_left (by simp);simp  at G;obtain⟨k,ak,G⟩:=G;have u':=ax 0 o (by simp) k ak (by omega);grind
   grind
variable {ops:Array Oper}
theorem QI{aQ:dV}{T:Nat->V}{br:Nat->Option aO}:∀ (os:List Oper) (s:aB) {l:List eU} {s':aB},xg aQ T br ops os s=some (l,s')->
  l.length=os.length/\s'=jU l s/\∀ i o,os[i]?=some o->∃ r,l[i]?=some r/\vt aQ T br ops (jU (l.take i) s) o=some r:=by
 intro os;induction os with
 | nil=>intro s l s' h;cases h;exact⟨rfl,rfl,λi o h=>by grind⟩
 | cons o os aP=>
  intro s l s' h;simp  [xg]at h;split at h
  ·grind
  ·rename_i r D;split at h
   ·grind
   ·rename_i et aLL ah;cases h;obtain⟨E,L,an⟩:=aP _ ah;refine⟨by grind,L,λi f_ hR=>?_⟩;cases i with
    | zero=>
     simp  at hR;subst hR;exact⟨r,by simp,D⟩
    | succ i=>
     obtain⟨jM,aM,aT⟩:=an i f_ (by grind);exact⟨jM,by grind,aT⟩
theorem QJ{f kv:Nat->aL}{g:Option (Nat×Bool)}(h:∀ t∈KM ops g,f t=kv t):ma f ops g=ma kv ops g:=by
 unfold ma;cases g with
 | none=>rfl
 | some p=>
  grind [KM]
theorem apm{aQ:dV}{T:Nat->V}{br:Nat->Option aO}{o:Oper}(h:vt aQ T br ops s o=some r)(E:AI r.mA s' s)(L:AJ r.xf s' s):vt aQ T br ops s' o=some r:=by
 have Zy:r.mA=Gt ops o/\r.xf=(iv aQ T br (bh aQ s.aA) o).looks s.aa:=by
  grind [vt]
 rw[Zy.1]at E;rw[Zy.2]at L;have sM:∀ x∈o.op.operands.toList,bh aQ s'.aA x=bh aQ s.aA x:=by
  intro x al;cases x with
  | tmp t=>
   refine E t ?_;simp  [Gt];exact .inr (List.mem_filterMap.2 ⟨.tmp t,al,rfl⟩)
  | _=>rfl
 have aE:ma s'.aA ops o.guard=ma s.aA ops o.guard:=QJ λt aH=>E t (by simp[Gt,aH]);have bz:iv aQ T br (bh aQ s'.aA) o=iv aQ T br (bh aQ s.aA) o:=apa sM;have c_:=aF.X7     (iv aQ T br (bh aQ s.aA) o) L;have bV:uh (bh aQ s'.aA) o=uh (bh aQ s.aA) o:=by
  grind [uh]
 have mq:q5 (bh aQ s'.aA) o=q5 (bh aQ s.aA) o:=by
  unfold q5;cases au:o.op with
  | binOp op ty x y t=>
   grind [Op.operands]
  | load ty x=>grind [Op.operands]
  | store ty x y=>grind [Op.operands]
  | call c=>
   obtain⟨callee,args,dr⟩:=c;cases callee with
   | builtin b=>
    have dh:∀ x∈args.toList,bh aQ s'.aA x=bh aQ s.aA x:=λx al=>sM x (by grind [Op.operands,Call.operands]);unfold C8;grind
   | _=>rfl
  | _=>rfl
 have ey:vs (bh aQ s'.aA) o=vs (bh aQ s.aA) o:=by
  grind [vs,Op.operands]
 simp_all[vt]
end Go.Fer
