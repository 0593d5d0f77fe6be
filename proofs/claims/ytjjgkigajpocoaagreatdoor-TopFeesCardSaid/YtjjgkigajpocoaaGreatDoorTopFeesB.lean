/- Part 2 of the proof of TopFees: shallow programs of Go functions, and what they compute. No condition. -/
import Derived.Test.YtjjgkigajpocoaaGreatDoorTopFeesA
import Derived.Laws.BytesString
import Derived.Lib.UnsafeStr
noncomputable section
set_option linter.unusedVariables false
set_option linter.unusedSimpArgs false
namespace Go.Fer
open Go.RowKit
theorem Gu{p:Addr}(h:p.spot=none)(n:Nat):p.add n=⟨p.block,p.off+n,none⟩:=by
 obtain⟨b,o,sp⟩:=p;grind [uf]
theorem Zh{e:aa}{xs:List e.aq}{i:Int}(E:0<=i)(M:i<(xs.length:Int)):oa e xs i=xs[i.toNat]'(by omega):=by
 unfold oa;grind
section
variable {C:cJ} {T:Nat->aa} {bs:Nat->Option aQ} {o:Oper} {s:aE} {res:eC}
variable {w:World}{ty:TypeId}
theorem KN{P:Program}{e:aa}(h:cx P (.slice e) ty){p:Addr}(ak:p.spot=none){n cap:Nat}{k:IntKind}{i:Int}(E:0<=i)(M:i<(n:Int)) :
  (Instr.indexAt ty (.slice (some p) n cap) (.int k i)).run P w=.ok (.pointer (some ⟨p.block,p.off+i.toNat*e.size,none⟩)) w:=by
 obtain⟨j,aM,iF,_⟩:=h.sl;simp[Instr.indexAt,asIntOf,ep aM,E,M,iF.size,Gu ak]
variable {x:Operand}
theorem aoc(aU:ei C.P T){i:Operand}(bp:∀ i,o.dst=some i->i<C.b3)(au:o.op=.indexAddr ty x i)(h:(cR C.aW T bs (bj C.aW s.aD) o).run s.ab=some res):cT C o s res:=by
 simp only[cR,au]at h;split at h
 ·rename_i bQ k n aH G;have dJ:=aU.cb aH (by simp);simp only[c',aG.gf,amU,aG.dF,amZ]at h;obtain⟨⟨c,v⟩,kn,rfl⟩:=h;refine cT.pure (by grind) bp λa w kap F D be hc=>?_;have an:bM C.P s.ab kap F w (use (bj C.aW s.aD x)).2 (a.eval x):=da D x rfl be.1;have M:=qh (da D i rfl be.2) G;have AK:∀ (xs:List bQ.aq),cw C.P (.slice bQ) F w [a.eval x] xs->0<=n/\n<xs.length->∃ r,(execOp a.eval o).run C.P w=.ok (.value r) w/\bM C.P s.ab kap F w (.eL bQ (oa bQ xs n)) r:=by
   intro xs kl aA;obtain⟨a',cap,aF,m1,m2,m3,m4⟩:=kl;have aF:=(aQC aF).1;cases a' with
   | none=>grind
   | some p=>
    obtain⟨eH,ej,jJ⟩:=m4 p rfl (by omega);obtain⟨bE,d1,d2⟩:=jJ n.toNat (by omega);refine⟨_,by simp[execOp,au,aF,M.1,KN dJ ej aA.1 aA.2],⟨p.block,p.off+n.toNat*bQ.size,none⟩,bE,rfl,d1,?_⟩;grind [Zh]
  unfold YQ at kn;split at kn
  ·rename_i e xs gu;simp only[aG.dF]at kn;split at kn
   ·rename_i he;subst he;obtain⟨rfl,rfl⟩:=kn;rw[gu]at an;exact AK xs ((eh rfl).1 an).2 hc
   grind
  ·rename_i b g gu;rw[gu]at an;simp only[aG.gW,aG.dF]at kn;split at kn
   ·rename_i aB;have a6:=D.bH b;unfold c1 at a6;split at kn
    ·rename_i e xs cm;split at kn
     ·rename_i he;subst he;obtain⟨rfl,rfl⟩:=kn;have ag:=an.2 aB.symm (by rw[cm];rfl);rw[cm]at ag a6;have um:(kap b).fT=false:=by
       cases aA:(kap b).fT with
       | false=>rfl
       | true=>rw[a6.1 aA]at hc;grind
      simp  [bL.slice,um,ca.len]at ag;refine⟨_,by simp[execOp,au,ag,M.1,KN dJ (p:=⟨(kap b).ab,(kap b).off,none⟩) rfl hc.1 hc.2];rfl,⟨an.1.1,rfl⟩,λ_ _=>?_⟩;rw[cm];exact⟨by grind [ca.len],um,rfl⟩
     grind
    ·rename_i e xs cm;split at kn
     ·rename_i he;subst he;obtain⟨rfl,rfl⟩:=kn;have ag:=an.2 aB.symm (by rw[cm];rfl);rw[cm]at ag a6;refine AK xs ?_ hc;rw[ag];exact a6
     grind
    grind
   grind
  ·rename_i b g ba G gu;rw[gu]at an;simp only[aG.gW,aG.dF]at kn;split at kn
   ·rename_i aB;have a6:=D.bH b;unfold c1 at a6;split at kn
    ·rename_i e xs cm;split at kn
     ·obtain⟨rfl,rfl⟩:=kn;obtain⟨⟨aO,aT⟩,b7⟩:=an.2 aB.symm (by rw[cm];rfl);rw[cm]at aT b7 a6;simp  [ca.len]at aT b7;rcases b7 with⟨aA,_⟩ | ⟨aA,px,ag,kC,gX⟩
      ·rw[a6.1 aA]at aT;grind
      ·obtain⟨cs,ih,bI,c2,c3,c4,c5⟩:=a6.2 aA;refine⟨_,by simp[execOp,au,ag,M.1,KN dJ (p:=⟨(kap b).ab,px,none⟩) rfl hc.1 hc.2];rfl,⟨an.1.1,rfl⟩,λ_ _=>?_⟩;grind [ca.len,ca.gU]
     grind
    ·rename_i e xs cm;split at kn
     ·rename_i he;subst he;obtain⟨rfl,rfl⟩:=kn;obtain⟨⟨aO,aT⟩,b7⟩:=an.2 aB.symm (by rw[cm];rfl);rw[cm]at aT b7 a6;simp  [ca.len]at aT b7;have hlen:((xs.take G).drop ba).length=G - ba:=by grind
      obtain⟨r,cn,cN⟩:=AK ((xs.take G).drop ba) (Ko a6 aO aT b7) (by omega);grind [Zh]
     grind
    grind
   grind
  ·simp_all
  ·cases kn
 ·rename_i m bQ k n aH G;split at h
  ·rename_i dz a1 xs gu;split at h
   ·rename_i he;obtain⟨rfl,rfl⟩:=he;simp  [c']at h;subst h;refine cT.pure (by grind) bp λa w kap F D be hc=>?_;have an:bM C.P s.ab kap F w (use (bj C.aW s.aD x)).2 (a.eval x):=da D x rfl be.1;rw[gu]at an;have M:=qh (da D i rfl be.2) G;obtain⟨j,aM,ug,_⟩:=(aU.cb aH (by simp)).bo;obtain⟨p,bE,ag,dj,q_⟩:=an;obtain⟨bI,c2,c3,rfl,bB,c7⟩:=Qc q_ (i:=n.toNat) (by omega);refine⟨.pointer (some ⟨p.block,p.off+n.toNat*a1.size,none⟩),?_,⟨p.block,p.off+n.toNat*a1.size,none⟩,c2,rfl,⟨dj.1,rfl,λq bC=>?_⟩,c7⟩
    ·simp[execOp,au,Instr.indexAt,ag,M.1,asIntOf,ep aM,hc.1,hc.2,ug.size,Gu dj.2.1,Instr.sureAddr]
    ·have:=dj.2.2 (bI.length+q) (by grind);grind
   ·cases h
  ·rename_i b g off gu;simp only[aG.gW,aG.dF]at h;split at h
   ·rename_i bz;simp  at bz;simp  at h;subst h;refine cT.pure (by grind) bp λa w kap F D be hc=>?_;have E:bM C.P s.ab kap F w (use (bj C.aW s.aD x)).2 (a.eval x):=da D x rfl be.1;rw[gu]at E;have M:=qh (da D i rfl be.2) G;have al:=E.2 bz.1.symm bz.2;obtain⟨j,aM,ug,_⟩:=(aU.cb aH (by simp)).bo;exact⟨_,by simp[execOp,au,Instr.indexAt,al,M.1,asIntOf,ep aM,hc.1,hc.2,ug.size,Gu (p:=⟨(kap b).ab,off,none⟩) rfl,Instr.sureAddr],⟨E.1.1,rfl⟩,λ_ _=>rfl⟩
   grind
  ·cases h
 ·cases h
theorem AL{a:Act}{kap:Nat->bL}{F:Nat->Prop}(D:bx C s a w kap F){x:Option Operand}{p:Prop}{n:Option Int}(h:lq (bj C.aW s.aD) x=some (p,n))(ak:p) :
  (x=none/\n=none)\/∃ y k m,x=some y/\n=some m/\a.eval y=.int k m:=by
 cases x with
 | none=>grind [lq]
 | some y=>
  simp  [lq]at h;split at h
  ·rename_i q k m hu;obtain⟨rfl,rfl⟩:=h;exact .inr ⟨y,k,m,rfl,rfl,(hR.1 (da D y hu ak)).1⟩
  grind
theorem Qo{P:Program}{isS:Bool}{len cap:Nat}{ba G:Option Value}{l h:Option Int}(ai:(ba=none/\l=none)\/∃ k m,ba=some (.int k m)/\l=some m)(dj:(G=none/\h=none)\/∃ k m,G=some (.int k m)/\h=some m)
  (E:0<=dG l) (M:dG l<=fV len h) (al:fV len h<=(cap:Int)) (_h4:len<=cap):(Instr.sliceBounds isS len cap ba G none).run P w=.ok ((dG l).toNat,(fV len h).toNat,cap) w:=by
 rcases ai with⟨rfl,rfl⟩ | ⟨k,m,rfl,rfl⟩<;>rcases dj with⟨rfl,rfl⟩ | ⟨k',dz,rfl,rfl⟩<;>simp  [dG,fV]at E M al ⊢
 ·rfl
 ·simp_all[Instr.sliceBounds,Instr.sliceBound,asIntOf]
 ·simp_all[Instr.sliceBounds,Instr.sliceBound,asIntOf]
 ·have aF:0<=dz/\dz<=cap:=by omega
  have c7:max dz 0=dz:=by omega
  simp_all[Instr.sliceBounds,Instr.sliceBound,asIntOf]
theorem aod{l h:Option Int}{n m:Nat}(Zi:n<=m):Gb l h n m<=m:=by
 unfold Gb;grind
theorem aoe(aU:ei C.P T){ba G:Option Operand}(bp:∀ i,o.dst=some i->i<C.b3)(au:o.op=.slice ty x ba G none)(h:(cR C.aW T bs (bj C.aW s.aD) o).run s.ab=some res):cT C o s res:=by
 simp  [cR,au,Kr]at h;split at h
 ·rename_i ol l sO qk bS AM;have ay:∀ c,o.op≠.defer c:=by grind
  have vp:∀ (a:Act) (w:World) kap F,bx C s a w kap F->ol->sO->((ba.map a.eval=none/\l=none)\/∃ k m,ba.map a.eval=some (.int k m)/\l=some m)/\((G.map a.eval=none/\qk=none)\/∃ k m,G.map a.eval=some (.int k m)/\qk=some m):=by
   intro a w kap F D yD Gv;constructor
   ·rcases AL D bS yD with⟨rfl,rfl⟩ | ⟨y,k,m,rfl,rfl,e⟩<;>grind
   ·rcases AL D AM Gv with⟨rfl,rfl⟩ | ⟨y,k,m,rfl,rfl,e⟩<;>grind
  split at h
  ·rename_i bQ aH;have dJ:=aU.cb aH (by simp);obtain⟨j,aM,iF,oV⟩:=dJ.sl;simp only[aG.gf,amU]at h;obtain⟨⟨c,v⟩,jW,h⟩:=h;simp  [c',amZ]at h;subst h;have runs:∀ (a:Act) (w:World) kap F,bx C s a w kap F->ol->sO->∀ (q:Option Addr) (n cap:Nat),a.eval x=.slice q n cap->n<=cap->0<=dG l/\dG l<=fV n qk/\fV n qk<=cap->
     (execOp a.eval o).run C.P w=.ok (.value (.slice (if cap=(dG l).toNat then q else q.map (·.add ((dG l).toNat*bQ.size))) ((fV n qk).toNat - (dG l).toNat) (cap - (dG l).toNat))) w:=by
    intro a w kap F D yD Gv q n cap ag aA hc;obtain⟨dv,fc⟩:=vp a w kap F D yD Gv;have:=Qo (P:=C.P) (w:=w) (isS:=true) dv fc hc.1 hc.2.1 hc.2.2 aA;simp[execOp,au,ag,Instr.sliceAt,Instr.slice,ep aM,this,iF.size]
   unfold YR at jW;split at jW
   ·rename_i e xs gu;simp only[aG.dF]at jW;split at jW
    ·obtain⟨rfl,rfl⟩:=jW;refine cT.pure ay bp λa w kap F D be hc=>?_;have an:bM C.P s.ab kap F w (use (bj C.aW s.aD x)).2 (a.eval x):=da D x rfl be.1;rw[gu]at an;obtain⟨_,a',cap,aF,m1,m2,m3,m4⟩:=(eh rfl).1 an;have aF:=(aQC aF).1;refine⟨_,runs a w kap F D be.2.1 be.2.2 a' xs.length cap aF m1 ⟨hc.1,hc.2.1,by omega⟩,(eh rfl).2 ⟨rfl,?_⟩⟩;have hlen:((xs.take (fV xs.length qk).toNat).drop (dG l).toNat).length=(fV xs.length qk).toNat - (dG l).toNat:=by
      simp_all
     refine⟨_,_,by rw[hlen],by omega,by omega,?_,λp ak C6=>?_⟩
     ·intro aA;split at aA
      ·omega
      simp_all
     ·cases a' with
      | none=>split at ak<;>cases ak
      | some q=>
       obtain⟨eH,ej,jJ⟩:=m4 q rfl (by omega);have bC:∃ d,p=⟨q.block,q.off+d,none⟩/\(d=(dG l).toNat*e.size\/cap=(dG l).toNat):=by
        split at ak
        ·omega
        ·simp  at ak;rw[Gu ej]at ak;grind
       obtain⟨d,rfl,Kl⟩:=bC;refine⟨eH,rfl,λi G=>?_⟩;obtain⟨bE,d1,d2⟩:=jJ ((dG l).toNat+i) (by omega);rcases Kl with rfl | xb<;>grind
    grind
   ·rename_i gu;obtain⟨rfl,rfl⟩:=jW;refine cT.pure ay bp λa w kap F D be hc=>?_;have an:bM C.P s.ab kap F w (use (bj C.aW s.aD x)).2 (a.eval x):=da D x rfl be.1;rw[gu]at an;have kG:=hc;have dA:=runs a w kap F D be.2.1 be.2.2 none 0 0 an (amY _) kG;have aV:(fV 0 qk).toNat=0:=by omega
    rw[aV]at dA;refine⟨_,dA,?_⟩;simp only[bM];simp
   ·rename_i b g gu;simp only[aG.gW,aG.dF]at jW;split at jW
    ·rename_i bz;simp  at bz;obtain⟨⟨aB,gi⟩,KC⟩:=bz;obtain⟨rfl,rfl⟩:=jW;refine cT.pure ay bp λa w kap F D be hc=>?_;have an:bM C.P s.ab kap F w (use (bj C.aW s.aD x)).2 (a.eval x):=da D x rfl be.1;rw[gu]at an;have ag:=an.2 aB.symm gi;obtain⟨eH,ej⟩:=Dd D gi;cases aA:(kap b).fT with
     | true=>
      have aV:=eH aA;simp  [bL.slice,aA]at ag;rw[aV]at hc;have dA:=runs a w kap F D be.2.1 be.2.2 none 0 0 ag (amY _) hc;refine⟨_,dA,⟨an.1.1,by rfl⟩,λ_ _=>⟨by grind,.inl ⟨aA,?_⟩⟩⟩;grind
     | false=>
      have xb:=Qd D gi aA;simp  [bL.slice,aA,aQv]at ag;have dA:=runs a w kap F D be.2.1 be.2.2 _ _ _ ag xb ⟨hc.1,hc.2.1,by omega⟩;refine⟨_,dA,⟨an.1.1,by rfl⟩,λ_ _=>⟨by omega,.inr ⟨aA,?_⟩⟩⟩;rw[<-KC];by_cases kY:(kap b).cap=(dG l).toNat
      ·grind
      ·rw[if_neg kY];simp only[aR2,uf];simp
    grind
   ·rename_i b g fO aV gu;simp only[aG.gW,aG.dF]at jW;split at jW
    ·rename_i bz;simp  at bz;obtain⟨⟨aB,gi⟩,KC⟩:=bz;obtain⟨rfl,rfl⟩:=jW;refine cT.pure ay bp λa w kap F D be hc=>?_;have an:bM C.P s.ab kap F w (use (bj C.aW s.aD x)).2 (a.eval x):=da D x rfl be.1;rw[gu]at an;obtain⟨⟨aO,aT⟩,b7⟩:=an.2 aB.symm gi;obtain⟨eH,ej⟩:=Dd D gi;have vA:Gb l qk (aV - fO) ((s.ab b).body.len - fO)<=(s.ab b).body.len - fO:=aod (by omega);revert hc vA;generalize Gb l qk (aV - fO) ((s.ab b).body.len - fO)=lim;intro hc vA;rcases b7 with⟨aA,ag⟩ | ⟨aA,px,ag,kC,gX⟩
     ·have KO:=eH aA;have bQ:aV - fO=0:=by omega
      have elim:lim=0:=by omega
      rw[elim]at hc;grind
     ·have xb:=Qd D gi aA;have dA:=runs a w kap F D be.2.1 be.2.2 _ _ _ ag (by omega) ⟨hc.1,hc.2.1,by omega⟩;refine⟨_,dA,⟨an.1.1,by rfl⟩,λ_ _=>⟨by omega,.inr ⟨aA,?_⟩⟩⟩;rw[<-KC];have aF:(fV (aV - fO) qk).toNat - (dG l).toNat=fO+(fV (aV - fO) qk).toNat - (fO+(dG l).toNat):=by omega
      have bB:(kap b).cap - fO - (dG l).toNat=(kap b).cap - (fO+(dG l).toNat):=by omega
      rw[aF,bB];have c7:(fO+(dG l).toNat)*(s.ab b).body.gU=fO*(s.ab b).body.gU+(dG l).toNat*(s.ab b).body.gU:=aQ8 _ _ _;by_cases kY:(kap b).cap - fO=(dG l).toNat
      ·rw[if_pos kY];exact⟨_,rfl,by omega,λh=>by omega⟩
      ·rw[if_neg kY];simp only[aR2,uf];exact⟨_,rfl,by omega,λh=>by omega⟩
    grind
   ·cases jW
  ·rename_i aH;have dJ:=(aU.cb aH (by simp)).str;split at h
   ·rename_i c v jW;simp  [c']at h;subst h;unfold YS at jW;split at jW
    ·rename_i xs gu;obtain⟨rfl,rfl⟩:=jW;refine cT.pure ay bp λa w kap F D be hc=>?_;have an:bM C.P s.ab kap F w (use (bj C.aW s.aD x)).2 (a.eval x):=da D x rfl be.1;rw[gu]at an;obtain⟨ag,dx⟩:=lf.1 an;obtain⟨dv,fc⟩:=vp a w kap F D be.2.1 be.2.2;have ax:ByteArray.size ⟨xs.toArray⟩=xs.length:=by rfl
     have:=Qo (P:=C.P) (w:=w) (isS:=false)     dv fc hc.1 hc.2.1 hc.2.2 (amY _);refine⟨.string ⟨((xs.take (fV xs.length qk).toNat).drop (dG l).toNat).toArray⟩,?_,lf.2 ⟨rfl,by grind⟩⟩;simp  [execOp,au,ag,Instr.sliceAt,Instr.slice,ep dJ,ax,this];have he:ByteArray.extract ⟨xs.toArray⟩ (dG l).toNat (fV xs.length qk).toNat=⟨((xs.take (fV xs.length qk).toNat).drop (dG l).toNat).toArray⟩:=by
      apply ByteArray.ext;rw[ByteArray.data_extract];grind
     grind
    grind
   ·cases h
  ·cases h
 ·cases h
end
end Go.Fer
namespace Go.Fer
open Go.RowKit
def h6(P:Program)(e:aa)(F:Nat->Prop)(w:World)(all:List Value)(xs:List e.aq):Prop:=
 all.length=xs.length*e.size/\∀ i (h:i<xs.length),cw P e F w ((all.drop (i*e.size)).take e.size) xs[i]
variable {P:Program}{e:aa}{F:Nat->Prop}{w:World}
theorem h6.append{l m:List Value}{xs br:List e.aq}(h:h6 P e F w l xs)(k:h6 P e F w m br):h6 P e F w (l++m) (xs++br):=by
 refine⟨by simp[h.1,k.1,aQ8],λi G=>?_⟩;by_cases an:i<xs.length
 ·have aF:(xs++br)[i]=xs[i]:=List.getElem_append_left an;rw[aF];have hle:(i+1)*e.size<=xs.length*e.size:=am4 _ (by omega);rw[aQ8]at hle;have:((l++m).drop (i*e.size)).take e.size=(l.drop (i*e.size)).take e.size:=by
   rw[List.drop_append_of_le_length (by rw[h.1];omega),List.take_append_of_le_length (by simp[h.1];omega)]
  rw[this];exact h.2 i an
 ·have ea:i - xs.length<br.length:=by grind
  have aF:(xs++br)[i]=br[i - xs.length]:=aRB (by omega);rw[aF];have hm:i*e.size=xs.length*e.size+(i - xs.length)*e.size:=by rw[<-aQ8];grind
  have:(l++m).drop (i*e.size)=m.drop ((i - xs.length)*e.size):=by
   rw[hm,<-h.1];simp
  rw[this];exact k.2 _ ea
theorem h6.Gw{all pre post:List Value}{cs:Array Value}{xs:List e.aq}(h:h6 P e F w all xs)(hc:cs.toList=pre++(all++post)):nD P e F w cs pre.length xs:=by
 intro i G;refine⟨_,λj aM=>?_,h.2 i G⟩;rw[<-aQP,hc];grind
theorem KP{P:Program}{e:aa}{F:Nat->Prop}{w:World}:∀ {xs:List e.aq} {p:Addr},(0<xs.length->p.spot=none)->(∀ i (h:i<xs.length),∃ bE,mV w ⟨p.block,p.off+i*e.size,none⟩ bE/\cw P e F w bE xs[i])->
  ∃ all,h6 P e F w all xs/\mV w p all
 | [],p,ak,_=>⟨[],⟨by simp,λi G=>by grind⟩,λh=>by grind,λj aM=>by grind⟩
 | x::xs,p,ak,h=>by
  obtain⟨bE,d1,d2⟩:=h 0 (by simp);have hy:=jT e d2;obtain⟨all,cH,b1⟩:=KP (P:=P) (F:=F) (w:=w) (xs:=xs) (p:=⟨p.block,p.off+e.size,none⟩) (λ_=>rfl) (λi G=>by
   obtain⟨Zg,aO,aT⟩:=h (i+1) (by grind);grind)
  refine⟨bE++all,?_,λ_=>ak (by simp),λj aM=>?_⟩
  ·have E:h6 P e F w bE [x]:=⟨by grind,λi G=>by
    have:i=0:=by grind
    subst this;grind⟩
   exact E.append cH
  ·rcases aRs j bE.length with E | E
   ·have:=d1.2 j E;grind
   ·have:=b1.2 (j - bE.length) (by grind);grind
section
variable {C:cJ} {T:Nat->aa} {bs:Nat->Option aQ} {o:Oper} {s:aE} {res:eC}
variable {v:Value}
theorem AN{a:Act}{kap:Nat->bL}(D:bx C s a w kap F){av:aN}{br:List e.aq}{l:List Nat}(h:(en (.slice e) av).run s.ab=some (br,l))(ag:bM C.P s.ab kap F w av v) :
  ∃ q cap,v=.slice q br.length cap/\((q=none/\br=[]/\cap=0)\/∃ p all,q=some p/\h6 C.P e F w all br/\mV w p all):=by
 have AK:∀ {xs:List e.aq},cw C.P (.slice e) F w [v] xs->∃ q cap,v=.slice q xs.length cap/\((q=none/\xs=[]/\cap=0)\/∃ p all,q=some p/\h6 C.P e F w all xs/\mV w p all):=by
  intro xs an;obtain⟨q,cap,aF,m1,m2,m3,m4⟩:=an;refine⟨q,cap,(aQC aF).1,?_⟩;cases q with
  | none=>
   simp_all
  | some p=>
   obtain⟨all,cH,b1⟩:=KP           (λh=>(m4 p rfl (by omega)).2.1) (λi G=>let ⟨bE,d1,d2⟩:=(m4 p rfl (by omega)).2.2 i G;⟨bE,d1.P7,d2⟩);grind
 cases av with
 | val dO y=>
  simp  [en]at h;obtain⟨z,bz,rfl,_⟩:=h;exact AK (((eh rfl).1 (C5 bz ag)).2)
 | dd=>
  simp  [en,l',aa.gb,eK]at h;grind [bM]
 | own b g=>
  simp only[en,l',aa.gb,if_true,eK,aG.gW,aG.dF]at h;split at h
  ·rename_i aB;have a6:=D.bH b;unfold c1 at a6;split at h
   ·rename_i a1 xs cm;simp  at h;obtain⟨z,bz,rfl,_⟩:=h;obtain⟨Gx,rfl⟩:=mU bz;have Dj:=ag.2 aB.symm (by rw[cm];rfl);rw[cm]at Dj a6;simp  [ca.len]at Dj;cases aA:(kap b).fT with
    | true=>
     have kl:=a6.1 aA;grind [bL.slice]
    | false=>
     obtain⟨cs,ih,bI,c2,c3,c4,c5⟩:=a6.2 aA;simp  [bL.slice]at Dj;obtain⟨all,cH,b1⟩:=KP         (p:=⟨(kap b).ab,(kap b).off,none⟩) (λ_=>rfl) (λi G=>by
      obtain⟨bE,d1,d2⟩:=c5 i G;exact⟨bE,⟨λ_=>rfl,λj aM=>by grind [AF]⟩,d2⟩)
     grind
   ·rename_i a1 xs cm;simp  at h;obtain⟨z,bz,rfl,_⟩:=h;obtain⟨Gx,rfl⟩:=mU bz;have Dj:=ag.2 aB.symm (by rw[cm];rfl);grind [ca.len,mA]
   grind
  grind
 | sub b g ba G=>
  simp only[en,l',aa.gb,if_true,eK,aG.gW,aG.dF]at h;split at h
  ·rename_i aB;have a6:=D.bH b;unfold c1 at a6;split at h
   ·rename_i a1 xs cm;simp  at h;obtain⟨z,bz,rfl,_⟩:=h;obtain⟨Gx,rfl⟩:=mU bz;cases Gx;obtain⟨⟨aO,aT⟩,b7⟩:=ag.2 aB.symm (by rw[cm];rfl);rw[cm]at aT b7 a6;simp  [ca.len,ca.gU]at aT b7;have hlen:((xs.take G).drop ba).length=G - ba:=by grind
    rcases b7 with⟨aA,Dj⟩ | ⟨aA,px,Dj,kC,gX⟩
    ·have kl:=a6.1 aA;grind
    ·obtain⟨cs,ih,bI,c2,c3,c4,c5⟩:=a6.2 aA;obtain⟨all,cH,b1⟩:=KP (P:=C.P) (F:=F)   (xs:=(xs.take G).drop ba) (p:=⟨(kap b).ab,px,none⟩) (λ_=>rfl) (λi ea=>by
      obtain⟨bE,d1,d2⟩:=c5 (ba+i) (by omega);refine⟨bE,⟨λ_=>rfl,λj aM=>?_⟩,?_⟩
      ·rw[AF bI];grind
      grind)
     grind
   ·rename_i a1 xs cm;simp  at h;obtain⟨z,bz,rfl,_⟩:=h;obtain⟨Gx,rfl⟩:=mU bz;cases Gx;obtain⟨⟨aO,aT⟩,b7⟩:=ag.2 aB.symm (by rw[cm];rfl);rw[cm]at aT b7 a6;exact AK (Ko a6 aO aT b7)
   grind
  grind
 | eL dO y=>simp_all[en,l',eK,aG.none]
 | vq a1 y=>
  simp  [en,l',aa.gb,eK,aQx]at h;obtain⟨z,bz,rfl,_⟩:=h;exact AK (((eh rfl).1 (C5 bz ag.1)).2)
 | lg u=>simp_all[en,l',aa.gb,eK,F7]
 | _=>simp[en,l',aa.gb,eK,aG.none]at h
variable {cap:Nat}
theorem Qp{q:Option Addr}{n:Nat}{xs:List e.aq}(aA:n=xs.length)(h:(q=none/\xs=[]/\cap=0)\/∃ p all,q=some p/\h6 P e F w all xs/\mV w p all) :
  ∃ all,(Builtin.firstCells e.size n (.slice q n cap)).run P w=.ok all.toArray w/\h6 P e F w all xs:=by
 subst aA;rcases h with⟨rfl,rfl,rfl⟩ | ⟨p,all,rfl,cH,b1⟩
 ·exact⟨[],by rfl,by simp[h6]⟩
 ·refine⟨all,?_,cH⟩;simp  [Builtin.firstCells];rw[<-cH.1];exact C' b1
theorem aof(n:Nat):∀ (k c:Nat),Builtin.growBy n k c<=max c (2*n+768):=by
 intro k;induction k with
 | zero=>grind [Builtin.growBy]
 | succ k aR=>
  grind [Builtin.growBy]
theorem aog{Qq:Nat}(h:cap<Qq):Builtin.nextslicecap Qq cap<=2*Qq+768:=by
 grind [Builtin.nextslicecap,aof]
theorem aoh{z:Array Value}{n k:Nat}(h:z.size=k):(Builtin.zeroCells z n).size=n*k:=by grind [Builtin.zeroCells]
structure xc(P:Program)(e:aa)(F:Nat->Prop)(w:World)(mW:TypeId)(v:Value)(br:List e.aq):Prop where
 Zj:(∃ j,P.underlying mW=some (.slice j))\/P.underlying mW=some .string
 len:∀ ch,(Builtin.lenOf v).run P ch=.ok br.length ch
 cells:∃ fo:List Value,(∀ ch,ch=w\/ch=w.drew->(Builtin.firstCells e.size br.length v).run P ch=.ok fo.toArray ch)/\h6 P e F w fo br
theorem xc.slice{mW:TypeId}{q':Option Addr}{yE:Nat}{br:List e.aq}(hu:∃ j,P.underlying mW=some (.slice j))(ag:v=.slice q' br.length yE)
  (bf:(q'=none/\br=[]/\yE=0)\/∃ p all,q'=some p/\h6 P e F w all br/\mV w p all):xc P e F w mW v br:=by
 subst ag;refine⟨.inl hu,λch=>rfl,?_⟩;rcases bf with⟨rfl,rfl,rfl⟩ | ⟨p,all,rfl,cH,b1⟩
 ·simp_all[Builtin.firstCells,h6]
 ·refine⟨all,λch E=>?_,cH⟩;simp  [Builtin.firstCells];rw[<-cH.1];rcases E with rfl | rfl
  ·exact C' b1
  ·exact C'   b1
theorem aoi{ty mW:TypeId}(h:cx P (.slice e) ty){q:Option Addr}{xs br:List e.aq}
  (an:(q=none/\xs=[]/\cap=0)\/∃ p all,q=some p/\h6 P e F w all xs/\mV w p all) (bf:xc P e F w mW v br)
  (hc:cap<xs.length+br.length) (ai:b2 (xs.length+br.length)) (rt:TypeId) :
  ∃ me uo cs,(Builtin.append_ #[ty,mW] rt #[.slice q xs.length cap,v]).run P w=.ok (.slice (some ⟨w.heap.size,0,none⟩) (xs.length+br.length) uo) (w.drew.alloc (.cells cs me))/\
   (uo<2 ^ 63/\w4 P e me)/\xs.length+br.length<=uo/\cs.size=uo*e.size/\nD P e F w cs 0 (xs++br):=by
 obtain⟨me,aM,iF,oV⟩:=h.sl;obtain⟨KQ,Gy,fo,xd,jo⟩:=bf;obtain⟨i,z,i1,i2,i3,i4,i5,i6⟩:=nF iF.nE;have bz:=(Gr e (P:=P) i5).2;have aoj:∀ t,xs.length+br.length<=xs.length+br.length+t % (2 ^ 63 - (xs.length+br.length))/\xs.length+br.length+t % (2 ^ 63 - (xs.length+br.length))<2 ^ 63:=by
  intro t;unfold b2 at ai;have:t % (2 ^ 63 - (xs.length+br.length))<2 ^ 63 - (xs.length+br.length):=Nat.mod_lt _ (by omega);omega
 generalize Zk:xs.length+br.length+(w.tape w.drawn (.appendCap (xs.length+br.length) cap me)) % (2 ^ 63 - (xs.length+br.length))=uo;have Qr:=aoj (w.tape w.drawn (.appendCap (xs.length+br.length) cap me));rw[Zk]at Qr;have aok:∀ {p:Addr} {all:List Value},mV w p all->mV w.drew p all:=λh=>h;have Zl:∀ {all:List Value} {zs:List e.aq},h6 P e F w all zs->h6 P e F w.drew all zs:=λh=>⟨h.1,λi G=>fM e     (w:=w)   (λ_ D=>D) ⟨amY _,λ_ _=>rfl⟩ (h.2 i G)⟩
 have oR:(q=none/\xs=[]/\cap=0)\/∃ p all,q=some p/\h6 P e F w.drew all xs/\mV w.drew p all:=an.imp id λ⟨p,all,a,b,c⟩=>⟨p,all,a,Zl b,aok c⟩
 obtain⟨rb,kC,gX⟩:=Qp       rfl oR;have eH:=xd w.drew (.inr rfl);have ej:=Zl jo;refine⟨me,uo,rb.toArray++fo.toArray++Builtin.zeroCells z.cells (uo - (xs.length+br.length)),?_,⟨Qr.2,iF.KD⟩,Qr.1,?_,?_⟩
 ·have U:=aog hc;have xe:=by
   unfold b2 at ai;calc Builtin.nextslicecap (xs.length+br.length) cap*i.bytes<=(2*4294967296+768)*1024:=Nat.mul_le_mul (by omega) i3
    _<=281474976710656:=by decide
  have AO:¬((xs.length+br.length:Nat)) > IntKind.i64.max:=by
   have:IntKind.i64.max=9223372036854775807:=by decide
   omega
  have Zm:¬Builtin.nextslicecap (xs.length+br.length) cap*i.bytes > 2 ^ 48:=by
   omega
  have Qs:(Question.appendCap (xs.length+br.length) cap me).cut (w.tape w.drawn (.appendCap (xs.length+br.length) cap me))=uo:=by
   rw[<-Zk];rfl
  have Zn:(Question.appendCap (xs.length+br.length) cap me).forced=false:=rfl;rcases KQ with⟨mZ,gV⟩ | gV
  ·simp only[Builtin.append_,aRn,aRJ,aRi,Sem.run_bind,ep aM,ep gV,Result.andThen_ok,ub i1,i2,Sem.run_pure,Gy,amW,aQv,if_neg (show ¬xs.length+br.length<=cap by omega),AO,false_and,Gj i1,Zm,run_choose,Zn,Qs,run_askRoom,aRh,if_true,World.drew_eq,kC,eH,sR i1 i4];rfl
  ·simp only[Builtin.append_,aRn,aRJ,aRi,Sem.run_bind,ep aM,ep gV,Result.andThen_ok,ub i1,i2,Sem.run_pure,Gy,amW,aQv,if_neg (show ¬xs.length+br.length<=cap by omega),AO,false_and,Gj i1,Zm,run_choose,Zn,Qs,run_askRoom,aRh,if_true,World.drew_eq,kC,eH,sR i1 i4];rfl
 ·have E:=gX.1;have M:=ej.1;simp  [aoh bz,M];grind [Nat.add_mul]
 ·have hV:=gX.append ej;have aol:h6 P e F w (rb++fo) (xs++br):=⟨hV.1,λi G=>fM e     (w:=w.drew)   (λ_ D=>D) ⟨amY _,λ_ _=>rfl⟩ (hV.2 i G)⟩
  exact aol.Gw (pre:=[]) (post:=(Builtin.zeroCells z.cells (uo - (xs.length+br.length))).toList) (by simp)
end
end Go.Fer
namespace Go.Fer
open Go.RowKit
section
variable {C:cJ} {T:Nat->aa} {bs:Nat->Option aQ} {o:Oper} {s:aE} {res:eC}
variable {w:World}{F:Nat->Prop}{e:aa}
theorem bx.Gz{a:Act}{w':World}{kap:Nat->bL}(h:bx C s a w kap F){b g:Nat}{zs:List e.aq}{k:bL}(aB:(s.ab b).gen<g)(mf:k.fT=true\/k.ab=w.heap.size)(cQ:w.heap.size<=w'.heap.size)
  (oW:∀ r,r<w.heap.size->w'.heap[r]?=w.heap[r]?) (dx:k.fT=false->k.ab<w'.heap.size) (hc:dN w w')
  (cm:∀ H bV,mA C.P H bV F w' k (.bo e zs)):bx C (s.cq b ⟨g,.bo e zs⟩) a w' (λi=>if i=b then k else kap i) F:=by
 have ai:fN s.ab kap (λi=>if i=b then (⟨g,.bo e zs⟩) else s.ab i) (λi=>if i=b then k else kap i):=C2 aB λbk dZ=>by grind
 have he:dk F w w':=⟨cQ,λr D=>oW r (h.du r D)⟩
 refine h.move   ai (λ_ D=>D) (λ_ D=>.inl D) cQ (λr D _=>oW r D) hc (λ_=>?_) ?_ ?_ (λr D=>aQt (h.du r D) cQ) (C3 (.inr ⟨rfl,rfl⟩) λbk dZ=>by grind)
 ·intro i;by_cases G:i=b
  ·grind [c1]
  ·exact c1.lj (h.bH i) ai (λ_ D=>D) he (by grind) (by grind) λau=>oW _ (h.own i au).1
 ·intro i G;by_cases bJ:i=b
  ·subst bJ;simp  [ca.cg]at G ⊢;have aj:=mf.resolve_left (by grind);refine⟨dx G,λaC=>?_,.inr (by omega)⟩;have:=h.du _ aC;omega
  ·simp  [if_neg bJ]at G ⊢;have:=h.own i G;grind
 ·intro i j G aM a1;by_cases bJ:i=b<;>by_cases pn:j=b
  ·omega
  ·simp  [if_pos bJ,if_neg pn,ca.cg]at G aM a1;have aj:=mf.resolve_left (by grind);have:=(h.own j aM).1;omega
  ·simp  [if_neg bJ,if_pos pn,ca.cg]at G aM a1;have aj:=mf.resolve_left (by grind);have:=(h.own i G).1;omega
  ·simp  [if_neg bJ,if_neg pn]at G aM a1;exact h.inj i j G aM a1
theorem aom(s:aE)(b:Nat)(x y:b_):(s.cq b x).cq b y=s.cq b y:=by
 simp_all[aE.cq]
theorem bx.aon{a:Act}{kap:Nat->bL}(h:bx C s a w kap F){b:Nat}{xs:List e.aq}(U:(s.ab b).body=.bo e xs){ba G:Nat}(E:ba<=G)(M:G<=xs.length){v:Value}(ax:Ki (kap b) e.size ba G v) :
  ∃ bV,bx C (s.cq b ⟨(s.ab b).gen+1,.bo e ((xs.take G).drop ba)⟩) a w bV F/\v=(bV b).slice ((xs.take G).drop ba).length:=by
 have hlen:((xs.take G).drop ba).length=G - ba:=by simp;omega
 have hx:∀ bV:Nat->bL,(∀ bk,bk≠b->bV bk=kap bk)->fN s.ab kap (λi=>if i=b then (⟨(s.ab b).gen+1,.bo e ((xs.take G).drop ba)⟩:b_) else s.ab i) bV:=
  λbV Km=>C2 (aRe _) Km
 have a6:=h.bH b;unfold c1 at a6;rw[U]at a6;rcases ax with⟨aA,rfl⟩ | ⟨aA,o,rfl,kC,gX⟩
 ·have kl:=a6.1 aA;subst kl;refine⟨kap,?_,by simp[bL.slice,aA]⟩;refine h.move (H':=λi=>if i=b then (⟨(s.ab b).gen+1,.bo e ((([]:List e.aq).take G).drop ba)⟩:b_) else s.ab i) (hx kap λ_ _=>rfl) (λ_ D=>D) (λ_ D=>.inl D) (amY _) (λ_ _ _=>rfl) (dN.refl _) (λ_=>?_) ?_ ?_ h.du (C3 (.inr ⟨rfl,rfl⟩) λ_ _=>rfl)
  ·intro i;by_cases G:i=b
   ·subst G;simp only[c1,if_true];exact⟨λ_=>by simp,λh=>by rw[aA]at h;cases h⟩
   ·exact c1.lj (h.bH i) (hx kap λ_ _=>rfl) (λ_ D=>D) (dk.refl _ _) (by simp[G]) rfl λ_=>rfl
  ·intro i G;by_cases bJ:i=b
   ·subst bJ;simp[ca.cg,aA]at G
   ·simp only[if_neg bJ]at G;exact⟨(h.own i G).1,(h.own i G).2.1,.inl ⟨i,G,rfl⟩⟩
  ·intro i j G aM a1;by_cases bJ:i=b
   ·grind [ca.cg]
   ·by_cases pn:j=b
    ·grind [ca.cg]
    ·simp  [if_neg bJ,if_neg pn]at G aM;exact h.inj i j G aM a1
 ·obtain⟨cs,ih,bI,c2,c3,c4,c5⟩:=a6.2 aA;let k':bL:=⟨(kap b).ab,o,(kap b).cap - ba,false⟩
  let bV:=λi=>if i=b then k' else kap i
  have GA:∀ bk,bk≠b->bV bk=kap bk:=λbk h=>if_neg h;have Qt:bV b=k':=if_pos rfl;have eJ:=h.own b (by grind [ca.cg]);refine⟨bV,?_,by grind [bL.slice]⟩;refine h.move   (hx bV GA) (λ_ D=>D) (λ_ D=>.inl D) (amY _) (λ_ _ _=>rfl) (dN.refl _) (λ_=>?_) ?_ ?_ h.du (C3 (.inr ⟨rfl,rfl⟩) GA)
  ·intro i;by_cases ea:i=b
   ·subst ea;simp  [c1,Qt];have hmul:ba*e.size<=(kap i).cap*e.size:=am4 _ (by omega);refine⟨λh=>(by grind),λ_=>⟨cs,ih,bI,?_,by grind,⟨by grind,c4.2⟩,λj aM=>?_⟩⟩
    ·grind [Nat.sub_mul]
    ·obtain⟨bE,d1,d2⟩:=c5 (ba+j) (by omega);grind
   ·exact c1.lj (h.bH i) (hx bV GA) (λ_ D=>D) (dk.refl _ _) (by grind) (GA i ea) λ_=>rfl
  ·intro i ea;by_cases bJ:i=b
   ·grind [ca.cg]
   ·simp  [if_neg bJ]at ea;rw[GA i bJ]at ea ⊢;exact⟨(h.own i ea).1,(h.own i ea).2.1,.inl ⟨i,ea,rfl⟩⟩
  ·intro i j ea aM a1;have Zo:∀ i,(bV i).ab=(kap i).ab:=λi=>by
    grind
   have cA:∀ i,((if i=b then (⟨(s.ab b).gen+1,.bo e ((xs.take G).drop ba)⟩) else s.ab i).body.cg (bV i)=true)->(s.ab i).body.cg (kap i)=true:=λi G=>by
    grind [ca.cg]
   rw[Zo,Zo]at a1;exact h.inj i j (cA i ea) (cA j aM) a1
variable {P:Program}
theorem nD.later{w':World}{cs:Array Value}{off:Nat}{xs:List e.aq}(h:nD P e F w cs off xs)(he:dk F w w'):nD P e F w' cs off xs:=h.mono (λ_ D=>D) he
theorem xc.string{mW:TypeId}{v:Value}{str:List UInt8}(hu:P.underlying mW=some .string)(ag:v=.string ⟨str.toArray⟩):xc P (.int .u8) F w mW v (df str):=by
 subst ag;have cQ:(ByteArray.mk str.toArray).size=str.length:=by rfl
 have ai:(df str).length=str.length:=by simp[df]
 refine⟨.inr hu,λch=>?_,(df str).map (Value.int .u8),λch _=>?_,?_,λi G=>?_⟩
 ·show Result.ok (ByteArray.mk str.toArray).size ch=_;grind
 ·rw[ai];show Result.ok ((((ByteArray.mk str.toArray).extract 0 str.length).data.map λb=>Value.int .u8 b.toNat)) ch=_;simp_all[df]
 ·rw[aQJ];exact (Nat.mul_one _).symm
 ·have ax:aa.size (.int .u8)=1:=rfl;have dM:i<((df str).map (Value.int .u8)).length:=by grind
  rw[ax,Nat.mul_one,aQy dM];simp;refine⟨rfl,?_⟩;simp  [df];have:=(str[i]'(by omega)).toNat_lt;exact⟨by show (0)<=_;omega,by show _<=(255);omega⟩
theorem Zp(aU:ei C.P T){x y:Operand}{t u:TypeId}(bp:∀ i,o.dst=some i->i<C.b3)(au:o.op=.call { callee:=.builtin .append,args:=⟨[x,y]⟩,argTypes:=⟨[t,u]⟩ })(aH:T t=.slice e){kW:aN}{lN:Prop}
  (KR:∀ {a:Act} {w:World} {kap:Nat->bL} {F:Nat->Prop} {br:List e.aq} {l:List Nat},bx C s a w kap F->lN->(en (.slice e) kW).run s.ab=some (br,l)->xc C.P e F w u (a.eval y) br)
  (h:(Gc o.dst e (use (bj C.aW s.aD x)).2 kW ((use (bj C.aW s.aD x)).1/\lN)).run s.ab=some res):cT C o s res:=by
 have ay:∀ c,o.op≠.defer c:=by rw[au];intro c hc;cases hc
 have dJ:=aU.cb aH (by simp);obtain⟨me,aM,iF,oV⟩:=dJ.sl;obtain⟨inf,z,i1,i2,i3,i4,i5,i6⟩:=nF iF.nE;have ps:∀ (a:Act) (w w':World) v,(Builtin.append_ #[t,u] o.type #[a.eval x,a.eval y]).run C.P w=.ok v w'->(execOp a.eval o).run C.P w=.ok (.value v) w':=by
  intro a w w' v ag;refine sT au ?_;simp[builtin,ag]
 have main:∀ (s:aE) (a:Act) (w:World) (kap:Nat->bL) (F:Nat->Prop) (Q:Exit->Act->World->Prop) (b g:Nat) (xs br:List e.aq),bx C s a w kap F->
   xc C.P e F w u (a.eval y) br->
   (s.ab b).gen<g->(∃ q cap,a.eval x=.slice q xs.length cap/\((q=none/\xs=[]/\cap=0)\/∃ p all,q=some p/\h6 C.P e F w all xs/\mV w p all))->
   (∀ q cap,a.eval x=.slice q xs.length cap->q≠none->xs.length+br.length<=cap->(s.ab b).body=.bo e xs/\(kap b).fT=false/\q=some ⟨(kap b).ab,(kap b).off,none⟩/\cap=(kap b).cap)->b2 (xs.length+br.length)->
   o.wpIn (e0 C.r) 0 C.P a w (λa' w'=>de C ((s.cq b ⟨g,.bo e (xs++br)⟩).set o.dst (.own b g)) a' w') Q:=by
  intro s a w kap F Q b g xs br D rY Qu vC aoo hlen;obtain⟨q,cap,vC,Qv⟩:=vC;obtain⟨KQ,Gy,fo,aop,ej⟩:=id rY;have eH:=aop w (.inl rfl);have Qw:∀ (bV:Nat->bL) (v:Value) (w':World),bx C (s.cq b ⟨g,.bo e (xs++br)⟩) a w' bV F->v=(bV b).slice (xs++br).length->de C ((s.cq b ⟨g,.bo e (xs++br)⟩).set o.dst (.own b g)) (a.put o.dst v) w':=by
   intro bV v w' bm ag;refine⟨bV,F,bx.set bm bp ⟨⟨by simp[aE.cq],?_⟩,λ_ _=>?_⟩⟩
   ·rw[ag];unfold bL.slice;split<;>rfl
   ·rw[ag];simp[aE.cq,ca.len]
  by_cases GB:xs.length+br.length<=cap
  ·cases bC:q with
   | none=>
    subst bC;obtain⟨aoq,C6⟩:xs=[]/\cap=0:=by
     grind
    subst aoq;subst C6;have Qx:br=[]:=by grind
    subst Qx;have dA:(Builtin.append_ #[t,u] o.type #[a.eval x,a.eval y]).run C.P w=.ok (.slice none 0 0) w:=by
     rw[vC];simp  at eH ⊢;rcases KQ with⟨mZ,gV⟩ | gV<;>(simp[Builtin.append_,ep aM,ep gV,ub i1,Gy];rw[i2,eH];simp)
    refine ig ay (ps a w w _ dA) (Qw _ _ _ (D.Gz (k:=⟨0,0,0,true⟩) Qu (.inl rfl) (amY _) (λ_ _=>rfl) (λh=>by grind) (dN.refl _) λH bV=>⟨λ_=>rfl,λh=>by grind⟩) ?_);simp[bL.slice]
   | some KS=>
    obtain⟨U,um,ak,xb⟩:=aoo q cap vC (by rw[bC];simp) GB;rw[bC]at ak;have ak:=aQ7 ak;subst ak;subst xb;have a6:=D.bH b;unfold c1 at a6;rw[U]at a6;obtain⟨cs,ih,bI,c2,c3,c4,c5⟩:=a6.2 um;skip;have re:=ej.1;have qj:∀ v∈fo,v.oneCell'=true:=by
     intro v ag;obtain⟨j,aM,rfl⟩:=List.mem_iff_getElem.1 ag;have km:0<e.size:=aRN oV;have hdiv:j / e.size<br.length:=(Nat.div_lt_iff_lt_mul km).2 (by rw[<-re];exact aM);have q_:=ej.2 (j / e.size) hdiv;have kg:=C4 (P:=C.P) (H:=λ_=>⟨0,.ez⟩) (kap:=λ_=>⟨0,0,0,true⟩) e q_;have KT:=Nat.mod_lt j km;have Zq:j / e.size*e.size+j % e.size=j:=Nat.div_add_mod' j e.size;have Zr:((fo.drop (j / e.size*e.size)).take e.size).length=e.size:=jT e q_;have:=(kg.oa (j % e.size) (by rw[kg.len,Zr];exact KT)).2;rw[am1,aRO,if_pos KT,aRp,Zq,am3 aM]at this;exact this
    have aor:(kap b).off+xs.length*e.size+0+fo.length<=cs.size:=by
     rw[re];have:(xs.length+br.length)*e.size<=(kap b).cap*e.size:=am4 _ GB;rw[aQ8]at this;omega
    obtain⟨w',eA,cn,cN,fF,oi,mE,oT⟩:=yB (P:=C.P) fo ((kap b).off+xs.length*e.size) 0 w cs bI aor qj;have dA:(Builtin.append_ #[t,u] o.type #[a.eval x,a.eval y]).run C.P w=.ok (.slice (some ⟨(kap b).ab,(kap b).off,none⟩) (xs.length+br.length) (kap b).cap) w':=by
     rw[vC,bC];rcases KQ with⟨mZ,gV⟩ | gV<;>(simp only[Builtin.append_,aRn,aRJ,aRi,Sem.run_bind,ep aM,ep gV,Result.andThen_ok,ub i1,i2,Sem.run_pure,Gy,amW,aQv,if_pos GB,aRh,if_true,eH,uf];simp only[cn,Result.andThen_ok])
    have hx:fN s.ab kap (λi=>if i=b then (⟨g,.bo e (xs++br)⟩:b_) else s.ab i) kap:=C2 Qu λ_ _=>rfl;refine ig ay (ps a w w' _ dA) (Qw kap _ _ (D.q5 (b:=b) (by rw[U];simp[ca.cg,um]) (by simp[ca.cg,um]) hx (λh=>by cases h) (λh=>by cases h) oi mE oT λH pw dx he=>?_) (by simp[bL.slice,um]));refine⟨λh=>(by rw[um]at h;cases h),λ_=>?_⟩;have KK:eA.size=cs.size:=by
     rw[<-aQK,fF];simp only[aQW,aRb,List.length_drop,aQK];omega
    refine⟨eA,ih,cN,by omega,by simp;omega,c4,λi G=>?_⟩;simp only[aSa]at fF;have hW:(cs.toList.take ((kap b).off+xs.length*e.size)).length=(kap b).off+xs.length*e.size:=by grind
    by_cases Zs:i<xs.length
    ·obtain⟨bE,d1,d2⟩:=c5 i Zs;have aF:(xs++br)[i]=xs[i]:=List.getElem_append_left Zs;rw[aF];refine⟨bE,λk aj=>?_,fM e (λ_ D=>D) he d2⟩;have aos:=jT e d2;have hle:(i+1)*e.size<=xs.length*e.size:=am4 _ (by omega);rw[aQ8]at hle;rw[<-aQP,fF,aQO (by omega),aRO];grind
    ·have ea:i - xs.length<br.length:=by grind
     have aF:(xs++br)[i]=br[i - xs.length]:=aRB (by omega);rw[aF];have ql:=ej.Gw     fF;obtain⟨bE,d1,d2⟩:=ql (i - xs.length) ea;refine⟨bE,λk aj=>?_,fM e (λ_ D=>D) he d2⟩;have:=d1 k aj;rw[<-this];congr 1;have:i*e.size=xs.length*e.size+(i - xs.length)*e.size:=by rw[<-aQ8];grind
     omega
  ·obtain⟨aot,uo,cs,cn,cN,fF,oi,mE⟩:=aoi         dJ Qv rY (by omega) hlen o.type;rw[<-vC]at cn;refine ig ay (ps a w _ _ cn) (Qw _ _ _ (D.Gz (k:=⟨w.heap.size,0,uo,false⟩) Qu (.inr rfl) (by simp) (λr D=>?_) (λ_=>by simp) ⟨rfl,rfl,rfl⟩ λH bV=>⟨λh=>(by grind),λ_=>⟨cs,aot,?_,by grind,by grind,cN,?_⟩⟩) ?_)
   ·exact rT w.drew _ D
   ·exact ua w.drew _
   ·exact mE.later ⟨by simp,λr bm=>rT w.drew _ (D.du r bm)⟩
   ·simp[bL.slice]
 simp only[Gc]at h;split at h
 ·rename_i b g gu;simp  at h;split at h
  ·rename_i a1 xs cm;split at h
   ·rename_i uq;subst uq;simp only[aG.gf,amU,aG.dF,amZ]at h;obtain⟨⟨br,l⟩,mc,rfl⟩:=h;have aB:(s.ab b).gen=g/\(s.ab b).body=.bo a1 xs:=by
     grind
    intro a w kap F Q D be hc;have an:bM C.P s.ab kap F w (use (bj C.aW s.aD x)).2 (a.eval x):=da D x rfl be.1;have oR:=an;rw[gu]at oR;have ag:=oR.2 aB.1.symm (by rw[aB.2];rfl);have kl:(en (.slice a1) (use (bj C.aW s.aD x)).2).run s.ab=some (xs,[b]):=by
     rw[gu];simp[en,l',aa.gb,eK,aB.1,aB.2,fE]
    refine main s a w kap F Q b (g+1) xs br D (KR D be.2 mc) (by omega) (AN D kl an) (λq cap bC Qy _=>?_) hc;grind [bL.slice]
   ·cases h
  ·cases h
 ·rename_i b g ba G gu;simp only[aG.gW]at h;split at h
  ·rename_i a1 xs cm;split at h
   ·rename_i uq;subst uq;simp only[aG.gf,amU,aG.dF,amZ]at h;obtain⟨⟨br,l⟩,mc,rfl⟩:=h;have aB:(s.ab b).gen=g/\(s.ab b).body=.bo a1 xs:=by
     grind
    intro a w kap F Q D be hc;have an:bM C.P s.ab kap F w (use (bj C.aW s.aD x)).2 (a.eval x):=da D x rfl be.1;rw[gu]at an;obtain⟨⟨aO,aT⟩,b7⟩:=an.2 aB.1.symm (by rw[aB.2];rfl);rw[aB.2]at aT b7;obtain⟨bV,bm,ag⟩:=D.aon aB.2 aO aT b7;have rY:=KR D be.2 mc;have Zt:(s.cq b ⟨(s.ab b).gen+1,.bo a1 ((xs.take G).drop ba)⟩).ab b=⟨(s.ab b).gen+1,.bo a1 ((xs.take G).drop ba)⟩:=by simp[aE.cq]
    have kl:(en (.slice a1) (.own b (g+1))).run (s.cq b ⟨(s.ab b).gen+1,.bo a1 ((xs.take G).drop ba)⟩).ab=some ((xs.take G).drop ba,[b]):=by
     simp[en,l',aa.gb,eK,aE.cq,aB.1,fE]
    have Qv:bM C.P (s.cq b ⟨(s.ab b).gen+1,.bo a1 ((xs.take G).drop ba)⟩).ab bV F w (.own b (g+1)) (a.eval x):=by
     refine⟨⟨by grind,an.1.2⟩,λ_ _=>?_⟩;rw[Zt];exact ag
    have:=main (s.cq b ⟨(s.ab b).gen+1,.bo a1 ((xs.take G).drop ba)⟩) a w bV F Q b (g+2) ((xs.take G).drop ba) br bm rY (by grind) (AN bm kl Qv) (λq cap bC Qy _=>?_) hc
    ·rw[aom]at this;exact this
    grind [bL.slice]
   ·cases h
  ·cases h
 ·rename_i gu;simp only[aG.gf,amU]at h;obtain⟨⟨br,l⟩,mc,h⟩:=h;obtain⟨b,U,aj⟩:=ue h;simp  at aj;subst aj;intro a w kap F Q D be hc;have an:bM C.P s.ab kap F w (use (bj C.aW s.aD x)).2 (a.eval x):=da D x rfl be.1;rw[gu]at an;simp  [bM]at an;have:=main s a w kap F Q b ((s.ab b).gen+1) [] br D (KR D be.2 mc) (aRe _) ⟨none,0,an,.inl ⟨rfl,rfl,rfl⟩⟩ (λq cap bC Qy _=>by grind) (by grind);exact this
 ·rename_i a1 xs gu;split at h
  ·rename_i uq;subst uq;simp only[aG.gf,amU]at h;obtain⟨⟨br,l⟩,mc,h⟩:=h;obtain⟨b,U,aj⟩:=ue h;simp  at aj;subst aj;intro a w kap F Q D be hc;have an:bM C.P s.ab kap F w (use (bj C.aW s.aD x)).2 (a.eval x):=da D x rfl be.1;rw[gu]at an;obtain⟨Ql,mT,AH⟩:=an;have kl:(en (.slice a1) (.val (.slice a1) xs)).run s.ab=some (xs,[]):=by
    simp[en,fE]
   exact main s a w kap F Q b ((s.ab b).gen+1) xs br D (KR D be.2 mc) (aRe _) (AN D kl Ql) (λq cap bC Qy GB=>by
    grind) hc.2
  ·cases h
 ·cases h
theorem aou(aU:ei C.P T){args:Array Operand}{ds:Array TypeId}(bp:∀ i,o.dst=some i->i<C.b3)(au:o.op=.call { callee:=.builtin .append,args:=args,argTypes:=ds })(h:(Ge T (bj C.aW s.aD) o.dst args.toList ds.toList).run s.ab=some res):cT C o s res:=by
 obtain⟨args⟩:=args;obtain⟨ds⟩:=ds;simp  [Ge]at h;split at h
 ·rename_i x y t u;split at h
  ·rename_i e bB aH hu;obtain⟨aov,gV,_⟩:=(aU.cb hu (by simp)).sl;refine Zp aU bp au aH (λ{a w kap F br l} D be mc=>?_) h;obtain⟨q',yE,AP,rY⟩:=AN D mc (da D y rfl be);grind [xc.slice]
  ·rename_i aH hu;split at h
   ·rename_i str KU;have aMh:=(aU.cb hu (by simp)).str;refine Zp aU bp au aH (λ{a w kap F br l} D be mc=>?_) h;have bf:bM C.P s.ab kap F w (use (bj C.aW s.aD y)).2 (a.eval y):=da D y rfl be;rw[KU]at bf;obtain⟨AP,Qz⟩:=lf.1 bf;have M:(en (.slice (.int .u8)) (.val (.slice (.int .u8)) (df str))).run s.ab=some (df str,[]):=by rfl
    grind [xc.string]
   ·cases h
  ·cases h
 ·cases h
theorem aow{all:List Value}{br:z1'}(h:h6 P (.int .u8) F w all br):all=br.map (Value.int .u8):=by
 obtain⟨E,M⟩:=h;have E:=E.trans (Nat.mul_one _);apply aRV (by grind);intro i G ea;have dM:i<br.length:=by omega
 obtain⟨e,_⟩:=M i dM;have ax:aa.size (.int .u8)=1:=rfl;rw[ax,Nat.mul_one,aQy G]at e;grind
theorem Zu:∀ (br:z1') (s:ByteArray),br.foldl (λr n=>r.push (UInt8.ofNat n.toNat)) s=⟨s.data++(ff br).toArray⟩
 | [],s=>by rfl
 | y::br,s=>by
  rw[aQQ,Zu br];simp_all[ff]
theorem aox(br:z1'):br.foldl (λr n=>r.push (UInt8.ofNat n.toNat)) ByteArray.empty=⟨(ff br).toArray⟩:=by
 rw[Zu];simp
theorem aoy(aU:ei C.P T){QA QB:TypeId}{x:Operand}(bp:∀ i,o.dst=some i->i<C.b3)(au:o.op=.convert QA QB x)(h:(cR C.aW T bs (bj C.aW s.aD) o).run s.ab=some res):cT C o s res:=by
 simp  [cR,au]at h;split at h
 ·rename_i aO k aT n t1 bX an;simp  [c',amZ]at h;subst h;refine cT.pure (by grind) bp λa w kap F D be _=>?_;have E:=qh (da D x rfl be) an;have aF:=(aU.cb t1 (by simp)).int;have bB:=(aU.cb bX (by simp)).int;refine⟨.int k (k.wrap n),?_,hR.2 ⟨rfl,sS _ _⟩⟩;simp_all[execOp,convert,ep,Conv.intToInt]
 ·rename_i t1 bX;simp only[aG.gf,amU,c',aG.dF,amZ]at h;obtain⟨⟨br,l⟩,mc,rfl⟩:=h;refine cT.pure (by grind) bp λa w kap F D be _=>?_;have hu:=da D x rfl be;obtain⟨q,cap,ag,rY⟩:=AN D mc hu;have dx:br.length<2 ^ 63:=by
   have E:=oP   D.bH (λ_ _=>trivial) mc (λ_ _ _=>trivial) hu;obtain⟨_,M⟩:=(eh rfl).1 E;obtain⟨q',yE,aF,m1,m2,_⟩:=M;omega
  obtain⟨me,aM,iF,_⟩:=(aU.cb t1 (by simp)).sl;have aF:=iF.int;have bB:=(aU.cb bX (by simp)).str;refine⟨.string ⟨(ff br).toArray⟩,?_,lf.2 ⟨rfl,by grind [ff]⟩⟩;have hc:(convert QA QB (a.eval x)).run C.P w=.ok (.string ⟨(ff br).toArray⟩) w:=by
   rw[ag,run_convert_bytes_string w QA QB me q br.length cap aM aF bB];rcases rY with⟨rfl,rfl,rfl⟩ | ⟨p,all,rfl,aZ,ur⟩
   ·rfl
   ·have gA:=aow aZ;have ai:=C' (P:=C.P) ur;rw[gA,aQJ]at ai;rw[run_bytesToString w p br.length cap br ai];grind [aox]
  simp_all[execOp]
 ·cases h
end
end Go.Fer
namespace Go.Fer
open Go.RowKit
variable {P:Program}{k:FuncId}{ts:aa}
theorem hI.vs{aS:aa}{sh Zv:ts.aq->L aS.aq}(h:hI P k ts aS sh)(ax:∀ x,a_ (sh x) (Zv x)):hI P k ts aS Zv where
 enter:=h.enter
 iv:=λF w args x bq fm aZ uu=>by
  obtain⟨E,M⟩:=ax x uu;exact (h.iv F w args x bq fm aZ E).mono λe w' ⟨v,y,aF,bB,c7⟩=>⟨v,y,aF,M y bB,c7⟩
def aQ.sh(c:aQ)(x:c.ts.aq):L c.aS.aq:=eF (c.pre x) (c.g x)
def aoz(P:Program)(k:FuncId)(ts:aa)(x:ts.aq)(e:aa)(br:List e.aq):Prop:=
 ∀ (F:Nat->Prop) (w:World) (args:List Value),(∀ r,F r->r<w.heap.size)->pj P F w->gB P ts F w args x->Calls P k args.toArray w λz w'=>∃ (b:bL) (F':Nat->Prop),z=.returned (b.slice br.length)/\(∀ r,F r->F' r)/\(∀ r,F' r->F r\/(w.heap.size<=r/\r<w'.heap.size))/\
  (b.fT=true->br=[])/\(b.fT=false->(w.heap.size<=b.ab/\b.ab<w'.heap.size/\¬F' b.ab)/\∃ cs T,w'.heap[b.ab]?=some (.cells cs T (0,0))/\b.off+b.cap*e.size<=cs.size/\br.length<=b.cap/\(b.cap<2 ^ 63/\w4 P e T)/\nD P e F' w' cs b.off br)/\Below w.heap.size w w'
def GC(P:Program)(k:FuncId)(c:aQ):Prop:=(∀ args w,(callFunc k args).run P w=.ok (.enter k args) w)/\∀ x,c.pre x->∀ y,Gg c.aS (c.g x)=some y->aoz P k c.ts x y.1 y.2
def lP(P:Program)(bs:Nat->Option aQ):Prop:=∀ k c,bs k=some c->(qf c.aS=false->hI P k c.ts c.aS c.sh)/\(qf c.aS=true->GC P k c)
variable {t:aa}
theorem aoA{y:t.aq}{z:(e:aa)×List e.aq}(h:Gg t y=some z):qf t=true:=by
 unfold Gg at h;unfold qf;grind
theorem aoB{y:t.aq}(h:Gg t y=none):qf t=false:=by
 cases hc:qf t with
 | false=>rfl
 | true=>
  unfold qf at hc;split at hc
  ·cases h
  grind
theorem ls(aH:t.hQ=true)(cV:List aN):ki t cV=(match cV with | [v]=>en t v | _=>.none:aG (Option (t.aq×List Nat))):=by
 cases t<;>first
  | (cases aH;done)
  | (rcases cV with _ | ⟨v,_ | ⟨u,aI⟩⟩<;>rfl)
variable {H:Nat->b_}{kap:Nat->bL}{F:Nat->Prop}{F':Nat->Prop}{w:World}
theorem xf(a6:∀ b,c1 P H kap F w b)(bq:∀ r,F r->F' r):∀ (t:aa) {cV:List aN} {aI:List Value} {x:t.aq} {l:List Nat},(ki t cV).run H=some (x,l)->
  kV H kap F' l->cV.length=aI.length->(∀ i (h:i<cV.length) (e3:i<aI.length),bM P H kap F w cV[i] aI[i])->gB P t F' w aI x:=by
 have hQ:∀ (t:aa),t.hQ=true->∀ {cV:List aN} {aI:List Value} {x:t.aq} {l:List Nat},(match cV with | [v]=>en t v | _=>.none).run H=some (x,l)->
   kV H kap F' l->cV.length=aI.length->(∀ i (h:i<cV.length) (e3:i<aI.length),bM P H kap F w cV[i] aI[i])->gB P t F' w aI x:=by
  intro t aH cV aI x l h ai hlen gA;split at h
  ·match aI,hlen with
   | [u],_=>
    refine (pk aH).2 ⟨u,rfl,oP a6 bq h ai ?_⟩;exact gA 0 (by simp) (by simp)
  ·cases h
 intro t;induction t with
 | aw a b hp gq=>
  intro cV aI x l h ai hlen gA;match cV,aI,hlen with
  | [],_,_=>simp[ki,aG.none]at h
  | v::cV,u::aI,hlen=>
   simp only[ki,aG.gf,amU,aQx]at h;obtain⟨⟨y,m⟩,E,⟨z,dz⟩,M,rfl,rfl⟩:=h;refine Al.2 ⟨oP a6 bq E ai.left (gA 0 (by simp) (by simp)),?_⟩;exact gq M ai.right (by grind) λi G ea=>by
    have:=gA (i+1) (by grind) (by grind);grind
 | dc=>
  intro cV aI x l h ai hlen gA;match cV,aI,hlen with
  | [],[],_=>exact⟨rfl,rfl⟩
  | _::_,_,_=>simp[ki,aG.none]at h
 | bool=>intro cV aI x l h;rw[ls rfl]at h;exact hQ _ rfl h
 | int k=>intro cV aI x l h;rw[ls rfl]at h;exact hQ (.int k) rfl h
 | str=>intro cV aI x l h;rw[ls rfl]at h;exact hQ _ rfl h
 | ae t _=>intro cV aI x l h;rw[ls rfl]at h;exact hQ (.ae t) rfl h
 | slice e _=>intro cV aI x l h;rw[ls rfl]at h;exact hQ (.slice e) rfl h
 | array n e _=>intro cV aI x l h;rw[ls rfl]at h;exact hQ (.array n e) rfl h
 | bP e _=>intro cV aI x l h;rw[ls rfl]at h;exact hQ (.bP e) rfl h
 | map k v _ _=>intro cV aI x l h;rw[ls rfl]at h;exact hQ (.map k v) rfl h
 | fn a b _ _=>intro cV aI x l h;rw[ls rfl]at h;exact hQ (.fn a b) rfl h
 | cI a _=>intro cV aI x l h;rw[ls rfl]at h;exact hQ (.cI a) rfl h
 | eY=>intro cV aI x l h;rw[ls rfl]at h;exact hQ .eY rfl h
 | cP e _=>intro cV aI x l h;rw[ls rfl]at h;exact hQ (.cP e) rfl h
theorem rZ:∀ (t:aa) {cV:List aN} {x:t.aq} {l:List Nat},(ki t cV).run H=some (x,l)->iQ H l:=by
 have hQ:∀ (t:aa),t.hQ=true->∀ {cV:List aN} {x:t.aq} {l:List Nat},(match cV with | [v]=>en t v | _=>.none).run H=some (x,l)->iQ H l:=by
  intro t _ cV x l h;split at h
  ·exact pv h
  ·cases h
 intro t;induction t with
 | aw a b hp gq=>
  intro cV x l h;match cV with
  | []=>simp[ki,aG.none]at h
  | v::cV=>
   simp only[ki,aG.gf,amU,aQx]at h;obtain⟨⟨y,m⟩,E,⟨z,dz⟩,M,rfl,rfl⟩:=h;exact (pv E).append (gq M)
 | dc=>
  intro cV x l h;match cV with
  | []=>
   simp only[ki,aG.dF,amZ,aQx]at h;rw[<-h.2];exact .nil H
  | _::_=>simp[ki,aG.none]at h
 | bool=>intro cV x l h;rw[ls rfl]at h;exact hQ _ rfl h
 | int k=>intro cV x l h;rw[ls rfl]at h;exact hQ (.int k) rfl h
 | str=>intro cV x l h;rw[ls rfl]at h;exact hQ _ rfl h
 | ae t _=>intro cV x l h;rw[ls rfl]at h;exact hQ (.ae t) rfl h
 | slice e _=>intro cV x l h;rw[ls rfl]at h;exact hQ (.slice e) rfl h
 | array n e _=>intro cV x l h;rw[ls rfl]at h;exact hQ (.array n e) rfl h
 | bP e _=>intro cV x l h;rw[ls rfl]at h;exact hQ (.bP e) rfl h
 | map k v _ _=>intro cV x l h;rw[ls rfl]at h;exact hQ (.map k v) rfl h
 | fn a b _ _=>intro cV x l h;rw[ls rfl]at h;exact hQ (.fn a b) rfl h
 | cI a _=>intro cV x l h;rw[ls rfl]at h;exact hQ (.cI a) rfl h
 | eY=>intro cV x l h;rw[ls rfl]at h;exact hQ .eY rfl h
 | cP e _=>intro cV x l h;rw[ls rfl]at h;exact hQ (.cP e) rfl h
variable {e:aa}
theorem aoC{bw:List (Nat×aN)}:∀ (n i:Nat) {xs:List e.aq} {l:List Nat},(w_ e bw i n).run H=some (xs,l)->iQ H l:=by
 intro n;induction n with
 | zero=>intro i xs l h;cases h;exact .nil H
 | succ n aR=>
  intro i xs l h;simp only[w_,aG.gf,amU,aQx]at h;obtain⟨⟨x,m⟩,E,⟨br,dz⟩,M,rfl,rfl⟩:=h;refine iQ.append ?_ (aR (i+1) M);split at E
  ·exact pv E
  ·simp only[aG.dF,amZ,aQx]at E;rw[<-E.2];exact .nil H
variable {w':World}
theorem QC{aI:List Value}{x:t.aq}(aH:t.pure=true)(h:gB P t F w aI x):gB P t F' w' aI x:=⟨h.1,P1 t aH h.2⟩
theorem vD{P:Program}{H:Nat->b_}{kap:Nat->bL}{F:Nat->Prop}{w:World}:∀ (t:aa) {aI:List Value} {y:t.aq},gB P t F w aI y->t≠.dc->aI.length=jV t/\∀ i,i<jV t->bM P H kap F w (kh t y i) (aI.getD i Go.undef):=by
 intro t;induction t with
 | aw a b _ gq=>
  intro aI y h _;obtain⟨v,us,rfl,E,M⟩:=F3 h;by_cases U:b=.dc
  ·subst U;have:=M.1;subst this;refine⟨rfl,λi G=>?_⟩;cases i with
   | zero=>exact E
   | succ i=>simp only[jV]at G;omega
  ·obtain⟨aO,aT⟩:=gq M U;refine⟨by simp[jV,aO],λi G=>?_⟩;cases i with
   | zero=>exact E
   | succ i=>
    have:=aT i (by simp  [jV]at G;omega);simpa [kh]using this
 | dc=>simp
 | _=>
  intro aI y h _;obtain⟨v,rfl,E⟩:=(pk rfl).1 h;refine⟨rfl,λi G=>?_⟩;simp only[jV]at G;have:i=0:=by omega
  subst this;exact E
theorem AQ{v:Value}{y:t.aq}(h:tW P t F w v y):bM P H kap F w (q6 t y) v:=by
 have sN:=@vD P H kap F w;obtain⟨aI,E,M⟩:=h;cases t with
 | aw a b=>
  obtain⟨aO,aT⟩:=sN (.aw a b) M (by simp);exact⟨aI,E,aO,aT⟩
 | dc=>exact E.1
 | _=>
  obtain⟨u,rfl,hu⟩:=(pk rfl).1 M;have:v=u:=by simpa [Kc,eq_comm]using E
  rw[this];exact hu
section
variable {C:cJ} {T:Nat->aa} {bs:Nat->Option aQ} {o:Oper} {s:aE} {res:eC}
variable {a:Act}
theorem bx.grow(h:bx C s a w kap F)(U:Below w.heap.size w w'):bx C s a w' kap (w2 F w w'):=by
 have he:dk F w w':=⟨U.size,λr D=>U.block r (h.du r D)⟩
 refine h.move   (fN.refl _ _) (λ_ D=>.inl D) (λr D=>D.imp id λD=>.inr D.1) U.size (λr D _=>U.block r D) ⟨U.os,U.tape,U.output⟩ (λ_=>?_) ?_ h.inj ?_ (λ_ _ h=>⟨rfl,h⟩)
 ·intro b;exact c1.lj (h.bH b) (fN.refl _ _) (λ_ D=>.inl D) he rfl rfl λau=>U.block _ (h.own b au).1
 ·intro b au;have:=h.own b au;refine⟨aQt this.1 U.size,λaC=>?_,.inl ⟨b,au,rfl⟩⟩;rcases aC with aC | ⟨aC,_⟩<;>grind
 ·intro r D;rcases D with D | ⟨_,D⟩
  ·exact aQt (h.du r D) U.size
  omega
theorem yF{r:Option Nat}{o:Oper}{K:Act->World->Prop}{Q:Exit->Act->World->Prop}{f:FuncId}{args:Array Value}{R:Ending->World->Prop}(ay:∀ c,o.op≠.defer c)
  (h:(execOp a.eval o).run P w=.ok (.enter f args) w) (hc:Calls P f args w R) (aj:∀ e w',R e w'->∃ v,e=.returned v/\K (a.put o.dst v) w'):o.wpIn (e0 r) 0 P a w K Q:=by
 refine⟨λ_ _=>trivial,?_⟩;rw[Db ay,h];refine⟨λax=>(by cases ax),?_⟩;have E:CallsIn Fence.wide 0 P f args w R:=callsIn_wide.2 hc;have M:=by
  cases r with
  | none=>exact E
  | some l=>exact CallsIn.inRound l E
 refine M.mono λe w' he=>?_;grind
theorem Zw(D:bx C s a w kap F){args:Array Operand}(be:kk (args.toList.map (bj C.aW s.aD))){x:ts.aq}{l:List Nat}
  (an:(ki ts ((args.toList.map (bj C.aW s.aD)).map λv=>(use v).2)).run s.ab=some (x,l)):∃ F',(∀ r,F r->F' r)/\bx C (s.cE l) a w kap F'/\gB C.P ts F' w (args.toList.map a.eval) x:=by
 obtain⟨args⟩:=args;obtain⟨F',f1,bm,f2⟩:=bx.mX (rZ ts an) D;refine⟨F',f1,bm,xf D.bH f1 ts an f2 (by simp) λi G ea=>?_⟩;simp;have dM:i<args.length:=by grind
 have E:=uh be i (by grind);have aF:(args.map (bj C.aW s.aD)).getD i .undef=bj C.aW s.aD args[i]:=by grind
 rw[aF]at E;exact q7 (lO D args[i]) E
theorem QD{Q:Exit->Act->World->Prop}{K:Act->World->Prop}{aS:aa}{sh:ts.aq->L aS.aq}(D:bx C s a w kap F)(aC:hI C.P k ts aS sh)
  (bp:∀ i,o.dst=some i->i<C.b3) {args:Array Operand} {ds:Array TypeId} (au:o.op=.call { callee:=.value (.func k),args:=args,argTypes:=ds }) (be:kk (args.toList.map (bj C.aW s.aD))) {x:ts.aq} {l:List Nat}
  (an:(ki ts ((args.toList.map (bj C.aW s.aD)).map λv=>(use v).2)).run s.ab=some (x,l)) (ax:(sh x).fr)
  (aj:∀ y w',(sh x).a8 y->∀ v,de C ((if aS.pure then s else s.cE l).set o.dst (q6 aS y)) (a.put o.dst v) w'->K (a.put o.dst v) w'):o.wpIn (e0 C.r) 0 C.P a w K Q:=by
 have ay:∀ c,o.op≠.defer c:=by grind
 obtain⟨args⟩:=args;have dA:(execOp a.eval o).run C.P w=.ok (.enter k (args.map a.eval).toArray) w:=by
  simp  [execOp,au,resolve,Act.eval,Deferred.ofValue,invoke];have:=aC.enter (args.map a.eval).toArray w;grind
 obtain⟨F',f1,bm,fv⟩:=Zw D be an;refine yF ay dA (aC.iv F' w _ x bm.du bm.h4 fv ax) λe w' ⟨v,y,he,bf,gY,U⟩=>⟨v,he,aj y w' bf v ?_⟩
 by_cases ak:aS.pure=true
 ·rw[if_pos ak];have aB:=D.grow U;refine⟨kap,_,aB.set bp (AQ ?_)⟩;obtain⟨aI,c6,cM⟩:=gY;exact⟨aI,c6,QC ak cM⟩
 ·rw[if_neg ak];have aB:=bm.grow U;exact⟨kap,_,aB.set bp (AQ gY)⟩
theorem bx.fG(h:bx C s a w kap F){b g:Nat}{br:List e.aq}{k:bL}(F6:b<fD)(aB:(s.ab b).gen<g)(U:Below w.heap.size w w')
  (bq:∀ r,F r->F' r) (yq:∀ r,F' r->F r\/(w.heap.size<=r/\r<w'.heap.size)) (E:k.fT=true->br=[])
  (M:k.fT=false->(w.heap.size<=k.ab/\k.ab<w'.heap.size/\¬F' k.ab)/\∃ cs T,w'.heap[k.ab]?=some (.cells cs T (0,0))/\k.off+k.cap*e.size<=cs.size/\br.length<=k.cap/\(k.cap<2 ^ 63/\w4 C.P e T)/\nD C.P e F' w' cs k.off br) :
  bx C (s.cq b ⟨g,.bo e br⟩) a w' (λi=>if i=b then k else kap i) F':=by
 have ai:fN s.ab kap (λi=>if i=b then ⟨g,.bo e br⟩ else s.ab i) (λi=>if i=b then k else kap i):=C2 aB λbk dZ=>by grind
 refine h.move   ai bq (λr D=>(yq r D).imp id λh=>.inr h.1) U.size (λr D _=>U.block r D) ⟨U.os,U.tape,U.output⟩ (λhe=>?_) ?_ ?_ ?_ (C3 (.inl F6) λbk dZ=>by grind)
 ·intro i;by_cases G:i=b
  ·subst G;simp  [c1];exact⟨E,λaA=>(M aA).2⟩
  ·refine c1.lj (h.bH i) ai bq he (by grind) (by grind) λau=>?_;exact U.block _ (h.own i au).1
 ·intro i G;by_cases bJ:i=b
  ·simp  [ca.cg]at G ⊢;grind
  ·simp  [if_neg bJ]at G ⊢;have:=h.own i G;refine⟨aQt this.1 U.size,λaC=>?_,.inl ⟨i,G,rfl⟩⟩;grind
 ·intro i j G aM a1;by_cases bJ:i=b<;>by_cases pn:j=b
  ·omega
  ·simp  [if_neg pn,ca.cg]at G aM a1;have:=(h.own j aM).1;grind
  ·simp  [if_neg bJ,ca.cg]at G aM a1;have:=(h.own i G).1;grind
  ·simp  [if_neg bJ,if_neg pn]at G aM a1;exact h.inj i j G aM a1
 ·intro r D;rcases yq r D with e3 | e3
  ·exact aQt (h.du r e3) U.size
  omega
theorem aoD(dq:lP C.P bs){args:Array Operand}{ds:Array TypeId}(bp:∀ i,o.dst=some i->i<C.b3)(au:o.op=.call { callee:=.value (.func k),args:=args,argTypes:=ds })(h:(cR C.aW T bs (bj C.aW s.aD) o).run s.ab=some res):cT C o s res:=by
 simp only[cR,au,pq,Kt]at h;split at h
 ·rename_i c hc;simp only[aG.gf,amU]at h;obtain⟨⟨x,l⟩,an,h⟩:=h;split at h
  ·rename_i y bf;simp  [aG.run_bind]at h;obtain⟨d,ay,h⟩:=ue h;split at h
   ·grind
   cases h;have GD:d ∉ l:=by grind
   have jq:=bp d ay;intro a w kap F Q D be hW;obtain⟨aO,aT⟩:=(dq k c hc).2 (aoA bf);obtain⟨F',f1,bm,fv⟩:=Zw D be an;have dA:(execOp a.eval o).run C.P w=.ok (.enter k (args.map a.eval)) w:=by
    simp  [execOp,au,resolve,Act.eval,Deferred.ofValue,invoke];grind
   have kH:=aT x hW y bf F' w _ bm.du bm.h4 fv;rw[show (args.toList.map a.eval).toArray=args.map a.eval from by grind]at kH;refine yF (by grind) dA kH λz w' ⟨b,fX,bz,dT,eo,ko,g4,rf⟩=>⟨_,bz,?_⟩
   have QE:(s.cE l).ab d=s.ab d:=by simp[aE.cE,GD]
   have hV:=bm.fG   (g:=(s.ab d).gen+1)       (aQt jq D.hJ) (by grind) rf dT eo ko g4;refine⟨λi=>if i=d then b else kap i,fX,?_⟩;simp  [aE.jI];rw[Df,ui];refine hV.set bp ⟨⟨by simp[aE.cq],by unfold bL.slice;split<;>rfl⟩,λ_ _=>by simp[aE.cq,ca.len]⟩
  rename_i bf;simp  [aG.run_bind,amZ]at h;subst h;intro a w kap F Q D be hW;refine QD D ((dq k c hc).1 (aoB bf)) bp au be an hW λy w' bf v hrel=>?_;have bf:y=c.g x:=bf;have e:∀ (r:aG (List (Nat×b_))),r=(if c.aS.pure then .ret [] else kj l)->s.iC (r.run s.ab)=(if c.aS.pure then s else s.cE l):=by
   intro r D;subst D;split
   ·rfl
   ·exact ui s l
  simp  [aE.jI];grind
 ·cases h
theorem Zx(a6:∀ b,c1 P H kap F w b)(bq:∀ r,F r->F' r){zero:List Value}(bz:cw P e F' w zero e.dW){bw:List (Nat×aN)}{iE:List (Nat×Value)}(hlen:bw.length=iE.length)
  (gA:∀ i (h:i<bw.length) (e3:i<iE.length),bw[i].1=iE[i].1/\bM P H kap F w bw[i].2 iE[i].2):∀ (n i:Nat) {xs:List e.aq} {l:List Nat},(w_ e bw i n).run H=some (xs,l)->
  kV H kap F' l->xs.length=n/\∀ j (h:j<xs.length),∃ bE,cw P e F' w bE xs[j]/\(match iE.find? (λp=>p.1 == i+j) with | some q=>bE=q.2.cells.toList | none=>bE=zero):=by
 have find:∀ (bw:List (Nat×aN)) (iE:List (Nat×Value)),bw.length=iE.length->(∀ i (h:i<bw.length) (e3:i<iE.length),bw[i].1=iE[i].1/\bM P H kap F w bw[i].2 iE[i].2)->∀ i,(bw.find? (λp=>p.1 == i)=none/\iE.find? (λp=>p.1 == i)=none)\/∃ p q,bw.find? (λp=>p.1 == i)=some p/\iE.find? (λp=>p.1 == i)=some q/\bM P H kap F w p.2 q.2:=by
  intro bw;induction bw with
  | nil=>grind
  | cons p bw aR=>
   intro iE ai h i;cases iE with
   | nil=>grind
   | cons q iE=>
    by_cases ak:p.1=i
    ·grind
    ·have:=aR iE (by grind) (λj aM gV=>by have:=h (j+1) (by grind) (by grind);grind) i;grind
 intro n;induction n with
 | zero=>intro i xs l h _;cases h;simp
 | succ n aR=>
  intro i xs l h ai;simp only[w_,aG.gf,amU,aQx]at h;obtain⟨⟨x,m⟩,E,⟨br,dz⟩,M,rfl,rfl⟩:=h;obtain⟨aO,aT⟩:=aR (i+1) M ai.right;refine⟨by grind,λj aM=>?_⟩;cases j with
  | zero=>
   rcases find bw iE hlen gA i with⟨f1,f2⟩ | ⟨p,q,f1,f2,f3⟩
   ·rw[f1]at E;simp  at E;grind
   ·rw[f1]at E;refine⟨q.2.cells.toList,(oP a6 bq E ai.left f3).2,?_⟩;grind
  | succ j=>
   obtain⟨bE,d1,d2⟩:=aT j (by grind);grind
end
end Go.Fer
namespace Go.Fer
open Go.RowKit
def vF(d:Nat)(em:Bool)(xs:Array Value):List Field->Sem Unit
 | []=>pure ()
 | f::gC=>
  if f.name ≠ "_" then do
   let a <-part f.type xs f.offset
   Instr.checkKey em d f.type a
   vF d em xs gC
  else vF d em xs gC
variable {P:Program}
theorem aoE(w:World)(em:Bool)(d:Nat)(t:TypeId)(xs:Array Value)(aH:P.underlying t=some (.struct (P.fieldsOf t))) :
  (Instr.checkKey em (d+1) t (.agg xs)).run P w=(vF d em xs (P.fieldsOf t).toList).run P w:=by
 simp only[Instr.checkKey,Sem.run_bind,ep aH,Result.andThen_ok];rw[<-Array.forIn_toList];generalize (P.fieldsOf t).toList=gC;induction gC generalizing w with
 | nil=>rfl
 | cons f gC aR=>
  simp only[List.forIn_cons,vF,Sem.run_bind,Sem.run_ite];split
  ·generalize (part f.type xs f.offset).run P w=cn;cases cn with
   | ok a ch=>
    simp;generalize (Instr.checkKey em d f.type a).run P ch=cN;cases cN<;>simp_all
   | halt x ch=>rfl
  simp_all
variable {F:Nat->Prop}{w:World}
theorem GF{em:Bool}:∀ (t:aa) (d:Nat),t.oO=true->t.nG<=d->
  (∀ {id:TypeId} {v:Value} {x:t.aq},cx P t id->ft P t F w v x->(Instr.checkKey em d id v).run P w=.ok () w)/\
  (∀ {l:List Field} {off:Nat} {xs:Array Value} {p c q:List Value} {x:t.aq},dh P t (.inr (l,off))=true->xs.toList=p++(c++q)->p.length=off->cw P t F w c x->
   (vF d em xs l).run P w=.ok () w):=by
 intro t;induction t with
 | bool=>
  intro d _ ay;refine⟨λ{id v x} h E=>?_,λh=>by simp[dh]at h⟩;obtain⟨d,rfl⟩:∃ e,d=e+1:=⟨d - 1,by grind [aa.nG]⟩
  unfold cx at h;simp  [dh]at h;split at h
  ·simp_all[Instr.checkKey,ep]
  grind
 | int k=>
  intro d _ ay;refine⟨λ{id v x} h E=>?_,λh=>by simp[dh]at h⟩;obtain⟨d,rfl⟩:∃ e,d=e+1:=⟨d - 1,by grind [aa.nG]⟩
  simp[Instr.checkKey,ep (cx.int h)]
 | str=>
  intro d _ ay;refine⟨λ{id v x} h E=>?_,λh=>by simp[dh]at h⟩;obtain⟨d,rfl⟩:∃ e,d=e+1:=⟨d - 1,by grind [aa.nG]⟩
  simp[Instr.checkKey,ep (cx.str h)]
 | dc=>intro d h;cases h
 | slice e _=>intro d h;cases h
 | array n e _=>intro d h;cases h
 | bP e _=>intro d h;cases h
 | map k v _ _=>intro d h;cases h
 | fn a b _ _=>intro d h;cases h
 | cI a _=>intro d h;cases h
 | eY=>intro d h;cases h
 | cP e _=>intro d h;cases h
 | aw a b hp gq=>
  intro d hc ay;simp  [aa.oO]at hc;simp  [aa.nG]at ay;have P_:=hp d hc.1 (by omega);have rR:=gq d hc.2 (by omega);refine⟨λh=>by unfold cx at h;simp[dh]at h,?_⟩;intro l off xs p c q x h an ak ud;obtain⟨bI,c2,rfl,aO,aT⟩:=ud;have fC:=jT a aO;have step : ∀ (f : Field) (b9 : List Field), f.offset = off -> cx P a f.type -> f.name ≠ "_" -> (vF d em xs (f :: b9)).run P w = (vF d em xs b9).run P w := by
   intro f b9 au aC aA;obtain⟨v,cn,cN⟩:=uc (cs:=xs) (p:=p)   (q:=c2++q) aC (by grind) aO;simp  [vF,aA,Sem.run_bind];rw[au,<-ak,cn,Result.andThen_ok,P_.1 aC cN,Result.andThen_ok]
  match l,h with
  | [],h=>rfl
  | [f],h=>simp  [dh]at h
  | [f,g],h=>
   simp  [dh,ne_eq]at h;obtain⟨⟨⟨⟨E,M⟩,al⟩,a7⟩,⟨⟨⟨bR,er⟩,jj⟩,ld⟩⟩:=h;rw[step f [g] E M a7];obtain⟨v,cn,cN⟩:=uc (cs:=xs) (p:=p++bI)   (q:=q) er (by grind) aT;have aF:(p++bI).length=g.offset:=by grind
   rw[aF]at cn;simp  [vF,cn,rR.1 er cN]
  | f::g::i::l,h=>
   simp  [dh,ne_eq]at h;obtain⟨⟨⟨⟨E,M⟩,al⟩,a7⟩,bR⟩:=h;rw[step f _ E M a7,rR.2 bR (p:=p++bI)   (q:=q) (by grind) (by grind) aT]
 | ae t aR=>
  intro d hc ay;simp  [aa.nG]at ay;obtain⟨d,rfl⟩:∃ e,d=e+1:=⟨d - 1,by omega⟩
  refine⟨λ{id v x} h E=>?_,λh=>by simp[dh]at h⟩;have i:=aR d hc (by omega);obtain⟨aF,bB,c7,bW⟩:=h.Gm;obtain⟨⟨xs,rfl,kl⟩,ud⟩:=E;simp  [Value.cells]at ud;rw[aoE w em d id xs bW];rcases c7 with c7 | ⟨f,c7,gS,kU,jn⟩ | ⟨rfl,c7⟩
  ·exact i.2 c7 (p:=[])   (q:=[]) (by simp) rfl ud
  ·rw[c7];obtain⟨v,cn,cN⟩:=uc (cs:=xs) (p:=[])   (q:=[]) kU (by simp) ud;simp  at cn;simp  [vF,gS,cn,i.1 kU cN]
  ·cases hc
theorem QF:∀ (t:aa),t.oO=true->∀ (x y:t.aq),jm t x y=true<->x=y:=by
 intro t;induction t with
 | bool=>simp[jm]
 | int k=>simp[jm]
 | str=>simp[jm]
 | ae t aR=>intro h x y;exact aR h x y
 | aw a b hp gq=>
  grind [aa.oO,jm]
 | _=>intro h;cases h
variable {k:aa}{bet:Type}
def Dk(x:k.aq)(es:List MapEntry)(xs:List (k.aq×bet))(i:Nat)(r:Option (Nat×Value)):Prop:=
 (r=none/\∀ p∈xs,jm k x p.1=false)\/∃ j e p,es[j]?=some e/\xs[j]?=some p/\jm k x p.1=true/\(∀ mZ q,mZ<j->xs[mZ]?=some q->jm k x q.1=false)/\r=some (i+j,e.val)
theorem Dk.next{x:k.aq}{e:MapEntry}{es:List MapEntry}{p:k.aq×bet}{xs:List (k.aq×bet)}{i:Nat}{r:Option (Nat×Value)}(h:Dk x es xs (i+1) r)(ak:jm k x p.1=false):Dk x (e::es) (p::xs) i r:=by
 rcases h with⟨E,M⟩ | ⟨j,a1,p',E,M,al,a7,bR⟩
 ·exact .inl ⟨E,λq bC=>by
   grind⟩
 ·refine .inr ⟨j+1,a1,p',by grind,by grind,al,λmZ q gV bC=>?_,by grind⟩;grind
theorem Zy{P:Program}{F:Nat->Prop}{w:World}{k:aa}{bet:Type}(hc:k.oO=true)(aA:k.nG<=10000){nI:TypeId}(aj:cx P k nI){xg:Value}{x:k.aq}(an:ft P k F w xg x):∀ (es:List MapEntry) (xs:List (k.aq×bet)) (i:Nat),es.length=xs.length->(∀ (j:Nat) (e:MapEntry) (p:k.aq×bet),es[j]?=some e->xs[j]?=some p->ft P k F w e.key p.1)->∃ r,(Instr.findAsking nI xg es i).run P w=.ok r w/\Dk x es xs i r
 | [],[],i,_,_=>⟨none,rfl,.inl ⟨rfl,λp ak=>by grind⟩⟩
 | e::es,p::xs,i,ai,h=>by
  have aV:=h 0 e p rfl rfl;have he:=(P9 k 10000 hc aA).1 aj an aV;obtain⟨r,cn,cN⟩:=Zy   hc aA aj an es xs (i+1) (by grind) λj a1 p' E M=>h (j+1) a1 p' (by grind) (by grind);cases bC:jm k x p.1 with
  | true=>
   refine⟨some (i,e.val),by simp_all[Instr.findAsking,Op.equal,Op.maxDepth],.inr ⟨0,e,p,rfl,rfl,bC,λmZ q gV=>by omega,rfl⟩⟩
  | false=>exact⟨r,by simp_all[Instr.findAsking,Op.equal,Op.maxDepth],cN.next bC⟩
theorem Zz{nI:TypeId}(aj:cx P k nI){d:TypeDesc}(ay:P.underlying nI=some d){u v:Value}{x y:k.aq}(hu:ft P k F w u x)(ag:ft P k F w v y){b:Bool}(h:Instr.sameNow d u v=some b):b=jm k x y:=by
 cases k with
 | bool=>
  rw[h2.1 hu,h2.1 ag]at h;cases d<;>simp  [Instr.sameNow]at h;rw[<-h];rfl
 | int k=>
  rw[(hR.1 hu).1,(hR.1 ag).1]at h;cases d<;>simp  [Instr.sameNow]at h;rw[<-h];rfl
 | str=>
  rw[(lf.1 hu).1,(lf.1 ag).1]at h;cases d<;>simp  [Instr.sameNow]at h;grind [beq_toListBytes,ByteArray.toList_eq,jm]
 | ae t=>
  obtain⟨⟨us,rfl,_⟩,_⟩:=hu;grind [Instr.sameNow]
 | array n t=>
  obtain⟨⟨us,rfl,_⟩,_⟩:=hu;grind [Instr.sameNow]
 | dc=>exact hu.1.elim
 | aw a b=>exact hu.1.elim
 | slice e=>
  obtain⟨_,a,cap,aF,_⟩:=(eh rfl).1 hu;grind [Instr.sameNow]
 | bP e=>
  obtain⟨_,an⟩:=(eh rfl).1 hu;rcases an with⟨aF,_⟩ | ⟨p,y,bE,aF,_⟩<;>(grind [Instr.sameNow])
 | map k' iA=>
  obtain⟨_,an⟩:=(eh rfl).1 hu;rcases an with⟨aF,_⟩ | ⟨r,es,clk,aF,_⟩<;>(grind [Instr.sameNow])
 | fn a b=>
  grind [cx,dh,Instr.sameNow]
 | cI a=>
  grind [cx,dh,Instr.sameNow]
 | eY=>
  grind [cx,dh,Instr.sameNow]
 | cP e=>
  obtain⟨_,an⟩:=(eh rfl).1 hu;rcases an with⟨aF,_⟩ | ⟨o,c,aF,_⟩<;>(grind [Instr.sameNow])
theorem ZA{P:Program}{F:Nat->Prop}{w:World}{k:aa}{bet:Type}{nI:TypeId}(aj:cx P k nI){d:TypeDesc}(ay:P.underlying nI=some d){xg:Value}{x:k.aq}(an:ft P k F w xg x):∀ (es:List MapEntry) (xs:List (k.aq×bet)) (i:Nat) {r:Option (Nat×Value)},es.length=xs.length->(∀ (j:Nat) (e:MapEntry) (p:k.aq×bet),es[j]?=some e->xs[j]?=some p->ft P k F w e.key p.1)->Instr.findNow d xg es i=some r->Dk x es xs i r
 | [],[],i,r,_,_,h=>by cases h;exact .inl ⟨rfl,λp ak=>by grind⟩
 | e::es,p::xs,i,r,ai,h,aC=>by
  have aV:=h 0 e p rfl rfl;simp  [Instr.findNow]at aC;split at aC
  ·rename_i ax;have:=Zz aj ay an aV ax;cases aC;exact .inr ⟨0,e,p,rfl,rfl,this.symm,λmZ q gV=>by omega,rfl⟩
  ·rename_i ax;have:=Zz aj ay an aV ax;exact (ZA aj ay an es xs (i+1) (by grind) (λj a1 p' E M=>h (j+1) a1 p' (by grind) (by grind)) aC).next this.symm
  grind
theorem cx.Zj{t:aa}{id:TypeId}(h:cx P t id)(hc:t.oO=true):∃ d,P.underlying id=some d:=by
 cases t with
 | bool=>
  grind [cx,dh]
 | int k=>exact⟨_,cx.int h⟩
 | str=>simp_all[cx.str]
 | ae t=>exact⟨_,h.Gm.2.2.2⟩
 | aw a b=>grind [cx,dh]
 | _=>cases hc
theorem AR(hc:yz k=true){nI:TypeId}(aj:cx P k nI){xg:Value}{x:k.aq}(an:ft P k F w xg x){es:List MapEntry}{xs:List (k.aq×bet)}
  (ai:es.length=xs.length) (h:∀ (j:Nat) (e:MapEntry) (p:k.aq×bet),es[j]?=some e->xs[j]?=some p->ft P k F w e.key p.1):∃ r,(Instr.findKey nI xg es).run P w=.ok r w/\Dk x es xs 0 r:=by
 simp  [yz]at hc;obtain⟨d,ay⟩:=aj.Zj hc.1;simp  [Instr.findKey,ep ay];cases aA:Instr.findNow d xg es 0 with
 | some r=>exact⟨r,rfl,ZA aj ay an es xs 0 ai h aA⟩
 | none=>exact Zy hc.1 (by omega) aj an es xs 0 ai h
variable {v:aa}
theorem ZB{es:List (k.aq×v.aq)}{x:k.aq}:∀ {j:Nat} {p:k.aq×v.aq},es[j]?=some p->jm k x p.1=true->(∀ mZ q,mZ<j->es[mZ]?=some q->jm k x q.1=false)->C9 es x=some p.2/\∀ y,oQ es x y=es.set j (p.1,y):=by
 induction es with
 | nil=>simp
 | cons q es aR=>
  intro j p E M al;cases j with
  | zero=>
   grind [C9,oQ]
  | succ j=>
   have aV:=al 0 q (by omega) rfl;grind [C9,oQ]
theorem ZC{es:List (k.aq×v.aq)}{x:k.aq}(h:∀ p∈es,jm k x p.1=false):C9 es x=none/\∀ y,oQ es x y=es++[(x,y)]:=by
 induction es with
 | nil=>exact⟨rfl,λ_=>rfl⟩
 | cons q es aR=>
  grind [C9,oQ]
section
variable {C:cJ} {T:Nat->aa} {bs:Nat->Option aQ} {o:Oper} {s:aE} {res:eC}
theorem aoF{z:Value}(ag:v.gb=true\/v.isAgg=true)(i5:ma v z.cells.toList=some [])(i6:(∃ cs,z=.agg cs)<->v.isAgg=true):ft P v F w z v.dW:=by
 obtain⟨c,e,iS,z2⟩:=yx (P:=P) (H:=λ_=>⟨0,.ez⟩) (kap:=λ_=>⟨0,0,0,true⟩) (F:=F) (w:=w) v i5;rw[aQD]at e;refine⟨?_,by grind⟩;have ai:=jT v iS;rcases ag with ag | ag
 ·have Qk:∀ cs,z≠.agg cs:=λcs bz=>by
   have:=i6.1 ⟨cs,bz⟩;cases v<;>simp[aa.gb,aa.isAgg]at ag this
  have bz:z.cells=#[z]:=by
   cases z<;>first | rfl | grind
  cases v<;>simp  [aa.gb]at ag<;>exact bz
 ·obtain⟨cs,rfl⟩:=i6.2 ag;have a1:cs.toList=c:=e;cases v<;>simp  [aa.isAgg]at ag
  ·exact⟨cs,rfl,by rw[<-aQK,a1,ai];rfl⟩
  ·exact⟨cs,rfl,by rw[<-aQK,a1,ai];rfl⟩
def QG(P:Program)(k v:aa)(F:Nat->Prop)(w:World)(ms:List MapEntry)(xs:List (k.aq×v.aq)):Prop:=
 ms.length=xs.length/\∀ (j:Nat) (e:MapEntry) (p:k.aq×v.aq),ms[j]?=some e->xs[j]?=some p->ft P k F w e.key p.1/\ft P v F w e.val p.2
theorem yt.es{ms:Array MapEntry}{clk:Nat}{xs:List (k.aq×v.aq)}(h:yt P k v F w ms clk xs):QG P k v F w ms.toList xs:=by
 obtain⟨E,M,al,a7⟩:=h;refine⟨by omega,λj e p he ak=>?_⟩;obtain⟨aM,rfl⟩:=List.getElem?_eq_some_iff.1 ak;obtain⟨gV,rfl⟩:=List.getElem?_eq_some_iff.1 he;obtain⟨a,b,c,d,_⟩:=al j aM (by omega);exact⟨⟨a,by grind⟩,c,by grind⟩
theorem aoG{a:Act}{kap:Nat->bL}(D:bx C s a w kap F){av:aN}{u:Value}{xs:List (k.aq×v.aq)}(h:(Ku k v av).run s.ab=some xs)(hu:bM C.P s.ab kap F w av u) :
  (u=.map none/\xs=[])\/∃ r ms clk,u=.map (some r)/\w.heap[r]?=some (.map ms clk)/\QG C.P k v F w ms.toList xs:=by
 have cE:∀ {xs:List (k.aq×v.aq)},cw C.P (.map k v) F w [u] xs->(u=.map none/\xs=[])\/∃ r ms clk,u=.map (some r)/\w.heap[r]?=some (.map ms clk)/\QG C.P k v F w ms.toList xs:=by
  intro xs an;rcases an with⟨aF,bB⟩ | ⟨r,ms,clk,aF,E,M,al,a7,bR,er⟩
  ·grind
  ·exact .inr ⟨r,ms,clk,(aQC aF).1,M,yt.es ⟨al,a7,bR,er⟩⟩
 cases av with
 | val t es=>
  exact cE ((eh rfl).1 (C5 h hu)).2
 | lg x=>
  simp  [bM]at hu;have an:u=.map none/\xs=[]:=by
   unfold Ku at h;split at h
   ·grind
   ·simp_all
   ·grind
   ·cases h
  grind
 | hq b g=>
  simp only[Ku,aG.gW,aG.dF]at h;split at h
  ·rename_i aB;have a6:=D.bH b;unfold c1 at a6;split at h
   ·rename_i k' iA es U;obtain⟨e,rfl⟩:=mU h;cases e;rw[U]at a6;obtain⟨ms,clk,E,M⟩:=a6;exact .inr ⟨_,ms,clk,hu.2 aB.symm (by rw[U];rfl),E,M.es⟩
   ·rename_i k' iA es U;obtain⟨e,rfl⟩:=mU h;have:=hu.2 aB.symm (by rw[U];rfl);grind [mA]
   grind
  grind
 | _=>cases h
variable {ty:TypeId}
theorem aoH{r:Option Operand}(bp:∀ i,o.dst=some i->i<C.b3)(au:o.op=.makeMap ty r)(h:(cR C.aW T bs (bj C.aW s.aD) o).run s.ab=some res):cT C o s res:=by
 simp  [cR,au]at h;split at h
 ·cases h
 ·have aoI:r=none:=by simp_all
  subst aoI;split at h
  ·rename_i k v aH;obtain⟨b,ay,aj⟩:=ue h;simp  at aj;subst aj;intro a w kap F Q D _ _;have dA:(execOp a.eval o).run C.P w=.ok (.value (.map (some w.heap.size))) (w.alloc (.map #[] 0)):=by
    simp[execOp,au,Instr.makeMap]
   have E:=D.alloc   (x:=⟨(s.ab b).gen+1,.mp k v []⟩) (D.iR (bp b ay)) (aRe _)   (k:=⟨w.heap.size,0,0,false⟩) rfl λH bV _ _ _=>
    ⟨#[],0,ua _ _,rfl,by simp,λi G=>by simp,λi j G=>by simp⟩
   refine ig (by grind) dA ⟨_,F,bx.set   E bp ⟨⟨by simp[aE.cq],rfl⟩,λ_ _=>by simp⟩⟩
  ·cases h
theorem aoJ(aU:ei C.P T){m x:Operand}{ok:Bool}(bp:∀ i,o.dst=some i->i<C.b3)(au:o.op=.lookup ty m x ok)(h:(cR C.aW T bs (bj C.aW s.aD) o).run s.ab=some res):cT C o s res:=by
 simp only[cR,au,C_]at h;split at h
 ·rename_i k v aH;split at h
  ·rename_i hc;simp  at hc;obtain⟨i,j,G,py,kn⟩:=(aU.cb aH (by simp)).mp;simp only[aG.gf,amU,c',aG.dF,amZ]at h;obtain⟨es,rX,⟨y,l⟩,bf,rfl⟩:=h;refine cT.pure (by grind) bp λa w kap F D be _=>?_;have hm:=da D m rfl be.1;have an:=Gq D bf (da D x rfl be.2);obtain⟨inf,z,i1,i2,i3,i4,i5,i6⟩:=nF kn.nE;have hzero:ft C.P v F w z v.dW:=aoF hc.2 i5 i6;have fin:∀ (u:Value) (q:Option v.aq),ft C.P v F w u (q.getD v.dW)->bM C.P s.ab kap F w (YU v q ok) (if ok=true then .tuple #[u,.bool q.isSome] else u):=by
    intro u q al;cases ok with
    | true=>
     refine⟨[u,.bool q.isSome],rfl,rfl,λi G=>?_⟩;match i,G with
     | 0,_=>exact al
     | 1,_=>exact h2.2 rfl
    | false=>exact al
   have oN:=hc.1;have gI:=by simpa [yz]using oN
   rcases aoG D rX hm with⟨hu,aA⟩ | ⟨r,ms,clk,hu,hw,nJ⟩
   ·subst aA;have fg:=(GF (em:=true) k 10000 gI.1 (by omega)).1 py an;obtain⟨f,f1,f2⟩:=AR (bet:=v.aq) (xs:=[]) (es:=[]) oN py an rfl (λj e p h=>by simp);rcases f2 with⟨rfl,_⟩ | ⟨j,e,p,E,_⟩
    ·refine⟨_,?_,fin z none hzero⟩;simp_all[execOp,Instr.lookup,ep,sR]
    grind
   ·have fg:=(GF (em:=ms.isEmpty) k 10000 gI.1 (by omega)).1 py an;obtain⟨f,f1,f2⟩:=AR       oN py an nJ.1 (λj e p E M=>by
     have:=(nJ.2 j e p E M).1;exact⟨this.1,fM k (λ_ _=>trivial) (dk.refl F w) this.2⟩)
    have gh:(getObj r).run C.P w=.ok (.map ms clk) w:=by grind [getObj,Sem.run]
    rcases f2 with⟨rfl,eM⟩ | ⟨j,e,p,E,M,al,a7,rfl⟩
    ·refine⟨_,?_,by rw[(ZC eM).1];exact fin z none hzero⟩;simp_all[execOp,Instr.lookup,ep,sR]
    ·refine⟨_,?_,by rw[(ZB M al a7).1];exact fin e.val (some p.2) (nJ.2 j e p E M).2⟩;simp_all[execOp,Instr.lookup,ep]
  ·cases h
 ·cases h
theorem QH(P:Program)(w:World)(rb fo:Value):∃ k' w',(Instr.keyThatStays rb fo).run P w=.ok k' w'/\(k'=fo\/k'=rb)/\(w'=w\/w'=w.drew):=by
 unfold Instr.keyThatStays;split
 ·exact⟨fo,w,rfl,.inl rfl,.inl rfl⟩
 ·have aC : (Question.extern "map.whichKeyStays" 2).forced = false := rfl;simp only[Sem.run_bind,run_choose,aC,amW,aQv,Result.andThen_ok];split
  ·exact⟨fo,_,rfl,.inl rfl,.inr rfl⟩
  ·exact⟨rb,_,rfl,.inr rfl,.inr rfl⟩
theorem vG{r:Nat}{es:Array MapEntry}{clk:Nat}(h:w.heap[r]?=some (.map es clk))(o:Obj):(setObj r o).run P w=.ok () { w with heap:=w.heap.setIfInBounds r o }:=by
 grind [setObj,Sem.run]
theorem QI(aU:ei C.P T){m x y:Operand}(jq:o.dst=none)(au:o.op=.mapUpdate ty m x y\/o.op=.insert ty m x y)(h:(cR C.aW T bs (bj C.aW s.aD) o).run s.ab=some res):cT C o s res:=by
 have ay:∀ c,o.op≠.defer c:=by grind
 have sV:∀ rho,cR C.aW T bs rho o=vv T rho ty m x y:=λrho=>by rcases au with au | au<;>simp  [cR,au]
 have hex:∀ rho w,(execOp rho o).run C.P w=(do Instr.mapUpdate ty (rho m) (rho x) (rho y);pure .skip:Sem Next).run C.P w:=λrho w=>by rcases au with au | au<;>simp  [execOp,au]
 rw[sV]at h;simp  [vv]at h;split at h
 ·rename_i k v aH;obtain⟨nI,Dl,G,py,kn⟩:=(aU.cb aH (by simp)).mp;split at h
  ·rename_i hc;split at h
   ·rename_i b g xh;simp only[aG.gf,amU,aG.run_bind,aG.gW,aG.dF]at h;obtain⟨⟨eS,sP⟩,an,⟨sW,lr⟩,bf,h⟩:=h;split at h
    ·rename_i aB;obtain⟨aB,Di⟩:=aB;split at h
     ·rename_i k' iA es U;simp  at h;obtain⟨ZD,rX,rfl⟩:=h;obtain⟨e,rfl⟩:=mU rX;cases e;intro a w kap F Q D be _;obtain⟨F',f1,bm,f2⟩:=bx.mX ((pv an).append (pv bf)) D;have hm:bM C.P s.ab kap F w (use (bj C.aW s.aD m)).2 (a.eval m):=da D m rfl be.1;rw[xh]at hm;have m_:=hm.2 aB.symm (by rw[U];rfl);have xi:=oP D.bH f1 an f2.left (da D x rfl be.2.1);have KU:=oP D.bH f1 bf f2.right (da D y rfl be.2.2);have sX:(s.cE (sP++lr)).ab b=s.ab b:=by simp  [aE.cE];grind
      have a6:=bm.bH b;unfold c1 at a6;rw[sX,U]at a6;obtain⟨ms,clk,hw,qm⟩:=a6;have gI:=by simpa [yz]using hc
      have fg:=(GF (em:=false) k 10000 gI.1 (by omega)).1 py xi;have nJ:=qm.es;obtain⟨f,c6,cM⟩:=AR       hc py xi nJ.1 (λj e p E M=>(nJ.2 j e p E M).1);have gh:(getObj (kap b).ab).run C.P w=.ok (.map ms clk) w:=by simp[getObj,Sem.run,hw]
      have ra:s.iC ((kj (sP++lr)).run s.ab++[(b,⟨(s.ab b).gen,.mp k v (oQ es eS sW)⟩)])=(s.cE (sP++lr)).cq b ⟨(s.ab b).gen,.mp k v (oQ es eS sW)⟩:=by
       rw[Df,ui]
      have hx:fN (s.cE (sP++lr)).ab kap (λi=>if i=b then (⟨(s.ab b).gen,.mp k v (oQ es eS sW)⟩) else (s.cE (sP++lr)).ab i) kap:=
       po (by grind) (λh=>by cases h) (λh=>by cases h) (λ_=>by rw[sX,U];rfl) (λh=>by cases h)
      obtain⟨iz,QJ,QK,ZE⟩:=qm;have done:∀ (ch:World) (KV:Array MapEntry) (KW:Nat),(ch=w\/ch=w.drew)->
        (execOp a.eval o).run C.P w=.ok .skip { ch with heap:=ch.heap.setIfInBounds (kap b).ab (.map KV KW) }->
        (∀ {w'},dk F' w w'->yt C.P k v F' w' KV KW (oQ es eS sW))->
        o.wpIn (e0 C.r) 0 C.P a w (λa' w'=>de C (s.jI o.dst ⟨(use (bj C.aW s.aD m)).1/\(use (bj C.aW s.aD x)).1/\(use (bj C.aW s.aD y)).1,True,.undef,(kj (sP++lr)).run s.ab++[(b,⟨(s.ab b).gen,.mp k v (oQ es eS sW)⟩)]⟩) a' w') Q:=by
       intro ch KV KW pz dA aoK;have dj:ch.heap=w.heap:=by rcases pz with rfl | rfl<;>rfl
       have kE:dN w ch:=by rcases pz with rfl | rfl<;>exact⟨rfl,rfl,rfl⟩
       refine Gl ay dA ⟨kap,F',?_⟩;simp  [aE.jI];rw[ra,jq];refine bm.q5     (by rw[sX,U];rfl) rfl hx (λh=>by cases h) (λ_=>by rw[sX,U];rfl) (λr QL=>?_) (by grind) ⟨kE.os,kE.tape,kE.output⟩ λH _ _ he=>?_
       ·grind
       ·exact⟨KV,KW,by grind,aoK he⟩
      rcases cM with⟨rfl,eM⟩ | ⟨j,e,p,E,M,al,a7,rfl⟩
      ·refine done w (ms.push { key:=a.eval x,val:=a.eval y,born:=clk }) (clk+1) (.inl rfl) ?_ λ{w'} he=>?_
       ·rw[hex];simp  [m_,Instr.mapUpdate,ep G,gh,fg,c6,vG hw]
       ·rw[(ZC eM).2];refine⟨by grind,?_,λi G ea=>?_,λi j G aM e=>?_⟩
        ·rw[aQT,List.nodup_append];refine⟨QJ,by simp,λq bC q' vz=>?_⟩;obtain⟨p,ak,rfl⟩:=List.mem_map.1 bC;simp  at vz;subst vz;intro e;have:=eM p ak;rw[e,(QF k gI.1 _ _).2 rfl]at this;grind
        ·by_cases AS:i<es.length
         ·obtain⟨aO,aT,b7,gZ,rh⟩:=QK i AS (by omega);have aF:(es++[(eS,sW)])[i]=es[i]:=List.getElem_append_left AS;have bB:(ms.push { key:=a.eval x,val:=a.eval y,born:=clk })[i]=ms[i]'(by omega):=Array.getElem_push_lt (by omega);rw[aF,bB];exact⟨aO,fM k (λ_ h=>h) he aT,b7,fM v (λ_ h=>h) he gZ,by omega⟩
         ·have aoL:i=es.length:=by grind
          subst aoL;have aF:(es++[(eS,sW)])[es.length]=(eS,sW):=by simp
          have bB:(ms.push { key:=a.eval x,val:=a.eval y,born:=clk })[es.length]={ key:=a.eval x,val:=a.eval y,born:=clk }:=by
           grind
          rw[aF,bB];exact⟨xi.1,fM k (λ_ h=>h) he xi.2,KU.1,fM v (λ_ h=>h) he KU.2,by simp⟩
        grind
      ·have aM:=(List.getElem?_eq_some_iff.1 M).1;have aoM:ms[j]=e:=by
        grind
       have qn:=(List.getElem?_eq_some_iff.1 M).2;have Kn:=(QF k gI.1 _ _).1 al;obtain⟨qo,ch,cn,cN,fF⟩:=QH C.P w e.key (a.eval x);have pz:ch.heap[(kap b).ab]?=some (.map ms clk):=by rcases fF with rfl | rfl<;>exact hw
       refine done ch (ms.modify j λe=>{ e with key:=qo,val:=a.eval y }) clk fF ?_ λ{w'} he=>?_
       ·rw[hex];simp  [m_,Instr.mapUpdate,ep G,gh,fg,c6];have oW:((ms[j]?).map (·.key)).getD (a.eval x)=e.key:=by
         grind
        rw[oW,cn];simp  [vG pz]
       ·rw[(ZB M al a7).2];refine⟨by grind,?_,λi G ea=>?_,λi mZ G gV a1=>?_⟩
        ·have:(es.set j (p.1,sW)).map (·.1)=es.map (·.1):=by
          apply aRR;grind
         grind
        ·have AS:i<es.length:=by grind
         have aMi:i<ms.size:=by omega
         grind [ft,fM]
        grind
     grind
    grind
   ·cases h
  ·cases h
 ·cases h
end
end Go.Fer
namespace Go.Fer
open Go.RowKit
section
variable {C:cJ} {T:Nat->aa} {bs:Nat->Option aQ} {o:Oper} {s:aE} {res:eC}
variable {P:Program}{F:Nat->Prop}{w:World}{e:aa}
theorem ZF{z:Value}(bR:ma e z.cells.toList=some [])(n:Nat) :
  h6 P e F w ((Array.range (n*e.size)).map (λi=>z.cells[i % z.cells.size]!)).toList (List.replicate n e.dW):=by
 obtain⟨c,Dm,iS,z2⟩:=yx (P:=P) (H:=λ_=>⟨0,.ez⟩) (kap:=λ_=>⟨0,0,0,true⟩) (F:=F) (w:=w) e bR;have yG:z.cells.size=e.size:=by grind [Array.length_toList,jT]
 refine⟨by simp,λi G=>?_⟩;have ea:i<n:=by grind
 have hle:(i+1)*e.size<=n*e.size:=am4 _ (by omega);have:((((Array.range (n*e.size)).map (λi=>z.cells[i % z.cells.size]!)).toList.drop (i*e.size)).take e.size)=z.cells.toList:=by
  apply aRR;grind [Nat.add_mul_mod_self_right,Nat.mod_eq_of_lt]
 grind
theorem aoN{n:Int}(aV:0<=n)(E:n<=4294967296):IntKind.i64.wrap n=n:=by
 grind [IntKind.wrap,IntKind.bits]
theorem aoO(aU:ei C.P T){ty:TypeId}{l c:Operand}(bp:∀ i,o.dst=some i->i<C.b3)(au:o.op=.makeSlice ty l c)(h:(cR C.aW T bs (bj C.aW s.aD) o).run s.ab=some res):cT C o s res:=by
 simp  [cR,au,Kv]at h;split at h
 ·rename_i e aH;split at h
  ·rename_i n m ai hm;have dJ:=aU.cb aH (by simp);obtain⟨me,aM,iF,oV⟩:=dJ.sl;obtain⟨inf,z,i1,i2,i3,i4,i5,i6⟩:=nF iF.nE;obtain⟨b,ay,aj⟩:=ue h;simp  at aj;subst aj;intro a w kap F Q D be hc;have aY:=qh (da D l rfl be.1) ai;have kE:=qh (da D c rfl be.2) hm;obtain⟨c0,rfl,bI⟩:=hc;unfold b2 at bI;obtain⟨k,rfl⟩:∃ k:Nat,n=k:=⟨n.toNat,by omega⟩
   have hw:=aoN (by omega) (by omega);let cs:=(Array.range (k*e.size)).map (λi=>z.cells[i % z.cells.size]!);have hV:h6 C.P e F w cs.toList (List.replicate k e.dW):=ZF i5 k;have aMj:=by
    calc inf.bytes*k<=1024*4294967296:=Nat.mul_le_mul i3 (by omega)
     _<=2 ^ 47:=by decide
   have dA:(execOp a.eval o).run C.P w=.ok (.value (.slice (some ⟨w.heap.size,0,none⟩) k k)) (w.alloc (.cells cs me)):=by
    have aoP:¬(inf.bytes*(k:Int) > 2 ^ 48):=by
     omega
    have AT:¬((k:Int)<0):=by omega
    have KB:¬(k > (k:Int)):=by omega
    simp only[execOp,au,Instr.makeSlice,aY.1,kE.1,Sem.run_bind,ep aM,Result.andThen_ok,asInt,asIntOf,Sem.run_pure,Gj i1,hw,aoP,AT,KB,aQ9,aRj,amW,aQv,ub i1,i2];by_cases yH:k*e.size=0
    ·simp[newRow];grind
    ·simp[yH,sR i1 i4,newRow,cs]
   have al:=D.Gz   (g:=(s.ab b).gen+1)   (k:=⟨w.heap.size,0,k,false⟩)   (aRe _) (.inr rfl) (by simp) (λr D=>rT w _ D) (λ_=>by simp) ⟨rfl,rfl,rfl⟩
    (λH bV=>⟨λh=>(by grind),λ_=>⟨cs,me,ua w _,by grind,by simp,⟨by grind,iF.KD⟩,(hV.Gw (pre:=[]) (post:=[]) (by simp)).later (dk.alloc D.du _)⟩⟩)
   refine ig (by grind) dA ⟨_,F,bx.set   al bp ⟨⟨by simp[aE.cq],rfl⟩,λ_ _=>by simp[aE.cq,bL.slice,ca.len]⟩⟩
  ·cases h
 ·cases h
theorem h6.take{P:Program}{e:aa}{F:Nat->Prop}{w:World}{all:List Value}{xs:List e.aq}(h:h6 P e F w all xs){n:Nat}(aA:n<=xs.length):h6 P e F w (all.take (n*e.size)) (xs.take n):=by
 refine⟨by simp only[aRb,h.1];simp,λi G=>?_⟩;have ea:i<n:=by grind
 have aMk:(i+1)*e.size<=n*e.size:=am4 _ (by omega);have:((all.take (n*e.size)).drop (i*e.size)).take e.size=(all.drop (i*e.size)).take e.size:=by
  grind [List.drop_take]
 rw[this];simpa using h.2 i (by omega)
theorem ZG{q:Option Addr}{n cap:Nat}{xs:List e.aq}(aA:n<=xs.length)(h:(q=none/\xs=[]/\cap=0)\/∃ p all,q=some p/\h6 P e F w all xs/\mV w p all) :
  ∃ all,(Builtin.firstCells e.size n (.slice q xs.length cap)).run P w=.ok all.toArray w/\h6 P e F w all (xs.take n):=by
 rcases h with⟨rfl,rfl,rfl⟩ | ⟨p,all,rfl,cH,b1⟩
 ·exact⟨[],by rfl,by simp[h6]⟩
 ·have hle:n*e.size<=xs.length*e.size:=am4 _ aA;refine⟨all.take (n*e.size),?_,cH.take aA⟩;simp  [Builtin.firstCells];have ai:(all.take (n*e.size)).length=n*e.size:=by simp only[aRb,cH.1];omega
  grind [mV,C']
theorem nD.h1{P:Program}{e:aa}{F:Nat->Prop}{w w':World}{cs eA:Array Value}{off ba:Nat}{xs zs:List e.aq}{fo:List Value}(h:nD P e F w cs off xs)(he:dk F w w')(aA:h6 P e F w fo zs)(ai:ba+zs.length<=xs.length)
  (q8:off+xs.length*e.size<=cs.size) (hc:eA.toList=cs.toList.take (off+ba*e.size)++(fo++cs.toList.drop (off+ba*e.size+fo.length))):nD P e F w' eA off (Go.Fer.h1 xs ba zs):=by
 have hlen:(Go.Fer.h1 xs ba zs).length=xs.length:=by simp[Go.Fer.h1];omega
 have aoQ:(ba+zs.length)*e.size<=xs.length*e.size:=am4 _ ai;rw[aQ8]at aoQ;have re:=aA.1;have hW:(cs.toList.take (off+ba*e.size)).length=off+ba*e.size:=by grind
 intro i G;rw[hlen]at G;have aoR:i<ba\/(ba<=i/\i<ba+zs.length)\/ba+zs.length<=i:=by omega
 rcases aoR with E | ⟨E,M⟩ | E
 ·obtain⟨bE,d1,d2⟩:=h i G;have aos:=jT e d2;have aF:(Go.Fer.h1 xs ba zs)[i]'(by omega)=xs[i]:=by
   simp  [Go.Fer.h1];grind
  rw[aF];refine⟨bE,λj aM=>?_,fM e (λ_ h=>h) he d2⟩;have hle:(i+1)*e.size<=ba*e.size:=am4 _ (by omega);rw[aQ8]at hle;rw[<-aQP,hc,aQO (by omega),aRO,aQP];grind
 ·have ql:=aA.Gw     hc;obtain⟨bE,d1,d2⟩:=ql (i - ba) (by omega);have aF:(Go.Fer.h1 xs ba zs)[i]'(by omega)=zs[i - ba]'(by omega):=by
   grind [Go.Fer.h1]
  rw[aF];refine⟨bE,λj aM=>?_,fM e (λ_ h=>h) he d2⟩;have:=d1 j aM;rw[<-this];congr 1;have:i*e.size=ba*e.size+(i - ba)*e.size:=by rw[<-aQ8];grind
  omega
 ·obtain⟨bE,d1,d2⟩:=h i G;have aF:(Go.Fer.h1 xs ba zs)[i]'(by omega)=xs[i]:=by
   simp  [Go.Fer.h1];have hx:(xs.take ba).length=ba:=by grind
   rw[aRB (by omega)];grind
  rw[aF];refine⟨bE,λj aM=>?_,fM e (λ_ h=>h) he d2⟩;have bF:(ba+zs.length)*e.size<=i*e.size:=am4 _ E;rw[aQ8]at bF;rw[<-aQP,hc,am8 (by omega),am8 (by omega)];grind
theorem h6.one{fo:List Value}{br:List e.aq}(h:h6 P e F w fo br)(km:0<e.size):∀ v∈fo,v.oneCell'=true:=by
 intro v ag;obtain⟨j,aM,rfl⟩:=List.mem_iff_getElem.1 ag;have hdiv:=(Nat.div_lt_iff_lt_mul km).2 (by rw[<-h.1];omega);have q_:=h.2 (j / e.size) hdiv;have kg:=C4   (H:=λ_=>⟨0,.ez⟩) (kap:=λ_=>⟨0,0,0,true⟩) e q_;have KT:=Nat.mod_lt j km;have Zq:=Nat.div_add_mod' j e.size;have Zr:=jT e q_;have:=(kg.oa (j % e.size) (by rw[kg.len];omega)).2;grind
theorem aoS(aU:ei C.P T){args:Array Operand}{ds:Array TypeId}(bp:∀ i,o.dst=some i->i<C.b3)(au:o.op=.call { callee:=.builtin .copy,args:=args,argTypes:=ds })(h:(cR C.aW T bs (bj C.aW s.aD) o).run s.ab=some res):cT C o s res:=by
 obtain⟨args⟩:=args;obtain⟨ds⟩:=ds;have ay:∀ c,o.op≠.defer c:=by grind
 simp  [cR,au,pq,Kw]at h;split at h
 ·rename_i x y t u;split at h
  ·rename_i e bB aH hu;have dJ:=aU.cb aH (by simp);obtain⟨me,aM,iF,oV⟩:=dJ.sl;obtain⟨inf,z,i1,i2,i3,i4,i5,i6⟩:=nF iF.nE;have km:=aRN oV;split at h
   ·rename_i b g ba G KX;simp only[aG.gf,amU,aG.gW,aG.dF]at h;obtain⟨⟨br,l⟩,mc,h⟩:=h;split at h
    ·rename_i aB;split at h
     ·rename_i a1 xs U;split at h
      ·rename_i uq;subst uq;simp  at h;subst h;intro a w kap F Q D be _;obtain⟨q',yE,AP,rY⟩:=AN D mc (da D y rfl be.2);have an:bM C.P s.ab kap F w (use (bj C.aW s.aD x)).2 (a.eval x):=da D x rfl be.1;have a6:=D.bH b;unfold c1 at a6;rw[U]at a6;have place:ba<=G.getD xs.length/\G.getD xs.length<=xs.length/\(((kap b).fT=true/\∃ cap,a.eval x=.slice none 0 cap)\/((kap b).fT=false/\∃ px cap,a.eval x=.slice (some ⟨(kap b).ab,px,none⟩) (G.getD xs.length - ba) cap/\(ba<G.getD xs.length->px=(kap b).off+ba*a1.size))):=by
        split at KX
        ·rename_i bk g' gu;simp  at KX;obtain⟨rfl,rfl,rfl,rfl⟩:=KX;rw[gu]at an;have ag:=an.2 aB.symm (by rw[U];rfl);rw[U]at ag;simp  [ca.len]at ag;refine⟨aQF _,amY _,?_⟩;cases aA:(kap bk).fT with
         | true=>exact .inl ⟨rfl,0,by simpa [bL.slice,aA]using ag⟩
         | false=>exact .inr ⟨rfl,(kap bk).off,(kap bk).cap,by simpa [bL.slice,aA]using ag,λ_=>by simp⟩
        ·rename_i bk g' aMl ea gu;obtain⟨rfl,rfl,rfl,rfl⟩:=KX;rw[gu]at an;obtain⟨⟨aO,aT⟩,b7⟩:=an.2 aB.symm (by rw[U];rfl);simp  [ca.len,ca.gU]at aT b7;rcases b7 with⟨aA,ag⟩ | ⟨aA,px,ag,kC,gX⟩
         ·grind
         ·obtain⟨cs,ih,bI,c2,c3,c4,c5⟩:=a6.2 aA;grind
        grind
       obtain⟨fU,fW,mB⟩:=place;have ZH:∀ m,m<=br.length->m<=xs.length->gQ .i64 m:=by
        intro m _ hm;have:=Dd D   (by rw[U];rfl);rw[U]at this;simp  [ca.len]at this;exact De (by omega)
       generalize b4:G.getD xs.length=dj at *
       have Zi:Nat.min br.length (dj - ba)=min (dj - ba) br.length:=Nat.min_comm _ _;have aoT:(br.take (dj - ba)).length=min (dj - ba) br.length:=by simp
       have GG:(h1 xs ba (br.take (dj - ba))).length=xs.length:=by simp[h1];omega
       have hx:fN s.ab kap (λi=>if i=b then (⟨(s.ab b).gen,.bo a1 (h1 xs ba (br.take (dj - ba)))⟩) else s.ab i) kap:=
        po rfl (λh=>by cases h) (λ_=>by rw[U];exact⟨rfl,GG,rfl⟩) (λh=>by cases h) (λh=>by cases h)
       have ps:∀ (w':World) v,(Builtin.copy_ #[t,u] o.type #[a.eval x,a.eval y]).run C.P w=.ok v w'->(execOp a.eval o).run C.P w=.ok (.value v) w':=by
        intro w' v ag;refine sT au ?_;simp[builtin,ag]
       rcases mB with⟨aA,cap,vC⟩ | ⟨aA,px,cap,vC,aMm⟩
       ·have kl:=a6.1 aA;subst kl;have aoU:dj=0:=by grind
        subst aoU;obtain⟨fo,eH,ej⟩:=ZG       (aQF _) rY;have dA:(Builtin.copy_ #[t,u] o.type #[a.eval x,a.eval y]).run C.P w=.ok (.int .i64 ((0))) w:=by
         simp  [Builtin.copy_,ep aM,vC,AP,Builtin.lenOf,ub i1,i2];rw[eH];rfl
        refine ig ay (ps w _ dA) ⟨kap,F,bx.set (s:=s.cq b _) ?_ bp (hR.2 ⟨by simp,ZH _ (by simp) (by simp)⟩)⟩;have bQ:h1 ([]) 0 (br.take (0 - 0))=[]:=by rfl
        have es:s.cq b ⟨(s.ab b).gen,.bo a1 (h1 ([]) 0 (br.take (0 - 0)))⟩=s:=by
         rw[bQ];unfold aE.cq;have:(λi=>if i=b then (⟨(s.ab b).gen,.bo a1 []⟩) else s.ab i)=s.ab:=by
          funext i;by_cases G:i=b
          ·subst G;simp;rw[<-U]
          grind
         rw[this]
        grind
       ·obtain⟨cs,ih,bI,c2,c3,c4,c5⟩:=a6.2 aA;have QM:min (dj - ba) br.length<=br.length:=Nat.min_le_right _ _;obtain⟨fo,eH,ej⟩:=ZG     QM rY;have mF:br.take (min (dj - ba) br.length)=br.take (dj - ba):=by
         simp
        rw[mF]at ej;have re:=ej.1;rw[aoT]at re;have qj:=ej.one km;have ZI:xs.length*a1.size<=(kap b).cap*a1.size:=am4 _ c3;have GH:(ba+min (dj - ba) br.length)*a1.size<=xs.length*a1.size:=am4 _ (by omega);rw[aQ8]at GH;obtain⟨w',eA,cn,cN,fF,oi,mE,oT⟩:∃ w' eA,(storeCells ⟨(kap b).ab,px,none⟩ fo).run C.P w=.ok () w'/\w'.heap[(kap b).ab]?=some (.cells eA ih (0,0))/\eA.toList=cs.toList.take ((kap b).off+ba*a1.size)++(fo++cs.toList.drop ((kap b).off+ba*a1.size+fo.length))/\
          (∀ r,r≠(kap b).ab->w'.heap[r]?=w.heap[r]?)/\w'.heap.size=w.heap.size/\dN w w':=by
         by_cases dx:ba<dj
         ·obtain⟨w',eA,cn,cN,fF,oi,mE,oT⟩:=yB (P:=C.P) fo ((kap b).off+ba*a1.size) 0 w cs bI (by omega) qj;grind
         ·have aV:min (dj - ba) br.length=0:=by omega
          rw[aV,Nat.zero_mul]at re;have:=aQS re;subst this;exact⟨w,cs,by rfl,bI,by simp,λ_ _=>rfl,rfl,dN.refl w⟩
        have dA:(Builtin.copy_ #[t,u] o.type #[a.eval x,a.eval y]).run C.P w=.ok (.int .i64 ((min (dj - ba) br.length:Nat))) w':=by
         simp  [Builtin.copy_,ep aM,vC,AP,Builtin.lenOf,ub i1,i2];rw[Zi,eH];simp  [cn];rfl
        refine ig ay (ps w' _ dA) ⟨kap,F,bx.set (s:=s.cq b _) ?_ bp (hR.2 ⟨rfl,ZH _ (by omega) (by omega)⟩)⟩;refine D.q5   (by grind [ca.cg]) (by simp[ca.cg,aA]) hx (λh=>by cases h) (λh=>by cases h) oi mE oT λH pw dx he=>?_;refine⟨λh=>(by grind),λ_=>⟨eA,ih,cN,?_,by omega,c4,?_⟩⟩
        ·have:eA.size=cs.size:=by
          rw[<-aQK,fF];simp;omega
         omega
        ·exact c5.h1 he ej (by omega) (by omega) fF
      grind
     grind
    grind
   ·cases h
  ·cases h
 ·cases h
theorem ZJ(au:(cR C.aW T bs (bj C.aW s.aD) o).run s.ab=some ⟨True,False,.undef,[]⟩)(h:(cR C.aW T bs (bj C.aW s.aD) o).run s.ab=some res):cT C o s res:=by
 intro a w kap F Q _ _ hc;grind
end
end Go.Fer
namespace Go.Fer
open Go.RowKit
section
variable {C:cJ} {T:Nat->aa} {bs:Nat->Option aQ} {o:Oper} {s:aE} {res:eC}
theorem aoV{P:Program}{w:World}{len cap:Nat}{ba:Option Value}{l:Option Int}{k k':IntKind}{h m:Int}(ai:(ba=none/\l=none)\/∃ k m,ba=some (.int k m)/\l=some m)
  (E:0<=dG l) (M:dG l<=h) (al:h<=m) (a7:m<=(cap:Int)):(Instr.sliceBounds true len cap ba (some (.int k h)) (some (.int k' m))).run P w=.ok ((dG l).toNat,h.toNat,m.toNat) w:=by
 rcases ai with⟨rfl,rfl⟩ | ⟨k,n,rfl,rfl⟩<;>simp  [dG]at E M ⊢
 ·have aF:0<=m/\m<=cap:=by omega
  have c7:max m 0=m:=by omega
  simp_all[Instr.sliceBounds,Instr.sliceBound,asIntOf]
 ·have aF:0<=m/\m<=cap:=by omega
  have bB:0<=h/\h<=m:=by omega
  have c7:max m 0=m:=by omega
  have gS:max h 0=h:=by omega
  simp_all[Instr.sliceBounds,Instr.sliceBound,asIntOf]
theorem aoW(aU:ei C.P T){ty:TypeId}{x:Operand}{ba G:Option Operand}{mb:Operand}(bp:∀ i,o.dst=some i->i<C.b3)(au:o.op=.slice ty x ba G (some mb))(h:(cR C.aW T bs (bj C.aW s.aD) o).run s.ab=some res):cT C o s res:=by
 simp  [cR,au,Ks]at h;split at h
 ·rename_i ol l sO dj Ax m bS AM vH;have ay:∀ c,o.op≠.defer c:=by grind
  split at h
  ·rename_i bQ aH;have dJ:=aU.cb aH (by simp);obtain⟨j,aM,iF,oV⟩:=dJ.sl;simp only[aG.gf,amU]at h;obtain⟨⟨c,v⟩,jW,h⟩:=h;simp  [c',amZ]at h;subst h;have runs:∀ (a:Act) (w:World) kap F,bx C s a w kap F->ol->sO->Ax->∀ (q:Option Addr) (n cap:Nat),a.eval x=.slice q n cap->0<=dG l->dG l<=dj->dj<=m->m<=cap->
     (execOp a.eval o).run C.P w=.ok (.value (.slice (if m.toNat=(dG l).toNat then q else q.map (·.add ((dG l).toNat*bQ.size))) (dj.toNat - (dG l).toNat) (m.toNat - (dG l).toNat))) w:=by
    intro a w kap F D yD Gv aoX q n cap ag bI c2 c3 c4;have dv:(ba.map a.eval=none/\l=none)\/∃ k m,ba.map a.eval=some (.int k m)/\l=some m:=by
     rcases AL D bS yD with⟨rfl,rfl⟩ | ⟨y,k,m,rfl,rfl,e⟩<;>grind
    obtain⟨xj,aT,m2,rfl,bB,c7⟩:∃ y k n,G=some y/\dj=n/\a.eval y=.int k n:=by
     rcases AL D AM Gv with⟨_,h⟩ | ⟨y,k,m,rfl,h,e⟩<;>grind
    obtain⟨b7,bW⟩:∃ k,a.eval mb=.int k m:=by
     rcases AL D vH aoX with⟨h,_⟩ | ⟨y,k,m,E,M,e⟩<;>grind
    subst bB;have:=aoV (P:=C.P) (w:=w) (len:=n) (k:=aT) (k':=b7) dv bI c2 c3 c4;simp[execOp,au,ag,Instr.sliceAt,Instr.slice,ep aM,c7,bW,this,iF.size]
   unfold YT at jW;split at jW
   ·rename_i e xs gu;simp only[aG.dF]at jW;split at jW
    ·obtain⟨rfl,rfl⟩:=jW;refine cT.pure ay bp λa w kap F D be hc=>?_;have an:bM C.P s.ab kap F w (use (bj C.aW s.aD x)).2 (a.eval x):=da D x rfl be.1;rw[gu]at an;obtain⟨_,a',cap,aF,m1,m2,m3,m4⟩:=(eh rfl).1 an;have aF:=(aQC aF).1;simp  [fV]at hc;obtain⟨bI,c2,c3,c4⟩:=hc;subst c3;have hlen:((xs.take dj.toNat).drop (dG l).toNat).length=dj.toNat - (dG l).toNat:=by
      grind
     refine⟨_,runs a w kap F D be.2.1 be.2.2.1 be.2.2.2 a' xs.length cap aF bI c2 (aQB _) (by omega),(eh rfl).2 ⟨rfl,?_⟩,_,by rw[hlen]⟩;refine⟨_,_,by rw[hlen],by omega,by omega,?_,λp ak C6=>?_⟩
     ·intro aA;split at aA
      ·omega
      ·cases a'<;>grind
     ·cases a' with
      | none=>grind
      | some q=>
       obtain⟨eH,ej,jJ⟩:=m4 q rfl (by omega);have bC:p=⟨q.block,q.off+(dG l).toNat*e.size,none⟩:=by
        grind [Gu]
       subst bC;refine⟨eH,rfl,λi G=>?_⟩;obtain⟨bE,d1,d2⟩:=jJ ((dG l).toNat+i) (by omega);grind
    grind
   ·rename_i gu;obtain⟨rfl,rfl⟩:=jW;refine cT.pure ay bp λa w kap F D be hc=>?_;have an:bM C.P s.ab kap F w (use (bj C.aW s.aD x)).2 (a.eval x):=da D x rfl be.1;rw[gu]at an;simp  [fV]at hc;have dA:=runs a w kap F D be.2.1 be.2.2.1 be.2.2.2 none 0 0 an (by omega) (by omega) (by omega) (by omega);have aV:dj.toNat=0:=by omega
    have E:m.toNat=0:=by omega
    have M:(dG l).toNat=0:=by omega
    rw[aV,E,M]at dA;exact⟨_,dA,(eh rfl).2 ⟨rfl,none,0,rfl,amY _,by decide,λ_=>rfl,λp ak=>by simp⟩,none,rfl⟩
   ·rename_i b g gu;simp only[aG.gW,aG.dF]at jW;split at jW
    ·rename_i bz;simp  at bz;obtain⟨aB,gi⟩:=bz;obtain⟨rfl,rfl⟩:=jW;refine cT.pure ay bp λa w kap F D be hc=>?_;have an:bM C.P s.ab kap F w (use (bj C.aW s.aD x)).2 (a.eval x):=da D x rfl be.1;rw[gu]at an;have ag:=an.2 aB.symm gi;obtain⟨eH,ej⟩:=Dd D gi;obtain⟨bI,c2,c3,c4⟩:=hc;cases aA:(kap b).fT with
     | true=>
      have aV:=eH aA;simp  [bL.slice,aA]at ag;exact⟨_,runs a w kap F D be.2.1 be.2.2.1 be.2.2.2 none 0 0 ag bI c2 c3 (by omega),trivial⟩
     | false=>
      have xb:=Qd D gi aA;simp  [bL.slice,aA]at ag;exact⟨_,runs a w kap F D be.2.1 be.2.2.1 be.2.2.2 _ _ _ ag bI c2 c3 (by omega),trivial⟩
    grind
   ·cases jW
  ·cases h
 ·cases h
theorem aoY{b:Nat}{e:aa}(U:(s.ab b).body=.bo e []):s.cq b ⟨(s.ab b).gen,.bo e []⟩=s:=by
 unfold aE.cq;have:(λi=>if i=b then (⟨(s.ab b).gen,.bo e []⟩) else s.ab i)=s.ab:=by
  funext i;by_cases G:i=b
  ·subst G;simp;rw[<-U]
  grind
 rw[this]
theorem aoZ(aU:ei C.P T){args:Array Operand}{ds:Array TypeId}(bp:∀ i,o.dst=some i->i<C.b3)(au:o.op=.call { callee:=.builtin .append,args:=args,argTypes:=ds }){b g ba G:Nat}(ax:Az (bj C.aW s.aD) args.toList=some (b,g,ba,G))
  (h:(Gh T (bj C.aW s.aD) args.toList ds.toList b g ba G).run s.ab=some res):cT C o s res:=by
 obtain⟨args⟩:=args;obtain⟨ds⟩:=ds;have ay:∀ c,o.op≠.defer c:=by grind
 simp  [Gh]at h;split at h
 ·rename_i x y t u;have gu:(use (bj C.aW s.aD x)).2=.sub b g ba G:=by
   simp  [Az]at ax;grind
  split at h
  ·rename_i e bB aH hu;have dJ:=aU.cb aH (by simp);have Gt:=aU.cb hu (by simp);obtain⟨me,aM,iF,oV⟩:=dJ.sl;obtain⟨aov,gV,_⟩:=Gt.sl;obtain⟨inf,z,i1,i2,i3,i4,i5,i6⟩:=nF iF.nE;have km:=aRN oV;simp only[aG.gf,amU,aG.gW,aG.dF]at h;obtain⟨⟨br,l⟩,mc,h⟩:=h;split at h
   ·rename_i aB;split at h
    ·rename_i a1 xs U;split at h
     ·rename_i uq;subst uq;simp  at h;subst h;intro a w kap F Q D be hc;obtain⟨q',yE,AP,rY⟩:=AN D mc (da D y rfl be.2);have an:bM C.P s.ab kap F w (use (bj C.aW s.aD x)).2 (a.eval x):=da D x rfl be.1;rw[gu]at an;have a6:=D.bH b;unfold c1 at a6;rw[U]at a6;obtain⟨⟨aO,aT⟩,b7⟩:=an.2 aB.symm (by rw[U];rfl);rw[U]at aT b7;simp  [ca.gU]at aT b7;have ps:∀ (w':World) v,(Builtin.append_ #[t,u] o.type #[a.eval x,a.eval y]).run C.P w=.ok v w'->(execOp a.eval o).run C.P w=.ok (.value v) w':=by
       intro w' v ag;refine sT au ?_;simp[builtin,ag]
      have GG:(h1 xs G br).length=xs.length:=by simp[h1];omega
      have hx:fN s.ab kap (λi=>if i=b then (⟨(s.ab b).gen,.bo a1 (h1 xs G br)⟩) else s.ab i) kap:=
       po rfl (λh=>by cases h) (λ_=>by rw[U];exact⟨rfl,GG,rfl⟩) (λh=>by cases h) (λh=>by cases h)
      rcases b7 with⟨aA,ag⟩ | ⟨aA,px,ag,kC,gX⟩
      ·have kl:=a6.1 aA;subst kl;have sY:G=0:=by grind
       subst sY;have ao0:ba=0:=by omega
       subst ao0;have Qx:br=[]:=by grind
       subst Qx;obtain⟨fo,eH,ej⟩:=Qp       rfl rY;have dA:(Builtin.append_ #[t,u] o.type #[a.eval x,a.eval y]).run C.P w=.ok (.slice none 0 0) w:=by
        rw[ag,AP];simp[Builtin.append_,ep aM,ep gV,ub i1,Builtin.lenOf];simp_all
       have bQ:h1 ([]:List a1.aq) 0 []=[]:=by rfl
       refine ig ay (ps w _ dA) ⟨kap,F,bx.set (s:=s.cq b _) ?_ bp ⟨⟨by simp[aE.cq,aB],rfl⟩,λ_ _=>⟨by simp,.inl ⟨aA,rfl⟩⟩⟩⟩;rw[bQ,aoY U];omega
      ·obtain⟨cs,ih,bI,c2,c3,c4,c5⟩:=a6.2 aA;obtain⟨fo,eH,ej⟩:=Qp       rfl rY;have re:=ej.1;have qj:=ej.one km;have ZI:xs.length*a1.size<=(kap b).cap*a1.size:=am4 _ c3;have GH:(G+br.length)*a1.size<=xs.length*a1.size:=am4 _ hc;rw[aQ8]at GH;obtain⟨w',eA,cn,cN,fF,oi,mE,oT⟩:∃ w' eA,(storeCells ⟨(kap b).ab,px+(G - ba)*a1.size,none⟩ fo).run C.P w=.ok () w'/\w'.heap[(kap b).ab]?=some (.cells eA ih (0,0))/\eA.toList=cs.toList.take ((kap b).off+G*a1.size)++(fo++cs.toList.drop ((kap b).off+G*a1.size+fo.length))/\
         (∀ r,r≠(kap b).ab->w'.heap[r]?=w.heap[r]?)/\w'.heap.size=w.heap.size/\dN w w':=by
        by_cases dx:ba<(kap b).cap
        ·have AU:px+(G - ba)*a1.size=(kap b).off+G*a1.size:=by
          rw[gX dx,Nat.add_assoc,<-aQ8];grind
         obtain⟨w',eA,cn,cN,fF,oi,mE,oT⟩:=yB (P:=C.P) fo ((kap b).off+G*a1.size) 0 w cs bI (by omega) qj;grind
        ·have aV:br.length=0:=by omega
         rw[aV,Nat.zero_mul]at re;have:=aQS re;subst this;exact⟨w,cs,by rfl,bI,by simp,λ_ _=>rfl,rfl,dN.refl w⟩
       have GB:G - ba+br.length<=(kap b).cap - ba:=by omega
       have dA:(Builtin.append_ #[t,u] o.type #[a.eval x,a.eval y]).run C.P w=.ok (.slice (some ⟨(kap b).ab,px,none⟩) (G - ba+br.length) ((kap b).cap - ba)) w':=by
        rw[ag,AP];simp only[Builtin.append_,aRn,aRJ,aRi,Sem.run_bind,ep aM,ep gV,Result.andThen_ok,ub i1,Sem.run_pure,Builtin.lenOf,amW,aQv,uf];simp_all
       refine ig ay (ps w' _ dA) ⟨kap,F,bx.set (s:=s.cq b _) ?_ bp ⟨⟨by simp[aE.cq,aB],rfl⟩,λ_ _=>⟨by simp  [aE.cq,ca.len];omega,.inr ⟨aA,px,?_,?_,?_⟩⟩⟩⟩
       ·refine D.q5   (by rw[U];grind [ca.cg]) (by simp[ca.cg,aA]) hx (λh=>by cases h) (λh=>by cases h) oi mE oT λH pw dx he=>?_;refine⟨λh=>(by grind),λ_=>⟨eA,ih,cN,?_,by omega,c4,?_⟩⟩
        ·grind [Array.length_toList]
        ·exact c5.h1 he ej hc (by omega) fF
       ·grind
       ·grind [aE.cq,ca.gU]
       grind [aE.cq,ca.gU]
     grind
    grind
   grind
  ·cases h
 ·cases h
theorem ao1(aU:ei C.P T){args:Array Operand}{ds:Array TypeId}(bp:∀ i,o.dst=some i->i<C.b3)(au:o.op=.call { callee:=.builtin .clear,args:=args,argTypes:=ds })
  (h:(Gi T (bj C.aW s.aD) args.toList ds.toList).run s.ab=some res):cT C o s res:=by
 obtain⟨args⟩:=args;obtain⟨ds⟩:=ds;have ay:∀ c,o.op≠.defer c:=by grind
 simp  [Gi]at h;split at h
 ·rename_i x t;split at h
  ·rename_i e aH;have dJ:=aU.cb aH (by simp);obtain⟨me,aM,iF,oV⟩:=dJ.sl;obtain⟨inf,z,i1,i2,i3,i4,i5,i6⟩:=nF iF.nE;have km:=aRN oV;split at h
   ·rename_i b g ba G gu;simp only[aG.gW,aG.dF]at h;split at h
    ·rename_i aB;split at h
     ·rename_i a1 xs U;split at h
      ·rename_i uq;subst uq;simp  at h;subst h;intro a w kap F Q D be _;have an:bM C.P s.ab kap F w (use (bj C.aW s.aD x)).2 (a.eval x):=da D x rfl be;rw[gu]at an;have a6:=D.bH b;unfold c1 at a6;rw[U]at a6;obtain⟨⟨aO,aT⟩,b7⟩:=an.2 aB.symm (by rw[U];rfl);rw[U]at aT b7;simp  [ca.len,ca.gU]at aT b7;have ps:∀ (w':World) v,(Builtin.clear_ #[t] o.type #[a.eval x]).run C.P w=.ok v w'->(execOp a.eval o).run C.P w=.ok (.value v) w':=by
        intro w' v ag;refine sT au ?_;simp[builtin,ag]
       have ed:(List.replicate (G - ba) a1.dW).length=G - ba:=by simp
       have GG:(h1 xs ba (List.replicate (G - ba) a1.dW)).length=xs.length:=by simp[h1];omega
       have hx:fN s.ab kap (λi=>if i=b then (⟨(s.ab b).gen,.bo a1 (h1 xs ba (List.replicate (G - ba) a1.dW))⟩) else s.ab i) kap:=
        po rfl (λh=>by cases h) (λ_=>by rw[U];exact⟨rfl,GG,rfl⟩) (λh=>by cases h) (λh=>by cases h)
       have nothing:G - ba=0->h1 xs ba (List.replicate (G - ba) a1.dW)=xs:=λaV=>by rw[aV];simp[h1]
       have iD:G - ba=0->s.cq b ⟨(s.ab b).gen,.bo a1 (h1 xs ba (List.replicate (G - ba) a1.dW))⟩=s:=λaV=>by
        rw[nothing aV];unfold aE.cq;have:(λi=>if i=b then (⟨(s.ab b).gen,.bo a1 xs⟩) else s.ab i)=s.ab:=by
         funext i;by_cases G:i=b
         ·subst G;simp;rw[<-U]
         grind
        rw[this]
       rcases b7 with⟨aA,ag⟩ | ⟨aA,px,ag,kC,gX⟩
       ·have kl:=a6.1 aA;have dA:(Builtin.clear_ #[t] o.type #[a.eval x]).run C.P w=.ok (.tuple #[]) w:=by
         rw[ag];simp[Builtin.clear_,ep aM]
        refine ig ay (ps w _ dA) ⟨kap,F,bx.set (s:=s.cq b _) ?_ bp trivial⟩;grind
       ·obtain⟨cs,ih,bI,c2,c3,c4,c5⟩:=a6.2 aA;by_cases aV:G - ba=0
        ·have dA:(Builtin.clear_ #[t] o.type #[a.eval x]).run C.P w=.ok (.tuple #[]) w:=by
          rw[ag,aV];simp[Builtin.clear_,ep aM]
         refine ig ay (ps w _ dA) ⟨kap,F,bx.set (s:=s.cq b _) ?_ bp trivial⟩;grind
        ·have hV:h6 C.P a1 F w ((Array.range ((G - ba)*a1.size)).map (λi=>z.cells[i % z.cells.size]!)).toList (List.replicate (G - ba) a1.dW):=ZF i5 _;have yG:z.cells.size=a1.size:=by
          obtain⟨c,Dm,iS,z2⟩:=yx (P:=C.P) (H:=λ_=>⟨0,.ez⟩) (kap:=λ_=>⟨0,0,0,true⟩) (F:=F) (w:=w) a1 i5;rw[aQD]at Dm;rw[<-aQK,Dm];exact jT a1 iS
         have re:=hV.1;rw[ed]at re;have qj:=hV.one km;revert hV re qj;generalize mf:((Array.range ((G - ba)*a1.size)).map (λi=>z.cells[i % z.cells.size]!)).toList=fo;intro hV re qj;have ZI:xs.length*a1.size<=(kap b).cap*a1.size:=am4 _ c3;have GH:(ba+(G - ba))*a1.size<=xs.length*a1.size:=am4 _ (by omega);rw[aQ8]at GH;have AU:=gX (by omega);obtain⟨w',eA,cn,cN,fF,oi,mE,oT⟩:=yB (P:=C.P) fo ((kap b).off+ba*a1.size) 0 w cs bI (by omega) qj;have dA:(Builtin.clear_ #[t] o.type #[a.eval x]).run C.P w=.ok (.tuple #[]) w':=by
          rw[ag];have bz:(Builtin.zeroCells z.cells (G - ba)).toList=fo:=by rw[<-mf,<-yG];rfl
          simp  [Builtin.clear_,ep aM,sR i1 i4];simp_all
         refine ig ay (ps w' _ dA) ⟨kap,F,bx.set (s:=s.cq b _) ?_ bp trivial⟩;refine D.q5   (by grind [ca.cg]) (by grind [ca.cg]) hx (λh=>by cases h) (λh=>by cases h) oi mE oT λH pw dx he=>?_;refine⟨λh=>(by grind),λ_=>⟨eA,ih,cN,?_,by omega,c4,?_⟩⟩
         ·grind [Array.length_toList]
         ·exact c5.h1 he hV (by omega) (by omega) (by omega)
      grind
     grind
    grind
   ·cases h
  ·cases h
 ·cases h
end
end Go.Fer
namespace Go.Fer
open Go.RowKit
section
variable {C:cJ} {T:Nat->aa} {bs:Nat->Option aQ} {o:Oper} {s:aE} {res:eC}
theorem QN{place:Nat->Option (z21')}{size:Nat}(ak:∀ i,place i=some (i*size,size)):∀ (iE:List (Nat×Value)) (cs:Array Value),(∀ q∈iE,q.2.cells.size=size/\q.1*size+size<=cs.size)->(iE.map (·.1)).Nodup->
  ∃ eA,Instr.fill place cs iE=some eA/\eA.size=cs.size/\∀ i,i*size+size<=cs.size->(eA.toList.drop (i*size)).take size=(match iE.find? (λp=>p.1 == i) with | some q=>q.2.cells.toList | none=>(cs.toList.drop (i*size)).take size)
 | [],cs,_,_=>⟨cs,rfl,rfl,λi _=>rfl⟩
 | (k,v)::iE,cs,h,aA=>by
  obtain⟨E,M⟩:=h (k,v) (by simp);have KI:=KF v.cells.toList 0 (k*size) cs (by grind);have e:(v.cells.zipIdx.foldl (λcs p=>cs.setIfInBounds (k*size+p.2) p.1) cs)=((v.cells.toList.zipIdx 0).foldl (λcs p=>cs.setIfInBounds (k*size+p.2) p.1) cs):=by
   rw[<-Array.foldl_toList];simp
  generalize aMn:(v.cells.zipIdx.foldl (λcs p=>cs.setIfInBounds (k*size+p.2) p.1) cs)=KY at *
  have GI:KY.toList=cs.toList.take (k*size)++(v.cells.toList++cs.toList.drop (k*size+size)):=by
   grind
  have cQ:KY.size=cs.size:=by
   rw[<-aQK];grind
  have xk:(iE.map (·.1)).Nodup/\k ∉ iE.map (·.1):=by
   grind
  obtain⟨eA,aO,aT,b7⟩:=QN ak iE KY (λq bC=>by grind) xk.1;refine⟨eA,?_,by omega,λi G=>?_⟩
  ·simp  [Instr.fill,ak];grind
  ·by_cases py:k=i
   ·grind
   ·have hV:(KY.toList.drop (i*size)).take size=(cs.toList.drop (i*size)).take size:=by
     apply aRR;intro j;simp only[aRO,aRp];split
     ·rw[GI];have mF:(List.take (k*size) cs.toList).length=k*size:=by grind
      have AI:v.cells.toList.length=size:=by omega
      rcases aRs i k with al | al
      ·have:(i+1)*size<=k*size:=am4 _ (by omega);grind
      ·have:(k+1)*size<=i*size:=am4 _ (by omega);rw[aQ8]at this;rw[am8 (by omega),am8 (by omega),aRp];congr 1;omega
     ·rfl
    grind
theorem ao2(aU:ei C.P T){ty n:Nat}{bw:Array (Nat×Operand)}(bp:∀ i,o.dst=some i->i<C.b3)(au:o.op=.buildSlice ty n bw)(h:(cR C.aW T bs (bj C.aW s.aD) o).run s.ab=some res):cT C o s res:=by
 obtain⟨bw⟩:=bw;have ay:∀ c,o.op≠.defer c:=by grind
 simp  [cR,au]at h;split at h
 ·rename_i e aH;have dJ:=aU.cb aH (by simp);obtain⟨me,aM,iF,oV⟩:=dJ.sl;obtain⟨inf,z,i1,i2,i3,i4,i5,i6⟩:=nF iF.nE;simp only[aG.gf,amU,aG.run_bind]at h;obtain⟨⟨xs,b'⟩,kl,h⟩:=h;obtain⟨b,aMo,aj⟩:=ue h;split at aj
  ·rename_i GJ;obtain⟨aMp,ZK⟩:=GJ;simp only[amX,am0]at ZK;obtain⟨⟨g_,GD⟩,QO⟩:=ZK;have Di:b ∉ b':=by grind
   simp  at aj;subst aj;intro a w kap F Q D be _;obtain⟨F',f1,bm,f2⟩:=bx.mX (aoC n 0 kl) D;obtain⟨QP,ao3,iS,z2⟩:=yx   (H:=s.ab) (kap:=kap)     e i5;have QQ:=Qj D bw be;have mG:=Zx D.bH f1 iS     (by simp[lM]) QQ n 0 kl f2;have yG:=(Gr e (P:=C.P) i5).2;have QR:∀ p∈bw,p.1<n:=by
    intro p ak;have:=List.all_eq_true.1 QO (p.1,(use (bj C.aW s.aD p.2)).2) (by simp  [lM,aRY];grind);grind
   have QS:((bw.map λp=>(p.1,a.eval p.2)).map (·.1)).Nodup:=by
    have:(lM (bw.map λp=>(p.1,bj C.aW s.aD p.2))).map (·.1)=(bw.map λp=>(p.1,a.eval p.2)).map (·.1):=by simp[lM]
    grind
   have KZ:∀ q∈bw.map (λp=>(p.1,a.eval p.2)),q.2.cells.size=e.size/\q.1*e.size+e.size<=n*e.size:=by
    intro q bC;obtain⟨p,ak,rfl⟩:=List.mem_map.1 bC;have dx:=QR p ak;refine⟨?_,by
     have:(p.1+1)*e.size<=n*e.size:=am4 _ (by omega);grind⟩
    obtain⟨bE,d1,d2⟩:=mG.2 p.1 (by omega);have GK:(bw.map λp=>(p.1,a.eval p.2)).find? (λr=>r.1 == p.1)=some (p.1,a.eval p.2):=by
     have ao4:∀ (l:List (Nat×Value)),(l.map (·.1)).Nodup->∀ q∈l,l.find? (λr=>r.1 == q.1)=some q:=by
      intro l;induction l<;>grind
     grind
    have:=jT e d1;grind
   let base:=(Array.range (n*e.size)).map (λi=>z.cells[i % z.cells.size]!);have aMq:base.size=n*e.size:=by grind
   obtain⟨eA,aO,aT,b7⟩:=QN (place:=λi=>some (i*e.size,e.size)) (λi=>rfl) (bw.map λp=>(p.1,a.eval p.2)) base (by grind) QS;have aMr:∀ i,i<n->(base.toList.drop (i*e.size)).take e.size=z.cells.toList:=by
    intro i G;have hle:(i+1)*e.size<=n*e.size:=am4 _ (by omega);apply aRR;intro j;simp  [aRO];split
    ·rename_i aM;have KT:(i*e.size+j) % z.cells.size=j:=by rw[yG,Nat.add_comm,Nat.add_mul_mod_self_right,Nat.mod_eq_of_lt aM]
     grind
    grind
   have ao5:h6 C.P e F' w eA.toList xs:=by
    refine⟨by grind,λi G=>?_⟩;have hle:(i+1)*e.size<=n*e.size:=am4 _ (by omega);grind
   have dA:(execOp a.eval o).run C.P w=.ok (.value (.slice (some ⟨w.heap.size,0,none⟩) n n)) (w.alloc (.cells eA me)):=by
    have ao6:¬n*e.size > 2 ^ 24:=by omega
    simp only[execOp,au,Instr.buildSlice,Sem.run_bind,ep aM,Result.andThen_ok,ub i1,i2,ao6,aQv];by_cases yH:n*e.size=0
    ·have vI:base=#[]:=Array.eq_empty_of_size_eq_zero (by omega);rw[vI]at aO;simp only[yH,if_true,Sem.run_bind,Sem.run_pure,Result.andThen_ok];rw[show ((Array.range 0).map (λi=>(#[])[i % (#[]).size]!))=#[] from by simp];simp  at aO ⊢;rw[aO];rfl
    ·simp only[yH,aQv,Sem.run_bind,sR i1 i4,Sem.run_pure];simp;rw[aO];rfl
   have ra:s.iC ((kj b').run s.ab++[(b,⟨(s.ab b).gen+1,.bo e xs⟩)])=(s.cE b').cq b ⟨(s.ab b).gen+1,.bo e xs⟩:=by
    rw[Df,ui]
   have sX:(s.cE b').ab b=s.ab b:=by simp[aE.cE,Di]
   have al:=bm.Gz (b:=b) (g:=(s.ab b).gen+1)   (k:=⟨w.heap.size,0,n,false⟩)   (by grind) (.inr rfl) (by simp) (λr D=>rT w _ D) (λ_=>by simp) ⟨rfl,rfl,rfl⟩
    (λH bV=>⟨λh=>(by grind),λ_=>⟨eA,me,ua w _,by grind,by grind,by
     have:n<=n*e.size:=Nat.le_mul_of_pos_right _ (aRN oV);exact⟨by grind,iF.KD⟩,(ao5.Gw (pre:=[]) (post:=[]) (by simp)).later (dk.alloc bm.du _)⟩⟩)
   refine ig ay dA ?_;simp  [aE.jI];rw[ra];exact⟨_,F',bx.set al bp ⟨⟨by simp[aE.cq],rfl⟩,λ_ _=>by simp[aE.cq,bL.slice,ca.len,mG.1]⟩⟩
  grind
 ·cases h
theorem ZL(qp:Nat):∀ (m:Nat) (l:List Value),l.length=m*qp->((List.range m).map λi=>(l.drop (i*qp)).take qp).flatten=l
 | 0,l,h=>by
  grind
 | m+1,l,h=>by
  have aR:=ZL qp m (l.take (m*qp)) (by grind);rw[aR3,aQT];have e:((List.range m).map λi=>(l.drop (i*qp)).take qp)=((List.range m).map λi=>((l.take (m*qp)).drop (i*qp)).take qp):=by
   refine aQz λi G=>?_;have hle:(i+1)*qp<=m*qp:=am4 _ (by grind);rw[aQ8]at hle;rw[List.drop_take,List.take_take,Nat.min_eq_left (by omega)]
  rw[e];have:(l.drop (m*qp)).take qp=l.drop (m*qp):=aRv (by grind);simp_all
theorem ao7(aU:ei C.P T){ty m:Nat}{e:aa}{bw:Array (Nat×Operand)}(bp:∀ i,o.dst=some i->i<C.b3)(au:o.op=.build ty bw)(aH:T ty=.array m e)
  (h:((w_ e (lM (bw.toList.map λp=>(p.1,bj C.aW s.aD p.2))) 0 m).eG λ(xs,b')=>if (b'.isEmpty&&decide ((lM (bw.toList.map λp=>(p.1,bj C.aW s.aD p.2))).map (·.1)).Nodup&&(lM (bw.toList.map λp=>(p.1,bj C.aW s.aD p.2))).all (λp=>decide (p.1<m)))=true then c' (yy (bw.toList.map λp=>(p.1,bj C.aW s.aD p.2))) True (.val (.array m e) xs) else .none).run s.ab=some res):cT C o s res:=by
 obtain⟨bw⟩:=bw;simp only[aG.gf,amU]at h;obtain⟨⟨xs,b'⟩,kl,h⟩:=h;have dJ:=aU.cb aH (by simp);obtain⟨me,aM,iF,oV⟩:=dJ.bo;obtain⟨i,z,E,M,al,a7,bR,er⟩:=nF dJ.nE;split at h
 ·rename_i hc;simp only[amX,am0,List.isEmpty_iff,aQL]at hc;obtain⟨⟨rfl,GD⟩,QO⟩:=hc;simp  [c',amZ]at h;subst h;refine cT.pure (by grind) bp λa w kap F D be _=>?_;obtain⟨QP,ao3,iS,z2⟩:=yx (P:=C.P) (H:=s.ab) (kap:=kap) (F:=F) (w:=w) (.array m e) bR;have yG:=(Gr (.array m e) (P:=C.P) bR).2;have aMs:z.cells.size=m*e.size:=yG;have QQ:=Qj D bw be;have mG:=λzero (bz:cw C.P e F w zero e.dW)=>Zx D.bH (λ_ h=>h) bz     (by simp[lM]) QQ m 0 kl (λ_ h=>by grind);have QR:∀ p∈bw,p.1<m:=by
   intro p ak;exact QO (p.1,(use (bj C.aW s.aD p.2)).2) (by simp  [lM,aRY];grind)
  have QS:((bw.map λp=>(p.1,a.eval p.2)).map (·.1)).Nodup:=by
   have:(lM (bw.map λp=>(p.1,bj C.aW s.aD p.2))).map (·.1)=(bw.map λp=>(p.1,a.eval p.2)).map (·.1):=by simp[lM]
   grind
  have hV:∀ i,i<m->cw C.P e F w ((z.cells.toList.drop (i*e.size)).take e.size) e.dW:=by
   intro i G;have ao8:cw C.P (.array m e) F w z.cells.toList (aa.array m e).dW:=by grind
   obtain⟨p,c,q,aO,aT,b7⟩:=Qc ao8 G;have ai:=jT e b7;have:(aa.dW (.array m e)).getD i e.dW=e.dW:=by
    show (List.replicate m e.dW).getD i e.dW=e.dW;grind
   grind
  have ZM:xs.length=m:=by
   rcases Nat.eq_zero_or_pos m with aV | aV
   ·subst aV;simp  [w_,aQx]at kl;grind
   grind
  have KZ:∀ q∈bw.map (λp=>(p.1,a.eval p.2)),q.2.cells.size=e.size/\q.1*e.size+e.size<=z.cells.size:=by
   intro q bC;obtain⟨p,ak,rfl⟩:=List.mem_map.1 bC;have dx:=QR p ak;refine⟨?_,by
    have:(p.1+1)*e.size<=m*e.size:=am4 _ (by omega);grind⟩
   obtain⟨bE,d1,d2⟩:=(mG _ (hV p.1 dx)).2 p.1 (by omega);have GK:(bw.map λp=>(p.1,a.eval p.2)).find? (λr=>r.1 == p.1)=some (p.1,a.eval p.2):=by
    have ao4:∀ (l:List (Nat×Value)),(l.map (·.1)).Nodup->∀ q∈l,l.find? (λr=>r.1 == q.1)=some q:=by
     intro l;induction l<;>grind
    grind
   have:=jT e d1;grind
  obtain⟨eA,aO,aT,b7⟩:=QN   (λi=>rfl) (bw.map λp=>(p.1,a.eval p.2)) z.cells KZ QS;refine⟨.agg eA,?_,⟨eA,rfl,by omega⟩,?_⟩
  ·simp  [execOp,au,Instr.build,sR E a7,ep aM,iF.size];simp_all
  ·refine⟨(List.range m).map λi=>(eA.toList.drop (i*e.size)).take e.size,(ZL e.size m eA.toList (by grind)).symm,by simp,ZM,λi G ea=>?_⟩;have hle:(i+1)*e.size<=m*e.size:=am4 _ (by omega);grind
 ·cases h
theorem gB.mono{P:Program}{t:aa}{F F':Nat->Prop}{w w':World}{aI:List Value}{x:t.aq}(h:gB P t F w aI x)(bq:∀ r,F r->F' r)(he:dk F w w'):gB P t F' w' aI x:=⟨h.1,fM t bq he h.2⟩
variable {k:FuncId}{dS:List Operand}
theorem ao9(bp:∀ i,o.dst=some i->i<C.b3)(au:o.op=.makeFunc (.func k) #[] ⟨dS⟩){v:Kh}(ag:C.aW.t_ k=some v)
  (h:((ki (h3 (v.cs.map .bP)) ((dS.map (bj C.aW s.aD)).map λv=>(use v).2)).eG λ(y,b')=>(kj b').bind λwl=>.ret (some ⟨kk (dS.map (bj C.aW s.aD)),True,.val (.fn (h3 v.as) v.aS) (λx=>v.sh (Kg v.as (v.cs.map .bP) x y)),wl⟩):aG (Option eC)).run s.ab=some res):cT C o s res:=by
 simp only[aG.gf,amU,aG.run_bind,aG.dF,amZ]at h;obtain⟨⟨y,l⟩,bf,rfl⟩:=h;intro a w kap F Q D be _;obtain⟨F',f1,bm,f2⟩:=bx.mX (rZ _ bf) D;have fv:gB C.P (h3 (v.cs.map .bP)) F' w (dS.map a.eval) y:=by
  refine xf D.bH f1 _ bf f2 (by simp) λi G ea=>?_;simp;have dM:i<dS.length:=by grind
  have E:=uh be i (by grind);have aF:(dS.map (bj C.aW s.aD)).getD i .undef=bj C.aW s.aD dS[i]:=by grind
  rw[aF]at E;exact q7 (lO D dS[i]) E
 obtain⟨ax,AV⟩:=D.j7.t_ k v ag;have dA:(execOp a.eval o).run C.P w=.ok (.value (.func (.func k) #[] (dS.map a.eval).toArray)) w:=by simp[execOp,au,Instr.makeFunc]
 refine ig (by grind) dA ⟨kap,F',?_⟩;simp  [aE.jI];rw[ui];refine bx.set bm bp ((eh rfl).2 ⟨rfl,_,rfl,⟨rfl,rfl⟩,λfX dP xl AW pA uv args x E M al=>⟨k,_,rfl,AV.enter,?_⟩⟩);have aM:=YB v.as (v.cs.map .bP) ax       ⟨E,M⟩ (fv.mono xl AW);have:=AV.iv fX dP _ _ pA uv aM al;have e:(args++dS.map a.eval).toArray=args.toArray++(dS.map a.eval).toArray:=by simp
 rw[e]at this;exact this.mono λe w3 ⟨v,y,aF,bB,⟨aI,c7,bW,gS⟩,kU⟩=>⟨v,y,aI,aF,bB,c7,bW,gS,kU⟩
theorem ao_(bp:∀ i,o.dst=some i->i<C.b3)(au:o.op=.makeFunc (.func k) #[] ⟨dS⟩){v:Am}(ag:C.aW.An k=some v)
  (h:((ki (h3 (v.cs.map .bP)) ((dS.map (bj C.aW s.aD)).map λv=>(use v).2)).eG λ(y,b')=>(kj b').bind λwl=>.ret (some ⟨kk (dS.map (bj C.aW s.aD)),True,.val (.cI v.aK) (v.S y),wl⟩):aG (Option eC)).run s.ab=some res):cT C o s res:=by
 simp only[aG.gf,amU,aG.run_bind,aG.dF,amZ]at h;obtain⟨⟨y,l⟩,bf,rfl⟩:=h;intro a w kap F Q D be _;obtain⟨F',f1,bm,f2⟩:=bx.mX (rZ _ bf) D;have fv:gB C.P (h3 (v.cs.map .bP)) F' w (dS.map a.eval) y:=by
  refine xf D.bH f1 _ bf f2 (by simp) λi G ea=>?_;simp;have dM:i<dS.length:=by grind
  have E:=uh be i (by grind);have aF:(dS.map (bj C.aW s.aD)).getD i .undef=bj C.aW s.aD dS[i]:=by grind
  rw[aF]at E;exact q7 (lO D dS[i]) E
 have AV:=D.j7.An k v ag;have dA:(execOp a.eval o).run C.P w=.ok (.value (.func (.func k) #[] (dS.map a.eval).toArray)) w:=by simp[execOp,au,Instr.makeFunc]
 refine ig (by grind) dA ⟨kap,F',?_⟩;simp  [aE.jI];rw[ui];refine bx.set bm bp ((eh rfl).2 ⟨rfl,_,rfl,⟨rfl,rfl⟩,λfX dP xl AW pA uv eM=>⟨k,_,rfl,AV.enter,λl I Y jr jX fk=>?_⟩⟩);exact AV.iv fX dP _ _ pA uv (fv.mono xl AW) eM l I Y jr jX fk
variable {dS:Array Operand}
theorem ao'(bp:∀ i,o.dst=some i->i<C.b3)(au:o.op=.makeFunc (.func k) #[] dS)(h:(cR C.aW T bs (bj C.aW s.aD) o).run s.ab=some res):cT C o s res:=by
 obtain⟨dS⟩:=dS;simp only[cR,au,Array.isEmpty_empty,if_true]at h;split at h;case h_1 v ag=>exact ao9 bp au ag h
 split at h;case h_1 v ag=>exact ao_ bp au ag h
 simp only[c',aG.dF,amZ]at h;subst h;refine cT.pure (by grind) bp λa w kap F D be _=>?_;refine⟨.func (.func k) #[] (dS.map a.eval).toArray,by simp[execOp,au,Instr.makeFunc],dS.map a.eval,rfl,by simp,λi G=>?_⟩;have ea:i<dS.length:=by grind
 have E:=uh be i (by omega);have aF:(dS.map (bj C.aW s.aD)).getD i .undef=bj C.aW s.aD dS[i]:=by grind
 rw[aF]at E;have M:=q7 (lO D dS[i]) E;have c7:h5 ((dS.map (bj C.aW s.aD)).map λv=>(use v).2) i=(use (bj C.aW s.aD dS[i])).2:=by simp[h5,ea]
 grind
theorem apa{first:Array Operand}(bp:∀ i,o.dst=some i->i<C.b3)(au:o.op=.makeFunc (.func k) first dS)(aC:first.isEmpty=false)(h:(cR C.aW T bs (bj C.aW s.aD) o).run s.ab=some res):cT C o s res:=by
 obtain⟨first⟩:=first
 simp  [cR,au,aC,aQv]at h;split at h
 ·have hc:dS=#[]:=by grind
  subst hc;simp  [c',amZ]at h;subst h;refine cT.pure (by grind) bp λa w kap F D be _=>?_;refine⟨.func (.func k) (first.map a.eval).toArray #[],by simp[execOp,au,Instr.makeFunc],first.map a.eval,rfl,by simp,λi G=>?_⟩;have ea:i<first.length:=by omega
  have E:=uh be i (by grind);have aF:(first.map (bj C.aW s.aD)).getD i .undef=bj C.aW s.aD first[i]:=by grind
  rw[aF]at E;have M:=q7 (lO D first[i]) E;have c7:h5 ((first.map (bj C.aW s.aD)).map λv=>(use v).2) i=(use (bj C.aW s.aD first[i])).2:=by simp[h5,ea]
  grind
 ·cases h
def m'(o:Oper)(b3:Nat):Bool:=
 (match o.dst with | some d=>decide (d<b3) | none=>true)&&(match o.op with | .store _ _ _=>o.dst.isNone | .mapUpdate _ _ _ _=>o.dst.isNone | .insert _ _ _ _=>o.dst.isNone | _=>true)
theorem apb(aU:ei C.P T)(dq:lP C.P bs)(ay:m' o C.b3=true)(h:(cR C.aW T bs (bj C.aW s.aD) o).run s.ab=some res):cT C o s res:=by
 simp  [m']at ay;have bp:∀ i,o.dst=some i->i<C.b3:=λi G=>by
  grind
 cases au:o.op with
 | move x=>exact anG bp au h
 | assign x=>exact anH bp au h
 | pick c a b=>exact anI bp au h
 | binOp op t x y dO=>exact anS aU bp au h
 | unOp op t x=>exact anJ bp au h
 | extract t i=>exact anK bp au h
 | nilCheck x=>exact anL bp au h
 | fieldAddr t x f=>exact anM aU bp au h
 | field t x f=>exact anN aU bp au h
 | load t x=>exact anT aU bp au h
 | store t x y=>
  exact an_ aU (by grind) au h
 | alloc t=>
  by_cases aH:T t=.dc
  ·simp  [cR,au]at h;obtain⟨_,_,aj⟩:=ue h;grind
  ·exact an3 aU bp au h aH
 | box t x=>exact an5 aU bp au h
 | build t bw=>
  by_cases Qk:∀ m e,T t≠.array m e
  ·exact an8 aU bp au Qk h
  ·obtain⟨m,e,aH⟩:∃ m e,T t=.array m e:=by grind
   refine ao7 aU bp au aH ?_;simpa only [cR,au,aH]using h
 | buildSlice t n bw=>exact ao2 aU bp au h
 | indexAddr t x i=>exact aoc aU bp au h
 | index t x i=>exact anV aU bp au h
 | convert a b x=>exact aoy aU bp au h
 | makeFunc fn first dS=>
  cases fn with
  | func k=>
   by_cases aC:first=#[]
   ·subst aC;exact ao' bp au h
   ·exact apa bp au (by grind) h
  | _=>simp[cR,au,aG.none]at h
 | makeMap t r=>exact aoH bp au h
 | lookup t m x ok=>exact aoJ aU bp au h
 | mapUpdate t m x y=>
  exact QI aU (by grind) (.inl au) h
 | insert t m x y=>
  exact QI aU (by grind) (.inr au) h
 | makeSlice t l c=>exact aoO aU bp au h
 | makeInterface t x=>exact ZJ (by simp[cR,au,c']) h
 | panic x=>exact ZJ (by simp[cR,au,c']) h
 | slice t x ba G mb=>
  cases mb with
  | none=>exact aoe aU bp au h
  | some m=>exact aoW aU bp au h
 | call c=>
  obtain⟨callee,args,ds⟩:=c;cases callee with
  | value f=>
   cases f with
   | func k=>exact aoD dq bp au h
   | _=>simp[cR,au,pq,aG.none]at h
  | invoke r m=>simp[cR,au,pq,aG.none]at h
  | builtin b=>
   cases b with
   | len=>exact anZ aU bp au h
   | append=>
    cases ax:Az (bj C.aW s.aD) args.toList with
    | none=>exact aou aU bp au (by simpa [cR,au,pq,ax]using h)
    | some p=>exact aoZ aU bp au ax (by simpa [cR,au,pq,ax]using h)
   | clear=>exact ao1 aU bp au (by simpa [cR,au,pq]using h)
   | copy=>exact aoS aU bp au h
   | min=>exact Y9 (.inl ⟨rfl,rfl⟩) bp au (by simpa [cR,au,pq]using h)
   | max=>exact Y9 (.inr ⟨rfl,rfl⟩) bp au (by simpa [cR,au,pq]using h)
   | cap=>exact an0 aU bp au (by simpa [cR,au,pq]using h)
   | _=>simp[cR,au,pq,aG.none]at h
 | _=>simp[cR,au,aG.none]at h
end
end Go.Fer
namespace Go.Fer
open Go.RowKit
def aG.eu{af:Type}(p:af->Prop):aG af->Prop
 | .ret a=>p a
 | .fl _ k=>∀ x,(k x).eu p
theorem ZN{rho:Operand->aN}{k:IntKind}:∀ (l:List Operand) {cA:Prop} {jH:z1'},(∀ x∈l,(use (rho x)).1)->qe rho k l=some (cA,jH)->cA
 | [],_,_,_,h=>by cases h
 | [x],cA,jH,hu,h=>by
  simp  [qe]at h;grind
 | x::y::l,cA,jH,hu,h=>by
  simp  [qe]at h;split at h
  ·rename_i ai;split at h
   ·cases h;exact⟨hu x (by simp),ZN (y::l) (λz bz=>hu z (am2 _ bz)) ai⟩
   grind
  grind
theorem aG.eu.run{af:Type}{p:af->Prop}{m:aG af}(h:m.eu p)(H:Nat->b_):p (m.run H):=by
 induction m with
 | ret a=>exact h
 | fl b k aR=>exact aR _ (h _)
theorem aG.eu.bind{af bet:Type}{p:bet->Prop}{m:aG af}{f:af->aG bet}(h:∀ a,(f a).eu p):(m.bind f).eu p:=by
 induction m with
 | ret a=>exact h a
 | fl b k aR=>exact λx=>aR x
variable {af:Type}
def mg(p:af->Prop)(x:Option af):Prop:=∀ a,x=some a->p a
theorem aG.eu.eG{af bet:Type}{p:bet->Prop}{m:aG (Option af)}{f:af->aG (Option bet)}(h:∀ a,(f a).eu (mg p)):(m.eG f).eu (mg p):=by
 refine aG.eu.bind λa=>?_;cases a with
 | none=>intro a h;grind
 | some a=>grind
theorem aG.eu.ZO{bet:Type}{q:af->Prop}{p:bet->Prop}{m:aG (Option af)}{f:af->aG (Option bet)}(hm:m.eu (mg q))(h:∀ a,q a->(f a).eu (mg p)):(m.eG f).eu (mg p):=by
 induction m with
 | ret a=>
  cases a with
  | none=>intro b U;grind
  | some a=>exact h a (hm a rfl)
 | fl b k aR=>exact λx=>aR x (hm x)
theorem aG.eu.mh{p:af->Prop}:(aG.none:aG (Option af)).eu (mg p):=by intro a h;grind
theorem aG.eu.uw{p:af->Prop}{a:af}(h:p a):(aG.ret (some a)).eu (mg p):=by intro b U;grind
theorem aG.eu.nil{p:af->Prop}:(aG.ret (Option.none:Option af)).eu (mg p):=by intro b U;grind
theorem aG.eu.c'{p:eC->Prop}{cA c:Prop}{v:aN}(h:p ⟨cA,c,v,[]⟩):(c' cA c v).eu (mg p):=aG.eu.uw h
theorem aG.eu.od{p:eC->Prop}{d:Option Nat}{k:Nat->Nat->Option eC}(h:∀ b g,mg p (k b g)):(od d k).eu (mg p):=by
 unfold Go.Fer.od;split
 ·exact .mh
 ·exact λx=>h _ _
def aN.Dn:aN->Bool
 | .kB _ _=>true
 | _=>false
theorem K1{a:aN}(h:a.Dn=false):(use a).1:=by
 cases a<;>first | trivial | cases h
def ux(rho:Operand->aN)(o:Oper):Bool:=o.op.operands.toList.all λx=>!(rho x).Dn
def aN.apc:aN->Bool
 | .hq _ _=>false
 | .val (.map _ _) _=>false
 | _=>true
def Dp(rho:Operand->aN)(b:Builtin)(args:List Operand):Bool:=
 match b with
 | .len=>match args with
  | [x]=>(use (rho x)).2.apc
  | _=>false
 | .min=>true
 | .max=>true
 | _=>false
def aN.ZP:aN->Bool
 | .ke ..=>true
 | _=>false
def ri(rho:Operand->aN)(o:Oper):Bool:=
 match o.op with
 | .move _ | .assign _ | .pick .. | .unOp .. | .extract .. | .fieldAddr .. | .field .. | .alloc .. | .box .. | .build .. | .buildSlice .. | .convert .. | .makeFunc .. | .makeMap .. | .lookup .. | .mapUpdate .. | .insert ..=>true
 | .load _ x=>!(use (rho x)).2.ZP
 | .store _ x _=>!(use (rho x)).2.ZP
 | .binOp op _ x _ _=>match op with
  | .quo | .rem | .shl | .shr=>false
  | .add=>(use (rho x)).2.oc.isSome
  | _=>true
 | .call c=>match c.callee with
  | .builtin b=>Dp rho b c.args.toList
  | _=>false
 | _=>false
variable {op:BinOp}{v:aN}
theorem apd{k:IntKind}{a b:Int}{c:Prop}(h:C7 op k a b=some (c,v))(E:op≠.quo)(M:op≠.rem):c:=by
 cases op<;>simp only[C7,reduceCtorEq]at h<;>first | (obtain⟨rfl,_⟩:=h;trivial) | contradiction
theorem ape{a b:List UInt8}{c:Prop}(h:F_ op a b=some (c,v))(E:op≠.add):c:=by
 cases op<;>simp only[F_,reduceCtorEq]at h<;>first | (obtain⟨rfl,_⟩:=h;trivial) | contradiction
theorem apf{t:aa}{x y:aN}:(Ga op t x y).eu (mg λr=>r.1):=by
 refine aG.eu.eG λe=>?_;cases op<;>first | exact .uw trivial | exact .nil
section
variable {aJ:dX} {T:Nat->aa} {bs:Nat->Option aQ} {rho:Operand->aN} {o:Oper}
variable {x:Operand}{y:Operand}{ty:TypeId}
theorem apg{t:TypeId}(au:o.op=.binOp op ty x y t)(hc:ri rho o=true):(cR aJ T bs rho o).eu (mg λr=>r.c):=by
 unfold cR;rw[au];simp;simp  [ri,au]at hc;split
 ·split
  ·grind
  ·grind
  ·split
   ·split
    ·rename_i c v G;refine .c' (apd G ?_ ?_)<;>(grind)
    ·exact .mh
   ·exact .mh
 ·split
  ·rename_i a b E M;split
   ·rename_i c v G;refine .c' (ape G ?_);intro e;subst e;generalize (use (rho x)).2=z at hc E;cases z<;>try (cases E;done)
    rename_i t d;cases t<;>first | (cases E;done) | (cases hc;done)
   ·exact .mh
  ·exact aG.eu.ZO apf λr D=>.c' D
theorem ZQ{p:eC->Prop}{m:Operand}(h:∀ wl,p ⟨(use (rho m)).1/\(use (rho x)).1/\(use (rho y)).1,True,.undef,wl⟩):(vv T rho ty m x y).eu (mg p):=by
 unfold vv;split
 ·simp;split
  ·split
   ·refine aG.eu.eG λ_=>aG.eu.eG λ_=>aG.eu.bind λ_=>λz=>?_;intro r D;split at D
    ·split at D
     ·simp  at D;grind
     grind
    grind
   ·exact .mh
  ·exact .mh
 ·exact .mh
theorem aph{m:Operand}:(vv T rho ty m x y).eu (mg λr=>r.c):=ZQ λ_=>trivial
theorem api(hc:ri rho o=true):(cR aJ T bs rho o).eu (mg λr=>r.c):=by
 cases au:o.op with
 | binOp op ty x y t=>exact apg au hc
 | call c=>
  obtain⟨callee,args,ds⟩:=c;simp  [ri,au]at hc;unfold cR;rw[au];simp only[pq];cases callee with
  | builtin b=>
   cases b with
   | len=>
    simp  [Gd];split
    ·simp  [Dp]at hc;refine aG.eu.ZO   ?_ λr D=>.c' D;unfold Kp;repeat' first | exact .mh | exact .uw trivial | split | (cases hc;done) | (intro z r D;grind) | simp_all
    ·exact .mh
   | min | max=>
    simp  [Ay];repeat' first | exact .c' trivial | exact .mh | split
   | _=>simp[Dp]at hc
  | _=>grind
 | _=>
  simp only[ri,au]at hc;unfold cR;rw[au];simp only[C_];repeat' first | exact .mh | exact .c' trivial | exact .uw trivial | exact aph | refine aG.eu.eG λ_=>?_ | refine aG.eu.bind λ_=>?_ | refine .od λb g=>λr D=>by grind | split | (cases hc;done) | (intro z r D;grind) | simp_all
theorem GL:∀ {l:List aN},(∀ v∈l,(use v).1)->kk l
 | [],_=>trivial
 | v::l,h=>by
  have E:=h v (by simp);have M:=GL (l:=l) λu hu=>h u (by grind);cases v<;>first | exact M | exact⟨E,M⟩
theorem ZR:∀ {l:List (Nat×aN)},(∀ v∈l,(use v.2).1)->yy l
 | [],_=>trivial
 | (i,v)::l,h=>by
  have E:=h (i,v) (by simp);have M:=ZR (l:=l) λu hu=>h u (by grind);cases v<;>first | exact M | exact⟨E,M⟩
theorem GM{x:Option Operand}{p:Prop}{n:Option Int}(h:lq rho x=some (p,n))(an:∀ y,x=some y->(use (rho y)).1):p:=by
 unfold lq at h;grind
def vJ(rho:Operand->aN)(o:Oper):Prop:=∀ x∈o.op.operands.toList,(use (rho x)).1
theorem QT{rho:Operand->aN}{o:Oper}(h:ux rho o=true):vJ rho o:=λx an=>K1 (by simpa using List.all_eq_true.1 h x an)
theorem vJ.use{rho:Operand->aN}{o:Oper}(h:vJ rho o)(an:x∈o.op.operands.toList){cA:Prop}(hu:use (rho x)=(cA,v)):cA:=by
 have:=h x an;grind
set_option maxHeartbeats 1600000 in
theorem apj(nK:vJ rho o):(cR aJ T bs rho o).eu (mg λr=>r.cA):=by
 have aC:∀ x∈o.op.operands.toList,(use (rho x)).1:=nK;have bq:∀ (l:List Operand),(∀ x∈l,x∈o.op.operands.toList)->kk (l.map rho):=λl ai=>GL λv ag=>by
  grind
 have jX:∀ (l:List (Nat×Operand)),(∀ p∈l,p.2∈o.op.operands.toList)->yy (l.map λp=>(p.1,rho p.2)):=λl ai=>ZR λv ag=>by
  grind
 cases au:o.op with
 | build ty bw=>
  have h:=jX bw.toList λp ak=>by simp  [Op.operands];grind
  unfold cR;rw[au];simp only;repeat' first | exact .mh | exact .c' h | refine aG.eu.eG λ_=>?_ | split
 | buildSlice ty n bw=>
  have h:=jX bw.toList λp ak=>by simp  [Op.operands];grind
  unfold cR;rw[au];simp only;repeat' first | exact .mh | refine aG.eu.eG λ_=>aG.eu.bind λ_=>.od λb g=>λr D=>by grind | split
 | makeFunc fn first dS=>
  have h:=bq dS.toList λp ak=>by simp[Op.operands];grind
  have M:=bq first.toList λp ak=>by simp[Op.operands];grind
  unfold cR;rw[au];simp only;repeat' first | exact .mh | exact .c' h | exact .c' M | exact aG.eu.eG λ_=>aG.eu.bind λ_=>.uw h | split
 | slice ty x ba G mb=>
  rw[au]at aC;unfold cR;rw[au];simp only[Ks,Kr];have an:=aC x (by simp[Op.operands]);have ai:∀ p n,lq rho ba=some (p,n)->p:=λp n h=>GM h λy bf=>aC y (by subst bf;simp[Op.operands]);have dj:∀ p n,lq rho G=some (p,n)->p:=λp n h=>GM h λy bf=>aC y (by subst bf;simp[Op.operands]);have hm:∀ p n,lq rho mb=some (p,n)->p:=λp n h=>GM h λy bf=>aC y (by subst bf;simp[Op.operands]);repeat' first | exact .mh | exact .c' (by grind) | exact aG.eu.eG λ_=>.uw (by grind) | split
 | call c=>
  obtain⟨callee,args,ds⟩:=c;have aZ:∀ x∈args.toList,(use (rho x)).1:=λx an=>aC x (by simp[Op.operands,Call.operands];grind);have gA:kk (args.toList.map rho):=GL λv ag=>by grind
  have G:∀ (x:Operand) (l:List Operand) {k:IntKind} {cA:Prop} {jH:z1'},args.toList=x::l->qe rho k l=some (cA,jH)->cA:=λx l _ _ _ e h=>ZN l (λp ak=>aZ p (by grind)) h;unfold cR;rw[au];simp only[pq,Gd,Gh,Ge,Gc,Gi,Kw,Ay,Gf,Kt];repeat' first | exact .mh | exact .c' (by grind) | exact .uw (by grind) | refine aG.eu.eG λ_=>?_ | refine aG.eu.bind λ_=>?_ | refine .od λb g=>λr D=>by grind | split | (intro z;dsimp only) | (intro r D;grind)
 | _=>
  rw[au]at aC;simp only[Op.operands]at aC;unfold cR;rw[au];simp only[C_,Kv];repeat' first | exact .mh | exact .c' (by grind) | exact .uw (by grind) | refine aG.eu.eG λ_=>?_ | refine aG.eu.bind λ_=>?_ | refine .od λb g=>λr D=>by grind | exact ZQ λ_=>by grind | split | (unfold P4) | (intro z;dsimp only) | (intro r D;grind)
end
end Go.Fer
namespace Go.Fer
open Go.RowKit
theorem ZS{rho kI:Operand->aN}{k:IntKind}:∀ (l:List Operand),(∀ x∈l,rho x=kI x)->qe rho k l=qe kI k l
 | [],_=>rfl
 | [x],h=>by simp only[qe,h x (by simp)]
 | x::y::l,h=>by simp only[qe,h x (by simp),ZS (y::l) λz bz=>h z (am2 _ bz)]
section
variable {aJ:dX} {T:Nat->aa} {bs:Nat->Option aQ} {rho kI:Operand->aN} {o:Oper}
theorem QU{x:Option Operand}(h:∀ y,x=some y->rho y=kI y):lq rho x=lq kI x:=by
 cases x with
 | none=>rfl
 | some y=>have:=h y rfl;unfold lq;grind
theorem apk(h:∀ x∈o.op.operands.toList,rho x=kI x):cR aJ T bs rho o=cR aJ T bs kI o:=by
 have hm:∀ l:List Operand,(∀ x∈l,x∈o.op.operands.toList)->l.map rho=l.map kI:=λl ai=>aQz λp ak=>h p (ai p ak);have ak:∀ l:List (Nat×Operand),(∀ p∈l,p.2∈o.op.operands.toList)->l.map (λp=>(p.1,rho p.2))=l.map λp=>(p.1,kI p.2):=λl ai=>aQz λp ak=>by rw[h p.2 (ai p ak)]
 unfold cR;cases au:o.op with
 | build ty bw | buildSlice ty n bw=>simp only[ak bw.toList λp ak=>by rw[au];simp only[Op.operands,aRY];grind]
 | makeFunc fn first dS=>simp only[hm dS.toList λp ak=>by rw[au];simp[Op.operands];simp_all,hm first.toList λp ak=>by rw[au];simp[Op.operands];simp_all]
 | slice ty x ba G mb=>
  rw[au]at h;have U:∀ z,z=ba\/z=G\/z=mb->lq rho z=lq kI z:=λz bz=>QU λy bf=>h y (by grind [Op.operands]);simp only[Kr,Ks,h x (by simp[Op.operands]),U ba (.inl rfl),U G (.inr (.inl rfl)),U mb (.inr (.inr rfl))]
 | call c=>
  rw[au]at h;obtain⟨callee,args,ds⟩:=c;have aZ:∀ x∈args.toList,rho x=kI x:=λx an=>h x (by simp[Op.operands,Call.operands];simp_all);have G:∀ (k:IntKind) (x:Operand) (l:List Operand),args.toList=x::l->qe rho k l=qe kI k l:=λk x l e=>ZS l λp ak=>aZ p (by rw[e];exact am2 _ ak);have ax:Az rho args.toList=Az kI args.toList:=by unfold Az;grind
  simp only[pq,ax,Kt,aQz aZ];split
  ·split<;>simp only[Gd,Gh,Ge,Gi,Kw,Ay,Gf];all_goals first | (split<;>first | rfl | (simp_all;done)) | (split<;>split<;>first | rfl | (simp_all;done))
  all_goals rfl
 | _=>rw[au]at h<;>simp[Op.operands]at h<;>simp_all[C_,vv,Kv]
end
end Go.Fer
namespace Go.Fer
open Go.RowKit
variable {P:Program}{e:aa}
theorem cx.K3{id:TypeId}(h:cx P (.cP e) id):cx P (.slice e) id:=by
 have G:ob P (.cP e) id=ob P (.slice e) id:=by
  unfold ob;cases P.info? id with
  | none=>rfl
  | some i=>
   cases bz:i.zero with
   | none=>grind
   | some z=>simp  [bz];cases z<;>rfl
 grind [cx,dh]
theorem K4{b:ca}{m:List (Nat×List e.aq)}(h:AD e b=some m):b=.bU e m:=by
 unfold AD at h;grind
variable {id:Nat}{af:Type}
theorem apl{m:List (Nat×List af)}(h:m.any (λp=>p.1 == id)=true):(id,cS m id)∈m:=by
 unfold cS;grind
theorem ZT{m:List (Nat×List af)}(aA:(m.map (·.1)).Nodup){xs:List af}(h:(id,xs)∈m):cS m id=xs:=by
 have aj:∀ (l:List (Nat×List af)),(l.map (·.1)).Nodup->(id,xs)∈l->l.find? (λp=>p.1 == id)=some (id,xs):=by
  intro l;induction l<;>grind
 grind [cS]
theorem ZU{m:List (Nat×List af)}{i:Nat}(h:i<(cS m id).length):(id,cS m id)∈m:=by
 grind [cS]
theorem apm(m:List (Nat×List af))(id i:Nat)(d:af):(eT m id i d).map (·.1)=m.map (·.1):=by
 grind [eT,List.map_congr_left]
theorem GN:∀ t:aa,t.iP.size=t.size
 | .cP _=>rfl
 | .ae t=>GN t
 | .aw a b=>by simp  [aa.iP,aa.size,GN a,GN b]
 | .slice _=>rfl
 | .bool | .int _ | .str | .dc | .array _ _ | .bP _ | .map _ _ | .fn _ _ | .cI _ | .eY=>rfl
theorem ZV:∀ (t:aa) {v:Value},l8 t v->l8 t.iP v
 | .cP _,_,h=>h
 | .ae t,_,⟨cs,E,M⟩=>⟨cs,E,M.trans (GN t).symm⟩
 | .aw _ _,_,h=>h.elim
 | .slice _,_,h=>h
 | .bool,_,h=>h
 | .int _,_,h=>h
 | .str,_,h=>h
 | .dc,_,h=>h
 | .array _ _,_,h=>h
 | .bP _,_,h=>h
 | .map _ _,_,h=>h
 | .fn _ _,_,h=>h
 | .cI _,_,h=>h
 | .eY,_,h=>h
theorem ZW:∀ (t:aa) {aI:List Value},w1 t aI->w1 t.iP aI
 | .aw a b,_::_,h=>⟨ZV a h.1,ZW b h.2⟩
 | .aw _ _,[],h=>h.elim
 | .dc,_,h=>h
 | .cP _,_,⟨v,E,M⟩=>⟨v,E,M⟩
 | .ae t,_,⟨v,E,M⟩=>⟨v,E,ZV (.ae t) M⟩
 | .slice _,_,⟨v,E,M⟩=>⟨v,E,M⟩
 | .bool,_,h=>h
 | .int _,_,h=>h
 | .str,_,h=>h
 | .array _ _,_,h=>h
 | .bP _,_,h=>h
 | .map _ _,_,h=>h
 | .fn _ _,_,h=>h
 | .cI _,_,h=>h
 | .eY,_,h=>h
theorem apn{m:List (Nat×List e.aq)}{F F':Nat->Prop}{w:World}(bq:∀ r,F r->F' r)(hm:∀ id xs,(id,xs)∈m->F' id/\As P e F w id xs):∀ (t:aa) {cs:List Value} {x:t.aq},cw P t F w cs x->og e m t x->cw P t.iP F' w cs (gD e m t x):=by
 intro t;induction t with
 | cP a1 _=>
  intro cs x h D;obtain⟨he,aj,ai⟩:=D;subst he;obtain⟨ZX,eA,T,ba,G,fU,fW,mB,apo⟩:=hm _ _ (apl aj);have hlen:(((cS m x.1).drop x.2.1).take x.2.2).length=x.2.2:=by grind
  have ay:gD a1 m (.cP a1) x=((cS m x.1).drop x.2.1).take x.2.2:=by
   grind [gD]
  rw[ay];generalize bz:((cS m x.1).drop x.2.1).take x.2.2=zs at hlen;rcases h with⟨rfl,aV⟩ | ⟨o,c,rfl,E,M,al⟩
  ·have:zs=[]:=List.length_eq_zero_iff.1 (by omega);subst this;exact⟨none,0,rfl,amY _,by decide,λ_=>rfl,λp ak=>by omega⟩
  ·refine⟨some ⟨x.1,o,none⟩,c,by grind,by omega,M,(by simp),λp ak hc=>?_⟩;cases ak;refine⟨ZX,rfl,λi G=>?_⟩;have ea:x.2.1+i<(cS m x.1).length:=by omega
   obtain⟨bE,d1,d2⟩:=apo (x.2.1+i) ea;refine⟨bE,⟨ZX,rfl,λj aM=>?_⟩,?_⟩
   ·grind [World.cell?]
   ·have:zs[i]=(cS m x.1)[x.2.1+i]:=by
     grind
    rw[this];exact fM _ bq (dk.refl _ _) d2
 | ae t aR=>intro cs x h D;exact aR h D
 | aw a b hp gq=>
  intro cs x h D;obtain⟨c,d,rfl,E,M⟩:=h;exact⟨c,d,rfl,hp E D.1,gq M D.2⟩
 | slice t aR=>
  intro cs xs h D;obtain⟨a,cap,rfl,E,M,al,a7⟩:=h;have hlen:(List.map (gD e m t) xs).length=List.length xs:=aQJ _;show cw P (.slice t.iP) F' w _ (List.map (gD e m t) xs);refine⟨a,cap,by simp,by omega,M,al,λp ak hc=>?_⟩;obtain⟨aO,aT,b7⟩:=a7 p ak hc;refine⟨bq _ aO,aT,λi G=>?_⟩;have ea:i<List.length xs:=by omega
  obtain⟨bE,m1,m2⟩:=b7 i ea;refine⟨bE,by rw[GN];exact m1.mono bq (dk.refl _ _),?_⟩;have:(List.map (gD e m t) xs)[i]=gD e m t xs[i]:=by simp
  rw[this];exact aR m2 (D _ (amV _))
 | bool=>intro cs x h _;exact h
 | int k=>intro cs x h _;exact h
 | str=>intro cs x h _;exact h
 | dc=>intro cs x h _;exact h
 | array n t _=>intro cs x h _;exact fM (.array n t) bq (dk.refl _ _) h
 | bP t _=>intro cs x h _;exact fM (.bP t) bq (dk.refl _ _) h
 | map k v _ _=>intro cs x h _;exact fM (.map k v) bq (dk.refl _ _) h
 | fn a b _ _=>intro cs x h _;exact fM (.fn a b) bq (dk.refl _ _) h
 | cI a _=>intro cs x h _;exact fM (.cI a) bq (dk.refl _ _) h
 | eY=>intro cs x h _;exact h
section
variable {C:cJ} {s:aE} {a:Act} {w:World} {kap:Nat->bL} {F:Nat->Prop}
theorem bx.apq(h:bx C s a w kap F):bx C (s.cq cG ⟨(s.ab cG).gen,.ez⟩) a w kap (λr=>F r\/lk s.ab r):=by
  have ai:fN s.ab kap (λi=>if i=cG then (⟨(s.ab cG).gen,.ez⟩) else s.ab i) kap:=po rfl (λh=>by cases h) (λh=>by cases h) (λh=>by cases h) (λh=>by cases h);have bq:∀ r,F r->F r\/lk s.ab r:=λr D=>.inl D;have om:∀ b,b≠cG->(s.cq cG ⟨(s.ab cG).gen,.ez⟩).ab b=s.ab b:=λb U=>by grind [aE.cq]
  have ak:(s.cq cG ⟨(s.ab cG).gen,.ez⟩).ab cG=⟨(s.ab cG).gen,.ez⟩:=by rfl
  have eJ:∀ b,((s.cq cG ⟨(s.ab cG).gen,.ez⟩).ab b).body.cg (kap b)=true->(s.ab b).body.cg (kap b)=true:=λb U=>by
    by_cases e:b=cG
    · subst e;cases U
    grind
  exact { h with
    dY:=h.dY,dm:=h.dm
    b5:=λi=>bM.later ai bq (dk.refl _ _) (h.b5 i)
    bH:=λb=>by
      by_cases e:b=cG
      · subst e
        trivial
      · exact c1.lj (h.bH b) ai bq (dk.refl _ _) (by grind) rfl λ_=>rfl
    own:=λb U=>by
      obtain⟨E,M,al⟩:=h.own b (eJ b U);exact⟨E,λk=>k.elim M λk=>(h.bU.n_ k).2.2.2.2 b (eJ b U) rfl,al⟩
    inj:=λb bk U dZ=>h.inj b bk (eJ b U) (eJ bk dZ)
    du:=λr D=>D.elim (h.du r) λk=>(h.bU.n_ k).2.1
    hT:=λr D=>D.elim (h.hT r) λk=>.inr (h.bU.n_ k).2.2.2.1
    iy:=λr D=>.inl (h.iy r D)
    iY:=λb r D hc=>by
      by_cases e:b=cG
      · subst e;rcases hc with hc | hc<;>cases hc
      · rw[om b e]at hc;exact h.iY b r D hc
    jF:=λb k aj aV aZ=>by
      by_cases e:b=cG
      · subst e;cases aZ
      · rw[om b e]at aV aZ ⊢;exact h.jF b k aj aV aZ
    e8:=λl aK ad n ae e=>by
      obtain⟨E,M,Y,al,a7,bR⟩:=h.e8 l aK ad n ae e;have jr:∀ r,(F r\/lk s.ab r)->¬Y r:=λr D bf=>D.elim (al r bf).2.1 λk=>(h.bU.n_ k).1 l aK ad n ae e;exact⟨E,M,Y,λr D=>⟨(al r D).1,λk=>jr r k D,(al r D).2.2⟩,λb U=>a7 b (eJ b U),M.Kj bR bq (λ_ _=>rfl) (amY _) (dN.refl _) (λr D=>D.elim (h.du r) λk=>(h.bU.n_ k).2.1) jr⟩
    bU:=λe m hm=>by grind
    h4:=h.h4.mono bq (dk.refl _ _) }
theorem bx.apr(h:bx C s a w kap F){m:List (Nat×List e.aq)}(U:(s.ab cG).body=.bU e m\/((s.ab cG).body=.ez/\m=[])){xs:List e.aq}(ij:∀ l aK ad n ae,s.aD cd≠.aS l aK ad n ae)
    (E:id<w.heap.size) (M:¬F id) (al:¬C.K0 id) (a7:∀ b,(s.ab b).body.cg (kap b)=true->(kap b).ab≠id) (bR:id ∉ m.map (·.1)) (er:As C.P e F w id xs) :
    bx C (s.cq cG ⟨(s.ab cG).gen,.bU e ((id,xs)::m)⟩) a w kap F:=by
  have ai:fN s.ab kap (λi=>if i=cG then (⟨(s.ab cG).gen,.bU e ((id,xs)::m)⟩) else s.ab i) kap:=po rfl (λh=>by cases h) (λh=>by cases h) (λh=>by cases h) (λh=>by cases h);have om:∀ b,b≠cG->(s.cq cG ⟨(s.ab cG).gen,.bU e ((id,xs)::m)⟩).ab b=s.ab b:=λb U=>by grind [aE.cq]
  have eJ:∀ b,((s.cq cG ⟨(s.ab cG).gen,.bU e ((id,xs)::m)⟩).ab b).body.cg (kap b)=true->(s.ab b).body.cg (kap b)=true:=λb U=>by
    by_cases e:b=cG
    · subst e;cases U
    grind
  exact { h with
    dY:=h.dY,dm:=h.dm
    b5:=λi=>bM.later ai (λ_ h=>h) (dk.refl _ _) (h.b5 i)
    bH:=λb=>by
      by_cases e:b=cG
      · subst e
        trivial
      · exact c1.lj (h.bH b) ai (λ_ h=>h) (dk.refl _ _) (by grind) rfl λ_=>rfl
    own:=λb U=>h.own b (eJ b U)
    inj:=λb bk U dZ=>h.inj b bk (eJ b U) (eJ bk dZ)
    iY:=λb r D hc=>by
      by_cases e:b=cG
      · subst e;rcases hc with hc | hc<;>cases hc
      · rw[om b e]at hc;exact h.iY b r D hc
    jF:=λb k aj aV aZ=>by
      by_cases e:b=cG
      · subst e;cases aZ
      · rw[om b e]at aV aZ ⊢;exact h.jF b k aj aV aZ
    e8:=λl aK ad n ae e=>(ij l aK ad n ae e).elim
    bU:=λa1 dz hm=>by
      cases hm;have rb:(m.map (·.1)).Nodup/\∀ sZ K5,(sZ,K5)∈m->(∀ l aK ad n ae,s.aD cd≠.aS l aK ad n ae)/\sZ<w.heap.size/\¬F sZ/\¬C.K0 sZ/\(∀ b,(s.ab b).body.cg (kap b)=true->(kap b).ab≠sZ)/\As C.P e F w sZ K5:=by
        rcases U with k | ⟨_,rfl⟩
        · exact h.bU e m k
        simp
      refine⟨by grind,λsZ K5 an=>?_⟩;rcases List.mem_cons.1 an with an | an
      · cases an
        exact⟨ij,E,M,al,λb U=>a7 b (eJ b U),er⟩
      · obtain⟨iG,aO,aT,b7,gZ,rh⟩:=rb.2 sZ K5 an
        exact⟨iG,aO,aT,b7,λb U=>gZ b (eJ b U),rh⟩ }
variable {k:IntKind}
theorem bx.aps(h:bx C s a w kap F){m:List (Nat×z1')}(U:(s.ab cG).body=.bU (.int k) m){i:Nat}{d:Int}(G:i<(cS m id).length)(ay:gQ k d) :
    ∃ w',(storeCells ⟨id,i,none⟩ [.int k d]).run C.P w=.ok () w'/\bx C (s.cq cG ⟨(s.ab cG).gen,.bU (.int k) (eT m id i d)⟩) a w' kap F:=by
  have pB:=ZU G;obtain⟨aA,gA⟩:=h.bU (.int k) m U;obtain⟨mT,c6,cM,hU,lK,cs,T,ba,ea,bI,c2,c3,c4⟩:=gA _ _ pB;have K6:aa.size (.int k)=1:=rfl;have aMt:i<cs.size:=by grind
  have hc:w.cell? ⟨id,i,none⟩=some cs[i]:=by grind [World.cell?]
  have aC:w.frozen? ⟨id,i,none⟩=false:=by
    grind [World.frozen?]
  refine⟨w.setCell ⟨id,i,none⟩ (.int k d),?_,?_⟩
  · simp only[storeCells,Sem.run_bind,uf,run_store C.P w _ (.int k d) _ rfl,aSa,hc,aC,Result.andThen_ok]
    rfl
  have yI:∀ r,r≠id->(w.setCell ⟨id,i,none⟩ (.int k d)).heap[r]?=w.heap[r]?:=λr D=>Below.heap_setCell _ _ _ _ (by omega);have vK:(w.setCell ⟨id,i,none⟩ (.int k d)).heap[id]?=some (.cells (cs.setIfInBounds i (.int k d)) T (ba,ea)):=by
    grind [World.setCell]
  have GO:(w.setCell ⟨id,i,none⟩ (.int k d)).heap.size=w.heap.size:=by simp
  have he:dk F w (w.setCell ⟨id,i,none⟩ (.int k d)):=⟨by omega,λr D=>yI r λe=>cM (e ▸ D)⟩
  have rj:dN w (w.setCell ⟨id,i,none⟩ (.int k d)):=⟨rfl,rfl,rfl⟩
  have ai:fN s.ab kap (λj=>if j=cG then (⟨(s.ab cG).gen,.bU (.int k) (eT m id i d)⟩) else s.ab j) kap:=po rfl (λh=>by cases h) (λh=>by cases h) (λh=>by cases h) (λh=>by cases h);have om:∀ b,b≠cG->(s.cq cG ⟨(s.ab cG).gen,.bU (.int k) (eT m id i d)⟩).ab b=s.ab b:=λb U=>by grind [aE.cq]
  have eJ:∀ b,((s.cq cG ⟨(s.ab cG).gen,.bU (.int k) (eT m id i d)⟩).ab b).body.cg (kap b)=true->(s.ab b).body.cg (kap b)=true:=λb U=>by
    by_cases e:b=cG
    · subst e;cases U
    grind
  exact { h with
    dY:=h.dY,dm:=h.dm
    b5:=λi=>bM.later ai (λ_ h=>h) he (h.b5 i)
    bH:=λb=>by
      by_cases e:b=cG
      · subst e
        trivial
      · exact c1.lj (h.bH b) ai (λ_ h=>h) he (by grind) rfl λau=>yI _ (lK b au)
    own:=λb U=>by
      obtain⟨E,M,al⟩:=h.own b (eJ b U);grind
    inj:=λb bk U dZ=>h.inj b bk (eJ b U) (eJ bk dZ)
    du:=λr D=>by rw[GO];exact h.du r D
    e6:=λr D=>(yI r λe=>hU (e ▸ D)).trans (h.e6 r D)
    size:=by rw[GO];exact h.size
    eN:=h.eN.trans rj
    iY:=λb r D hc=>by
      by_cases e:b=cG
      · subst e;rcases hc with hc | hc<;>cases hc
      · rw[om b e]at hc;exact h.iY b r D hc
    jF:=λb k' aj aV aZ=>by
      by_cases e:b=cG
      · subst e;cases aZ
      · rw[om b e]at aV aZ ⊢;exact h.jF b k' aj aV aZ
    e8:=λl aK ad n ae e=>(mT l aK ad n ae e).elim
    bU:=λe dz hm=>by
      cases hm;refine⟨by grind [apm],λZY aMu an=>?_⟩;obtain⟨p,Dq,xm⟩:=List.mem_map.1 an;obtain⟨n_,QV⟩:=p;obtain⟨ZZ,jK,lQ,Z0,Z1,apt⟩:=gA n_ QV Dq;by_cases e:n_=id
      · subst e
        simp  at xm
        obtain⟨rfl,rfl⟩:=xm
        have K7:=ZT aA Dq
        refine⟨ZZ,by omega,lQ,Z0,λb U=>Z1 b (eJ b U),cs.setIfInBounds i (.int k d),T,ba,ea,vK,?_,?_,λj aM=>?_⟩
        · grind
        · grind
        · have gV:j<List.length (cS m n_):=by grind
          by_cases AX:j=i
          · subst AX
            refine⟨[.int k d],λmZ gV=>?_,?_⟩
            · grind
            · have:(List.set QV j d)[j]=d:=by simp
              rw[this]
              exact⟨rfl,ay⟩
          · obtain⟨bE,d1,d2⟩:=c4 j gV
            refine⟨bE,λmZ gV=>?_,?_⟩
            · grind [jT]
            · have aF:(List.set QV i d)[j]=(cS m n_)[j]:=by
                grind
              rw[aF]
              exact P1 (.int k) rfl d2
      · simp  [if_neg e]at xm
        obtain⟨rfl,rfl⟩:=xm
        exact⟨ZZ,by omega,lQ,Z0,λb U=>Z1 b (eJ b U),apt.mono (λ_ h=>h) he (yI _ e)⟩
    h4:=h.h4.mono (λ_ h=>h) he }
end
section
variable {C:cJ} {T:Nat->aa} {bs:Nat->Option aQ} {o:Oper} {s:aE} {res:eC}
variable {ty:TypeId}{x:Operand}{r:aG (Option eC)}
theorem apu(aU:ei C.P T)(bp:∀ i,o.dst=some i->i<C.b3)(au:o.op=.load ty x)(ak:e4 C.aW T (bj C.aW s.aD) o=some r)(h:r.run s.ab=some res):cT C o s res:=by
 simp only[e4,au]at ak;split at ak
 ·rename_i cB k id i hu;cases ak;simp only[aG.gW,aG.dF]at h;split at h
  ·rename_i m hm;split at h
   ·rename_i aH;cases h;refine cT.pure (by grind) bp λa w kap F D be hc=>?_;have an:a.eval x=.pointer (some ⟨id,i*1,none⟩):=da D x hu be;have U:=K4 hm;obtain⟨mT,c6,cM,hU,lK,cs,ih,ba,G,bI,c2,c3,c4⟩:=(D.bU _ m U).2 _ _ (ZU hc);obtain⟨bE,d1,d2⟩:=c4 i hc;obtain⟨rfl,bh⟩:=d2;have oS:w.cell? ⟨id,i,none⟩=some (.int k (cS m id)[i]):=by
     simp_all[World.cell?,aa.size]
    have dJ:=aU.cb aH (by simp);have aF:(cS m id).getD i (0)=(cS m id)[i]:=by grind
    have ur:mV w ⟨id,i,none⟩ [.int k (cS m id)[i]]:=⟨λ_=>rfl,λj aM=>by
     grind⟩
    obtain⟨r,cn,cN⟩:=Ky   dJ ur ⟨rfl,bh⟩;refine⟨r,by simp_all[execOp,Instr.loadAt,Instr.sureAddr],?_⟩;rw[aF];exact cN
   grind
  grind
 grind
theorem apv(aU:ei C.P T){y:Operand}(bp:o.dst=none)(au:o.op=.store ty x y)(ak:e4 C.aW T (bj C.aW s.aD) o=some r)(h:r.run s.ab=some res):cT C o s res:=by
 simp  [e4,au]at ak;split at ak
 ·rename_i cB k id i hu;split at ak
  ·rename_i lN k' d ag;cases ak;simp  at h;split at h
   ·rename_i m hm;split at h
    ·rename_i aH;obtain⟨aH,rfl⟩:=aH;cases h;intro a w kap F Q D be hc;have an:a.eval x=.pointer (some ⟨id,i*1,none⟩):=da D x hu be.1;have bf:=hR.1 (da D y ag be.2);have ay:∀ c,o.op≠.defer c:=by grind
     obtain⟨w',cn,cN⟩:=D.aps (K4 hm) hc bf.2;have dJ:=aU.cb aH (by simp);refine Gl (w':=w') ay ?_ ?_
     ·have:=KJ   dJ (show (Value.int k' d).cells.size=aa.size (.int k') from rfl) cn;simp_all[execOp,Instr.storeAt,Instr.sureAddr]
     ·rw[bp];exact⟨kap,F,cN⟩
    grind
   grind
  grind
 grind
theorem apw(aU:ei C.P T){i:Operand}(bp:∀ i,o.dst=some i->i<C.b3)(au:o.op=.indexAddr ty x i)(ak:e4 C.aW T (bj C.aW s.aD) o=some r)(h:r.run s.ab=some res):cT C o s res:=by
 simp  [e4,au]at ak;split at ak
 ·rename_i cB e q hu;split at ak
  ·rename_i k n G;cases ak;simp only[aG.dF]at h;split at h
   ·rename_i aH;cases h;refine cT.pure (by grind) bp λa w kap F D be hc=>?_;have an:=((eh rfl).1 (da D x hu be.1)).2;have M:=qh (da D i rfl be.2) G;rcases an with⟨_,aV⟩ | ⟨gg,c,aF,E,uk,al⟩
    ·omega
    ·have aF:=(aQC aF).1;have dJ:=(aU.cb aH (by simp)).K3;refine⟨.pointer (some ⟨q.1,gg+n.toNat*e.size,none⟩),by simp[execOp,au,aF,M.1,KN dJ (p:=⟨q.1,gg,none⟩) rfl hc.1 hc.2],?_⟩;show Value.pointer _=Value.pointer _;grind
   grind
  grind
 grind
theorem apx(aU:ei C.P T){ba G mb:Option Operand}(bp:∀ i,o.dst=some i->i<C.b3)(au:o.op=.slice ty x ba G mb)(ak:e4 C.aW T (bj C.aW s.aD) o=some r)(h:r.run s.ab=some res):cT C o s res:=by
 simp  [e4,au]at ak;split at ak
 ·rename_i cB e q hu;split at ak
  ·rename_i ol l sO dj bS AM;cases ak;simp only[aG.dF]at h;split at h
   ·rename_i aH;cases h;refine cT.pure (by grind) bp λa w kap F D be hc=>?_;have dv:(ba.map a.eval=none/\l=none)\/∃ k m,ba.map a.eval=some (.int k m)/\l=some m:=by
     rcases AL D bS be.2.1 with⟨rfl,rfl⟩ | ⟨y,k,m,rfl,rfl,e⟩<;>grind
    have fc:(G.map a.eval=none/\dj=none)\/∃ k m,G.map a.eval=some (.int k m)/\dj=some m:=by
     rcases AL D AM be.2.2 with⟨rfl,rfl⟩ | ⟨y,k,m,rfl,rfl,e⟩<;>grind
    have an:=((eh rfl).1 (da D x hu be.1)).2;have dJ:=(aU.cb aH (by simp)).K3;obtain⟨j,aM,iF,oV⟩:=dJ.sl;have run:∀ (p:Option Addr) (n cap:Nat),a.eval x=.slice p n cap->n<=cap->0<=dG l/\dG l<=fV n dj/\fV n dj<=cap->
      (execOp a.eval o).run C.P w=.ok (.value (.slice (if cap=(dG l).toNat then p else p.map (·.add ((dG l).toNat*e.size))) ((fV n dj).toNat - (dG l).toNat) (cap - (dG l).toNat))) w:=by
     intro p n cap ag aA hc;have:=Qo (P:=C.P) (w:=w) (isS:=true) dv fc hc.1 hc.2.1 hc.2.2 aA;simp[execOp,au,ag,Instr.sliceAt,Instr.slice,ep aM,this,iF.size]
    rcases an with⟨aF,aV⟩ | ⟨gg,c,aF,E,uk,al⟩
    ·have aF:=(aQC aF).1;have bz:0<=dG l/\dG l<=fV 0 dj/\fV 0 dj<=((0)):=by grind
     refine⟨_,run none 0 0 aF (amY _) bz,(eh rfl).2 ⟨rfl,.inl ⟨?_,?_⟩⟩⟩<;>grind
    ·have aF:=(aQC aF).1;refine⟨_,run _ _ _ aF E ⟨hc.1,hc.2.1,by omega⟩,(eh rfl).2 ⟨rfl,.inr ?_⟩⟩;by_cases kY:c=(dG l).toNat
     ·rw[if_pos kY];exact⟨gg,_,rfl,by show (fV q.2.2 dj).toNat - (dG l).toNat<=_;omega,by omega,λh=>by omega⟩
     ·rw[if_neg kY];refine⟨gg+(dG l).toNat*e.size,c - (dG l).toNat,?_,by show (fV q.2.2 dj).toNat - (dG l).toNat<=_;omega,by omega,λh=>?_⟩
      ·simp[uf]
      grind
   grind
  grind
 grind
variable {ds:Array TypeId}
theorem apy(aU:ei C.P T){args:Array Operand}(bp:∀ i,o.dst=some i->i<C.b3)(au:o.op=.call { callee:=.builtin .len,args:=args,argTypes:=ds })(ak:e4 C.aW T (bj C.aW s.aD) o=some r)(h:r.run s.ab=some res):cT C o s res:=by
 obtain⟨args⟩:=args;obtain⟨ds⟩:=ds;simp  [e4,au]at ak;split at ak
 ·rename_i x t;split at ak
  ·rename_i cB e q hu;cases ak;simp only[aG.dF]at h;split at h
   ·rename_i pr;cases h;refine cT.pure (by grind) bp λa w kap F D be hc=>?_;obtain⟨i,G,_⟩:=(aU.cb pr (by simp)).K3.sl;have Qe:∀ a' m cap,a.eval x=.slice a' m cap->m<2 ^ 63->(Builtin.len_ #[t] o.type #[a.eval x]).run C.P w=.ok (.int .i64 m) w/\gQ .i64 m:=by
     simp_all[Builtin.len_,ep,goInt,De]
    have an:=((eh rfl).1 (da D x hu be)).2;rcases an with⟨aF,aV⟩ | ⟨gg,c,aF,E,uk,al⟩
    ·obtain⟨aO,aT⟩:=Qe _ _ _ (aQC aF).1 (by decide);refine⟨_,sT au ?_,hR.2 ⟨rfl,by grind⟩⟩;rw[aV];simp[builtin,aO]
    ·obtain⟨aO,aT⟩:=Qe _ _ _ (aQC aF).1 (by omega);refine⟨_,sT au ?_,hR.2 ⟨rfl,aT⟩⟩;simp[builtin,aO]
   grind
  grind
 grind
theorem apz{k:FuncId}{args:Array Operand}(bp:∀ i,o.dst=some i->i<C.b3)(au:o.op=.call { callee:=.value (.func k),args:=args,argTypes:=ds })(ak:e4 C.aW T (bj C.aW s.aD) o=some r)(h:r.run s.ab=some res):cT C o s res:=by
 simp  [e4,au]at ak;obtain⟨c,hc,rfl⟩:=ak;simp only[P6,aG.run_bind]at h;split at h;rotate_left
 ·simp only[aG.gf,amU,aG.run_bind,aG.dF,amZ]at h;obtain⟨⟨x,l⟩,an,rfl⟩:=h;intro a w kap F Q D be hW;refine QD D (D.j7.Ao k c hc).1 bp au be an hW λy w' bf v hrel=>?_;have bf:y=c.g x:=bf;have e:∀ (r:aG (List (Nat×b_))),r=(if c.aS.pure then .ret [] else kj l)->s.iC (r.run s.ab)=(if c.aS.pure then s else s.cE l):=by
   intro r D;subst D;split
   ·rfl
   grind [ui]
  grind [aE.jI]
 rename_i x b' an;simp only[aG.gW]at h;split at h
 ·rename_i m hm;simp only[aG.run_bind,aG.dF,amZ]at h;subst h;have U:=K4 hm;intro a w kap F Q D be hW;obtain⟨aC,AY⟩:=D.j7.Ao k c hc;have ay:∀ c,o.op≠.defer c:=by grind
  obtain⟨args⟩:=args;have dA:(execOp a.eval o).run C.P w=.ok (.enter k (args.map a.eval).toArray) w:=by
   simp  [execOp,au,resolve,Act.eval,Deferred.ofValue,invoke];have:=aC.enter (args.map a.eval).toArray w;grind
  obtain⟨uy,f1,gv,f2⟩:=bx.mX (rZ c.n8 an) D;have fv:gB C.P c.n8 uy w (args.map a.eval) x:=by
   refine xf D.bH f1 c.n8 an f2 (by simp) λi G ea=>?_;have E:=uh be i (by grind);grind [q7,lO]
  have oo:((s.cE b').ab cG).body=.bU c.e m:=by
   grind [aE.cE,fP]
  have mY:=gv.bU c.e m oo;have cY:=gv.apq;have xl:∀ r,uy r->uy r\/lk (s.cE b').ab r:=λr h=>.inl h;have QW:gB C.P c.n8.iP (λr=>uy r\/lk (s.cE b').ab r) w (args.map a.eval) (gD c.e m c.n8 x):=
   ⟨ZW _ fv.1,apn xl (λid xs an=>⟨.inr ⟨c.e,m,xs,oo,an⟩,(mY.2 id xs an).2.2.2.2.2⟩) _ fv.2 hW.1⟩
  by_cases jL:(c.aS.pure||c.tY)=true
  ·have key:∀ v w',tW C.P c.aS (w2 F w w') w' v (c.g (gD c.e m c.n8 x))->Below w.heap.size w w'->
     de C (s.jI o.dst ⟨kk (args.map (bj C.aW s.aD)),og c.e m c.n8 x/\c.pre (gD c.e m c.n8 x),q6 c.aS (c.g (gD c.e m c.n8 x)),[]⟩) (a.put o.dst v) w':=λv w' gY hv=>by
    exact⟨kap,_,(D.grow hv).set bp (AQ gY)⟩
   have fin:∀ (l:List (Nat×b_)),(if (c.aS.pure||c.tY)=true then [] else l)=[]:=λl=>if_pos jL;rw[fin];rw[aQH]at jL;by_cases yJ:c.aS.pure=true
   ·refine yF ay dA (aC.iv _ w _ _ cY.du cY.h4 QW hW.2) λe w' ⟨v,y,he,bf,gY,hv⟩=>⟨v,he,?_⟩
    obtain rfl:=bf;obtain⟨aI,c6,cM⟩:=gY;exact key v w' ⟨aI,c6,QC yJ cM⟩ hv
   ·refine yF ay dA ((AY (jL.resolve_left yJ)).iv _ w _ _ cY.du cY.h4 QW hW.2) λe w' ⟨v,y,he,bf,gY,hv⟩=>⟨v,he,?_⟩
    obtain rfl:=bf;obtain⟨aI,c6,cM⟩:=gY;exact key v w' ⟨aI,c6,cM.1,fM _ (λr D=>.inr D) (dk.refl _ _) cM.2⟩ hv
  ·have bQ:(if (c.aS.pure||c.tY)=true then aG.ret [] else kj b')=kj b':=if_neg jL;rw[bQ,if_neg jL];have aMv:(s.ab cG).gen=((s.cE b').ab cG).gen:=by
    grind [aE.cE,fP]
   have ra:s.iC ((kj b').run s.ab++[(cG,⟨(s.ab cG).gen,.ez⟩)])=(s.cE b').cq cG ⟨((s.cE b').ab cG).gen,.ez⟩:=by
    grind [Df,ui]
   refine yF ay dA (aC.iv _ w _ _ cY.du cY.h4 QW hW.2) λe w' ⟨v,y,he,bf,gY,hv⟩=>⟨v,he,?_⟩
   obtain rfl:=bf;simp  [aE.jI];rw[ra];exact⟨kap,_,(cY.grow hv).set bp (AQ gY)⟩
 ·cases h
theorem apA{w:World}(sQ cI ty u T:TypeId)(ak:P.underlying sQ=some (.pointer u))(hu:P.underlying u=some (.int .u8))(aU:P.underlying T=some (.int .u8))(hc:P.cellsOf T=1)(g o cells:Nat)(j6:w.shape? g=some (T,cells))(l:List UInt8)(aV:l≠[])
  (aA:o+l.length<=cells) (aMw:l.length<=9223372036854775807) (oS:∀ j x,l[j]?=some x->w.cell? ((⟨g,o,none⟩:Addr).add j)=some (.int .u8 x.toNat)) :
  (Builtin.unsafeString_ #[sQ,cI] ty #[.pointer (some ⟨g,o,none⟩),.int .i64 l.length]).run P w=.ok (.string ⟨l.toArray⟩) (w.freeze ⟨g,o,none⟩ l.length):=by
 have ai:l.length≠0:=by grind
 have apB:=Lib.run_loadBytes (P:=P) w l ⟨g,o,none⟩ .empty oS;have ay:P.depth=(2*(P.types.size+Made.depth)+1)+1:=rfl;have vL:sameLayout P P.depth T u=true:=by
  grind [sameLayout]
 have apC:liesAt P P.depth T (cells / P.cellsOf T) o u l.length=true:=by
  simp_all[rowAt,Nat.mod_one,liesAt]
 have apD:¬(9223372036854775807)<(l.length:Int):=by omega
 have apE:Builtin.unsafeString_ #[sQ,cI] ty #[.pointer (some ⟨g,o,none⟩),.int .i64 l.length]=
   (do
    let n <-asInt (.int .i64 l.length);if n < 0 then runtimePanic (.error "unsafe.String: len out of range")
    if n > IntKind.i64.max then unsupported (.unsafePointer "String: a length above the largest int")
    if n=0 then pure (.string .empty)
    else if <-variablesAt ⟨g,o,none⟩ (<-elemOf sQ) n.toNat then do
     let s <-loadBytes ⟨g,o,none⟩ .empty n.toNat;freeze ⟨g,o,none⟩ n.toNat;pure (.string s)
    else unsupported (.unsafePointer "String: not so many bytes at ptr")) := rfl
 rw[apE];have GP:¬(l.length:Int)<0:=by omega
 simp[asInt,asIntOf,apD,GP,ai,variablesAt,j6,elemOf,run_underlying ak,apC,apB]
theorem cx.sQ{k:IntKind}{id:TypeId}(h:cx P (.bP (.int k)) id):∃ i,P.underlying id=some (.pointer i)/\cx P (.int k) i:=by
 grind [cx,dh]
theorem apF(aU:ei C.P T){args:Array Operand}(bp:∀ i,o.dst=some i->i<C.b3)(au:o.op=.call { callee:=.builtin .unsafeSliceData,args:=args,argTypes:=ds })(ak:e4 C.aW T (bj C.aW s.aD) o=some r)(h:r.run s.ab=some res):cT C o s res:=by
 obtain⟨args⟩:=args;simp  [e4,au]at ak;split at ak
 ·rename_i x;split at ak
  ·rename_i cB b g hu;cases ak;simp  at h;split at h
   ·rename_i e xs U;split at h
    ·rename_i hc;obtain⟨aB,aH⟩:=hc;cases h;obtain⟨i,G,_⟩:=(aU.cb aH (by simp)).sQ;have qi:∀ c,o.op≠.defer c:=by grind
     intro a w kap F Q D be _;have an:=da D x hu be;have ag:=an.2 aB.symm (by rw[U];rfl);have a6:=D.bH b;unfold c1 at a6;rw[U]at a6;have fin:∀ p w',(Builtin.unsafeSliceData_ ds o.type #[a.eval x]).run C.P w=.ok (.pointer p) w'->Below w.heap.size w w'->(0<xs.length->p=some ⟨(kap b).ab,(kap b).off,none⟩)->
       o.wpIn (e0 C.r) 0 C.P a w (λa' w'=>de C (s.jI o.dst ⟨cB,True,.Ap b g,[]⟩) a' w') Q:=λp w' E M al=>by
      refine ig     qi (sT au (by simp[builtin,E])) ⟨kap,_,(D.grow M).set bp ⟨⟨aSb aB.symm,p,rfl⟩,λ_ _ aA=>?_⟩⟩;rw[U]at aA;rw[al aA]
     cases aA:(kap b).fT with
     | true=>
      have kl:=a6.1 aA;simp_all[bL.slice,Lib.run_unsafeSliceData_nil,Below.refl]
     | false=>
      obtain⟨cs,ih,bI,c2,c3,c4,c5⟩:=a6.2 aA;simp  [bL.slice,aA,aQv]at ag;by_cases xb:(kap b).cap=0
      ·have j6:w.shape? (kap b).ab=some (ih,cs.size):=by grind [World.shape?]
       refine fin _ _ (by rw[ag,xb];exact Lib.run_unsafeSliceData_zero w _ _ i G _ _ _ j6) ((Below.refl _ _).alloc (amY _) _) (λh=>by omega)
      simp_all[Lib.run_unsafeSliceData_row,Below.refl]
    grind
   grind
  grind
 grind
theorem apG(aU:ei C.P T){args:Array Operand}(bp:∀ i,o.dst=some i->i<C.b3)(au:o.op=.call { callee:=.builtin .unsafeString,args:=args,argTypes:=ds })(ak:e4 C.aW T (bj C.aW s.aD) o=some r)(h:r.run s.ab=some res):cT C o s res:=by
 obtain⟨args⟩:=args;obtain⟨ds⟩:=ds;simp  [e4,au]at ak;split at ak
 ·rename_i x n sQ cI;split at ak
  ·rename_i cB b g on m hu aA;cases ak;simp  at h;split at h
   ·rename_i xs U;change z1' at xs;split at h
    ·rename_i hc;obtain⟨aB,aH⟩:=hc;cases h;obtain⟨u,G,apH⟩:=(aU.cb aH (by simp)).sQ;have qi:∀ c,o.op≠.defer c:=by grind
     intro a w kap F Q D be hm;obtain⟨⟨_,p,ak⟩,AH⟩:=da D x hu be.1;have apI:=(hR.1 (da D n aA be.2)).1;have a6:=D.bH b;unfold c1 at a6;rw[U]at a6;have hv:(ff xs).length=List.length xs:=by simp[ff]
     have ai:fN s.ab kap (λi=>if i=b then (⟨(s.ab b).gen,.ez⟩) else s.ab i) kap:=po rfl (λh=>by cases h) (λh=>by cases h) (λh=>by cases h) (λh=>by cases h);by_cases aV:xs=[]
     ·subst aV;subst hm;have dA:=Lib.run_unsafeString_none (P:=C.P) w sQ cI o.type p;have hw:bx C (s.cq b ⟨(s.ab b).gen,.ez⟩) a w kap F:=D.vs ⟨λi=>.inl rfl,λi=>by
       grind [aE.cq]⟩
      refine ig   (v:=.string .empty) qi (sT au (by simp[builtin,ak,apI,dA])) ⟨kap,F,hw.set bp (lf.2 ⟨rfl,by grind⟩)⟩
     ·have km:=List.length_pos_iff.2 aV;have um:(kap b).fT=false:=by
       cases aA:(kap b).fT with
       | false=>rfl
       | true=>exact (aV (a6.1 aA)).elim
      obtain⟨cs,ih,bI,c2,c3,c4,c5⟩:=a6.2 um;have KL:=AH aB.symm (by rw[U];rfl) (by rw[U];exact km);obtain⟨t1,bX⟩:=c4.2 .u8 rfl;have j6:w.shape? (kap b).ab=some (ih,cs.size):=by grind [World.shape?]
      have cQ:aa.size (.int .u8)=1:=rfl;have oS:∀ j x,(ff xs)[j]?=some x->w.cell? ((⟨(kap b).ab,(kap b).off,none⟩:Addr).add j)=some (.int .u8 x.toNat):=λj x aM=>by
       obtain⟨apJ,iF⟩:=List.getElem?_eq_some_iff.1 aM;have oV:j<List.length xs:=by omega
       obtain⟨bE,d1,d2⟩:=c5 j oV;obtain⟨rfl,bh⟩:=d2;have:=d1 0 (by simp);rw[uf];simp  [World.cell?];have gu:x.toNat=xs[j]:=by
        rw[<-iF];simp only[ff];have E:(0)<=xs[j]:=bh.1;have M:xs[j]<=255:=bh.2;simp;omega
       grind
      have dA:=apA   sQ cI o.type u ih G apH.int t1 bX (kap b).ab (kap b).off cs.size j6 (ff xs) (λe=>by grind) (by grind) (by omega) oS;have hw:bx C (s.cq b ⟨(s.ab b).gen,.ez⟩) a (w.freeze ⟨(kap b).ab,(kap b).off,none⟩ (ff xs).length) kap F:=by
       have eJ:(s.ab b).body.cg (kap b)=true:=by grind [ca.cg]
       have yI:∀ r,r≠(kap b).ab->(w.freeze ⟨(kap b).ab,(kap b).off,none⟩ (ff xs).length).heap[r]?=w.heap[r]?:=λr D=>by
        grind [World.freeze]
       have KZ:(w.freeze ⟨(kap b).ab,(kap b).off,none⟩ (ff xs).length).heap.size=w.heap.size:=by
        grind [World.freeze]
       have rj:dN w (w.freeze ⟨(kap b).ab,(kap b).off,none⟩ (ff xs).length):=by
        unfold World.freeze;split<;>exact⟨rfl,rfl,rfl⟩
       generalize w.freeze ⟨(kap b).ab,(kap b).off,none⟩ (ff xs).length=w' at yI KZ rj;show bx C ⟨s.aD,λi=>if i=b then (⟨(s.ab b).gen,.ez⟩) else s.ab i⟩ a w' kap F;obtain⟨GQ,xn⟩:∃ GQ:Nat->b_,GQ=λi=>if i=b then (⟨(s.ab b).gen,.ez⟩) else s.ab i:=⟨_,rfl⟩
       have vK:GQ b=⟨(s.ab b).gen,.ez⟩:=by grind
       have eM:∀ i,i≠b->GQ i=s.ab i:=λi G=>by grind
       have vr:yu s.ab GQ:=by rw[xn];exact Kk rfl
       rw[<-xn]at ai ⊢;refine D.move   ai (λ_ h=>h) (λ_ h=>.inl h) (by omega) (λr _ h=>yI r λe=>h b eJ e.symm) rj (λhe i=>?_) (λi G=>?_) (λi j G aM e=>?_) (λr h=>by have:=D.du r h;omega) (λi _ hc=>⟨rfl,?_⟩) vr
       ·by_cases e:i=b
        ·subst e;unfold c1;rw[vK];trivial
        ·exact c1.lj (D.bH i) ai (λ_ h=>h) he (by grind) rfl λau=>yI _ λa1=>e (D.inj i b au eJ a1)
       ·by_cases e:i=b
        ·subst e;rw[vK]at G;cases G
        ·rw[eM i e]at G;exact⟨by have:=(D.own i G).1;omega,(D.own i G).2.1,.inl ⟨i,G,rfl⟩⟩
       ·by_cases aF:i=b
        ·subst aF;rw[vK]at G;cases G
        ·by_cases bB:j=b
         ·subst bB;rw[vK]at aM;cases aM
         ·rw[eM i aF]at G;rw[eM j bB]at aM;exact D.inj i j G aM e
       ·by_cases e:i=b
        ·subst e;rw[vK]at hc;rcases hc with hc | hc<;>cases hc
        grind
      refine ig qi (sT au (by simp_all[builtin])) ⟨kap,F,hw.set bp (lf.2 ⟨rfl,by omega⟩)⟩
    grind
   grind
  grind
 grind
theorem apK(aU:ei C.P T)(ay:m' o C.b3=true)(ak:e4 C.aW T (bj C.aW s.aD) o=some r)(h:r.run s.ab=some res):cT C o s res:=by
 simp  [m']at ay;cases au:o.op with
 | load ty x=>grind [apu]
 | store ty x y=>grind [apv]
 | indexAddr ty x i=>grind [apw]
 | slice ty x ba G mb=>grind [apx]
 | call c=>
  obtain⟨callee,args,ds⟩:=c;grind [apy,apF,apG,e4,apz]
 | _=>simp[e4,au]at ak
theorem Dr(aU:ei C.P T)(dq:lP C.P bs)(ay:m' o C.b3=true)(h:(iB C.aW T bs (bj C.aW s.aD) o).run s.ab=some res):cT C o s res:=by
 grind [iB,apK,apb]
end
def aN.K8:aN->Bool
 | .ys _ _ _=>true
 | _=>false
def vM(rho:Operand->aN)(o:Oper):Bool:=ri rho o&&(match o.op with
 | .load _ x=>!(use (rho x)).2.K8
 | .store _ x _=>!(use (rho x)).2.K8
 | _=>true)
section
variable {aJ:dX} {T:Nat->aa} {bs:Nat->Option aQ} {rho kI:Operand->aN} {o:Oper}
theorem aG.eu.yK{p:eC->Prop}{c:Prop}[Decidable c]{r:eC}(h:p r):(aG.ret (if c then some r else Option.none)).eu (mg p):=by
 grind [uw,nil]
theorem GR(hc:vM rho o=true):(iB aJ T bs rho o).eu (mg λr=>r.c):=by
 unfold vM at hc;unfold iB;split
 ·rename_i r ak;cases au:o.op with
  | load ty x=>
   grind [e4,aN.K8]
  | store ty x y=>
   grind [e4,aN.K8]
  | indexAddr ty x i=>grind [ri]
  | slice ty x ba G mb=>grind [ri]
  | call c=>
   obtain⟨callee,args,ds⟩:=c;cases callee with
   | builtin b=>
    cases b with
    | len=>
     simp  [e4,au]at ak;split at ak
     ·split at ak
      ·cases ak;exact .yK trivial
      grind
     grind
    | unsafeSliceData=>grind [ri,Dp]
    | unsafeString=>grind [ri,Dp]
    | _=>simp[e4,au]at ak
   | value f=>grind [ri]
   | _=>grind [e4]
  | _=>simp[e4,au]at ak
 grind [api]
theorem Z2(nK:vJ rho o):(iB aJ T bs rho o).eu (mg λr=>r.cA):=by
 unfold iB;split
 ·rename_i r ak;cases au:o.op with
  | load ty x=>
   simp  [e4,au]at ak;split at ak
   ·rename_i hu;cases ak;intro z;have:=nK.use   (by grind [Op.operands]) hu;show (aG.ret _).eu _;split
    ·exact .yK this
    ·exact .nil
   grind
  | store ty x y=>
   simp  [e4,au]at ak;split at ak
   ·rename_i hu;split at ak
    ·rename_i ag;cases ak;intro z;have E:=nK.use   (by grind [Op.operands]) hu;have M:=nK.use   (by grind [Op.operands]) ag;show (aG.ret _).eu _;split
     ·exact .yK ⟨E,M⟩
     ·exact .nil
    grind
   grind
  | indexAddr ty x i=>
   simp  [e4,au]at ak;split at ak
   ·rename_i hu;split at ak
    ·cases ak;exact .yK ⟨nK.use   (by grind [Op.operands]) hu,nK i (by grind [Op.operands])⟩
    grind
   grind
  | slice ty x ba G mb=>
   simp  [e4,au]at ak;split at ak
   ·rename_i hu;split at ak
    ·rename_i bS AM;cases ak;exact .yK ⟨nK.use   (by grind [Op.operands]) hu,GM bS λy bf=>nK y (by grind [Op.operands]),GM AM λy bf=>nK y (by grind [Op.operands])⟩
    grind
   grind
  | call c=>
   obtain⟨callee,args,ds⟩:=c;cases callee with
   | builtin b=>
    cases b with
    | len=>
     simp  [e4,au]at ak;split at ak
     ·split at ak
      ·rename_i hu;cases ak;exact .yK (nK.use   (by grind [Op.operands,Call.operands]) hu)
      grind
     grind
    | unsafeSliceData=>
     simp  [e4,au]at ak;split at ak
     ·split at ak
      ·rename_i hu;cases ak;have:=nK.use   (by grind [Op.operands,Call.operands]) hu;intro z;show (aG.ret _).eu _;split
       ·exact .yK this
       ·exact .nil
      grind
     grind
    | unsafeString=>
     simp  [e4,au]at ak;split at ak
     ·split at ak
      ·rename_i hu aA;cases ak;have E:=nK.use   (by grind [Op.operands,Call.operands]) hu;have M:=nK.use   (by grind [Op.operands,Call.operands]) aA;intro z;show (aG.ret _).eu _;split
       ·exact .yK ⟨E,M⟩
       ·exact .nil
      grind
     grind
    | _=>simp[e4,au]at ak
   | value f=>
    cases f with
    | func k=>
     simp  [e4,au]at ak;obtain⟨c,_,rfl⟩:=ak;have AY:kk (args.toList.map rho):=GL λv ag=>by
      obtain⟨p,ak,rfl⟩:=List.mem_map.1 ag;exact nK p (by grind [Op.operands,Call.operands])
     refine aG.eu.bind λr=>?_;split
     ·intro z;show aG.eu _ (match AD c.e z.body with | some m=>_ | none=>_);split
      ·exact aG.eu.bind λwl=>.uw AY
      ·exact .mh
     ·exact aG.eu.eG λ⟨x,b'⟩=>aG.eu.bind λwl=>.uw AY
    | _=>grind [e4]
   | _=>grind [e4]
  | _=>simp[e4,au]at ak
 grind [apj]
theorem Z3(h:ux rho o=true):(iB aJ T bs rho o).eu (mg λr=>r.cA):=Z2 (QT h)
theorem apL(h:∀ x∈o.op.operands.toList,rho x=kI x):e4 aJ T rho o=e4 aJ T kI o:=by
 cases au:o.op with
 | load ty x=>grind [Op.operands,e4]
 | store ty x y=>
  simp_all[Op.operands,e4]
 | indexAddr ty x i=>
  simp_all[Op.operands,e4]
 | slice ty x ba G mb=>
  rw[au]at h;have E:=h x (by simp[Op.operands]);have M:lq rho ba=lq kI ba:=QU λy bf=>h y (by grind [Op.operands]);have al:lq rho G=lq kI G:=QU λy bf=>h y (by grind [Op.operands]);unfold e4;grind
 | call c=>
  obtain⟨callee,args,ds⟩:=c;have fv:∀ x∈args.toList,rho x=kI x:=λx an=>h x (by grind [Op.operands,Call.operands]);have ai:=aQz fv;unfold e4;rw[au];simp only;split
  ·grind
  ·grind
  ·grind
  ·unfold P6;simp  [ai]
  ·rfl
 | _=>unfold e4;rw[au]
theorem apM(h:∀ x∈o.op.operands.toList,rho x=kI x):iB aJ T bs rho o=iB aJ T bs kI o:=by
 grind [iB,apL,apk]
end
end Go.Fer
namespace Go.Fer
open Go.RowKit
def K9(want b:Bool):Bool:=match want with | true=>b | false=>!b
def mi(s:Nat->aN)(ops:Array Oper):Option (Nat×Bool)->Option (Option Bool)
 | none=>some none
 | some (j,want)=>match ops[j]? with
  | some o=>match o.dst with
   | some d=>match s d with
    | .val .bool b=>some (some (K9 want b))
    | .kB g (.val .bool b)=>some (some (g&&K9 want b))
    | _=>none
   | none=>none
  | none=>none
def K_(ops:Array Oper):Option (Nat×Bool)->List Nat
 | none=>[]
 | some (j,_)=>match ops[j]? with
  | some o=>o.dst.toList
  | none=>[]
def apN(l:List Operand):List Nat:=l.filterMap fun | .tmp t=>some t | _=>none
def GS(ops:Array Oper)(o:Oper):List Nat:=K_ ops o.guard++apN o.op.operands.toList
structure eU where
 cs:List Prop
 dst:Option Nat
 ht:aN
 jG:List (Nat×b_)
 mH:List Nat
 xo:List Nat
def eU.jY(r:eU)(s:aE):aE:=(s.iC r.jG).set r.dst r.ht
def eU.pC(r:eU):List Nat:=r.dst.toList
def eU.oX(r:eU):List Nat:=r.jG.map (·.1)
def GU(c6 cM:Bool)(cA c:Prop):List Prop:=(match c6 with | true=>[] | false=>[cA])++(match cM with | true=>[] | false=>[c])
def vN(aJ:dX)(T:Nat->aa)(bs:Nat->Option aQ)(ops:Array Oper)(s:aE)(o:Oper):Option eU:=
 match mi s.aD ops o.guard with
 | none=>none
 | some g=>match (iB aJ T bs (bj aJ s.aD) o).run s.ab with
  | none=>none
  | some res=>match g with
   | none=>some ⟨GU (ux (bj aJ s.aD) o) (vM (bj aJ s.aD) o) res.cA res.c,o.dst,res.ht,res.jG,GS ops o,(iB aJ T bs (bj aJ s.aD) o).looks s.ab⟩
   | some b=>match res.jG with
    | []=>some ⟨GU (ux (bj aJ s.aD) o&&(vM (bj aJ s.aD) o&&!res.ht.Dn)) true (b=true->res.cA/\(res.c/\(use res.ht).1)) True,o.dst,.kB b (use res.ht).2,[],GS ops o,(iB aJ T bs (bj aJ s.aD) o).looks s.ab⟩
    | _=>none
def xp(aJ:dX)(T:Nat->aa)(bs:Nat->Option aQ)(ops:Array Oper):List Oper->aE->Option (List eU×aE)
 | [],s=>some ([],s)
 | o::os,s=>match vN aJ T bs ops s o with
  | none=>none
  | some r=>match xp aJ T bs ops os (r.jY s) with
   | none=>none
   | some (l,s')=>some (r::l,s')
def Ds(a b:List Nat):Bool:=a.all λx=>!b.contains x
def eU.apart(a b:eU):Bool:=Ds a.pC (b.mH++b.pC)&&Ds a.mH b.pC&&Ds a.oX (b.xo++b.oX)&&Ds a.xo b.oX
def lR(o:Oper):List Nat:=o.after.toList.filterMap λe=>if Region.binds .any e then some e.on else none
def GV(acc:List Nat):List Nat->List Nat
 | []=>acc
 | x::l=>match acc.contains x with | true=>GV acc l | false=>GV (x::acc) l
theorem QX{x:Nat}:∀ {l acc:List Nat},x∈GV acc l->x∈acc\/x∈l
 | [],acc,h=>.inl h
 | y::l,acc,h=>by
  unfold GV at h;split at h
  ·exact (QX h).imp_right (am2 _)
  ·rcases QX h with h | h<;>grind
def Dt(acc:List (List Nat))(o:Oper):List (List Nat):=acc++[GV [] ((lR o).flatMap λj=>j::acc.getD j [])]
def jM(ops:List Oper):List (List Nat):=ops.foldl Dt []
def Z4(cl:List (List Nat))(l:List eU):Bool:=
 (List.range l.length).all λj=>(List.range j).all λi=>match l[i]?,l[j]? with
  | some a,some b=>(cl.getD j []).contains i||a.apart b
  | _,_=>false
def Du(ops:List Oper):Bool:=(List.range ops.length).all λj=>match ops[j]? with
 | some o=>(lR o).all λi=>decide (i<j)
 | none=>false
def AZ(ops:List Oper)(l:List eU):Bool:=Du ops&&Z4 (jM ops) l
def A0(R:List Nat)(s s':aE):Prop:=∀ t∈R,s.aD t=s'.aD t
def A1(B:List Nat)(s s':aE):Prop:=∀ b∈B,s.ab b=s'.ab b
theorem K'{a b:List Nat}(h:Ds a b=true){x:Nat}(an:x∈a):x ∉ b:=by
 have:=List.all_eq_true.1 h x an;grind
theorem Dv(s:aE):∀ (l:List (Nat×b_)),(s.iC l).aD=s.aD:=by
 intro l;induction l generalizing s with
 | nil=>rfl
 | cons p l aR=>simp  [aE.iC];rw[aR];rfl
variable {b:Nat}
theorem Z5:∀ (l:List (Nat×b_)) (s:aE),b ∉ l.map (·.1)->(s.iC l).ab b=s.ab b:=by
 intro l;induction l with
 | nil=>intro s _;rfl
 | cons p l aR=>
  grind [aE.iC,aE.cq]
theorem QY:∀ (l:List (Nat×b_)) (s s':aE),b∈l.map (·.1)->(s.iC l).ab b=(s'.iC l).ab b:=by
 intro l;induction l with
 | nil=>simp
 | cons p l aR=>
  grind [aE.iC,Z5,aE.cq]
theorem apO(s:aE)(d:Option Nat)(v:aN):(s.set d v).ab=s.ab:=by cases d<;>rfl
theorem La(r:eU)(s:aE)(t:Nat):(r.jY s).aD t=if t∈r.pC then r.ht else s.aD t:=by
 unfold eU.jY eU.pC;cases h:r.dst with
 | none=>simp[aE.set,Dv]
 | some d=>grind [aE.set,Dv]
theorem A2(r:eU)(s:aE)(b:Nat):(r.jY s).ab b=(s.iC r.jG).ab b:=by grind [eU.jY,apO]
variable {r:eU}{s:aE}
theorem Z6{t:Nat}(h:t ∉ r.pC):(r.jY s).aD t=s.aD t:=by grind [La]
theorem A3(h:b ∉ r.oX):(r.jY s).ab b=s.ab b:=by rw[A2];exact Z5 _ _ h
variable {s':aE}
theorem aE.apP(E:∀ t,s.aD t=s'.aD t)(M:∀ b,s.ab b=s'.ab b):s=s':=by
 obtain⟨a,b⟩:=s;obtain⟨a',bk⟩:=s';rw[show a=a' from funext E,show b=bk from funext M]
variable {b:eU}
theorem apQ{a:eU}(E:∀ t∈a.pC,t ∉ b.pC)(M:∀ x∈a.oX,x ∉ b.oX)(s:aE):a.jY (b.jY s)=b.jY (a.jY s):=by
 apply aE.apP
 ·grind [La]
 ·intro x;by_cases aZ:x∈a.oX
  ·have U:=M x aZ;rw[A3 U,A2,A2];exact QY _ _ _ aZ
  ·rw[A3 aZ];by_cases U:x∈b.oX
   ·rw[A2,A2];exact QY _ _ _ U
   grind [A3]
def jZ(l:List eU)(s:aE):aE:=l.foldl (λs r=>r.jY s) s
variable {R:List Nat}
theorem apR{B:List Nat}:∀ (l:List eU) (s:aE),(∀ r∈l,(∀ t∈R,t ∉ r.pC)/\∀ b∈B,b ∉ r.oX)->A0 R (jZ l s) s/\A1 B (jZ l s) s:=by
 intro l;induction l with
 | nil=>intro s _;exact⟨λ_ _=>rfl,λ_ _=>rfl⟩
 | cons r l aR=>
  intro s h;obtain⟨E,M⟩:=aR (r.jY s) λjS bm=>h jS (am2 _ bm);have D:=h r (aRz);exact⟨λt aH=>(E t aH).trans (Z6 (D.1 t aH)),λb U=>(M b U).trans (A3 (D.2 b U))⟩
theorem apS{B:List Nat}(E:A0 R s s')(M:A1 B s s'):A0 R (r.jY s) (r.jY s')/\A1 B (r.jY s) (r.jY s'):=by
 refine⟨λt aH=>?_,λb U=>?_⟩
 ·rw[La,La];split
  ·rfl
  ·exact E t aH
 ·by_cases hw:b∈r.oX
  ·rw[A2,A2];exact QY _ _ _ hw
  ·rw[A3 hw,A3 hw];exact M b U
theorem apT{B:List Nat}(p:Nat×eU->Bool):∀ (l:List (Nat×eU)) (s s':aE),A0 R s s'->A1 B s s'->(∀ r∈l,p r=false->(∀ t∈R,t ∉ r.2.pC)/\∀ b∈B,b ∉ r.2.oX)->
  A0 R (jZ ((l.filter p).map (·.2)) s) (jZ (l.map (·.2)) s')/\A1 B (jZ ((l.filter p).map (·.2)) s) (jZ (l.map (·.2)) s'):=by
 intro l;induction l with
 | nil=>intro s s' E M _;exact⟨E,M⟩
 | cons r l aR=>
  intro s s' E M h;have ai:=λjS bm=>h jS (am2 _ bm);cases ak:p r with
  | true=>
   rw[List.filter_cons_of_pos ak];obtain⟨aO,aT⟩:=apS   E M;exact aR _ _ aO aT ai
  | false=>
   rw[List.filter_cons_of_neg (by grind)];have D:=h r (aRz) ak;exact aR _ _ (λt aH=>(E t aH).trans (Z6 (D.1 t aH)).symm) (λb U=>(M b U).trans (A3 (D.2 b U)).symm) ai
theorem apU:∀ (l:List eU) (s:aE),(∀ x∈l,(∀ t∈r.pC,t ∉ x.pC)/\∀ b∈r.oX,b ∉ x.oX)->jZ l (r.jY s)=r.jY (jZ l s):=by
 intro l;induction l with
 | nil=>intro s _;rfl
 | cons x l aR=>
  intro s h;have an:=h x (aRz);show jZ l (x.jY (r.jY s))=r.jY (jZ l (x.jY s));rw[<-apQ an.1 an.2 s];grind
def kp:Nat->List eU->List (Nat×eU)
 | _,[]=>[]
 | n,r::l=>(n,r)::kp (n+1) l
theorem QZ:∀ (l m:List eU) (n:Nat),kp n (l++m)=kp n l++kp (n+l.length) m
 | [],m,n=>by rfl
 | r::l,m,n=>by simp  [kp,QZ l m (n+1)];grind
theorem Lb:∀ (l:List eU) (n:Nat),(kp n l).map (·.2)=l
 | [],_=>rfl
 | r::l,n=>by simp  [kp,Lb l (n+1)]
theorem A4:∀ {l:List eU} {n j:Nat} {x:eU},(j,x)∈kp n l->n<=j/\l[j - n]?=some x
 | r::l,n,j,x,h=>by
  simp  [kp,aQx]at h;rcases h with⟨rfl,rfl⟩ | h
  ·simp
  ·obtain⟨E,M⟩:=A4 h;grind
 | [],_,_,_,h=>by cases h
def na(l:List eU)(s:aE)(f:Nat->Bool):aE:=jZ (((kp 0 l).filter λp=>f p.1).map (·.2)) s
theorem GW(l m:List eU)(s:aE):jZ (l++m) s=jZ m (jZ l s):=by simp[jZ]
theorem Q0{a:eU}(h:a.apart b=true):(∀ t∈a.pC,t ∉ b.mH/\t ∉ b.pC)/\(∀ t∈a.mH,t ∉ b.pC)/\(∀ x∈a.oX,x ∉ b.xo/\x ∉ b.oX)/\∀ x∈a.xo,x ∉ b.oX:=by
 simp  [eU.apart]at h;obtain⟨⟨⟨E,M⟩,al⟩,a7⟩:=h;refine⟨λt aH=>?_,λt aH=>K' M aH,λx an=>?_,λx an=>K' a7 an⟩
 ·have:=K' E aH;grind
 ·have:=K' al an;grind
theorem apV{l:List eU}{f:Nat->Bool}{i:Nat}(G:l[i]?=some r)(aC:f i=false)
  (hW:∀ j x,j<i->l[j]?=some x->f j=false->x.apart r=true) (A5:∀ j x,i<j->l[j]?=some x->f j=true->r.apart x=true) :
  A0 r.mH (na l s f) (jZ (l.take i) s)/\A1 r.xo (na l s f) (jZ (l.take i) s)/\na l s (λj=>if j=i then true else f j)=r.jY (na l s f):=by
 have apW:kp 0 l=kp 0 (l.take i)++(i,r)::kp (i+1) (l.drop (i+1)):=by
  grind [List.take_append_drop,List.drop_eq_getElem_cons,QZ,kp]
 have aMx:∀ p∈kp 0 (l.take i),p.1<i/\l[p.1]?=some p.2:=by
  rintro⟨j,x⟩ ak;obtain⟨_,M⟩:=A4 ak;grind
 have aMy:∀ p∈kp (i+1) (l.drop (i+1)),i<p.1/\l[p.1]?=some p.2:=by
  rintro⟨j,x⟩ ak;obtain⟨E,M⟩:=A4 ak;grind
 have kZ:na l s f=jZ (((kp (i+1) (l.drop (i+1))).filter λp=>f p.1).map (·.2)) (jZ (((kp 0 (l.take i)).filter λp=>f p.1).map (·.2)) s):=by
  grind [na,GW]
 have vL:=apR (R:=r.mH) (B:=r.xo) (((kp (i+1) (l.drop (i+1))).filter λp=>f p.1).map (·.2)) (jZ (((kp 0 (l.take i)).filter λp=>f p.1).map (·.2)) s)
  (λx an=>by
   grind [Q0])
 have uz:=apT (R:=r.mH) (B:=r.xo) (λp=>f p.1) (kp 0 (l.take i)) s s (λ_ _=>rfl) (λ_ _=>rfl) (λp ak apX=>by
  grind [Q0])
 rw[Lb]at uz;refine⟨λt aH=>by rw[kZ];exact (vL.1 t aH).trans (uz.1 t aH),λb U=>by rw[kZ];exact (vL.2 b U).trans (uz.2 b U),?_⟩;rw[kZ];unfold na;have aF:(kp 0 (l.take i)).filter (λp=>if p.1=i then true else f p.1)=(kp 0 (l.take i)).filter λp=>f p.1:=by
  grind [List.filter_congr]
 have bB:(kp (i+1) (l.drop (i+1))).filter (λp=>if p.1=i then true else f p.1)=(kp (i+1) (l.drop (i+1))).filter λp=>f p.1:=by
  grind [List.filter_congr]
 rw[apW,aRk,List.filter_cons_of_pos (by simp),aQT,GW];show jZ _ (r.jY _)=_;grind [apU,Q0]
theorem Dw{p:Nat->Prop}:∀ (ops:List Oper) (acc:List (List Nat)),(∀ j i,i∈acc.getD j []->p j->p i)->(∀ j o,ops[j]?=some o->∀ i∈lR o,p (acc.length+j)->p i)->
  ∀ j i,i∈(ops.foldl Dt acc).getD j []->p j->p i:=by
 intro ops;induction ops with
 | nil=>simp
 | cons o ops aR=>
  intro acc h ay;refine aR (Dt acc o) (λj i G aM=>?_) λj gg hX i G aM=>ay (j+1) gg (by grind) i G (by
   have:(Dt acc o).length=acc.length+1:=by simp[Dt]
   grind)
  unfold Dt at G;rw[am1,List.getElem?_append]at G;split at G
  ·grind
  ·by_cases e:j=acc.length
   ·subst e;simp  at G;have G:=(QX G).resolve_left (by simp);simp  at G;obtain⟨k,aj,G⟩:=G;have vr:=ay 0 o (by simp) k aj (by omega);grind
   grind
variable {ops:Array Oper}
theorem Q1{aJ:dX}{T:Nat->aa}{bs:Nat->Option aQ}:∀ (os:List Oper) (s:aE) {l:List eU} {s':aE},xp aJ T bs ops os s=some (l,s')->
  l.length=os.length/\s'=jZ l s/\∀ i o,os[i]?=some o->∃ r,l[i]?=some r/\vN aJ T bs ops (jZ (l.take i) s) o=some r:=by
 intro os;induction os with
 | nil=>intro s l s' h;cases h;exact⟨rfl,rfl,λi o h=>by grind⟩
 | cons o os aR=>
  intro s l s' h;simp  [xp]at h;split at h
  ·grind
  ·rename_i r D;split at h
   ·grind
   ·rename_i ev aMz ai;cases h;obtain⟨E,M,al⟩:=aR _ ai;refine⟨by grind,M,λi gg hX=>?_⟩;cases i with
    | zero=>
     simp  at hX;subst hX;exact⟨r,by simp,D⟩
    | succ i=>
     obtain⟨jS,aO,aT⟩:=al i gg (by grind);exact⟨jS,by grind,aT⟩
theorem Q2{f kF:Nat->aN}{g:Option (Nat×Bool)}(h:∀ t∈K_ ops g,f t=kF t):mi f ops g=mi kF ops g:=by
 unfold mi;cases g with
 | none=>rfl
 | some p=>
  grind [K_]
theorem apY{aJ:dX}{T:Nat->aa}{bs:Nat->Option aQ}{o:Oper}(h:vN aJ T bs ops s o=some r)(E:A0 r.mH s' s)(M:A1 r.xo s' s):vN aJ T bs ops s' o=some r:=by
 have Z7:r.mH=GS ops o/\r.xo=(iB aJ T bs (bj aJ s.aD) o).looks s.ab:=by
  grind [vN]
 rw[Z7.1]at E;rw[Z7.2]at M;have sV:∀ x∈o.op.operands.toList,bj aJ s'.aD x=bj aJ s.aD x:=by
  intro x an;cases x with
  | tmp t=>
   refine E t ?_;simp  [GS];exact .inr (List.mem_filterMap.2 ⟨.tmp t,an,rfl⟩)
  | _=>rfl
 have aF:mi s'.aD ops o.guard=mi s.aD ops o.guard:=Q2 λt aH=>E t (by simp[GS,aH]);have bB:iB aJ T bs (bj aJ s'.aD) o=iB aJ T bs (bj aJ s.aD) o:=apM sV;have c7:=aG.YE     (iB aJ T bs (bj aJ s.aD) o) M;have bW:ux (bj aJ s'.aD) o=ux (bj aJ s.aD) o:=by
  grind [ux]
 have kU:ri (bj aJ s'.aD) o=ri (bj aJ s.aD) o:=by
  unfold ri;cases au:o.op with
  | binOp op ty x y t=>
   grind [Op.operands]
  | load ty x=>grind [Op.operands]
  | store ty x y=>grind [Op.operands]
  | call c=>
   obtain⟨callee,args,ds⟩:=c;cases callee with
   | builtin b=>
    have dj:∀ x∈args.toList,bj aJ s'.aD x=bj aJ s.aD x:=λx an=>sV x (by grind [Op.operands,Call.operands]);unfold Dp;grind
   | _=>rfl
  | _=>rfl
 have gS:vM (bj aJ s'.aD) o=vM (bj aJ s.aD) o:=by
  grind [vM,Op.operands]
 simp_all[vN]
end Go.Fer
