/- Part 2 of the proof of FilesSeason: shallow programs of Go functions, and what they compute. No condition. -/
import Derived.Test.YtjjgkigajpocoaaGreatDoorFilesSeasonA
import Derived.Laws.BytesString
import Derived.Lib.UnsafeStr
noncomputable section
set_option linter.unusedVariables false
set_option linter.unusedSimpArgs false
namespace Go.Fer
open Go.RowKit
theorem F_{p:Addr}(h:p.spot=none)(n:Nat):p.add n=⟨p.block,p.off+n,none⟩:=by
 obtain⟨b,o,sp⟩:=p;subst h;exact tS b o n
theorem P3{e:V}{xs:List e.al}{i:Int}(E:0<=i)(L:i<(xs.length:Int)):mO e xs i=xs[i.toNat]'(by omega):=by
 unfold mO;grind
section
variable {C:cF} {T:Nat->V} {bs:Nat->Option aN} {o:Oper} {s:aC} {res:eA}
variable {w:World}{ty:TypeId}
theorem Kj{P:Program}{e:V}(h:cv P (.slice e) ty){p:Addr}(aj:p.spot=none){n cap:Nat}{k:IntKind}{i:Int}(E:0<=i)(L:i<(n:Int)) :
  (Instr.indexAt ty (.slice (some p) n cap) (.int k i)).run P w=.ok (.pointer (some ⟨p.block,p.off+i.toNat*e.size,none⟩)) w:=by
 obtain⟨j,aJ,iB,_⟩:=h.sl;simp[Instr.indexAt,asIntOf,en aJ,E,L,iB.size,F_ aj]
variable {x:Operand}
theorem anD(aT:ed C.P T){i:Operand}(bh:∀ i,o.dst=some i->i<C.bV)(ar:o.op=.indexAddr ty x i)(h:(cP C.aU T bs (be C.aU s.az) o).run s.aa=some res):cR C o s res:=by
 simp only[cP,ar]at h;split at h
 ·rename_i bL k n aG G;have dC:=aT.cB aG (by simp);simp only[da,aE.fZ,amj,aE.dy,amk]at h;obtain⟨⟨c,v⟩,kj,rfl⟩:=h;refine cR.pure (by grind) bh λa w kap F D ba hc=>?_;have ao:bJ C.P s.aa kap F w (use (be C.aU s.az x)).2 (a.eval x):=db D x rfl ba.1;have L:=p9 (db D i rfl ba.2) G;have Ar:∀ (xs:List bL.al),cp C.P (.slice bL) F w [a.eval x] xs->0<=n/\n<xs.length->∃ r,(execOp a.eval o).run C.P w=.ok (.value r) w/\bJ C.P s.aa kap F w (.eL bL (mO bL xs n)) r:=by
   intro xs kh aA;obtain⟨a',cap,aB,m1,m2,m3,m4⟩:=kh;have aB:=(aPM aB).1;cases a' with
   | none=>grind
   | some p=>
    obtain⟨eB,eC,lf⟩:=m4 p rfl (by omega);obtain⟨bB,d1,d2⟩:=lf n.toNat (by omega);refine⟨_,by simp[execOp,ar,aB,L.1,Kj dC eC aA.1 aA.2],⟨p.block,p.off+n.toNat*bL.size,none⟩,bB,rfl,d1,?_⟩;rw[P3 aA.1 aA.2];omega
  unfold Ym at kj;split at kj
  ·rename_i e xs gm;simp only[aE.dy]at kj;split at kj
   ·rename_i he;subst he;obtain⟨rfl,rfl⟩:=kj;rw[gm]at ao;exact Ar xs ((eb rfl).1 ao).2 hc
   grind
  ·rename_i b g gm;rw[gm]at ao;simp only[aE.gU,aE.dy]at kj;split at kj
   ·rename_i aD;have aX:=D.bC b;unfold c7 at aX;split at kj
    ·rename_i e xs ch;split at kj
     ·rename_i he;subst he;obtain⟨rfl,rfl⟩:=kj;have ae:=ao.2 aD.symm (by rw[ch];rfl);rw[ch]at ae aX;have tZ:(kap b).fT=false:=by
       cases aA:(kap b).fT with
       | false=>rfl
       | true=>rw[aX.1 aA]at hc;grind
      simp  [bI.slice,tZ,b8.len]at ae;refine⟨_,by simp[execOp,ar,ae,L.1,Kj dC (p:=⟨(kap b).aa,(kap b).off,none⟩) rfl hc.1 hc.2];rfl,⟨ao.1.1,rfl⟩,λ_ _=>?_⟩;rw[ch];exact⟨by simp  [b8.len];omega,tZ,rfl⟩
     grind
    ·rename_i e xs ch;split at kj
     ·rename_i he;subst he;obtain⟨rfl,rfl⟩:=kj;have ae:=ao.2 aD.symm (by rw[ch];rfl);rw[ch]at ae aX;refine Ar xs ?_ hc;rw[ae];exact aX
     grind
    grind
   grind
  ·rename_i b g a1 G gm;rw[gm]at ao;simp only[aE.gU,aE.dy]at kj;split at kj
   ·rename_i aD;have aX:=D.bC b;unfold c7 at aX;split at kj
    ·rename_i e xs ch;split at kj
     ·obtain⟨rfl,rfl⟩:=kj;obtain⟨⟨aM,aS⟩,b4⟩:=ao.2 aD.symm (by rw[ch];rfl);rw[ch]at aS b4 aX;simp  [b8.len,b8.gJ]at aS b4;rcases b4 with⟨aA,_⟩ | ⟨aA,pq,ae,jQ,gV⟩
      ·rw[aX.1 aA]at aS;grind
      ·obtain⟨cs,h9,bE,c2,c3,c4,c5⟩:=aX.2 aA;refine⟨_,by simp[execOp,ar,ae,L.1,Kj dC (p:=⟨(kap b).aa,pq,none⟩) rfl hc.1 hc.2];rfl,⟨ao.1.1,rfl⟩,λ_ _=>?_⟩;rw[ch];refine⟨by simp  [b8.len];omega,aA,?_⟩;simp  [b8.gJ];grind
     grind
    ·rename_i e xs ch;split at kj
     ·rename_i he;subst he;obtain⟨rfl,rfl⟩:=kj;obtain⟨⟨aM,aS⟩,b4⟩:=ao.2 aD.symm (by rw[ch];rfl);rw[ch]at aS b4 aX;simp  [b8.len]at aS b4;have hlen:((xs.take G).drop a1).length=G - a1:=by grind
      obtain⟨r,ck,c8⟩:=Ar ((xs.take G).drop a1) (JX aX aM aS b4) (by omega);have aB:mO e ((xs.take G).drop a1) n=mO e xs (a1+n):=by
       rw[P3 hc.1 (by omega),P3 (by omega) (by omega)];grind
      grind
     grind
    grind
   grind
  ·simp_all
  ·cases kj
 ·rename_i m bL k n aG G;split at h
  ·rename_i dp aY xs gm;split at h
   ·rename_i he;obtain⟨rfl,rfl⟩:=he;simp  [da,amk]at h;subst h;refine cR.pure (by grind) bh λa w kap F D ba hc=>?_;have ao:bJ C.P s.aa kap F w (use (be C.aU s.az x)).2 (a.eval x):=db D x rfl ba.1;rw[gm]at ao;have L:=p9 (db D i rfl ba.2) G;obtain⟨j,aJ,tT,_⟩:=(aT.cB aG (by simp)).bl;obtain⟨p,bB,ae,df,qQ⟩:=ao;obtain⟨bE,c2,c3,rfl,bt,cT⟩:=PR qQ (i:=n.toNat) (by omega);refine⟨.pointer (some ⟨p.block,p.off+n.toNat*aY.size,none⟩),?_,⟨p.block,p.off+n.toNat*aY.size,none⟩,c2,rfl,⟨df.1,rfl,λq bq=>?_⟩,cT⟩
    ·simp[execOp,ar,Instr.indexAt,ae,L.1,asIntOf,en aJ,hc.1,hc.2,tT.size,F_ df.2.1,Instr.sureAddr]
    ·have:=df.2.2 (bE.length+q) (by grind);grind
   ·cases h
  ·rename_i b g off gm;simp only[aE.gU,aE.dy]at h;split at h
   ·rename_i bA;simp  at bA;simp  at h;subst h;refine cR.pure (by grind) bh λa w kap F D ba hc=>?_;have E:bJ C.P s.aa kap F w (use (be C.aU s.az x)).2 (a.eval x):=db D x rfl ba.1;rw[gm]at E;have L:=p9 (db D i rfl ba.2) G;have ak:=E.2 bA.1.symm bA.2;obtain⟨j,aJ,tT,_⟩:=(aT.cB aG (by simp)).bl;exact⟨_,by simp[execOp,ar,Instr.indexAt,ak,L.1,asIntOf,en aJ,hc.1,hc.2,tT.size,F_ (p:=⟨(kap b).aa,off,none⟩) rfl,Instr.sureAddr],⟨E.1.1,rfl⟩,λ_ _=>rfl⟩
   grind
  ·cases h
 ·cases h
theorem As{a:Act}{kap:Nat->bI}{F:Nat->Prop}(D:bw C s a w kap F){x:Option Operand}{p:Prop}{n:Option Int}(h:lb (be C.aU s.az) x=some (p,n))(aj:p) :
  (x=none/\n=none)\/∃ y k m,x=some y/\n=some m/\a.eval y=.int k m:=by
 cases x with
 | none=>simp  [lb,aPD]at h;grind
 | some y=>
  simp  [lb]at h;split at h
  ·rename_i q k m hu;obtain⟨rfl,rfl⟩:=h;exact .inr ⟨y,k,m,rfl,rfl,(hO.1 (db D y hu aj)).1⟩
  grind
theorem P4{P:Program}{isS:Bool}{len cap:Nat}{a1 G:Option Value}{l h:Option Int}(ah:(a1=none/\l=none)\/∃ k m,a1=some (.int k m)/\l=some m)(df:(G=none/\h=none)\/∃ k m,G=some (.int k m)/\h=some m)
  (E:0<=dA l) (L:dA l<=fU len h) (ak:fU len h<=(cap:Int)) (_h4:len<=cap):(Instr.sliceBounds isS len cap a1 G none).run P w=.ok ((dA l).toNat,(fU len h).toNat,cap) w:=by
 rcases ah with⟨rfl,rfl⟩ | ⟨k,m,rfl,rfl⟩<;>rcases df with⟨rfl,rfl⟩ | ⟨k',dp,rfl,rfl⟩<;>simp  [dA,fU]at E L ak ⊢
 ·rfl
 ·have:0<=dp/\dp<=cap:=by omega
  simp[Instr.sliceBounds,Instr.sliceBound,asIntOf,this]
 ·have:0<=m/\m<=len:=by omega
  simp[Instr.sliceBounds,Instr.sliceBound,asIntOf,this]
 ·have aB:0<=dp/\dp<=cap:=by omega
  have bt:0<=m/\m<=dp:=by omega
  have cT:max dp 0=dp:=by omega
  simp[Instr.sliceBounds,Instr.sliceBound,asIntOf,aB,bt,cT]
theorem anE{l h:Option Int}{n m:Nat}(YP:n<=m):FP l h n m<=m:=by
 unfold FP;grind
theorem anF(aT:ed C.P T){a1 G:Option Operand}(bh:∀ i,o.dst=some i->i<C.bV)(ar:o.op=.slice ty x a1 G none)(h:(cP C.aU T bs (be C.aU s.az) o).run s.aa=some res):cR C o s res:=by
 simp  [cP,ar,J0]at h;split at h
 ·rename_i ol l sA qc bK Au;have aw:∀ c,o.op≠.defer c:=by grind
  have u7:∀ (a:Act) (w:World) kap F,bw C s a w kap F->ol->sA->((a1.map a.eval=none/\l=none)\/∃ k m,a1.map a.eval=some (.int k m)/\l=some m)/\((G.map a.eval=none/\qc=none)\/∃ k m,G.map a.eval=some (.int k m)/\qc=some m):=by
   intro a w kap F D wX Ga;constructor
   ·rcases As D bK wX with⟨rfl,rfl⟩ | ⟨y,k,m,rfl,rfl,e⟩<;>grind
   ·rcases As D Au Ga with⟨rfl,rfl⟩ | ⟨y,k,m,rfl,rfl,e⟩<;>grind
  split at h
  ·rename_i bL aG;have dC:=aT.cB aG (by simp);obtain⟨j,aJ,iB,oP⟩:=dC.sl;simp only[aE.fZ,amj]at h;obtain⟨⟨c,v⟩,jT,h⟩:=h;simp  [da,amk]at h;subst h;have runs:∀ (a:Act) (w:World) kap F,bw C s a w kap F->ol->sA->∀ (q:Option Addr) (n cap:Nat),a.eval x=.slice q n cap->n<=cap->0<=dA l/\dA l<=fU n qc/\fU n qc<=cap->
     (execOp a.eval o).run C.P w=.ok (.value (.slice (if cap=(dA l).toNat then q else q.map (·.add ((dA l).toNat*bL.size))) ((fU n qc).toNat - (dA l).toNat) (cap - (dA l).toNat))) w:=by
    intro a w kap F D wX Ga q n cap ae aA hc;obtain⟨cY,fe⟩:=u7 a w kap F D wX Ga;have:=P4 (P:=C.P) (w:=w) (isS:=true) cY fe hc.1 hc.2.1 hc.2.2 aA;simp[execOp,ar,ae,Instr.sliceAt,Instr.slice,en aJ,this,iB.size]
   unfold Yn at jT;split at jT
   ·rename_i e xs gm;simp only[aE.dy]at jT;split at jT
    ·obtain⟨rfl,rfl⟩:=jT;refine cR.pure aw bh λa w kap F D ba hc=>?_;have ao:bJ C.P s.aa kap F w (use (be C.aU s.az x)).2 (a.eval x):=db D x rfl ba.1;rw[gm]at ao;obtain⟨_,a',cap,aB,m1,m2,m3,m4⟩:=(eb rfl).1 ao;have aB:=(aPM aB).1;refine⟨_,runs a w kap F D ba.2.1 ba.2.2 a' xs.length cap aB m1 ⟨hc.1,hc.2.1,by omega⟩,(eb rfl).2 ⟨rfl,?_⟩⟩;have hlen:((xs.take (fU xs.length qc).toNat).drop (dA l).toNat).length=(fU xs.length qc).toNat - (dA l).toNat:=by
      simp_all
     refine⟨_,_,by rw[hlen],by omega,by omega,?_,λp aj CJ=>?_⟩
     ·intro aA;split at aA
      ·omega
      simp_all
     ·cases a' with
      | none=>split at aj<;>cases aj
      | some q=>
       obtain⟨eB,eC,lf⟩:=m4 q rfl (by omega);have bq:∃ d,p=⟨q.block,q.off+d,none⟩/\(d=(dA l).toNat*e.size\/cap=(dA l).toNat):=by
        split at aj
        ·omega
        ·simp  at aj;rw[F_ eC]at aj;grind
       obtain⟨d,rfl,JV⟩:=bq;refine⟨eB,rfl,λi G=>?_⟩;obtain⟨bB,d1,d2⟩:=lf ((dA l).toNat+i) (by omega);rcases JV with rfl | wY<;>grind
    grind
   ·rename_i gm;obtain⟨rfl,rfl⟩:=jT;refine cR.pure aw bh λa w kap F D ba hc=>?_;have ao:bJ C.P s.aa kap F w (use (be C.aU s.az x)).2 (a.eval x):=db D x rfl ba.1;rw[gm]at ao;have kB:=hc;have ds:=runs a w kap F D ba.2.1 ba.2.2 none 0 0 ao (amo _) kB;have aV:(fU 0 qc).toNat=0:=by omega
    rw[aV]at ds;refine⟨_,ds,?_⟩;simp only[bJ];simp
   ·rename_i b g gm;simp only[aE.gU,aE.dy]at jT;split at jT
    ·rename_i bA;simp  at bA;obtain⟨⟨aD,ga⟩,J_⟩:=bA;obtain⟨rfl,rfl⟩:=jT;refine cR.pure aw bh λa w kap F D ba hc=>?_;have ao:bJ C.P s.aa kap F w (use (be C.aU s.az x)).2 (a.eval x):=db D x rfl ba.1;rw[gm]at ao;have ae:=ao.2 aD.symm ga;obtain⟨eB,eC⟩:=CT D ga;cases aA:(kap b).fT with
     | true=>
      have aV:=eB aA;simp  [bI.slice,aA]at ae;rw[aV]at hc;have ds:=runs a w kap F D ba.2.1 ba.2.2 none 0 0 ae (amo _) hc;refine⟨_,ds,⟨ao.1.1,by rfl⟩,λ_ _=>⟨by grind,.inl ⟨aA,?_⟩⟩⟩;grind
     | false=>
      have wY:=PS D ga aA;simp  [bI.slice,aA,aPA]at ae;have ds:=runs a w kap F D ba.2.1 ba.2.2 _ _ _ ae wY ⟨hc.1,hc.2.1,by omega⟩;refine⟨_,ds,⟨ao.1.1,by rfl⟩,λ_ _=>⟨by omega,.inr ⟨aA,?_⟩⟩⟩;rw[<-J_];by_cases kA:(kap b).cap=(dA l).toNat
      ·grind
      ·rw[if_neg kA];simp only[aQ9,tS];simp
    grind
   ·rename_i b g fM aV gm;simp only[aE.gU,aE.dy]at jT;split at jT
    ·rename_i bA;simp  at bA;obtain⟨⟨aD,ga⟩,J_⟩:=bA;obtain⟨rfl,rfl⟩:=jT;refine cR.pure aw bh λa w kap F D ba hc=>?_;have ao:bJ C.P s.aa kap F w (use (be C.aU s.az x)).2 (a.eval x):=db D x rfl ba.1;rw[gm]at ao;obtain⟨⟨aM,aS⟩,b4⟩:=ao.2 aD.symm ga;obtain⟨eB,eC⟩:=CT D ga;have vh:FP l qc (aV - fM) ((s.aa b).body.len - fM)<=(s.aa b).body.len - fM:=anE (by omega);revert hc vh;generalize FP l qc (aV - fM) ((s.aa b).body.len - fM)=lim;intro hc vh;rcases b4 with⟨aA,ae⟩ | ⟨aA,pq,ae,jQ,gV⟩
     ·have Kk:=eB aA;have bL:aV - fM=0:=by omega
      have elim:lim=0:=by omega
      rw[elim]at hc;grind
     ·have wY:=PS D ga aA;have ds:=runs a w kap F D ba.2.1 ba.2.2 _ _ _ ae (by omega) ⟨hc.1,hc.2.1,by omega⟩;refine⟨_,ds,⟨ao.1.1,by rfl⟩,λ_ _=>⟨by omega,.inr ⟨aA,?_⟩⟩⟩;rw[<-J_];have aB:(fU (aV - fM) qc).toNat - (dA l).toNat=fM+(fU (aV - fM) qc).toNat - (fM+(dA l).toNat):=by omega
      have bt:(kap b).cap - fM - (dA l).toNat=(kap b).cap - (fM+(dA l).toNat):=by omega
      rw[aB,bt];have cT:(fM+(dA l).toNat)*(s.aa b).body.gJ=fM*(s.aa b).body.gJ+(dA l).toNat*(s.aa b).body.gJ:=aP' _ _ _;by_cases kA:(kap b).cap - fM=(dA l).toNat
      ·rw[if_pos kA];exact⟨_,rfl,by omega,λh=>by omega⟩
      ·rw[if_neg kA];simp only[aQ9,tS];exact⟨_,rfl,by omega,λh=>by omega⟩
    grind
   ·cases jT
  ·rename_i aG;have dC:=(aT.cB aG (by simp)).str;split at h
   ·rename_i c v jT;simp  [da,amk]at h;subst h;unfold Yo at jT;split at jT
    ·rename_i xs gm;obtain⟨rfl,rfl⟩:=jT;refine cR.pure aw bh λa w kap F D ba hc=>?_;have ao:bJ C.P s.aa kap F w (use (be C.aU s.az x)).2 (a.eval x):=db D x rfl ba.1;rw[gm]at ao;obtain⟨ae,dk⟩:=k3.1 ao;obtain⟨cY,fe⟩:=u7 a w kap F D ba.2.1 ba.2.2;have ay:ByteArray.size ⟨xs.toArray⟩=xs.length:=by rfl
     have:=P4 (P:=C.P) (w:=w) (isS:=false)     cY fe hc.1 hc.2.1 hc.2.2 (amo _);refine⟨.string ⟨((xs.take (fU xs.length qc).toNat).drop (dA l).toNat).toArray⟩,?_,k3.2 ⟨rfl,by grind⟩⟩;simp  [execOp,ar,ae,Instr.sliceAt,Instr.slice,en dC,ay,this];have he:ByteArray.extract ⟨xs.toArray⟩ (dA l).toNat (fU xs.length qc).toNat=⟨((xs.take (fU xs.length qc).toNat).drop (dA l).toNat).toArray⟩:=by
      apply ByteArray.ext;rw[ByteArray.data_extract];grind
     grind
    grind
   ·cases h
  ·cases h
 ·cases h
end
end Go.Fer
namespace Go.Fer
open Go.RowKit
def hY(P:Program)(e:V)(F:Nat->Prop)(w:World)(all:List Value)(xs:List e.al):Prop:=
 all.length=xs.length*e.size/\∀ i (h:i<xs.length),cp P e F w ((all.drop (i*e.size)).take e.size) xs[i]
variable {P:Program}{e:V}{F:Nat->Prop}{w:World}
theorem hY.append{l m:List Value}{xs br:List e.al}(h:hY P e F w l xs)(k:hY P e F w m br):hY P e F w (l++m) (xs++br):=by
 refine⟨by simp[h.1,k.1,aP'],λi G=>?_⟩;by_cases ao:i<xs.length
 ·have aB:(xs++br)[i]=xs[i]:=List.getElem_append_left ao;rw[aB];have hle:(i+1)*e.size<=xs.length*e.size:=amt _ (by omega);rw[aP']at hle;have:((l++m).drop (i*e.size)).take e.size=(l.drop (i*e.size)).take e.size:=by
   rw[List.drop_append_of_le_length (by rw[h.1];omega),List.take_append_of_le_length (by simp[h.1];omega)]
  rw[this];exact h.2 i ao
 ·have dR:i - xs.length<br.length:=by grind
  have aB:(xs++br)[i]=br[i - xs.length]:=aQR (by omega);rw[aB];have hm:i*e.size=xs.length*e.size+(i - xs.length)*e.size:=by rw[<-aP'];grind
  have:(l++m).drop (i*e.size)=m.drop ((i - xs.length)*e.size):=by
   rw[hm,<-h.1,List.drop_append];simp
  rw[this];exact k.2 _ dR
theorem hY.Gb{all pre post:List Value}{cs:Array Value}{xs:List e.al}(h:hY P e F w all xs)(hc:cs.toList=pre++(all++post)):nm P e F w cs pre.length xs:=by
 intro i G;refine⟨_,λj aJ=>?_,h.2 i G⟩;rw[<-aPX,hc,amu (by omega)];grind
theorem Kl{P:Program}{e:V}{F:Nat->Prop}{w:World}:∀ {xs:List e.al} {p:Addr},(0<xs.length->p.spot=none)->(∀ i (h:i<xs.length),∃ bB,mP w ⟨p.block,p.off+i*e.size,none⟩ bB/\cp P e F w bB xs[i])->
  ∃ all,hY P e F w all xs/\mP w p all
 | [],p,aj,_=>⟨[],⟨by simp,λi G=>by grind⟩,λh=>by grind,λj aJ=>by grind⟩
 | x::xs,p,aj,h=>by
  obtain⟨bB,d1,d2⟩:=h 0 (by simp);have iA:=jP e d2;obtain⟨all,cw,b2⟩:=Kl (P:=P) (F:=F) (w:=w) (xs:=xs) (p:=⟨p.block,p.off+e.size,none⟩) (λ_=>rfl) (λi G=>by
   obtain⟨YO,aM,aS⟩:=h (i+1) (by grind);grind)
  refine⟨bB++all,?_,λ_=>aj (by simp),λj aJ=>?_⟩
  ·have E:hY P e F w bB [x]:=⟨by grind,λi G=>by
    have:i=0:=by grind
    subst this;grind⟩
   exact E.append cw
  ·rcases aQD j bB.length with E | E
   ·have:=d1.2 j E;grind
   ·have:=b2.2 (j - bB.length) (by grind);grind
section
variable {C:cF} {T:Nat->V} {bs:Nat->Option aN} {o:Oper} {s:aC} {res:eA}
variable {v:Value}
theorem Av{a:Act}{kap:Nat->bI}(D:bw C s a w kap F){av:aL}{br:List e.al}{l:List Nat}(h:(eh (.slice e) av).run s.aa=some (br,l))(ae:bJ C.P s.aa kap F w av v) :
  ∃ q cap,v=.slice q br.length cap/\((q=none/\br=[]/\cap=0)\/∃ p all,q=some p/\hY C.P e F w all br/\mP w p all):=by
 have Ar:∀ {xs:List e.al},cp C.P (.slice e) F w [v] xs->∃ q cap,v=.slice q xs.length cap/\((q=none/\xs=[]/\cap=0)\/∃ p all,q=some p/\hY C.P e F w all xs/\mP w p all):=by
  intro xs ao;obtain⟨q,cap,aB,m1,m2,m3,m4⟩:=ao;refine⟨q,cap,(aPM aB).1,?_⟩;cases q with
  | none=>
   simp_all
  | some p=>
   obtain⟨all,cw,b2⟩:=Kl           (λh=>(m4 p rfl (by omega)).2.1) (λi G=>let ⟨bB,d1,d2⟩:=(m4 p rfl (by omega)).2.2 i G;⟨bB,d1.PJ,d2⟩);grind
 cases av with
 | val dN y=>
  simp  [eh,aPD]at h;obtain⟨z,bA,rfl,_⟩:=h;exact Ar (((eb rfl).1 (CH bA ae)).2)
 | dW=>
  simp  [eh,l4,V.fY,eK,aPD]at h;simp  [bJ]at ae;grind
 | own b g=>
  simp only[eh,l4,V.fY,if_true,eK,aE.gU,aE.dy]at h;split at h
  ·rename_i aD;have aX:=D.bC b;unfold c7 at aX;split at h
   ·rename_i aY xs ch;simp  at h;obtain⟨z,bA,rfl,_⟩:=h;obtain⟨Gc,rfl⟩:=mN bA;have yr:=ae.2 aD.symm (by rw[ch];rfl);rw[ch]at yr aX;simp  [b8.len]at yr;cases aA:(kap b).fT with
    | true=>
     have kh:=aX.1 aA;simp  [bI.slice,if_true]at yr;grind
    | false=>
     obtain⟨cs,h9,bE,c2,c3,c4,c5⟩:=aX.2 aA;simp  [bI.slice,aPA]at yr;obtain⟨all,cw,b2⟩:=Kl         (p:=⟨(kap b).aa,(kap b).off,none⟩) (λ_=>rfl) (λi G=>by
      obtain⟨bB,d1,d2⟩:=c5 i G;exact⟨bB,⟨λ_=>rfl,λj aJ=>by rw[Am bE];grind⟩,d2⟩)
     grind
   ·rename_i aY xs ch;simp  at h;obtain⟨z,bA,rfl,_⟩:=h;obtain⟨Gc,rfl⟩:=mN bA;have yr:=ae.2 aD.symm (by rw[ch];rfl);simp  [b8.len]at yr;simp  [mu]at aX;grind
   grind
  grind
 | sub b g a1 G=>
  simp only[eh,l4,V.fY,if_true,eK,aE.gU,aE.dy]at h;split at h
  ·rename_i aD;have aX:=D.bC b;unfold c7 at aX;split at h
   ·rename_i aY xs ch;simp  at h;obtain⟨z,bA,rfl,_⟩:=h;obtain⟨Gc,rfl⟩:=mN bA;cases Gc;obtain⟨⟨aM,aS⟩,b4⟩:=ae.2 aD.symm (by rw[ch];rfl);rw[ch]at aS b4 aX;simp  [b8.len,b8.gJ]at aS b4;have hlen:((xs.take G).drop a1).length=G - a1:=by grind
    rcases b4 with⟨aA,yr⟩ | ⟨aA,pq,yr,jQ,gV⟩
    ·have kh:=aX.1 aA;grind
    ·obtain⟨cs,h9,bE,c2,c3,c4,c5⟩:=aX.2 aA;obtain⟨all,cw,b2⟩:=Kl (P:=C.P) (F:=F)   (xs:=(xs.take G).drop a1) (p:=⟨(kap b).aa,pq,none⟩) (λ_=>rfl) (λi dR=>by
      obtain⟨bB,d1,d2⟩:=c5 (a1+i) (by omega);refine⟨bB,⟨λ_=>rfl,λj aJ=>?_⟩,?_⟩
      ·rw[Am bE];grind
      grind)
     grind
   ·rename_i aY xs ch;simp  at h;obtain⟨z,bA,rfl,_⟩:=h;obtain⟨Gc,rfl⟩:=mN bA;cases Gc;obtain⟨⟨aM,aS⟩,b4⟩:=ae.2 aD.symm (by rw[ch];rfl);rw[ch]at aS b4 aX;exact Ar (JX aX aM aS b4)
   grind
  grind
 | eL dN y=>simp[eh,l4,eK,aE.none]at h
 | u9 aY y=>
  simp only[eh,l4,V.fY,if_true,eK,aE.dy,aP3,aPD]at h;obtain⟨z,bA,rfl,_⟩:=h;exact Ar (((eb rfl).1 (CH bA ae.1)).2)
 | k4 u=>simp[eh,l4,V.fY,eK,FK]at h
 | _=>simp[eh,l4,V.fY,eK,aE.none]at h
variable {cap:Nat}
theorem P5{q:Option Addr}{n:Nat}{xs:List e.al}(aA:n=xs.length)(h:(q=none/\xs=[]/\cap=0)\/∃ p all,q=some p/\hY P e F w all xs/\mP w p all) :
  ∃ all,(Builtin.firstCells e.size n (.slice q n cap)).run P w=.ok all.toArray w/\hY P e F w all xs:=by
 subst aA;rcases h with⟨rfl,rfl,rfl⟩ | ⟨p,all,rfl,cw,b2⟩
 ·exact⟨[],by rfl,by simp[hY]⟩
 ·refine⟨all,?_,cw⟩;simp  [Builtin.firstCells];rw[<-cw.1];exact CO b2
theorem anG(n:Nat):∀ (k c:Nat),Builtin.growBy n k c<=max c (2*n+768):=by
 intro k;induction k with
 | zero=>simp  [Builtin.growBy];omega
 | succ k aO=>
  simp  [Builtin.growBy];grind
theorem anH{Km:Nat}(h:cap<Km):Builtin.nextslicecap Km cap<=2*Km+768:=by
 unfold Builtin.nextslicecap;split
 ·omega
 ·split
  ·omega
  ·have:=anG Km 4 cap;omega
theorem anI{z:Array Value}{n k:Nat}(h:z.size=k):(Builtin.zeroCells z n).size=n*k:=by simp[Builtin.zeroCells,h]
structure wZ(P:Program)(e:V)(F:Nat->Prop)(w:World)(mQ:TypeId)(v:Value)(br:List e.al):Prop where
 YQ:(∃ j,P.underlying mQ=some (.slice j))\/P.underlying mQ=some .string
 len:∀ cf,(Builtin.lenOf v).run P cf=.ok br.length cf
 cells:∃ fr:List Value,(∀ cf,cf=w\/cf=w.drew->(Builtin.firstCells e.size br.length v).run P cf=.ok fr.toArray cf)/\hY P e F w fr br
theorem wZ.slice{mQ:TypeId}{q':Option Addr}{ys:Nat}{br:List e.al}(hu:∃ j,P.underlying mQ=some (.slice j))(ae:v=.slice q' br.length ys)
  (a_:(q'=none/\br=[]/\ys=0)\/∃ p all,q'=some p/\hY P e F w all br/\mP w p all):wZ P e F w mQ v br:=by
 subst ae;refine⟨.inl hu,λcf=>rfl,?_⟩;rcases a_ with⟨rfl,rfl,rfl⟩ | ⟨p,all,rfl,cw,b2⟩
 ·exact⟨[],λcf _=>by simp[Builtin.firstCells],by simp[hY]⟩
 ·refine⟨all,λcf E=>?_,cw⟩;simp only[Builtin.firstCells];rw[<-cw.1];rcases E with rfl | rfl
  ·exact CO b2
  ·exact CO (w:=w.drew) b2
theorem anJ{ty mQ:TypeId}(h:cv P (.slice e) ty){q:Option Addr}{xs br:List e.al}
  (ao:(q=none/\xs=[]/\cap=0)\/∃ p all,q=some p/\hY P e F w all xs/\mP w p all) (a_:wZ P e F w mQ v br)
  (hc:cap<xs.length+br.length) (ah:cb (xs.length+br.length)) (rt:TypeId) :
  ∃ l9 t_ cs,(Builtin.append_ #[ty,mQ] rt #[.slice q xs.length cap,v]).run P w=.ok (.slice (some ⟨w.heap.size,0,none⟩) (xs.length+br.length) t_) (w.drew.alloc (.cells cs l9))/\
   (t_<2 ^ 63/\wP P e l9)/\xs.length+br.length<=t_/\cs.size=t_*e.size/\nm P e F w cs 0 (xs++br):=by
 obtain⟨l9,aJ,iB,oP⟩:=h.sl;obtain⟨Kn,Gd,fr,w0,jj⟩:=a_;obtain⟨i,z,i1,i2,i3,i4,i5,i6⟩:=nq iB.np;have bA:=(F6 e (P:=P) i5).2;have anK:∀ t,xs.length+br.length<=xs.length+br.length+t % (2 ^ 63 - (xs.length+br.length))/\xs.length+br.length+t % (2 ^ 63 - (xs.length+br.length))<2 ^ 63:=by
  intro t;unfold cb at ah;have:t % (2 ^ 63 - (xs.length+br.length))<2 ^ 63 - (xs.length+br.length):=Nat.mod_lt _ (by omega);omega
 generalize YR:xs.length+br.length+(w.tape w.drawn (.appendCap (xs.length+br.length) cap l9)) % (2 ^ 63 - (xs.length+br.length))=t_;have P6:=anK (w.tape w.drawn (.appendCap (xs.length+br.length) cap l9));rw[YR]at P6;have anL:∀ {p:Addr} {all:List Value},mP w p all->mP w.drew p all:=λh=>h;have YS:∀ {all:List Value} {zs:List e.al},hY P e F w all zs->hY P e F w.drew all zs:=λh=>⟨h.1,λi G=>fK e     (w:=w)   (λ_ D=>D) ⟨amo _,λ_ _=>rfl⟩ (h.2 i G)⟩
 have p_:(q=none/\xs=[]/\cap=0)\/∃ p all,q=some p/\hY P e F w.drew all xs/\mP w.drew p all:=ao.imp id λ⟨p,all,a,b,c⟩=>⟨p,all,a,YS b,anL c⟩
 obtain⟨qR,jQ,gV⟩:=P5       rfl p_;have eB:=w0 w.drew (.inr rfl);have eC:=YS jj;refine⟨l9,t_,qR.toArray++fr.toArray++Builtin.zeroCells z.cells (t_ - (xs.length+br.length)),?_,⟨P6.2,iB.J'⟩,P6.1,?_,?_⟩
 ·have U:=anH hc;have w1:=by
   unfold cb at ah;calc Builtin.nextslicecap (xs.length+br.length) cap*i.bytes<=(2*4294967296+768)*1024:=aRe (by omega) i3
    _<=281474976710656:=by decide
  have Aw:¬((xs.length+br.length:Nat)) > IntKind.i64.max:=by
   have:IntKind.i64.max=9223372036854775807:=by decide
   omega
  have YT:¬Builtin.nextslicecap (xs.length+br.length) cap*i.bytes > 2 ^ 48:=by
   omega
  have P7:(Question.appendCap (xs.length+br.length) cap l9).cut (w.tape w.drawn (.appendCap (xs.length+br.length) cap l9))=t_:=by
   rw[<-YR];rfl
  have YU:(Question.appendCap (xs.length+br.length) cap l9).forced=false:=rfl;rcases Kn with⟨mS,gD⟩ | gD
  ·simp only[Builtin.append_,aQr,aQv,aQw,Sem.run_bind,en aJ,en gD,Result.andThen_ok,tO i1,i2,Sem.run_pure,Gd,aml,aPA,if_neg (show ¬xs.length+br.length<=cap by omega),Aw,false_and,FY i1,YT,run_choose,YU,P7,run_askRoom,aQu,if_true,World.drew_eq,jQ,eB,sD i1 i4];rfl
  ·simp only[Builtin.append_,aQr,aQv,aQw,Sem.run_bind,en aJ,en gD,Result.andThen_ok,tO i1,i2,Sem.run_pure,Gd,aml,aPA,if_neg (show ¬xs.length+br.length<=cap by omega),Aw,false_and,FY i1,YT,run_choose,YU,P7,run_askRoom,aQu,if_true,World.drew_eq,jQ,eB,sD i1 i4];rfl
 ·have E:=gV.1;have L:=eC.1;simp  [anI bA,E,L];rw[<-aP',<-aP'];grind
 ·have hR:=gV.append eC;have anM:hY P e F w (qR++fr) (xs++br):=⟨hR.1,λi G=>fK e     (w:=w.drew)   (λ_ D=>D) ⟨amo _,λ_ _=>rfl⟩ (hR.2 i G)⟩
  exact anM.Gb (pre:=[]) (post:=(Builtin.zeroCells z.cells (t_ - (xs.length+br.length))).toList) (by simp)
end
end Go.Fer
namespace Go.Fer
open Go.RowKit
section
variable {C:cF} {T:Nat->V} {bs:Nat->Option aN} {o:Oper} {s:aC} {res:eA}
variable {w:World}{F:Nat->Prop}{e:V}
theorem bw.Ge{a:Act}{w':World}{kap:Nat->bI}(h:bw C s a w kap F){b g:Nat}{zs:List e.al}{k:bI}(aD:(s.aa b).gen<g)(l_:k.fT=true\/k.aa=w.heap.size)(cI:w.heap.size<=w'.heap.size)
  (n9:∀ r,r<w.heap.size->w'.heap[r]?=w.heap[r]?) (dk:k.fT=false->k.aa<w'.heap.size) (hc:dM w w')
  (ch:∀ H bR,mu C.P H bR F w' k (.bl e zs)):bw C (s.cn b ⟨g,.bl e zs⟩) a w' (λi=>if i=b then k else kap i) F:=by
 have ah:fL s.aa kap (λi=>if i=b then (⟨g,.bl e zs⟩) else s.aa i) (λi=>if i=b then k else kap i):=CE aD λbf eg=>by grind
 have he:di F w w':=⟨cI,λr D=>n9 r (h.dr r D)⟩
 refine h.move   ah (λ_ D=>D) (λ_ D=>.inl D) cI (λr D _=>n9 r D) hc (λ_=>?_) ?_ ?_ (λr D=>aPB (h.dr r D) cI) (CF (.inr ⟨rfl,rfl⟩) λbf eg=>by grind)
 ·intro i;by_cases G:i=b
  ·grind [c7]
  ·exact c7.k6 (h.bC i) ah (λ_ D=>D) he (by grind) (by grind) λar=>n9 _ (h.own i ar).1
 ·intro i G;by_cases bg:i=b
  ·subst bg;simp  [b8.cd]at G ⊢;have an:=l_.resolve_left (by grind);refine⟨dk G,λax=>?_,.inr (by omega)⟩;have:=h.dr _ ax;omega
  ·simp  [if_neg bg]at G ⊢;have:=h.own i G;grind
 ·intro i j G aJ aY;by_cases bg:i=b<;>by_cases oI:j=b
  ·omega
  ·simp  [if_pos bg,if_neg oI,b8.cd]at G aJ aY;have an:=l_.resolve_left (by grind);have:=(h.own j aJ).1;omega
  ·simp  [if_neg bg,if_pos oI,b8.cd]at G aJ aY;have an:=l_.resolve_left (by grind);have:=(h.own i G).1;omega
  ·simp  [if_neg bg,if_neg oI]at G aJ aY;exact h.inj i j G aJ aY
theorem anN(s:aC)(b:Nat)(x y:b7):(s.cn b x).cn b y=s.cn b y:=by
 simp_all[aC.cn]
theorem bw.anO{a:Act}{kap:Nat->bI}(h:bw C s a w kap F){b:Nat}{xs:List e.al}(U:(s.aa b).body=.bl e xs){a1 G:Nat}(E:a1<=G)(L:G<=xs.length){v:Value}(ay:JS (kap b) e.size a1 G v) :
  ∃ bR,bw C (s.cn b ⟨(s.aa b).gen+1,.bl e ((xs.take G).drop a1)⟩) a w bR F/\v=(bR b).slice ((xs.take G).drop a1).length:=by
 have hlen:((xs.take G).drop a1).length=G - a1:=by simp;omega
 have hp:∀ bR:Nat->bI,(∀ bf,bf≠b->bR bf=kap bf)->fL s.aa kap (λi=>if i=b then (⟨(s.aa b).gen+1,.bl e ((xs.take G).drop a1)⟩:b7) else s.aa i) bR:=
  λbR JW=>CE (aQl _) JW
 have aX:=h.bC b;unfold c7 at aX;rw[U]at aX;rcases ay with⟨aA,rfl⟩ | ⟨aA,o,rfl,jQ,gV⟩
 ·have kh:=aX.1 aA;subst kh;refine⟨kap,?_,by simp[bI.slice,aA]⟩;refine h.move (H':=λi=>if i=b then (⟨(s.aa b).gen+1,.bl e ((([]:List e.al).take G).drop a1)⟩:b7) else s.aa i) (hp kap λ_ _=>rfl) (λ_ D=>D) (λ_ D=>.inl D) (amo _) (λ_ _ _=>rfl) (dM.refl _) (λ_=>?_) ?_ ?_ h.dr (CF (.inr ⟨rfl,rfl⟩) λ_ _=>rfl)
  ·intro i;by_cases G:i=b
   ·subst G;simp only[c7,if_true];exact⟨λ_=>by simp,λh=>by rw[aA]at h;cases h⟩
   ·exact c7.k6 (h.bC i) (hp kap λ_ _=>rfl) (λ_ D=>D) (di.refl _ _) (by simp[G]) rfl λ_=>rfl
  ·intro i G;by_cases bg:i=b
   ·subst bg;simp[b8.cd,aA]at G
   ·simp only[if_neg bg]at G;exact⟨(h.own i G).1,(h.own i G).2.1,.inl ⟨i,G,rfl⟩⟩
  ·intro i j G aJ aY;by_cases bg:i=b
   ·grind [b8.cd]
   ·by_cases oI:j=b
    ·grind [b8.cd]
    ·simp  [if_neg bg,if_neg oI]at G aJ;exact h.inj i j G aJ aY
 ·obtain⟨cs,h9,bE,c2,c3,c4,c5⟩:=aX.2 aA;let k':bI:=⟨(kap b).aa,o,(kap b).cap - a1,false⟩
  let bR:=λi=>if i=b then k' else kap i
  have Gf:∀ bf,bf≠b->bR bf=kap bf:=λbf h=>if_neg h;have P8:bR b=k':=if_pos rfl;have eJ:=h.own b (by grind [b8.cd]);refine⟨bR,?_,by grind [bI.slice]⟩;refine h.move   (hp bR Gf) (λ_ D=>D) (λ_ D=>.inl D) (amo _) (λ_ _ _=>rfl) (dM.refl _) (λ_=>?_) ?_ ?_ h.dr (CF (.inr ⟨rfl,rfl⟩) Gf)
  ·intro i;by_cases dR:i=b
   ·subst dR;simp  [c7,P8];have hmul:a1*e.size<=(kap i).cap*e.size:=amt _ (by omega);refine⟨λh=>(by grind),λ_=>⟨cs,h9,bE,?_,by grind,⟨by grind,c4.2⟩,λj aJ=>?_⟩⟩
    ·grind [Nat.sub_mul]
    ·obtain⟨bB,d1,d2⟩:=c5 (a1+j) (by omega);grind
   ·exact c7.k6 (h.bC i) (hp bR Gf) (λ_ D=>D) (di.refl _ _) (by grind) (Gf i dR) λ_=>rfl
  ·intro i dR;by_cases bg:i=b
   ·grind [b8.cd]
   ·simp  [if_neg bg]at dR;rw[Gf i bg]at dR ⊢;exact⟨(h.own i dR).1,(h.own i dR).2.1,.inl ⟨i,dR,rfl⟩⟩
  ·intro i j dR aJ aY;have YV:∀ i,(bR i).aa=(kap i).aa:=λi=>by
    grind
   have cy:∀ i,((if i=b then (⟨(s.aa b).gen+1,.bl e ((xs.take G).drop a1)⟩) else s.aa i).body.cd (bR i)=true)->(s.aa i).body.cd (kap i)=true:=λi G=>by
    grind [b8.cd]
   rw[YV,YV]at aY;exact h.inj i j (cy i dR) (cy j aJ) aY
variable {P:Program}
theorem nm.later{w':World}{cs:Array Value}{off:Nat}{xs:List e.al}(h:nm P e F w cs off xs)(he:di F w w'):nm P e F w' cs off xs:=h.mono (λ_ D=>D) he
theorem wZ.string{mQ:TypeId}{v:Value}{str:List UInt8}(hu:P.underlying mQ=some .string)(ae:v=.string ⟨str.toArray⟩):wZ P (.int .u8) F w mQ v (c_ str):=by
 subst ae;have cI:(ByteArray.mk str.toArray).size=str.length:=by rfl
 have ah:(c_ str).length=str.length:=by simp[c_]
 refine⟨.inr hu,λcf=>?_,(c_ str).map (Value.int .u8),λcf _=>?_,?_,λi G=>?_⟩
 ·show Result.ok (ByteArray.mk str.toArray).size cf=_;grind
 ·rw[ah];show Result.ok ((((ByteArray.mk str.toArray).extract 0 str.length).data.map λb=>Value.int .u8 b.toNat)) cf=_;simp_all[c_]
 ·rw[aPJ];exact (Nat.mul_one _).symm
 ·have ay:V.size (.int .u8)=1:=rfl;have dH:i<((c_ str).map (Value.int .u8)).length:=by grind
  rw[ay,Nat.mul_one,aPE dH];simp;refine⟨rfl,?_⟩;simp  [c_];have:=(str[i]'(by omega)).toNat_lt;exact⟨by show (0)<=_;omega,by show _<=(255);omega⟩
theorem YW(aT:ed C.P T){x y:Operand}{t u:TypeId}(bh:∀ i,o.dst=some i->i<C.bV)(ar:o.op=.call { callee:=.builtin .append,args:=⟨[x,y]⟩,argTypes:=⟨[t,u]⟩ })(aG:T t=.slice e){kv:aL}{lB:Prop}
  (Ko:∀ {a:Act} {w:World} {kap:Nat->bI} {F:Nat->Prop} {br:List e.al} {l:List Nat},bw C s a w kap F->lB->(eh (.slice e) kv).run s.aa=some (br,l)->wZ C.P e F w u (a.eval y) br)
  (h:(FQ o.dst e (use (be C.aU s.az x)).2 kv ((use (be C.aU s.az x)).1/\lB)).run s.aa=some res):cR C o s res:=by
 have aw:∀ c,o.op≠.defer c:=by rw[ar];intro c hc;cases hc
 have dC:=aT.cB aG (by simp);obtain⟨l9,aJ,iB,oP⟩:=dC.sl;obtain⟨inf,z,i1,i2,i3,i4,i5,i6⟩:=nq iB.np;have pj:∀ (a:Act) (w w':World) v,(Builtin.append_ #[t,u] o.type #[a.eval x,a.eval y]).run C.P w=.ok v w'->(execOp a.eval o).run C.P w=.ok (.value v) w':=by
  intro a w w' v ae;refine sF ar ?_;simp[builtin,ae]
 have main:∀ (s:aC) (a:Act) (w:World) (kap:Nat->bI) (F:Nat->Prop) (Q:Exit->Act->World->Prop) (b g:Nat) (xs br:List e.al),bw C s a w kap F->
   wZ C.P e F w u (a.eval y) br->
   (s.aa b).gen<g->(∃ q cap,a.eval x=.slice q xs.length cap/\((q=none/\xs=[]/\cap=0)\/∃ p all,q=some p/\hY C.P e F w all xs/\mP w p all))->
   (∀ q cap,a.eval x=.slice q xs.length cap->q≠none->xs.length+br.length<=cap->(s.aa b).body=.bl e xs/\(kap b).fT=false/\q=some ⟨(kap b).aa,(kap b).off,none⟩/\cap=(kap b).cap)->cb (xs.length+br.length)->
   o.wpIn (eZ C.r) 0 C.P a w (λa' w'=>dc C ((s.cn b ⟨g,.bl e (xs++br)⟩).set o.dst (.own b g)) a' w') Q:=by
  intro s a w kap F Q b g xs br D rE P9 vi anP hlen;obtain⟨q,cap,vi,P_⟩:=vi;obtain⟨Kn,Gd,fr,anQ,eC⟩:=id rE;have eB:=anQ w (.inl rfl);have P':∀ (bR:Nat->bI) (v:Value) (w':World),bw C (s.cn b ⟨g,.bl e (xs++br)⟩) a w' bR F->v=(bR b).slice (xs++br).length->dc C ((s.cn b ⟨g,.bl e (xs++br)⟩).set o.dst (.own b g)) (a.put o.dst v) w':=by
   intro bR v w' bj ae;refine⟨bR,F,bw.set bj bh ⟨⟨by simp[aC.cn],?_⟩,λ_ _=>?_⟩⟩
   ·rw[ae];unfold bI.slice;split<;>rfl
   ·rw[ae];simp[aC.cn,b8.len]
  by_cases Gg:xs.length+br.length<=cap
  ·cases bq:q with
   | none=>
    subst bq;obtain⟨anR,CJ⟩:xs=[]/\cap=0:=by
     grind
    subst anR;subst CJ;have Qa:br=[]:=by grind
    subst Qa;have ds:(Builtin.append_ #[t,u] o.type #[a.eval x,a.eval y]).run C.P w=.ok (.slice none 0 0) w:=by
     rw[vi];simp  at eB ⊢;rcases Kn with⟨mS,gD⟩ | gD<;>(simp[Builtin.append_,en aJ,en gD,tO i1,Gd];rw[i2,eB];simp)
    refine h8 aw (pj a w w _ ds) (P' _ _ _ (D.Ge (k:=⟨0,0,0,true⟩) P9 (.inl rfl) (amo _) (λ_ _=>rfl) (λh=>by grind) (dM.refl _) λH bR=>⟨λ_=>rfl,λh=>by grind⟩) ?_);simp[bI.slice]
   | some Kp=>
    obtain⟨U,tZ,aj,wY⟩:=anP q cap vi (by rw[bq];simp) Gg;rw[bq]at aj;have aj:=aQb aj;subst aj;subst wY;have aX:=D.bC b;unfold c7 at aX;rw[U]at aX;obtain⟨cs,h9,bE,c2,c3,c4,c5⟩:=aX.2 tZ;skip;have qS:=eC.1;have qb:∀ v∈fr,v.oneCell'=true:=by
     intro v ae;obtain⟨j,aJ,rfl⟩:=List.mem_iff_getElem.1 ae;have ki:0<e.size:=aQZ oP;have hdiv:j / e.size<br.length:=(Nat.div_lt_iff_lt_mul ki).2 (by rw[<-qS];exact aJ);have qQ:=eC.2 (j / e.size) hdiv;have ka:=CG (P:=C.P) (H:=λ_=>⟨0,.ey⟩) (kap:=λ_=>⟨0,0,0,true⟩) e qQ;have yt:=Nat.mod_lt j ki;have YX:j / e.size*e.size+j % e.size=j:=Nat.div_add_mod' j e.size;have YY:((fr.drop (j / e.size*e.size)).take e.size).length=e.size:=jP e qQ;have:=(ka.mO (j % e.size) (by rw[ka.len,YY];exact yt)).2;rw[amp,aQM,if_pos yt,aQz,YX,ams aJ]at this;exact this
    have anS:(kap b).off+xs.length*e.size+0+fr.length<=cs.size:=by
     rw[qS];have:(xs.length+br.length)*e.size<=(kap b).cap*e.size:=amt _ Gg;rw[aP']at this;omega
    obtain⟨w',eo,ck,c8,fB,n5,n6,oN⟩:=yp (P:=C.P) fr ((kap b).off+xs.length*e.size) 0 w cs bE anS qb;have ds:(Builtin.append_ #[t,u] o.type #[a.eval x,a.eval y]).run C.P w=.ok (.slice (some ⟨(kap b).aa,(kap b).off,none⟩) (xs.length+br.length) (kap b).cap) w':=by
     rw[vi,bq];rcases Kn with⟨mS,gD⟩ | gD<;>(simp only[Builtin.append_,aQr,aQv,aQw,Sem.run_bind,en aJ,en gD,Result.andThen_ok,tO i1,i2,Sem.run_pure,Gd,aml,aPA,if_pos Gg,aQu,if_true,eB,tS];simp only[ck,Result.andThen_ok])
    have hp:fL s.aa kap (λi=>if i=b then (⟨g,.bl e (xs++br)⟩:b7) else s.aa i) kap:=CE P9 λ_ _=>rfl;refine h8 aw (pj a w w' _ ds) (P' kap _ _ (D.qL (b:=b) (by rw[U];simp[b8.cd,tZ]) (by simp[b8.cd,tZ]) hp (λh=>by cases h) (λh=>by cases h) n5 n6 oN λH po dk he=>?_) (by simp[bI.slice,tZ]));refine⟨λh=>(by rw[tZ]at h;cases h),λ_=>?_⟩;have Kg:eo.size=cs.size:=by
     rw[<-aPI,fB];simp only[aP1,aQm,aRk,aPI];omega
    refine⟨eo,h9,c8,by omega,by simp;omega,c4,λi G=>?_⟩;simp only[aRh]at fB;have hq:(cs.toList.take ((kap b).off+xs.length*e.size)).length=(kap b).off+xs.length*e.size:=by grind
    by_cases YZ:i<xs.length
    ·obtain⟨bB,d1,d2⟩:=c5 i YZ;have aB:(xs++br)[i]=xs[i]:=List.getElem_append_left YZ;rw[aB];refine⟨bB,λk an=>?_,fK e (λ_ D=>D) he d2⟩;have anT:=jP e d2;have hle:(i+1)*e.size<=xs.length*e.size:=amt _ (by omega);rw[aP']at hle;rw[<-aPX,fB,aPW (by omega),aQM];grind
    ·have dR:i - xs.length<br.length:=by grind
     have aB:(xs++br)[i]=br[i - xs.length]:=aQR (by omega);rw[aB];have qd:=eC.Gb     fB;obtain⟨bB,d1,d2⟩:=qd (i - xs.length) dR;refine⟨bB,λk an=>?_,fK e (λ_ D=>D) he d2⟩;have:=d1 k an;rw[<-this];congr 1;have:i*e.size=xs.length*e.size+(i - xs.length)*e.size:=by rw[<-aP'];grind
     omega
  ·obtain⟨anU,t_,cs,ck,c8,fB,n5,n6⟩:=anJ         dC P_ rE (by omega) hlen o.type;rw[<-vi]at ck;refine h8 aw (pj a w _ _ ck) (P' _ _ _ (D.Ge (k:=⟨w.heap.size,0,t_,false⟩) P9 (.inr rfl) (by simp) (λr D=>?_) (λ_=>by simp) ⟨rfl,rfl,rfl⟩ λH bR=>⟨λh=>(by grind),λ_=>⟨cs,anU,?_,by grind,by grind,c8,?_⟩⟩) ?_)
   ·exact rz w.drew _ D
   ·exact tN w.drew _
   ·exact n6.later ⟨by simp,λr bj=>rz w.drew _ (D.dr r bj)⟩
   ·simp[bI.slice]
 simp only[FQ]at h;split at h
 ·rename_i b g gm;simp  at h;split at h
  ·rename_i aY xs ch;split at h
   ·rename_i t';subst t';simp only[aE.fZ,amj,aE.dy,amk]at h;obtain⟨⟨br,l⟩,l7,rfl⟩:=h;have aD:(s.aa b).gen=g/\(s.aa b).body=.bl aY xs:=by
     grind
    intro a w kap F Q D ba hc;have ao:bJ C.P s.aa kap F w (use (be C.aU s.az x)).2 (a.eval x):=db D x rfl ba.1;have p_:=ao;rw[gm]at p_;have ae:=p_.2 aD.1.symm (by rw[aD.2];rfl);have kh:(eh (.slice aY) (use (be C.aU s.az x)).2).run s.aa=some (xs,[b]):=by
     rw[gm];simp[eh,l4,V.fY,eK,aD.1,aD.2,fF]
    refine main s a w kap F Q b (g+1) xs br D (Ko D ba.2 l7) (by omega) (Av D kh ao) (λq cap bq Qb _=>?_) hc;grind [bI.slice]
   ·cases h
  ·cases h
 ·rename_i b g a1 G gm;simp only[aE.gU]at h;split at h
  ·rename_i aY xs ch;split at h
   ·rename_i t';subst t';simp only[aE.fZ,amj,aE.dy,amk]at h;obtain⟨⟨br,l⟩,l7,rfl⟩:=h;have aD:(s.aa b).gen=g/\(s.aa b).body=.bl aY xs:=by
     grind
    intro a w kap F Q D ba hc;have ao:bJ C.P s.aa kap F w (use (be C.aU s.az x)).2 (a.eval x):=db D x rfl ba.1;rw[gm]at ao;obtain⟨⟨aM,aS⟩,b4⟩:=ao.2 aD.1.symm (by rw[aD.2];rfl);rw[aD.2]at aS b4;obtain⟨bR,bj,ae⟩:=D.anO aD.2 aM aS b4;have rE:=Ko D ba.2 l7;have Y0:(s.cn b ⟨(s.aa b).gen+1,.bl aY ((xs.take G).drop a1)⟩).aa b=⟨(s.aa b).gen+1,.bl aY ((xs.take G).drop a1)⟩:=by simp[aC.cn]
    have kh:(eh (.slice aY) (.own b (g+1))).run (s.cn b ⟨(s.aa b).gen+1,.bl aY ((xs.take G).drop a1)⟩).aa=some ((xs.take G).drop a1,[b]):=by
     simp[eh,l4,V.fY,eK,aC.cn,aD.1,fF]
    have P_:bJ C.P (s.cn b ⟨(s.aa b).gen+1,.bl aY ((xs.take G).drop a1)⟩).aa bR F w (.own b (g+1)) (a.eval x):=by
     refine⟨⟨by grind,ao.1.2⟩,λ_ _=>?_⟩;rw[Y0];exact ae
    have:=main (s.cn b ⟨(s.aa b).gen+1,.bl aY ((xs.take G).drop a1)⟩) a w bR F Q b (g+2) ((xs.take G).drop a1) br bj rE (by grind) (Av bj kh P_) (λq cap bq Qb _=>?_) hc
    ·rw[anN]at this;exact this
    grind [bI.slice]
   ·cases h
  ·cases h
 ·rename_i gm;simp only[aE.fZ,amj]at h;obtain⟨⟨br,l⟩,l7,h⟩:=h;obtain⟨b,U,an⟩:=tR h;simp  at an;subst an;intro a w kap F Q D ba hc;have ao:bJ C.P s.aa kap F w (use (be C.aU s.az x)).2 (a.eval x):=db D x rfl ba.1;rw[gm]at ao;simp  [bJ]at ao;have:=main s a w kap F Q b ((s.aa b).gen+1) [] br D (Ko D ba.2 l7) (aQl _) ⟨none,0,ao,.inl ⟨rfl,rfl,rfl⟩⟩ (λq cap bq Qb _=>by grind) (by grind);exact this
 ·rename_i aY xs gm;split at h
  ·rename_i t';subst t';simp only[aE.fZ,amj]at h;obtain⟨⟨br,l⟩,l7,h⟩:=h;obtain⟨b,U,an⟩:=tR h;simp  at an;subst an;intro a w kap F Q D ba hc;have ao:bJ C.P s.aa kap F w (use (be C.aU s.az x)).2 (a.eval x):=db D x rfl ba.1;rw[gm]at ao;obtain⟨P0,nn,Ao⟩:=ao;have kh:(eh (.slice aY) (.val (.slice aY) xs)).run s.aa=some (xs,[]):=by
    simp[eh,fF]
   exact main s a w kap F Q b ((s.aa b).gen+1) xs br D (Ko D ba.2 l7) (aQl _) (Av D kh P0) (λq cap bq Qb Gg=>by
    grind) hc.2
  ·cases h
 ·cases h
theorem anV(aT:ed C.P T){args:Array Operand}{dq:Array TypeId}(bh:∀ i,o.dst=some i->i<C.bV)(ar:o.op=.call { callee:=.builtin .append,args:=args,argTypes:=dq })(h:(FT T (be C.aU s.az) o.dst args.toList dq.toList).run s.aa=some res):cR C o s res:=by
 obtain⟨args⟩:=args;obtain⟨dq⟩:=dq;simp  [FT]at h;split at h
 ·rename_i x y t u;split at h
  ·rename_i e bt aG hu;obtain⟨anW,gD,_⟩:=(aT.cB hu (by simp)).sl;refine YW aT bh ar aG (λ{a w kap F br l} D ba l7=>?_) h;obtain⟨q',ys,Ax,rE⟩:=Av D l7 (db D y rfl ba);grind [wZ.slice]
  ·rename_i aG hu;split at h
   ·rename_i str Kq;have aLo:=(aT.cB hu (by simp)).str;refine YW aT bh ar aG (λ{a w kap F br l} D ba l7=>?_) h;have a_:bJ C.P s.aa kap F w (use (be C.aU s.az y)).2 (a.eval y):=db D y rfl ba;rw[Kq]at a_;obtain⟨Ax,Qc⟩:=k3.1 a_;have L:(eh (.slice (.int .u8)) (.val (.slice (.int .u8)) (c_ str))).run s.aa=some (c_ str,[]):=by rfl
    grind [wZ.string]
   ·cases h
  ·cases h
 ·cases h
theorem anX{all:List Value}{br:z1'}(h:hY P (.int .u8) F w all br):all=br.map (Value.int .u8):=by
 obtain⟨E,L⟩:=h;have E:=E.trans (Nat.mul_one _);apply aQX (by grind);intro i G dR;have dH:i<br.length:=by omega
 obtain⟨e,_⟩:=L i dH;have ay:V.size (.int .u8)=1:=rfl;rw[ay,Nat.mul_one,aPE G]at e;grind
theorem Y1:∀ (br:z1') (s:ByteArray),br.foldl (λr n=>r.push (UInt8.ofNat n.toNat)) s=⟨s.data++(fh br).toArray⟩
 | [],s=>by rfl
 | y::br,s=>by
  rw[aPY,Y1 br];simp_all[fh]
theorem anY(br:z1'):br.foldl (λr n=>r.push (UInt8.ofNat n.toNat)) ByteArray.empty=⟨(fh br).toArray⟩:=by
 rw[Y1];simp
theorem anZ(aT:ed C.P T){Qd Qe:TypeId}{x:Operand}(bh:∀ i,o.dst=some i->i<C.bV)(ar:o.op=.convert Qd Qe x)(h:(cP C.aU T bs (be C.aU s.az) o).run s.aa=some res):cR C o s res:=by
 simp  [cP,ar]at h;split at h
 ·rename_i aM k aS n t1 bU ao;simp  [da,amk]at h;subst h;refine cR.pure (by grind) bh λa w kap F D ba _=>?_;have E:=p9 (db D x rfl ba) ao;have aB:=(aT.cB t1 (by simp)).int;have bt:=(aT.cB bU (by simp)).int;refine⟨.int k (k.wrap n),?_,hO.2 ⟨rfl,sE _ _⟩⟩;simp_all[execOp,convert,en,Conv.intToInt]
 ·rename_i t1 bU;simp only[aE.fZ,amj,da,aE.dy,amk]at h;obtain⟨⟨br,l⟩,l7,rfl⟩:=h;refine cR.pure (by grind) bh λa w kap F D ba _=>?_;have hu:=db D x rfl ba;obtain⟨q,cap,ae,rE⟩:=Av D l7 hu;have dk:br.length<2 ^ 63:=by
   have E:=oK   D.bC (λ_ _=>trivial) l7 (λ_ _ _=>trivial) hu;obtain⟨_,L⟩:=(eb rfl).1 E;obtain⟨q',ys,aB,m1,m2,_⟩:=L;omega
  obtain⟨l9,aJ,iB,_⟩:=(aT.cB t1 (by simp)).sl;have aB:=iB.int;have bt:=(aT.cB bU (by simp)).str;refine⟨.string ⟨(fh br).toArray⟩,?_,k3.2 ⟨rfl,by grind [fh]⟩⟩;have hc:(convert Qd Qe (a.eval x)).run C.P w=.ok (.string ⟨(fh br).toArray⟩) w:=by
   rw[ae,run_convert_bytes_string w Qd Qe l9 q br.length cap aJ aB bt];rcases rE with⟨rfl,rfl,rfl⟩ | ⟨p,all,rfl,aW,ua⟩
   ·rfl
   ·have gu:=anX aW;have ah:=CO (P:=C.P) ua;rw[gu,aPJ]at ah;rw[run_bytesToString w p br.length cap br ah];grind [anY]
  simp_all[execOp]
 ·cases h
end
end Go.Fer
namespace Go.Fer
open Go.RowKit
variable {P:Program}{k:FuncId}{ts:V}
theorem hD.u'{aR:V}{sh Y2:ts.al->M aR.al}(h:hD P k ts aR sh)(ay:∀ x,a6 (sh x) (Y2 x)):hD P k ts aR Y2 where
 enter:=h.enter
 ik:=λF w args x bm fq aW ub=>by
  obtain⟨E,L⟩:=ay x ub;exact (h.ik F w args x bm fq aW E).mono λe w' ⟨v,y,aB,bt,cT⟩=>⟨v,y,aB,L y bt,cT⟩
def aN.sh(c:aN)(x:c.ts.al):M c.aR.al:=eF (c.pre x) (c.g x)
def an0(P:Program)(k:FuncId)(ts:V)(x:ts.al)(e:V)(br:List e.al):Prop:=
 ∀ (F:Nat->Prop) (w:World) (args:List Value),(∀ r,F r->r<w.heap.size)->pd P F w->gv P ts F w args x->Calls P k args.toArray w λz w'=>∃ (b:bI) (F':Nat->Prop),z=.returned (b.slice br.length)/\(∀ r,F r->F' r)/\(∀ r,F' r->F r\/(w.heap.size<=r/\r<w'.heap.size))/\
  (b.fT=true->br=[])/\(b.fT=false->(w.heap.size<=b.aa/\b.aa<w'.heap.size/\¬F' b.aa)/\∃ cs T,w'.heap[b.aa]?=some (.cells cs T (0,0))/\b.off+b.cap*e.size<=cs.size/\br.length<=b.cap/\(b.cap<2 ^ 63/\wP P e T)/\nm P e F' w' cs b.off br)/\Below w.heap.size w w'
def Gh(P:Program)(k:FuncId)(c:aN):Prop:=(∀ args w,(callFunc k args).run P w=.ok (.enter k args) w)/\∀ x,c.pre x->∀ y,FV c.aR (c.g x)=some y->an0 P k c.ts x y.1 y.2
def lE(P:Program)(bs:Nat->Option aN):Prop:=∀ k c,bs k=some c->(p7 c.aR=false->hD P k c.ts c.aR c.sh)/\(p7 c.aR=true->Gh P k c)
variable {t:V}
theorem an1{y:t.al}{z:(e:V)×List e.al}(h:FV t y=some z):p7 t=true:=by
 unfold FV at h;unfold p7;grind
theorem an2{y:t.al}(h:FV t y=none):p7 t=false:=by
 cases hc:p7 t with
 | false=>rfl
 | true=>
  unfold p7 at hc;split at hc
  ·cases h
  grind
theorem lg(aG:t.hN=true)(cV:List aL):kd t cV=(match cV with | [v]=>eh t v | _=>.none:aE (Option (t.al×List Nat))):=by
 cases t<;>first
  | (cases aG;done)
  | (rcases cV with _ | ⟨v,_ | ⟨u,aH⟩⟩<;>rfl)
variable {H:Nat->b7}{kap:Nat->bI}{F:Nat->Prop}{F':Nat->Prop}{w:World}
theorem w2(aX:∀ b,c7 P H kap F w b)(bm:∀ r,F r->F' r):∀ (t:V) {cV:List aL} {aH:List Value} {x:t.al} {l:List Nat},(kd t cV).run H=some (x,l)->
  kR H kap F' l->cV.length=aH.length->(∀ i (h:i<cV.length) (eX:i<aH.length),bJ P H kap F w cV[i] aH[i])->gv P t F' w aH x:=by
 have hN:∀ (t:V),t.hN=true->∀ {cV:List aL} {aH:List Value} {x:t.al} {l:List Nat},(match cV with | [v]=>eh t v | _=>.none).run H=some (x,l)->
   kR H kap F' l->cV.length=aH.length->(∀ i (h:i<cV.length) (eX:i<aH.length),bJ P H kap F w cV[i] aH[i])->gv P t F' w aH x:=by
  intro t aG cV aH x l h ah hlen gu;split at h
  ·match aH,hlen with
   | [u],_=>
    refine (pe aG).2 ⟨u,rfl,oK aX bm h ah ?_⟩;exact gu 0 (by simp) (by simp)
  ·cases h
 intro t;induction t with
 | au a b gI fS=>
  intro cV aH x l h ah hlen gu;match cV,aH,hlen with
  | [],_,_=>simp[kd,aE.none]at h
  | v::cV,u::aH,hlen=>
   simp only[kd,aE.fZ,amj,aPD]at h;obtain⟨⟨y,m⟩,E,⟨z,dp⟩,L,rfl,rfl⟩:=h;refine z6.2 ⟨oK aX bm E ah.left (gu 0 (by simp) (by simp)),?_⟩;exact fS L ah.right (by grind) λi G dR=>by
    have:=gu (i+1) (by grind) (by grind);grind
 | dh=>
  intro cV aH x l h ah hlen gu;match cV,aH,hlen with
  | [],[],_=>exact⟨rfl,rfl⟩
  | _::_,_,_=>simp[kd,aE.none]at h
 | bool=>intro cV aH x l h;rw[lg rfl]at h;exact hN _ rfl h
 | int k=>intro cV aH x l h;rw[lg rfl]at h;exact hN (.int k) rfl h
 | str=>intro cV aH x l h;rw[lg rfl]at h;exact hN _ rfl h
 | ad t _=>intro cV aH x l h;rw[lg rfl]at h;exact hN (.ad t) rfl h
 | slice e _=>intro cV aH x l h;rw[lg rfl]at h;exact hN (.slice e) rfl h
 | array n e _=>intro cV aH x l h;rw[lg rfl]at h;exact hN (.array n e) rfl h
 | bM e _=>intro cV aH x l h;rw[lg rfl]at h;exact hN (.bM e) rfl h
 | map k v _ _=>intro cV aH x l h;rw[lg rfl]at h;exact hN (.map k v) rfl h
 | fn a b _ _=>intro cV aH x l h;rw[lg rfl]at h;exact hN (.fn a b) rfl h
 | cE a _=>intro cV aH x l h;rw[lg rfl]at h;exact hN (.cE a) rfl h
 | eW=>intro cV aH x l h;rw[lg rfl]at h;exact hN .eW rfl h
 | cN e _=>intro cV aH x l h;rw[lg rfl]at h;exact hN (.cN e) rfl h
theorem rF:∀ (t:V) {cV:List aL} {x:t.al} {l:List Nat},(kd t cV).run H=some (x,l)->iK H l:=by
 have hN:∀ (t:V),t.hN=true->∀ {cV:List aL} {x:t.al} {l:List Nat},(match cV with | [v]=>eh t v | _=>.none).run H=some (x,l)->iK H l:=by
  intro t _ cV x l h;split at h
  ·exact pn h
  ·cases h
 intro t;induction t with
 | au a b gI fS=>
  intro cV x l h;match cV with
  | []=>simp[kd,aE.none]at h
  | v::cV=>
   simp only[kd,aE.fZ,amj,aPD]at h;obtain⟨⟨y,m⟩,E,⟨z,dp⟩,L,rfl,rfl⟩:=h;exact (pn E).append (fS L)
 | dh=>
  intro cV x l h;match cV with
  | []=>
   simp only[kd,aE.dy,amk,aPD]at h;rw[<-h.2];exact .nil H
  | _::_=>simp[kd,aE.none]at h
 | bool=>intro cV x l h;rw[lg rfl]at h;exact hN _ rfl h
 | int k=>intro cV x l h;rw[lg rfl]at h;exact hN (.int k) rfl h
 | str=>intro cV x l h;rw[lg rfl]at h;exact hN _ rfl h
 | ad t _=>intro cV x l h;rw[lg rfl]at h;exact hN (.ad t) rfl h
 | slice e _=>intro cV x l h;rw[lg rfl]at h;exact hN (.slice e) rfl h
 | array n e _=>intro cV x l h;rw[lg rfl]at h;exact hN (.array n e) rfl h
 | bM e _=>intro cV x l h;rw[lg rfl]at h;exact hN (.bM e) rfl h
 | map k v _ _=>intro cV x l h;rw[lg rfl]at h;exact hN (.map k v) rfl h
 | fn a b _ _=>intro cV x l h;rw[lg rfl]at h;exact hN (.fn a b) rfl h
 | cE a _=>intro cV x l h;rw[lg rfl]at h;exact hN (.cE a) rfl h
 | eW=>intro cV x l h;rw[lg rfl]at h;exact hN .eW rfl h
 | cN e _=>intro cV x l h;rw[lg rfl]at h;exact hN (.cN e) rfl h
variable {e:V}
theorem an3{bu:List (Nat×aL)}:∀ (n i:Nat) {xs:List e.al} {l:List Nat},(wV e bu i n).run H=some (xs,l)->iK H l:=by
 intro n;induction n with
 | zero=>intro i xs l h;cases h;exact .nil H
 | succ n aO=>
  intro i xs l h;simp only[wV,aE.fZ,amj,aPD]at h;obtain⟨⟨x,m⟩,E,⟨br,dp⟩,L,rfl,rfl⟩:=h;refine iK.append ?_ (aO (i+1) L);split at E
  ·exact pn E
  ·simp only[aE.dy,amk,aPD]at E;rw[<-E.2];exact .nil H
variable {w':World}
theorem Qf{aH:List Value}{x:t.al}(aG:t.pure=true)(h:gv P t F w aH x):gv P t F' w' aH x:=⟨h.1,PD t aG h.2⟩
theorem vj{P:Program}{H:Nat->b7}{kap:Nat->bI}{F:Nat->Prop}{w:World}:∀ (t:V) {aH:List Value} {y:t.al},gv P t F w aH y->t≠.dh->aH.length=jS t/\∀ i,i<jS t->bJ P H kap F w (kc t y i) (aH.getD i Go.undef):=by
 intro t;induction t with
 | au a b _ fS=>
  intro aH y h _;obtain⟨v,us,rfl,E,L⟩:=FF h;by_cases U:b=.dh
  ·subst U;have:=L.1;subst this;refine⟨rfl,λi G=>?_⟩;cases i with
   | zero=>exact E
   | succ i=>simp only[jS]at G;omega
  ·obtain⟨aM,aS⟩:=fS L U;refine⟨by simp[jS,aM],λi G=>?_⟩;cases i with
   | zero=>exact E
   | succ i=>
    have:=aS i (by simp  [jS]at G;omega);simpa [kc]using this
 | dh=>simp
 | _=>
  intro aH y h _;obtain⟨v,rfl,E⟩:=(pe rfl).1 h;refine⟨rfl,λi G=>?_⟩;simp only[jS]at G;have:i=0:=by omega
  subst this;exact E
theorem Ay{v:Value}{y:t.al}(h:tH P t F w v y):bJ P H kap F w (qM t y) v:=by
 have sz:=@vj P H kap F w;obtain⟨aH,E,L⟩:=h;cases t with
 | au a b=>
  obtain⟨aM,aS⟩:=sz (.au a b) L (by simp);exact⟨aH,E,aM,aS⟩
 | dh=>exact E.1
 | _=>
  obtain⟨u,rfl,hu⟩:=(pe rfl).1 L;have:v=u:=by simpa [JM,eq_comm]using E
  rw[this];exact hu
section
variable {C:cF} {T:Nat->V} {bs:Nat->Option aN} {o:Oper} {s:aC} {res:eA}
variable {a:Act}
theorem bw.grow(h:bw C s a w kap F)(U:Below w.heap.size w w'):bw C s a w' kap (wN F w w'):=by
 have he:di F w w':=⟨U.size,λr D=>U.block r (h.dr r D)⟩
 refine h.move   (fL.refl _ _) (λ_ D=>.inl D) (λr D=>D.imp id λD=>.inr D.1) U.size (λr D _=>U.block r D) ⟨U.os,U.tape,U.output⟩ (λ_=>?_) ?_ h.inj ?_ (λ_ _ h=>⟨rfl,h⟩)
 ·intro b;exact c7.k6 (h.bC b) (fL.refl _ _) (λ_ D=>.inl D) he rfl rfl λar=>U.block _ (h.own b ar).1
 ·intro b ar;have:=h.own b ar;refine⟨aPB this.1 U.size,λax=>?_,.inl ⟨b,ar,rfl⟩⟩;rcases ax with ax | ⟨ax,_⟩<;>grind
 ·intro r D;rcases D with D | ⟨_,D⟩
  ·exact aPB (h.dr r D) U.size
  omega
theorem yu{r:Option Nat}{o:Oper}{K:Act->World->Prop}{Q:Exit->Act->World->Prop}{f:FuncId}{args:Array Value}{R:Ending->World->Prop}(aw:∀ c,o.op≠.defer c)
  (h:(execOp a.eval o).run P w=.ok (.enter f args) w) (hc:Calls P f args w R) (an:∀ e w',R e w'->∃ v,e=.returned v/\K (a.put o.dst v) w'):o.wpIn (eZ r) 0 P a w K Q:=by
 refine⟨λ_ _=>trivial,?_⟩;rw[CQ aw,h];refine⟨λay=>(by cases ay),?_⟩;have E:CallsIn Fence.wide 0 P f args w R:=callsIn_wide.2 hc;have L:=by
  cases r with
  | none=>exact E
  | some l=>exact CallsIn.inRound l E
 refine L.mono λe w' he=>?_;grind
theorem Y3(D:bw C s a w kap F){args:Array Operand}(ba:kg (args.toList.map (be C.aU s.az))){x:ts.al}{l:List Nat}
  (ao:(kd ts ((args.toList.map (be C.aU s.az)).map λv=>(use v).2)).run s.aa=some (x,l)):∃ F',(∀ r,F r->F' r)/\bw C (s.cC l) a w kap F'/\gv C.P ts F' w (args.toList.map a.eval) x:=by
 obtain⟨args⟩:=args;obtain⟨F',f1,bj,f2⟩:=bw.mR (rF ts ao) D;refine⟨F',f1,bj,w2 D.bC f1 ts ao f2 (by simp) λi G dR=>?_⟩;simp;have dH:i<args.length:=by grind
 have E:=tU ba i (by grind);have aB:(args.map (be C.aU s.az)).getD i .undef=be C.aU s.az args[i]:=by grind
 rw[aB]at E;exact qN (lD D args[i]) E
theorem Qg{Q:Exit->Act->World->Prop}{K:Act->World->Prop}{aR:V}{sh:ts.al->M aR.al}(D:bw C s a w kap F)(ax:hD C.P k ts aR sh)
  (bh:∀ i,o.dst=some i->i<C.bV) {args:Array Operand} {dq:Array TypeId} (ar:o.op=.call { callee:=.value (.func k),args:=args,argTypes:=dq }) (ba:kg (args.toList.map (be C.aU s.az))) {x:ts.al} {l:List Nat}
  (ao:(kd ts ((args.toList.map (be C.aU s.az)).map λv=>(use v).2)).run s.aa=some (x,l)) (ay:(sh x).fm)
  (an:∀ y w',(sh x).a7 y->∀ v,dc C ((if aR.pure then s else s.cC l).set o.dst (qM aR y)) (a.put o.dst v) w'->K (a.put o.dst v) w'):o.wpIn (eZ C.r) 0 C.P a w K Q:=by
 have aw:∀ c,o.op≠.defer c:=by grind
 obtain⟨args⟩:=args;have ds:(execOp a.eval o).run C.P w=.ok (.enter k (args.map a.eval).toArray) w:=by
  simp  [execOp,ar,resolve,Act.eval,Deferred.ofValue,invoke];have:=ax.enter (args.map a.eval).toArray w;grind
 obtain⟨F',f1,bj,fA⟩:=Y3 D ba ao;refine yu aw ds (ax.ik F' w _ x bj.dr bj.hW fA ay) λe w' ⟨v,y,he,a_,gW,U⟩=>⟨v,he,an y w' a_ v ?_⟩
 by_cases aj:aR.pure=true
 ·rw[if_pos aj];have aD:=D.grow U;refine⟨kap,_,aD.set bh (Ay ?_)⟩;obtain⟨aH,cO,cJ⟩:=gW;exact⟨aH,cO,Qf aj cJ⟩
 ·rw[if_neg aj];have aD:=bj.grow U;exact⟨kap,_,aD.set bh (Ay gW)⟩
theorem bw.fG(h:bw C s a w kap F){b g:Nat}{br:List e.al}{k:bI}(FI:b<fE)(aD:(s.aa b).gen<g)(U:Below w.heap.size w w')
  (bm:∀ r,F r->F' r) (yd:∀ r,F' r->F r\/(w.heap.size<=r/\r<w'.heap.size)) (E:k.fT=true->br=[])
  (L:k.fT=false->(w.heap.size<=k.aa/\k.aa<w'.heap.size/\¬F' k.aa)/\∃ cs T,w'.heap[k.aa]?=some (.cells cs T (0,0))/\k.off+k.cap*e.size<=cs.size/\br.length<=k.cap/\(k.cap<2 ^ 63/\wP C.P e T)/\nm C.P e F' w' cs k.off br) :
  bw C (s.cn b ⟨g,.bl e br⟩) a w' (λi=>if i=b then k else kap i) F':=by
 have ah:fL s.aa kap (λi=>if i=b then ⟨g,.bl e br⟩ else s.aa i) (λi=>if i=b then k else kap i):=CE aD λbf eg=>by grind
 refine h.move   ah bm (λr D=>(yd r D).imp id λh=>.inr h.1) U.size (λr D _=>U.block r D) ⟨U.os,U.tape,U.output⟩ (λhe=>?_) ?_ ?_ ?_ (CF (.inl FI) λbf eg=>by grind)
 ·intro i;by_cases G:i=b
  ·subst G;simp  [c7];exact⟨E,λaA=>(L aA).2⟩
  ·refine c7.k6 (h.bC i) ah bm he (by grind) (by grind) λar=>?_;exact U.block _ (h.own i ar).1
 ·intro i G;by_cases bg:i=b
  ·simp  [b8.cd]at G ⊢;grind
  ·simp  [if_neg bg]at G ⊢;have:=h.own i G;refine⟨aPB this.1 U.size,λax=>?_,.inl ⟨i,G,rfl⟩⟩;grind
 ·intro i j G aJ aY;by_cases bg:i=b<;>by_cases oI:j=b
  ·omega
  ·simp  [if_neg oI,b8.cd]at G aJ aY;have:=(h.own j aJ).1;grind
  ·simp  [if_neg bg,b8.cd]at G aJ aY;have:=(h.own i G).1;grind
  ·simp  [if_neg bg,if_neg oI]at G aJ aY;exact h.inj i j G aJ aY
 ·intro r D;rcases yd r D with eX | eX
  ·exact aPB (h.dr r eX) U.size
  omega
theorem an4(dn:lE C.P bs){args:Array Operand}{dq:Array TypeId}(bh:∀ i,o.dst=some i->i<C.bV)(ar:o.op=.call { callee:=.value (.func k),args:=args,argTypes:=dq })(h:(cP C.aU T bs (be C.aU s.az) o).run s.aa=some res):cR C o s res:=by
 simp only[cP,ar,pg,J2]at h;split at h
 ·rename_i c hc;simp only[aE.fZ,amj]at h;obtain⟨⟨x,l⟩,ao,h⟩:=h;split at h
  ·rename_i y a_;simp  [aE.run_bind]at h;obtain⟨d,aw,h⟩:=tR h;split at h
   ·grind
   cases h;have Gi:d ∉ l:=by grind
   have eH:=bh d aw;intro a w kap F Q D ba hq;obtain⟨aM,aS⟩:=(dn k c hc).2 (an1 a_);obtain⟨F',f1,bj,fA⟩:=Y3 D ba ao;have ds:(execOp a.eval o).run C.P w=.ok (.enter k (args.map a.eval)) w:=by
    simp  [execOp,ar,resolve,Act.eval,Deferred.ofValue,invoke];grind
   have kC:=aS x hq y a_ F' w _ bj.dr bj.hW fA;rw[show (args.toList.map a.eval).toArray=args.map a.eval from by grind]at kC;refine yu (by grind) ds kC λz w' ⟨b,fV,bA,dx,ec,jF,g4,qT⟩=>⟨_,bA,?_⟩
   have Qh:(s.cC l).aa d=s.aa d:=by simp[aC.cC,Gi]
   have hR:=bj.fG   (g:=(s.aa d).gen+1)       (aPB eH D.hE) (by grind) qT dx ec jF g4;refine⟨λi=>if i=d then b else kap i,fV,?_⟩;simp  [aC.jE];rw[CV,tV];refine hR.set bh ⟨⟨by simp[aC.cn],by unfold bI.slice;split<;>rfl⟩,λ_ _=>by simp[aC.cn,b8.len]⟩
  rename_i a_;simp  [aE.run_bind,amk]at h;subst h;intro a w kap F Q D ba hq;refine Qg D ((dn k c hc).1 (an2 a_)) bh ar ba ao hq λy w' a_ v n_=>?_;have a_:y=c.g x:=a_;have e:∀ (r:aE (List (Nat×b7))),r=(if c.aR.pure then .ret [] else ke l)->s.iw (r.run s.aa)=(if c.aR.pure then s else s.cC l):=by
   intro r D;subst D;split
   ·rfl
   ·exact tV s l
  simp  [aC.jE];grind
 ·cases h
theorem Y4(aX:∀ b,c7 P H kap F w b)(bm:∀ r,F r->F' r){zero:List Value}(bA:cp P e F' w zero e.dU){bu:List (Nat×aL)}{iz:List (Nat×Value)}(hlen:bu.length=iz.length)
  (gu:∀ i (h:i<bu.length) (eX:i<iz.length),bu[i].1=iz[i].1/\bJ P H kap F w bu[i].2 iz[i].2):∀ (n i:Nat) {xs:List e.al} {l:List Nat},(wV e bu i n).run H=some (xs,l)->
  kR H kap F' l->xs.length=n/\∀ j (h:j<xs.length),∃ bB,cp P e F' w bB xs[j]/\(match iz.find? (λp=>p.1 == i+j) with | some q=>bB=q.2.cells.toList | none=>bB=zero):=by
 have find:∀ (bu:List (Nat×aL)) (iz:List (Nat×Value)),bu.length=iz.length->(∀ i (h:i<bu.length) (eX:i<iz.length),bu[i].1=iz[i].1/\bJ P H kap F w bu[i].2 iz[i].2)->∀ i,(bu.find? (λp=>p.1 == i)=none/\iz.find? (λp=>p.1 == i)=none)\/∃ p q,bu.find? (λp=>p.1 == i)=some p/\iz.find? (λp=>p.1 == i)=some q/\bJ P H kap F w p.2 q.2:=by
  intro bu;induction bu with
  | nil=>grind
  | cons p bu aO=>
   intro iz ah h i;cases iz with
   | nil=>grind
   | cons q iz=>
    by_cases aj:p.1=i
    ·grind
    ·have:=aO iz (by grind) (λj aJ gD=>by have:=h (j+1) (by grind) (by grind);grind) i;grind
 intro n;induction n with
 | zero=>intro i xs l h _;cases h;simp
 | succ n aO=>
  intro i xs l h ah;simp only[wV,aE.fZ,amj,aPD]at h;obtain⟨⟨x,m⟩,E,⟨br,dp⟩,L,rfl,rfl⟩:=h;obtain⟨aM,aS⟩:=aO (i+1) L ah.right;refine⟨by grind,λj aJ=>?_⟩;cases j with
  | zero=>
   rcases find bu iz hlen gu i with⟨f1,f2⟩ | ⟨p,q,f1,f2,f3⟩
   ·rw[f1]at E;simp  at E;grind
   ·rw[f1]at E;refine⟨q.2.cells.toList,(oK aX bm E ah.left f3).2,?_⟩;grind
  | succ j=>
   obtain⟨bB,d1,d2⟩:=aS j (by grind);grind
end
end Go.Fer
namespace Go.Fer
open Go.RowKit
def vk(d:Nat)(em:Bool)(xs:Array Value):List Field->Sem Unit
 | []=>pure ()
 | f::f_=>
  if f.name ≠ "_" then do
   let a <-part f.type xs f.offset
   Instr.checkKey em d f.type a
   vk d em xs f_
  else vk d em xs f_
variable {P:Program}
theorem an5(w:World)(em:Bool)(d:Nat)(t:TypeId)(xs:Array Value)(aG:P.underlying t=some (.struct (P.fieldsOf t))) :
  (Instr.checkKey em (d+1) t (.agg xs)).run P w=(vk d em xs (P.fieldsOf t).toList).run P w:=by
 simp only[Instr.checkKey,Sem.run_bind,en aG,Result.andThen_ok];rw[<-Array.forIn_toList];generalize (P.fieldsOf t).toList=f_;induction f_ generalizing w with
 | nil=>rfl
 | cons f f_ aO=>
  simp only[List.forIn_cons,vk,Sem.run_bind,Sem.run_ite];split
  ·generalize (part f.type xs f.offset).run P w=ck;cases ck with
   | ok a cf=>
    simp;generalize (Instr.checkKey em d f.type a).run P cf=c8;cases c8<;>simp_all
   | halt x cf=>rfl
  simp_all
variable {F:Nat->Prop}{w:World}
theorem Gj{em:Bool}:∀ (t:V) (d:Nat),t.oJ=true->t.nr<=d->
  (∀ {id:TypeId} {v:Value} {x:t.al},cv P t id->fo P t F w v x->(Instr.checkKey em d id v).run P w=.ok () w)/\
  (∀ {l:List Field} {off:Nat} {xs:Array Value} {p c q:List Value} {x:t.al},de P t (.inr (l,off))=true->xs.toList=p++(c++q)->p.length=off->cp P t F w c x->
   (vk d em xs l).run P w=.ok () w):=by
 intro t;induction t with
 | bool=>
  intro d _ aw;refine⟨λ{id v x} h E=>?_,λh=>by simp[de]at h⟩;obtain⟨d,rfl⟩:∃ e,d=e+1:=⟨d - 1,by grind [V.nr]⟩
  unfold cv at h;simp  [de]at h;split at h
  ·simp_all[Instr.checkKey,en]
  grind
 | int k=>
  intro d _ aw;refine⟨λ{id v x} h E=>?_,λh=>by simp[de]at h⟩;obtain⟨d,rfl⟩:∃ e,d=e+1:=⟨d - 1,by grind [V.nr]⟩
  simp[Instr.checkKey,en (cv.int h)]
 | str=>
  intro d _ aw;refine⟨λ{id v x} h E=>?_,λh=>by simp[de]at h⟩;obtain⟨d,rfl⟩:∃ e,d=e+1:=⟨d - 1,by grind [V.nr]⟩
  simp[Instr.checkKey,en (cv.str h)]
 | dh=>intro d h;cases h
 | slice e _=>intro d h;cases h
 | array n e _=>intro d h;cases h
 | bM e _=>intro d h;cases h
 | map k v _ _=>intro d h;cases h
 | fn a b _ _=>intro d h;cases h
 | cE a _=>intro d h;cases h
 | eW=>intro d h;cases h
 | cN e _=>intro d h;cases h
 | au a b gI fS=>
  intro d hc aw;simp  [V.oJ]at hc;simp  [V.nr]at aw;have PM:=gI d hc.1 (by omega);have rv:=fS d hc.2 (by omega);refine⟨λh=>by unfold cv at h;simp[de]at h,?_⟩;intro l off xs p c q x h ao aj tQ;obtain⟨bE,c2,rfl,aM,aS⟩:=tQ;have fx:=jP a aM;have step : ∀ (f : Field) (b6 : List Field), f.offset = off -> cv P a f.type -> f.name ≠ "_" -> (vk d em xs (f :: b6)).run P w = (vk d em xs b6).run P w := by
   intro f b6 ar ax aA;obtain⟨v,ck,c8⟩:=tP (cs:=xs) (p:=p)   (q:=c2++q) ax (by grind) aM;simp  [vk,aA,Sem.run_bind];rw[ar,<-aj,ck,Result.andThen_ok,PM.1 ax c8,Result.andThen_ok]
  match l,h with
  | [],h=>rfl
  | [f],h=>simp  [de]at h
  | [f,g],h=>
   simp  [de,ne_eq]at h;obtain⟨⟨⟨⟨E,L⟩,ak⟩,aZ⟩,⟨⟨⟨bP,ej⟩,iW⟩,kP⟩⟩:=h;rw[step f [g] E L aZ];obtain⟨v,ck,c8⟩:=tP (cs:=xs) (p:=p++bE)   (q:=q) ej (by grind) aS;have aB:(p++bE).length=g.offset:=by grind
   rw[aB]at ck;simp  [vk,ck,rv.1 ej c8]
  | f::g::i::l,h=>
   simp  [de,ne_eq]at h;obtain⟨⟨⟨⟨E,L⟩,ak⟩,aZ⟩,bP⟩:=h;rw[step f _ E L aZ,rv.2 bP (p:=p++bE)   (q:=q) (by grind) (by grind) aS]
 | ad t aO=>
  intro d hc aw;simp  [V.nr]at aw;obtain⟨d,rfl⟩:∃ e,d=e+1:=⟨d - 1,by omega⟩
  refine⟨λ{id v x} h E=>?_,λh=>by simp[de]at h⟩;have i:=aO d hc (by omega);obtain⟨aB,bt,cT,bW⟩:=h.F1;obtain⟨⟨xs,rfl,kh⟩,tQ⟩:=E;simp  [Value.cells]at tQ;rw[an5 w em d id xs bW];rcases cT with cT | ⟨f,cT,ek,l1,CR⟩ | ⟨rfl,cT⟩
  ·exact i.2 cT (p:=[])   (q:=[]) (by simp) rfl tQ
  ·rw[cT];obtain⟨v,ck,c8⟩:=tP (cs:=xs) (p:=[])   (q:=[]) l1 (by simp) tQ;simp  at ck;simp  [vk,ek,ck,i.1 l1 c8]
  ·cases hc
theorem Qi:∀ (t:V),t.oJ=true->∀ (x y:t.al),iJ t x y=true<->x=y:=by
 intro t;induction t with
 | bool=>simp[iJ]
 | int k=>simp[iJ]
 | str=>simp[iJ]
 | ad t aO=>intro h x y;exact aO h x y
 | au a b gI fS=>
  grind [V.oJ,iJ]
 | _=>intro h;cases h
variable {k:V}{bet:Type}
def CZ(x:k.al)(es:List MapEntry)(xs:List (k.al×bet))(i:Nat)(r:Option (Nat×Value)):Prop:=
 (r=none/\∀ p∈xs,iJ k x p.1=false)\/∃ j e p,es[j]?=some e/\xs[j]?=some p/\iJ k x p.1=true/\(∀ mS q,mS<j->xs[mS]?=some q->iJ k x q.1=false)/\r=some (i+j,e.val)
theorem CZ.next{x:k.al}{e:MapEntry}{es:List MapEntry}{p:k.al×bet}{xs:List (k.al×bet)}{i:Nat}{r:Option (Nat×Value)}(h:CZ x es xs (i+1) r)(aj:iJ k x p.1=false):CZ x (e::es) (p::xs) i r:=by
 rcases h with⟨E,L⟩ | ⟨j,aY,p',E,L,ak,aZ,bP⟩
 ·exact .inl ⟨E,λq bq=>by
   grind⟩
 ·refine .inr ⟨j+1,aY,p',by grind,by grind,ak,λmS q gD bq=>?_,by grind⟩;grind
theorem Y5{P:Program}{F:Nat->Prop}{w:World}{k:V}{bet:Type}(hc:k.oJ=true)(aA:k.nr<=10000){nu:TypeId}(an:cv P k nu){w3:Value}{x:k.al}(ao:fo P k F w w3 x):∀ (es:List MapEntry) (xs:List (k.al×bet)) (i:Nat),es.length=xs.length->(∀ (j:Nat) (e:MapEntry) (p:k.al×bet),es[j]?=some e->xs[j]?=some p->fo P k F w e.key p.1)->∃ r,(Instr.findAsking nu w3 es i).run P w=.ok r w/\CZ x es xs i r
 | [],[],i,_,_=>⟨none,rfl,.inl ⟨rfl,λp aj=>by grind⟩⟩
 | e::es,p::xs,i,ah,h=>by
  have aV:=h 0 e p rfl rfl;have he:=(PL k 10000 hc aA).1 an ao aV;obtain⟨r,ck,c8⟩:=Y5   hc aA an ao es xs (i+1) (by grind) λj aY p' E L=>h (j+1) aY p' (by grind) (by grind);cases bq:iJ k x p.1 with
  | true=>
   refine⟨some (i,e.val),by simp_all[Instr.findAsking,Op.equal,Op.maxDepth],.inr ⟨0,e,p,rfl,rfl,bq,λmS q gD=>by omega,rfl⟩⟩
  | false=>exact⟨r,by simp_all[Instr.findAsking,Op.equal,Op.maxDepth],c8.next bq⟩
theorem Y6{nu:TypeId}(an:cv P k nu){d:TypeDesc}(aw:P.underlying nu=some d){u v:Value}{x y:k.al}(hu:fo P k F w u x)(ae:fo P k F w v y){b:Bool}(h:Instr.sameNow d u v=some b):b=iJ k x y:=by
 cases k with
 | bool=>
  rw[gC.1 hu,gC.1 ae]at h;cases d<;>simp  [Instr.sameNow]at h;rw[<-h];rfl
 | int k=>
  rw[(hO.1 hu).1,(hO.1 ae).1]at h;cases d<;>simp  [Instr.sameNow]at h;rw[<-h];rfl
 | str=>
  rw[(k3.1 hu).1,(k3.1 ae).1]at h;cases d<;>simp  [Instr.sameNow]at h;grind [beq_toListBytes,ByteArray.toList_eq,iJ]
 | ad t=>
  obtain⟨⟨us,rfl,_⟩,_⟩:=hu;grind [Instr.sameNow]
 | array n t=>
  obtain⟨⟨us,rfl,_⟩,_⟩:=hu;grind [Instr.sameNow]
 | dh=>exact hu.1.elim
 | au a b=>exact hu.1.elim
 | slice e=>
  obtain⟨_,a,cap,aB,_⟩:=(eb rfl).1 hu;grind [Instr.sameNow]
 | bM e=>
  obtain⟨_,ao⟩:=(eb rfl).1 hu;rcases ao with⟨aB,_⟩ | ⟨p,y,bB,aB,_⟩<;>(grind [Instr.sameNow])
 | map k' iu=>
  obtain⟨_,ao⟩:=(eb rfl).1 hu;rcases ao with⟨aB,_⟩ | ⟨r,es,clk,aB,_⟩<;>(grind [Instr.sameNow])
 | fn a b=>
  grind [cv,de,Instr.sameNow]
 | cE a=>
  grind [cv,de,Instr.sameNow]
 | eW=>
  grind [cv,de,Instr.sameNow]
 | cN e=>
  obtain⟨_,ao⟩:=(eb rfl).1 hu;rcases ao with⟨aB,_⟩ | ⟨o,c,aB,_⟩<;>(grind [Instr.sameNow])
theorem Y7{P:Program}{F:Nat->Prop}{w:World}{k:V}{bet:Type}{nu:TypeId}(an:cv P k nu){d:TypeDesc}(aw:P.underlying nu=some d){w3:Value}{x:k.al}(ao:fo P k F w w3 x):∀ (es:List MapEntry) (xs:List (k.al×bet)) (i:Nat) {r:Option (Nat×Value)},es.length=xs.length->(∀ (j:Nat) (e:MapEntry) (p:k.al×bet),es[j]?=some e->xs[j]?=some p->fo P k F w e.key p.1)->Instr.findNow d w3 es i=some r->CZ x es xs i r
 | [],[],i,r,_,_,h=>by cases h;exact .inl ⟨rfl,λp aj=>by grind⟩
 | e::es,p::xs,i,r,ah,h,ax=>by
  have aV:=h 0 e p rfl rfl;simp  [Instr.findNow]at ax;split at ax
  ·rename_i ay;have:=Y6 an aw ao aV ay;cases ax;exact .inr ⟨0,e,p,rfl,rfl,this.symm,λmS q gD=>by omega,rfl⟩
  ·rename_i ay;have:=Y6 an aw ao aV ay;exact (Y7 an aw ao es xs (i+1) (by grind) (λj aY p' E L=>h (j+1) aY p' (by grind) (by grind)) ax).next this.symm
  grind
theorem cv.YQ{t:V}{id:TypeId}(h:cv P t id)(hc:t.oJ=true):∃ d,P.underlying id=some d:=by
 cases t with
 | bool=>
  grind [cv,de]
 | int k=>exact⟨_,cv.int h⟩
 | str=>simp_all[cv.str]
 | ad t=>exact⟨_,h.F1.2.2.2⟩
 | au a b=>grind [cv,de]
 | _=>cases hc
theorem Az(hc:yn k=true){nu:TypeId}(an:cv P k nu){w3:Value}{x:k.al}(ao:fo P k F w w3 x){es:List MapEntry}{xs:List (k.al×bet)}
  (ah:es.length=xs.length) (h:∀ (j:Nat) (e:MapEntry) (p:k.al×bet),es[j]?=some e->xs[j]?=some p->fo P k F w e.key p.1):∃ r,(Instr.findKey nu w3 es).run P w=.ok r w/\CZ x es xs 0 r:=by
 simp  [yn]at hc;obtain⟨d,aw⟩:=an.YQ hc.1;simp  [Instr.findKey,en aw];cases aA:Instr.findNow d w3 es 0 with
 | some r=>exact⟨r,rfl,Y7 an aw ao es xs 0 ah h aA⟩
 | none=>exact Y5 hc.1 (by omega) an ao es xs 0 ah h
variable {v:V}
theorem Y8{es:List (k.al×v.al)}{x:k.al}:∀ {j:Nat} {p:k.al×v.al},es[j]?=some p->iJ k x p.1=true->(∀ mS q,mS<j->es[mS]?=some q->iJ k x q.1=false)->CM es x=some p.2/\∀ y,oL es x y=es.set j (p.1,y):=by
 induction es with
 | nil=>simp
 | cons q es aO=>
  intro j p E L ak;cases j with
  | zero=>
   grind [CM,oL]
  | succ j=>
   have aV:=ak 0 q (by omega) rfl;grind [CM,oL]
theorem Y9{es:List (k.al×v.al)}{x:k.al}(h:∀ p∈es,iJ k x p.1=false):CM es x=none/\∀ y,oL es x y=es++[(x,y)]:=by
 induction es with
 | nil=>exact⟨rfl,λ_=>rfl⟩
 | cons q es aO=>
  grind [CM,oL]
section
variable {C:cF} {T:Nat->V} {bs:Nat->Option aN} {o:Oper} {s:aC} {res:eA}
theorem an6{z:Value}(ae:v.fY=true\/v.isAgg=true)(i5:l5 v z.cells.toList=some [])(i6:(∃ cs,z=.agg cs)<->v.isAgg=true):fo P v F w z v.dU:=by
 obtain⟨c,e,iy,z2⟩:=yl (P:=P) (H:=λ_=>⟨0,.ey⟩) (kap:=λ_=>⟨0,0,0,true⟩) (F:=F) (w:=w) v i5;rw[aPN]at e;refine⟨?_,by grind⟩;have ah:=jP v iy;rcases ae with ae | ae
 ·have PZ:∀ cs,z≠.agg cs:=λcs bA=>by
   have:=i6.1 ⟨cs,bA⟩;cases v<;>simp[V.fY,V.isAgg]at ae this
  have bA:z.cells=#[z]:=by
   cases z<;>first | rfl | grind
  cases v<;>simp  [V.fY]at ae<;>exact bA
 ·obtain⟨cs,rfl⟩:=i6.2 ae;have aY:cs.toList=c:=e;cases v<;>simp  [V.isAgg]at ae
  ·exact⟨cs,rfl,by rw[<-aPI,aY,ah];rfl⟩
  ·exact⟨cs,rfl,by rw[<-aPI,aY,ah];rfl⟩
def Qj(P:Program)(k v:V)(F:Nat->Prop)(w:World)(ms:List MapEntry)(xs:List (k.al×v.al)):Prop:=
 ms.length=xs.length/\∀ (j:Nat) (e:MapEntry) (p:k.al×v.al),ms[j]?=some e->xs[j]?=some p->fo P k F w e.key p.1/\fo P v F w e.val p.2
theorem yg.es{ms:Array MapEntry}{clk:Nat}{xs:List (k.al×v.al)}(h:yg P k v F w ms clk xs):Qj P k v F w ms.toList xs:=by
 obtain⟨E,L,ak,aZ⟩:=h;refine⟨by omega,λj e p he aj=>?_⟩;obtain⟨aJ,rfl⟩:=List.getElem?_eq_some_iff.1 aj;obtain⟨gD,rfl⟩:=List.getElem?_eq_some_iff.1 he;obtain⟨a,b,c,d,_⟩:=ak j aJ (by omega);exact⟨⟨a,by grind⟩,c,by grind⟩
theorem an7{a:Act}{kap:Nat->bI}(D:bw C s a w kap F){av:aL}{u:Value}{xs:List (k.al×v.al)}(h:(J3 k v av).run s.aa=some xs)(hu:bJ C.P s.aa kap F w av u) :
  (u=.map none/\xs=[])\/∃ r ms clk,u=.map (some r)/\w.heap[r]?=some (.map ms clk)/\Qj C.P k v F w ms.toList xs:=by
 have cC:∀ {xs:List (k.al×v.al)},cp C.P (.map k v) F w [u] xs->(u=.map none/\xs=[])\/∃ r ms clk,u=.map (some r)/\w.heap[r]?=some (.map ms clk)/\Qj C.P k v F w ms.toList xs:=by
  intro xs ao;rcases ao with⟨aB,bt⟩ | ⟨r,ms,clk,aB,E,L,ak,aZ,bP,ej⟩
  ·grind
  ·exact .inr ⟨r,ms,clk,(aPM aB).1,L,yg.es ⟨ak,aZ,bP,ej⟩⟩
 cases av with
 | val t es=>
  exact cC ((eb rfl).1 (CH h hu)).2
 | k4 x=>
  simp  [bJ]at hu;have ao:u=.map none/\xs=[]:=by
   unfold J3 at h;split at h
   ·grind
   ·simp_all
   ·grind
   ·cases h
  grind
 | hk b g=>
  simp only[J3,aE.gU,aE.dy]at h;split at h
  ·rename_i aD;have aX:=D.bC b;unfold c7 at aX;split at h
   ·rename_i k' iu es U;obtain⟨e,rfl⟩:=mN h;cases e;rw[U]at aX;obtain⟨ms,clk,E,L⟩:=aX;exact .inr ⟨_,ms,clk,hu.2 aD.symm (by rw[U];rfl),E,L.es⟩
   ·rename_i k' iu es U;obtain⟨e,rfl⟩:=mN h;have:=hu.2 aD.symm (by rw[U];rfl);grind [mu]
   grind
  grind
 | _=>cases h
variable {ty:TypeId}
theorem an8{r:Option Operand}(bh:∀ i,o.dst=some i->i<C.bV)(ar:o.op=.makeMap ty r)(h:(cP C.aU T bs (be C.aU s.az) o).run s.aa=some res):cR C o s res:=by
 simp  [cP,ar]at h;split at h
 ·cases h
 ·have an9:r=none:=by simp_all
  subst an9;split at h
  ·rename_i k v aG;obtain⟨b,aw,an⟩:=tR h;simp  at an;subst an;intro a w kap F Q D _ _;have ds:(execOp a.eval o).run C.P w=.ok (.value (.map (some w.heap.size))) (w.alloc (.map #[] 0)):=by
    simp[execOp,ar,Instr.makeMap]
   have E:=D.alloc   (x:=⟨(s.aa b).gen+1,.mp k v []⟩) (D.iL (bh b aw)) (aQl _)   (k:=⟨w.heap.size,0,0,false⟩) rfl λH bR _ _ _=>
    ⟨#[],0,tN _ _,rfl,by simp,λi G=>by simp,λi j G=>by simp⟩
   refine h8 (by grind) ds ⟨_,F,bw.set   E bh ⟨⟨by simp[aC.cn],rfl⟩,λ_ _=>by simp⟩⟩
  ·cases h
theorem an_(aT:ed C.P T){m x:Operand}{ok:Bool}(bh:∀ i,o.dst=some i->i<C.bV)(ar:o.op=.lookup ty m x ok)(h:(cP C.aU T bs (be C.aU s.az) o).run s.aa=some res):cR C o s res:=by
 simp only[cP,ar,CN]at h;split at h
 ·rename_i k v aG;split at h
  ·rename_i hc;simp  at hc;obtain⟨i,j,G,pr,kj⟩:=(aT.cB aG (by simp)).mp;simp only[aE.fZ,amj,da,aE.dy,amk]at h;obtain⟨es,rD,⟨y,l⟩,a_,rfl⟩:=h;refine cR.pure (by grind) bh λa w kap F D ba _=>?_;have hm:=db D m rfl ba.1;have ao:=F4 D a_ (db D x rfl ba.2);obtain⟨inf,z,i1,i2,i3,i4,i5,i6⟩:=nq kj.np;have hzero:fo C.P v F w z v.dU:=an6 hc.2 i5 i6;have fin:∀ (u:Value) (q:Option v.al),fo C.P v F w u (q.getD v.dU)->bJ C.P s.aa kap F w (Yq v q ok) (if ok=true then .tuple #[u,.bool q.isSome] else u):=by
    intro u q ak;cases ok with
    | true=>
     refine⟨[u,.bool q.isSome],rfl,rfl,λi G=>?_⟩;match i,G with
     | 0,_=>exact ak
     | 1,_=>exact gC.2 rfl
    | false=>exact ak
   have oH:=hc.1;have gE:=by simpa [yn]using oH
   rcases an7 D rD hm with⟨hu,aA⟩ | ⟨r,ms,clk,hu,hw,my⟩
   ·subst aA;have e3:=(Gj (em:=true) k 10000 gE.1 (by omega)).1 pr ao;obtain⟨f,f1,f2⟩:=Az (bet:=v.al) (xs:=[]) (es:=[]) oH pr ao rfl (λj e p h=>by simp);rcases f2 with⟨rfl,_⟩ | ⟨j,e,p,E,_⟩
    ·refine⟨_,?_,fin z none hzero⟩;simp_all[execOp,Instr.lookup,en,sD]
    grind
   ·have e3:=(Gj (em:=ms.isEmpty) k 10000 gE.1 (by omega)).1 pr ao;obtain⟨f,f1,f2⟩:=Az       oH pr ao my.1 (λj e p E L=>by
     have:=(my.2 j e p E L).1;exact⟨this.1,fK k (λ_ _=>trivial) (di.refl F w) this.2⟩)
    have fz:(getObj r).run C.P w=.ok (.map ms clk) w:=by grind [getObj,Sem.run]
    rcases f2 with⟨rfl,eM⟩ | ⟨j,e,p,E,L,ak,aZ,rfl⟩
    ·refine⟨_,?_,by rw[(Y9 eM).1];exact fin z none hzero⟩;simp_all[execOp,Instr.lookup,en,sD]
    ·refine⟨_,?_,by rw[(Y8 L ak aZ).1];exact fin e.val (some p.2) (my.2 j e p E L).2⟩;simp_all[execOp,Instr.lookup,en]
  ·cases h
 ·cases h
theorem Qk(P:Program)(w:World)(qR fr:Value):∃ k' w',(Instr.keyThatStays qR fr).run P w=.ok k' w'/\(k'=fr\/k'=qR)/\(w'=w\/w'=w.drew):=by
 unfold Instr.keyThatStays;split
 ·exact⟨fr,w,rfl,.inl rfl,.inl rfl⟩
 ·have ax : (Question.extern "map.whichKeyStays" 2).forced = false := rfl;simp only[Sem.run_bind,run_choose,ax,aml,aPA,Result.andThen_ok];split
  ·exact⟨fr,_,rfl,.inl rfl,.inr rfl⟩
  ·exact⟨qR,_,rfl,.inr rfl,.inr rfl⟩
theorem vl{r:Nat}{es:Array MapEntry}{clk:Nat}(h:w.heap[r]?=some (.map es clk))(o:Obj):(setObj r o).run P w=.ok () { w with heap:=w.heap.setIfInBounds r o }:=by
 grind [setObj,Sem.run]
theorem Ql(aT:ed C.P T){m x y:Operand}(eH:o.dst=none)(ar:o.op=.mapUpdate ty m x y\/o.op=.insert ty m x y)(h:(cP C.aU T bs (be C.aU s.az) o).run s.aa=some res):cR C o s res:=by
 have aw:∀ c,o.op≠.defer c:=by grind
 have lF:∀ rho,cP C.aU T bs rho o=vc T rho ty m x y:=λrho=>by rcases ar with ar | ar<;>simp  [cP,ar]
 have hex:∀ rho w,(execOp rho o).run C.P w=(do Instr.mapUpdate ty (rho m) (rho x) (rho y);pure .skip:Sem Next).run C.P w:=λrho w=>by rcases ar with ar | ar<;>simp  [execOp,ar]
 rw[lF]at h;simp  [vc]at h;split at h
 ·rename_i k v aG;obtain⟨nu,C0,G,pr,kj⟩:=(aT.cB aG (by simp)).mp;split at h
  ·rename_i hc;split at h
   ·rename_i b g w4;simp only[aE.fZ,amj,aE.run_bind,aE.gU,aE.dy]at h;obtain⟨⟨eP,sB⟩,ao,⟨sH,ld⟩,a_,h⟩:=h;split at h
    ·rename_i aD;obtain⟨aD,CY⟩:=aD;split at h
     ·rename_i k' iu es U;simp  at h;obtain⟨Y_,rD,rfl⟩:=h;obtain⟨e,rfl⟩:=mN rD;cases e;intro a w kap F Q D ba _;obtain⟨F',f1,bj,f2⟩:=bw.mR ((pn ao).append (pn a_)) D;have hm:bJ C.P s.aa kap F w (use (be C.aU s.az m)).2 (a.eval m):=db D m rfl ba.1;rw[w4]at hm;have mT:=hm.2 aD.symm (by rw[U];rfl);have w5:=oK D.bC f1 ao f2.left (db D x rfl ba.2.1);have Kq:=oK D.bC f1 a_ f2.right (db D y rfl ba.2.2);have sI:(s.cC (sB++ld)).aa b=s.aa b:=by simp  [aC.cC];grind
      have aX:=bj.bC b;unfold c7 at aX;rw[sI,U]at aX;obtain⟨ms,clk,hw,qU⟩:=aX;have gE:=by simpa [yn]using hc
      have e3:=(Gj (em:=false) k 10000 gE.1 (by omega)).1 pr w5;have my:=qU.es;obtain⟨f,cO,cJ⟩:=Az       hc pr w5 my.1 (λj e p E L=>(my.2 j e p E L).1);have fz:(getObj (kap b).aa).run C.P w=.ok (.map ms clk) w:=by simp[getObj,Sem.run,hw]
      have tY:s.iw ((ke (sB++ld)).run s.aa++[(b,⟨(s.aa b).gen,.mp k v (oL es eP sH)⟩)])=(s.cC (sB++ld)).cn b ⟨(s.aa b).gen,.mp k v (oL es eP sH)⟩:=by
       rw[CV,tV]
      have hp:fL (s.cC (sB++ld)).aa kap (λi=>if i=b then (⟨(s.aa b).gen,.mp k v (oL es eP sH)⟩) else (s.cC (sB++ld)).aa i) kap:=
       pf (by grind) (λh=>by cases h) (λh=>by cases h) (λ_=>by rw[sI,U];rfl) (λh=>by cases h)
      obtain⟨ir,Qm,Qn,Y'⟩:=qU;have done:∀ (cf:World) (Kr:Array MapEntry) (Ks:Nat),(cf=w\/cf=w.drew)->
        (execOp a.eval o).run C.P w=.ok .skip { cf with heap:=cf.heap.setIfInBounds (kap b).aa (.map Kr Ks) }->
        (∀ {w'},di F' w w'->yg C.P k v F' w' Kr Ks (oL es eP sH))->
        o.wpIn (eZ C.r) 0 C.P a w (λa' w'=>dc C (s.jE o.dst ⟨(use (be C.aU s.az m)).1/\(use (be C.aU s.az x)).1/\(use (be C.aU s.az y)).1,True,.undef,(ke (sB++ld)).run s.aa++[(b,⟨(s.aa b).gen,.mp k v (oL es eP sH)⟩)]⟩) a' w') Q:=by
       intro cf Kr Ks n' ds an';have df:cf.heap=w.heap:=by rcases n' with rfl | rfl<;>rfl
       have ky:dM w cf:=by rcases n' with rfl | rfl<;>exact⟨rfl,rfl,rfl⟩
       refine F0 aw ds ⟨kap,F',?_⟩;simp  [aC.jE];rw[tY,eH];refine bj.qL     (by rw[sI,U];rfl) rfl hp (λh=>by cases h) (λ_=>by rw[sI,U];rfl) (λr Qo=>?_) (by grind) ⟨ky.os,ky.tape,ky.output⟩ λH _ _ he=>?_
       ·grind
       ·exact⟨Kr,Ks,by grind,an' he⟩
      rcases cJ with⟨rfl,eM⟩ | ⟨j,e,p,E,L,ak,aZ,rfl⟩
      ·refine done w (ms.push { key:=a.eval x,val:=a.eval y,born:=clk }) (clk+1) (.inl rfl) ?_ λ{w'} he=>?_
       ·rw[hex];simp  [mT,Instr.mapUpdate,en G,fz,e3,cO,vl hw]
       ·rw[(Y9 eM).2];refine⟨by grind,?_,λi G dR=>?_,λi j G aJ e=>?_⟩
        ·rw[aPZ,List.nodup_append];refine⟨Qm,by simp,λq bq q' vg=>?_⟩;obtain⟨p,aj,rfl⟩:=List.mem_map.1 bq;simp  at vg;subst vg;intro e;have:=eM p aj;rw[e,(Qi k gE.1 _ _).2 rfl]at this;grind
        ·by_cases AA:i<es.length
         ·obtain⟨aM,aS,b4,hZ,sJ⟩:=Qn i AA (by omega);have aB:(es++[(eP,sH)])[i]=es[i]:=List.getElem_append_left AA;have bt:(ms.push { key:=a.eval x,val:=a.eval y,born:=clk })[i]=ms[i]'(by omega):=Array.getElem_push_lt (by omega);rw[aB,bt];exact⟨aM,fK k (λ_ h=>h) he aS,b4,fK v (λ_ h=>h) he hZ,by omega⟩
         ·have aoa:i=es.length:=by grind
          subst aoa;have aB:(es++[(eP,sH)])[es.length]=(eP,sH):=by simp
          have bt:(ms.push { key:=a.eval x,val:=a.eval y,born:=clk })[es.length]={ key:=a.eval x,val:=a.eval y,born:=clk }:=by
           grind
          rw[aB,bt];exact⟨w5.1,fK k (λ_ h=>h) he w5.2,Kq.1,fK v (λ_ h=>h) he Kq.2,by simp⟩
        grind
      ·have aJ:=(List.getElem?_eq_some_iff.1 L).1;have aob:ms[j]=e:=by
        grind
       have qe:=(List.getElem?_eq_some_iff.1 L).2;have FJ:=(Qi k gE.1 _ _).1 ak;obtain⟨oa,cf,ck,c8,fB⟩:=Qk C.P w e.key (a.eval x);have n':cf.heap[(kap b).aa]?=some (.map ms clk):=by rcases fB with rfl | rfl<;>exact hw
       refine done cf (ms.modify j λe=>{ e with key:=oa,val:=a.eval y }) clk fB ?_ λ{w'} he=>?_
       ·rw[hex];simp  [mT,Instr.mapUpdate,en G,fz,e3,cO];have n9:((ms[j]?).map (·.key)).getD (a.eval x)=e.key:=by
         grind
        rw[n9,ck];simp  [vl n']
       ·rw[(Y8 L ak aZ).2];refine⟨by grind,?_,λi G dR=>?_,λi mS G gD aY=>?_⟩
        ·have:(es.set j (p.1,sH)).map (·.1)=es.map (·.1):=by
          apply aQ1;grind
         grind
        ·have AA:i<es.length:=by grind
         have aLp:i<ms.size:=by omega
         grind [fo,fK]
        grind
     grind
    grind
   ·cases h
  ·cases h
 ·cases h
end
end Go.Fer
namespace Go.Fer
open Go.RowKit
section
variable {C:cF} {T:Nat->V} {bs:Nat->Option aN} {o:Oper} {s:aC} {res:eA}
variable {P:Program}{F:Nat->Prop}{w:World}{e:V}
theorem Za{z:Value}(bP:l5 e z.cells.toList=some [])(n:Nat) :
  hY P e F w ((Array.range (n*e.size)).map (λi=>z.cells[i % z.cells.size]!)).toList (List.replicate n e.dU):=by
 obtain⟨c,yv,iy,z2⟩:=yl (P:=P) (H:=λ_=>⟨0,.ey⟩) (kap:=λ_=>⟨0,0,0,true⟩) (F:=F) (w:=w) e bP;rw[aPN]at yv;have w6:z.cells.size=e.size:=by rw[<-aPI,yv];exact jP e iy
 refine⟨by simp,λi G=>?_⟩;have dR:i<n:=by grind
 have hle:(i+1)*e.size<=n*e.size:=amt _ (by omega);have:((((Array.range (n*e.size)).map (λi=>z.cells[i % z.cells.size]!)).toList.drop (i*e.size)).take e.size)=z.cells.toList:=by
  apply aQ1;intro j;simp  [aQM];split
  ·rename_i aJ;have yt:(i*e.size+j) % z.cells.size=j:=by rw[w6,Nat.add_comm,Nat.add_mul_mod_self_right,Nat.mod_eq_of_lt aJ]
   grind
  grind
 grind
theorem aoc{n:Int}(aV:0<=n)(E:n<=4294967296):IntKind.i64.wrap n=n:=by
 simp  [IntKind.wrap,IntKind.bits];grind
theorem aod(aT:ed C.P T){ty:TypeId}{l c:Operand}(bh:∀ i,o.dst=some i->i<C.bV)(ar:o.op=.makeSlice ty l c)(h:(cP C.aU T bs (be C.aU s.az) o).run s.aa=some res):cR C o s res:=by
 simp  [cP,ar,J4]at h;split at h
 ·rename_i e aG;split at h
  ·rename_i n m ah hm;have dC:=aT.cB aG (by simp);obtain⟨l9,aJ,iB,oP⟩:=dC.sl;obtain⟨inf,z,i1,i2,i3,i4,i5,i6⟩:=nq iB.np;obtain⟨b,aw,an⟩:=tR h;simp  at an;subst an;intro a w kap F Q D ba hc;have aQ:=p9 (db D l rfl ba.1) ah;have ky:=p9 (db D c rfl ba.2) hm;obtain⟨c0,rfl,bE⟩:=hc;unfold cb at bE;obtain⟨k,rfl⟩:∃ k:Nat,n=k:=⟨n.toNat,by omega⟩
   have hw:=aoc (by omega) (by omega);let cs:=(Array.range (k*e.size)).map (λi=>z.cells[i % z.cells.size]!);have hR:hY C.P e F w cs.toList (List.replicate k e.dU):=Za i5 k;have aLq:=by
    calc inf.bytes*k<=1024*4294967296:=aRe i3 (by omega)
     _<=2 ^ 47:=by decide
   have ds:(execOp a.eval o).run C.P w=.ok (.value (.slice (some ⟨w.heap.size,0,none⟩) k k)) (w.alloc (.cells cs l9)):=by
    have aoe:¬(inf.bytes*(k:Int) > 2 ^ 48):=by
     omega
    have AB:¬((k:Int)<0):=by omega
    have F5:¬(k > (k:Int)):=by omega
    simp only[execOp,ar,Instr.makeSlice,aQ.1,ky.1,Sem.run_bind,en aJ,Result.andThen_ok,asInt,asIntOf,Sem.run_pure,FY i1,hw,aoe,AB,F5,aQe,aQo,aml,aPA,tO i1,i2];by_cases yw:k*e.size=0
    ·simp[newRow];grind
    ·simp[yw,sD i1 i4,newRow,cs]
   have ak:=D.Ge   (g:=(s.aa b).gen+1)   (k:=⟨w.heap.size,0,k,false⟩)   (aQl _) (.inr rfl) (by simp) (λr D=>rz w _ D) (λ_=>by simp) ⟨rfl,rfl,rfl⟩
    (λH bR=>⟨λh=>(by grind),λ_=>⟨cs,l9,tN w _,by grind,by simp,⟨by grind,iB.J'⟩,(hR.Gb (pre:=[]) (post:=[]) (by simp)).later (di.alloc D.dr _)⟩⟩)
   refine h8 (by grind) ds ⟨_,F,bw.set   ak bh ⟨⟨by simp[aC.cn],rfl⟩,λ_ _=>by simp[aC.cn,bI.slice,b8.len]⟩⟩
  ·cases h
 ·cases h
theorem hY.take{P:Program}{e:V}{F:Nat->Prop}{w:World}{all:List Value}{xs:List e.al}(h:hY P e F w all xs){n:Nat}(aA:n<=xs.length):hY P e F w (all.take (n*e.size)) (xs.take n):=by
 refine⟨by simp only[aQm,h.1];simp,λi G=>?_⟩;have dR:i<n:=by grind
 have aof:(i+1)*e.size<=n*e.size:=amt _ (by omega);rw[aP']at aof;have:((all.take (n*e.size)).drop (i*e.size)).take e.size=(all.drop (i*e.size)).take e.size:=by
  rw[List.drop_take,List.take_take,aQ8 (by omega)]
 rw[this];simpa using h.2 i (by omega)
theorem Zb{q:Option Addr}{n cap:Nat}{xs:List e.al}(aA:n<=xs.length)(h:(q=none/\xs=[]/\cap=0)\/∃ p all,q=some p/\hY P e F w all xs/\mP w p all) :
  ∃ all,(Builtin.firstCells e.size n (.slice q xs.length cap)).run P w=.ok all.toArray w/\hY P e F w all (xs.take n):=by
 rcases h with⟨rfl,rfl,rfl⟩ | ⟨p,all,rfl,cw,b2⟩
 ·exact⟨[],by rfl,by simp[hY]⟩
 ·have hle:n*e.size<=xs.length*e.size:=amt _ aA;refine⟨all.take (n*e.size),?_,cw.take aA⟩;simp  [Builtin.firstCells];have ah:(all.take (n*e.size)).length=n*e.size:=by simp only[aQm,cw.1];omega
  have D:mP w p (all.take (n*e.size)):=⟨λaV=>b2.1 (by grind),λj aJ=>by
   have gD:j<all.length:=by grind
   rw[List.getElem_take];exact b2.2 j gD⟩
  have:=CO (P:=P) D;grind
theorem nm.hU{P:Program}{e:V}{F:Nat->Prop}{w w':World}{cs eo:Array Value}{off a1:Nat}{xs zs:List e.al}{fr:List Value}(h:nm P e F w cs off xs)(he:di F w w')(aA:hY P e F w fr zs)(ah:a1+zs.length<=xs.length)
  (qO:off+xs.length*e.size<=cs.size) (hc:eo.toList=cs.toList.take (off+a1*e.size)++(fr++cs.toList.drop (off+a1*e.size+fr.length))):nm P e F w' eo off (Go.Fer.hU xs a1 zs):=by
 have hlen:(Go.Fer.hU xs a1 zs).length=xs.length:=by simp[Go.Fer.hU];omega
 have aog:(a1+zs.length)*e.size<=xs.length*e.size:=amt _ ah;rw[aP']at aog;have qS:=aA.1;have hq:(cs.toList.take (off+a1*e.size)).length=off+a1*e.size:=by grind
 intro i G;rw[hlen]at G;have aoh:i<a1\/(a1<=i/\i<a1+zs.length)\/a1+zs.length<=i:=by omega
 rcases aoh with E | ⟨E,L⟩ | E
 ·obtain⟨bB,d1,d2⟩:=h i G;have anT:=jP e d2;have aB:(Go.Fer.hU xs a1 zs)[i]'(by omega)=xs[i]:=by
   simp  [Go.Fer.hU];grind
  rw[aB];refine⟨bB,λj aJ=>?_,fK e (λ_ h=>h) he d2⟩;have hle:(i+1)*e.size<=a1*e.size:=amt _ (by omega);rw[aP']at hle;rw[<-aPX,hc,aPW (by omega),aQM,aPX];grind
 ·have qd:=aA.Gb     hc;obtain⟨bB,d1,d2⟩:=qd (i - a1) (by omega);have aB:(Go.Fer.hU xs a1 zs)[i]'(by omega)=zs[i - a1]'(by omega):=by
   simp  [Go.Fer.hU];grind
  rw[aB];refine⟨bB,λj aJ=>?_,fK e (λ_ h=>h) he d2⟩;have:=d1 j aJ;rw[<-this];congr 1;have:i*e.size=a1*e.size+(i - a1)*e.size:=by rw[<-aP'];grind
  omega
 ·obtain⟨bB,d1,d2⟩:=h i G;have aB:(Go.Fer.hU xs a1 zs)[i]'(by omega)=xs[i]:=by
   simp  [Go.Fer.hU];have hp:(xs.take a1).length=a1:=by grind
   rw[aQR (by omega)];grind
  rw[aB];refine⟨bB,λj aJ=>?_,fK e (λ_ h=>h) he d2⟩;have bz:(a1+zs.length)*e.size<=i*e.size:=amt _ E;rw[aP']at bz;rw[<-aPX,hc,amu (by omega),amu (by omega),hq];grind
theorem hY.one{fr:List Value}{br:List e.al}(h:hY P e F w fr br)(ki:0<e.size):∀ v∈fr,v.oneCell'=true:=by
 intro v ae;obtain⟨j,aJ,rfl⟩:=List.mem_iff_getElem.1 ae;have hdiv:=(Nat.div_lt_iff_lt_mul ki).2 (by rw[<-h.1];omega);have qQ:=h.2 (j / e.size) hdiv;have ka:=CG   (H:=λ_=>⟨0,.ey⟩) (kap:=λ_=>⟨0,0,0,true⟩) e qQ;have yt:=Nat.mod_lt j ki;have YX:=Nat.div_add_mod' j e.size;have YY:=jP e qQ;have:=(ka.mO (j % e.size) (by rw[ka.len];omega)).2;grind
theorem aoi(aT:ed C.P T){args:Array Operand}{dq:Array TypeId}(bh:∀ i,o.dst=some i->i<C.bV)(ar:o.op=.call { callee:=.builtin .copy,args:=args,argTypes:=dq })(h:(cP C.aU T bs (be C.aU s.az) o).run s.aa=some res):cR C o s res:=by
 obtain⟨args⟩:=args;obtain⟨dq⟩:=dq;have aw:∀ c,o.op≠.defer c:=by grind
 simp  [cP,ar,pg,J5]at h;split at h
 ·rename_i x y t u;split at h
  ·rename_i e bt aG hu;have dC:=aT.cB aG (by simp);obtain⟨l9,aJ,iB,oP⟩:=dC.sl;obtain⟨inf,z,i1,i2,i3,i4,i5,i6⟩:=nq iB.np;have ki:=aQZ oP;split at h
   ·rename_i b g a1 G Kt;simp only[aE.fZ,amj,aE.gU,aE.dy]at h;obtain⟨⟨br,l⟩,l7,h⟩:=h;split at h
    ·rename_i aD;split at h
     ·rename_i aY xs U;split at h
      ·rename_i t';subst t';simp  at h;subst h;intro a w kap F Q D ba _;obtain⟨q',ys,Ax,rE⟩:=Av D l7 (db D y rfl ba.2);have ao:bJ C.P s.aa kap F w (use (be C.aU s.az x)).2 (a.eval x):=db D x rfl ba.1;have aX:=D.bC b;unfold c7 at aX;rw[U]at aX;have place:a1<=G.getD xs.length/\G.getD xs.length<=xs.length/\(((kap b).fT=true/\∃ cap,a.eval x=.slice none 0 cap)\/((kap b).fT=false/\∃ pq cap,a.eval x=.slice (some ⟨(kap b).aa,pq,none⟩) (G.getD xs.length - a1) cap/\(a1<G.getD xs.length->pq=(kap b).off+a1*aY.size))):=by
        split at Kt
        ·rename_i bf g' gm;simp  at Kt;obtain⟨rfl,rfl,rfl,rfl⟩:=Kt;rw[gm]at ao;have ae:=ao.2 aD.symm (by rw[U];rfl);rw[U]at ae;simp  [b8.len]at ae;refine⟨aPK _,amo _,?_⟩;cases aA:(kap bf).fT with
         | true=>exact .inl ⟨rfl,0,by simpa [bI.slice,aA]using ae⟩
         | false=>exact .inr ⟨rfl,(kap bf).off,(kap bf).cap,by simpa [bI.slice,aA]using ae,λ_=>by simp⟩
        ·rename_i bf g' aLr dR gm;obtain⟨rfl,rfl,rfl,rfl⟩:=Kt;rw[gm]at ao;obtain⟨⟨aM,aS⟩,b4⟩:=ao.2 aD.symm (by rw[U];rfl);simp  [b8.len,b8.gJ]at aS b4;rcases b4 with⟨aA,ae⟩ | ⟨aA,pq,ae,jQ,gV⟩
         ·grind
         ·obtain⟨cs,h9,bE,c2,c3,c4,c5⟩:=aX.2 aA;grind
        grind
       obtain⟨e8,e_,mv⟩:=place;have Zc:∀ m,m<=br.length->m<=xs.length->gQ .i64 m:=by
        intro m _ hm;have:=CT D   (by rw[U];rfl);rw[U]at this;simp  [b8.len]at this;exact CU (by omega)
       generalize bY:G.getD xs.length=df at *
       have YP:Nat.min br.length (df - a1)=min (df - a1) br.length:=Nat.min_comm _ _;have aoj:(br.take (df - a1)).length=min (df - a1) br.length:=by simp
       have Gk:(hU xs a1 (br.take (df - a1))).length=xs.length:=by simp[hU];omega
       have hp:fL s.aa kap (λi=>if i=b then (⟨(s.aa b).gen,.bl aY (hU xs a1 (br.take (df - a1)))⟩) else s.aa i) kap:=
        pf rfl (λh=>by cases h) (λ_=>by rw[U];exact⟨rfl,Gk,rfl⟩) (λh=>by cases h) (λh=>by cases h)
       have pj:∀ (w':World) v,(Builtin.copy_ #[t,u] o.type #[a.eval x,a.eval y]).run C.P w=.ok v w'->(execOp a.eval o).run C.P w=.ok (.value v) w':=by
        intro w' v ae;refine sF ar ?_;simp[builtin,ae]
       rcases mv with⟨aA,cap,vi⟩ | ⟨aA,pq,cap,vi,aLs⟩
       ·have kh:=aX.1 aA;subst kh;have aok:df=0:=by grind
        subst aok;obtain⟨fr,eB,eC⟩:=Zb       (aPK _) rE;have ds:(Builtin.copy_ #[t,u] o.type #[a.eval x,a.eval y]).run C.P w=.ok (.int .i64 ((0))) w:=by
         simp  [Builtin.copy_,en aJ,vi,Ax,Builtin.lenOf,tO i1,i2];rw[eB];rfl
        refine h8 aw (pj w _ ds) ⟨kap,F,bw.set (s:=s.cn b _) ?_ bh (hO.2 ⟨by simp,Zc _ (by simp) (by simp)⟩)⟩;have bL:hU ([]) 0 (br.take (0 - 0))=[]:=by rfl
        have es:s.cn b ⟨(s.aa b).gen,.bl aY (hU ([]) 0 (br.take (0 - 0)))⟩=s:=by
         rw[bL];unfold aC.cn;have:(λi=>if i=b then (⟨(s.aa b).gen,.bl aY []⟩) else s.aa i)=s.aa:=by
          funext i;by_cases G:i=b
          ·subst G;simp;rw[<-U]
          grind
         rw[this]
        grind
       ·obtain⟨cs,h9,bE,c2,c3,c4,c5⟩:=aX.2 aA;have Kc:min (df - a1) br.length<=br.length:=Nat.min_le_right _ _;obtain⟨fr,eB,eC⟩:=Zb     Kc rE;have mx:br.take (min (df - a1) br.length)=br.take (df - a1):=by
         simp
        rw[mx]at eC;have qS:=eC.1;rw[aoj]at qS;have qb:=eC.one ki;have Zd:xs.length*aY.size<=(kap b).cap*aY.size:=amt _ c3;have Gl:(a1+min (df - a1) br.length)*aY.size<=xs.length*aY.size:=amt _ (by omega);rw[aP']at Gl;obtain⟨w',eo,ck,c8,fB,n5,n6,oN⟩:∃ w' eo,(storeCells ⟨(kap b).aa,pq,none⟩ fr).run C.P w=.ok () w'/\w'.heap[(kap b).aa]?=some (.cells eo h9 (0,0))/\eo.toList=cs.toList.take ((kap b).off+a1*aY.size)++(fr++cs.toList.drop ((kap b).off+a1*aY.size+fr.length))/\
          (∀ r,r≠(kap b).aa->w'.heap[r]?=w.heap[r]?)/\w'.heap.size=w.heap.size/\dM w w':=by
         by_cases dk:a1<df
         ·obtain⟨w',eo,ck,c8,fB,n5,n6,oN⟩:=yp (P:=C.P) fr ((kap b).off+a1*aY.size) 0 w cs bE (by omega) qb;grind
         ·have aV:min (df - a1) br.length=0:=by omega
          rw[aV,Nat.zero_mul]at qS;have:=aPU qS;subst this;exact⟨w,cs,by rfl,bE,by simp,λ_ _=>rfl,rfl,dM.refl w⟩
        have ds:(Builtin.copy_ #[t,u] o.type #[a.eval x,a.eval y]).run C.P w=.ok (.int .i64 ((min (df - a1) br.length:Nat))) w':=by
         simp  [Builtin.copy_,en aJ,vi,Ax,Builtin.lenOf,tO i1,i2];rw[YP,eB];simp  [ck];rfl
        refine h8 aw (pj w' _ ds) ⟨kap,F,bw.set (s:=s.cn b _) ?_ bh (hO.2 ⟨rfl,Zc _ (by omega) (by omega)⟩)⟩;refine D.qL   (by rw[U];simp[b8.cd,aA]) (by simp[b8.cd,aA]) hp (λh=>by cases h) (λh=>by cases h) n5 n6 oN λH po dk he=>?_;refine⟨λh=>(by grind),λ_=>⟨eo,h9,c8,?_,by omega,c4,?_⟩⟩
        ·have:eo.size=cs.size:=by
          rw[<-aPI,fB];simp;omega
         omega
        ·exact c5.hU he eC (by omega) (by omega) fB
      grind
     grind
    grind
   ·cases h
  ·cases h
 ·cases h
theorem Ze(ar:(cP C.aU T bs (be C.aU s.az) o).run s.aa=some ⟨True,False,.undef,[]⟩)(h:(cP C.aU T bs (be C.aU s.az) o).run s.aa=some res):cR C o s res:=by
 intro a w kap F Q _ _ hc;grind
end
end Go.Fer
namespace Go.Fer
open Go.RowKit
section
variable {C:cF} {T:Nat->V} {bs:Nat->Option aN} {o:Oper} {s:aC} {res:eA}
theorem aol{P:Program}{w:World}{len cap:Nat}{a1:Option Value}{l:Option Int}{k k':IntKind}{h m:Int}(ah:(a1=none/\l=none)\/∃ k m,a1=some (.int k m)/\l=some m)
  (E:0<=dA l) (L:dA l<=h) (ak:h<=m) (aZ:m<=(cap:Int)):(Instr.sliceBounds true len cap a1 (some (.int k h)) (some (.int k' m))).run P w=.ok ((dA l).toNat,h.toNat,m.toNat) w:=by
 rcases ah with⟨rfl,rfl⟩ | ⟨k,n,rfl,rfl⟩<;>simp  [dA]at E L ⊢
 ·have aB:0<=m/\m<=cap:=by omega
  have bt:0<=h/\h<=m:=by omega
  have cT:max m 0=m:=by omega
  simp[Instr.sliceBounds,Instr.sliceBound,asIntOf,aB,bt,cT]
 ·have aB:0<=m/\m<=cap:=by omega
  have bt:0<=h/\h<=m:=by omega
  have cT:max m 0=m:=by omega
  have bW:0<=n/\n<=h:=by omega
  have ek:max h 0=h:=by omega
  simp[Instr.sliceBounds,Instr.sliceBound,asIntOf,aB,bt,cT,bW,ek]
theorem aom(aT:ed C.P T){ty:TypeId}{x:Operand}{a1 G:Option Operand}{l6:Operand}(bh:∀ i,o.dst=some i->i<C.bV)(ar:o.op=.slice ty x a1 G (some l6))(h:(cP C.aU T bs (be C.aU s.az) o).run s.aa=some res):cR C o s res:=by
 simp  [cP,ar,J1]at h;split at h
 ·rename_i ol l sA df Af m bK Au sK;have aw:∀ c,o.op≠.defer c:=by grind
  split at h
  ·rename_i bL aG;have dC:=aT.cB aG (by simp);obtain⟨j,aJ,iB,oP⟩:=dC.sl;simp only[aE.fZ,amj]at h;obtain⟨⟨c,v⟩,jT,h⟩:=h;simp  [da,amk]at h;subst h;have runs:∀ (a:Act) (w:World) kap F,bw C s a w kap F->ol->sA->Af->∀ (q:Option Addr) (n cap:Nat),a.eval x=.slice q n cap->0<=dA l->dA l<=df->df<=m->m<=cap->
     (execOp a.eval o).run C.P w=.ok (.value (.slice (if m.toNat=(dA l).toNat then q else q.map (·.add ((dA l).toNat*bL.size))) (df.toNat - (dA l).toNat) (m.toNat - (dA l).toNat))) w:=by
    intro a w kap F D wX Ga aon q n cap ae bE c2 c3 c4;have cY:(a1.map a.eval=none/\l=none)\/∃ k m,a1.map a.eval=some (.int k m)/\l=some m:=by
     rcases As D bK wX with⟨rfl,rfl⟩ | ⟨y,k,m,rfl,rfl,e⟩<;>grind
    obtain⟨w7,aS,m2,rfl,bt,cT⟩:∃ y k n,G=some y/\df=n/\a.eval y=.int k n:=by
     rcases As D Au Ga with⟨_,h⟩ | ⟨y,k,m,rfl,h,e⟩<;>grind
    obtain⟨b4,bW⟩:∃ k,a.eval l6=.int k m:=by
     rcases As D sK aon with⟨h,_⟩ | ⟨y,k,m,E,L,e⟩<;>grind
    subst bt;have:=aol (P:=C.P) (w:=w) (len:=n) (k:=aS) (k':=b4) cY bE c2 c3 c4;simp[execOp,ar,ae,Instr.sliceAt,Instr.slice,en aJ,cT,bW,this,iB.size]
   unfold Yp at jT;split at jT
   ·rename_i e xs gm;simp only[aE.dy]at jT;split at jT
    ·obtain⟨rfl,rfl⟩:=jT;refine cR.pure aw bh λa w kap F D ba hc=>?_;have ao:bJ C.P s.aa kap F w (use (be C.aU s.az x)).2 (a.eval x):=db D x rfl ba.1;rw[gm]at ao;obtain⟨_,a',cap,aB,m1,m2,m3,m4⟩:=(eb rfl).1 ao;have aB:=(aPM aB).1;simp  [fU]at hc;obtain⟨bE,c2,c3,c4⟩:=hc;subst c3;have hlen:((xs.take df.toNat).drop (dA l).toNat).length=df.toNat - (dA l).toNat:=by
      grind
     refine⟨_,runs a w kap F D ba.2.1 ba.2.2.1 ba.2.2.2 a' xs.length cap aB bE c2 (aPL _) (by omega),(eb rfl).2 ⟨rfl,?_⟩,_,by rw[hlen]⟩;refine⟨_,_,by rw[hlen],by omega,by omega,?_,λp aj CJ=>?_⟩
     ·intro aA;split at aA
      ·omega
      ·cases a'<;>grind
     ·cases a' with
      | none=>grind
      | some q=>
       obtain⟨eB,eC,lf⟩:=m4 q rfl (by omega);have bq:p=⟨q.block,q.off+(dA l).toNat*e.size,none⟩:=by
        split at aj
        ·omega
        ·simp  at aj;rw[F_ eC]at aj;grind
       subst bq;refine⟨eB,rfl,λi G=>?_⟩;obtain⟨bB,d1,d2⟩:=lf ((dA l).toNat+i) (by omega);grind
    grind
   ·rename_i gm;obtain⟨rfl,rfl⟩:=jT;refine cR.pure aw bh λa w kap F D ba hc=>?_;have ao:bJ C.P s.aa kap F w (use (be C.aU s.az x)).2 (a.eval x):=db D x rfl ba.1;rw[gm]at ao;simp  [fU]at hc;have ds:=runs a w kap F D ba.2.1 ba.2.2.1 ba.2.2.2 none 0 0 ao (by omega) (by omega) (by omega) (by omega);have aV:df.toNat=0:=by omega
    have E:m.toNat=0:=by omega
    have L:(dA l).toNat=0:=by omega
    rw[aV,E,L]at ds;exact⟨_,ds,(eb rfl).2 ⟨rfl,none,0,rfl,amo _,by decide,λ_=>rfl,λp aj=>by simp⟩,none,rfl⟩
   ·rename_i b g gm;simp only[aE.gU,aE.dy]at jT;split at jT
    ·rename_i bA;simp  at bA;obtain⟨aD,ga⟩:=bA;obtain⟨rfl,rfl⟩:=jT;refine cR.pure aw bh λa w kap F D ba hc=>?_;have ao:bJ C.P s.aa kap F w (use (be C.aU s.az x)).2 (a.eval x):=db D x rfl ba.1;rw[gm]at ao;have ae:=ao.2 aD.symm ga;obtain⟨eB,eC⟩:=CT D ga;obtain⟨bE,c2,c3,c4⟩:=hc;cases aA:(kap b).fT with
     | true=>
      have aV:=eB aA;simp  [bI.slice,aA]at ae;exact⟨_,runs a w kap F D ba.2.1 ba.2.2.1 ba.2.2.2 none 0 0 ae bE c2 c3 (by omega),trivial⟩
     | false=>
      have wY:=PS D ga aA;simp  [bI.slice,aA,aPA]at ae;exact⟨_,runs a w kap F D ba.2.1 ba.2.2.1 ba.2.2.2 _ _ _ ae bE c2 c3 (by omega),trivial⟩
    grind
   ·cases jT
  ·cases h
 ·cases h
theorem aoo{b:Nat}{e:V}(U:(s.aa b).body=.bl e []):s.cn b ⟨(s.aa b).gen,.bl e []⟩=s:=by
 unfold aC.cn;have:(λi=>if i=b then (⟨(s.aa b).gen,.bl e []⟩) else s.aa i)=s.aa:=by
  funext i;by_cases G:i=b
  ·subst G;simp;rw[<-U]
  grind
 rw[this]
theorem aop(aT:ed C.P T){args:Array Operand}{dq:Array TypeId}(bh:∀ i,o.dst=some i->i<C.bV)(ar:o.op=.call { callee:=.builtin .append,args:=args,argTypes:=dq }){b g a1 G:Nat}(ay:Ah (be C.aU s.az) args.toList=some (b,g,a1,G))
  (h:(FW T (be C.aU s.az) args.toList dq.toList b g a1 G).run s.aa=some res):cR C o s res:=by
 obtain⟨args⟩:=args;obtain⟨dq⟩:=dq;have aw:∀ c,o.op≠.defer c:=by grind
 simp  [FW]at h;split at h
 ·rename_i x y t u;have gm:(use (be C.aU s.az x)).2=.sub b g a1 G:=by
   simp  [Ah]at ay;grind
  split at h
  ·rename_i e bt aG hu;have dC:=aT.cB aG (by simp);have F9:=aT.cB hu (by simp);obtain⟨l9,aJ,iB,oP⟩:=dC.sl;obtain⟨anW,gD,_⟩:=F9.sl;obtain⟨inf,z,i1,i2,i3,i4,i5,i6⟩:=nq iB.np;have ki:=aQZ oP;simp only[aE.fZ,amj,aE.gU,aE.dy]at h;obtain⟨⟨br,l⟩,l7,h⟩:=h;split at h
   ·rename_i aD;split at h
    ·rename_i aY xs U;split at h
     ·rename_i t';subst t';simp  at h;subst h;intro a w kap F Q D ba hc;obtain⟨q',ys,Ax,rE⟩:=Av D l7 (db D y rfl ba.2);have ao:bJ C.P s.aa kap F w (use (be C.aU s.az x)).2 (a.eval x):=db D x rfl ba.1;rw[gm]at ao;have aX:=D.bC b;unfold c7 at aX;rw[U]at aX;obtain⟨⟨aM,aS⟩,b4⟩:=ao.2 aD.symm (by rw[U];rfl);rw[U]at aS b4;simp  [b8.gJ]at aS b4;have pj:∀ (w':World) v,(Builtin.append_ #[t,u] o.type #[a.eval x,a.eval y]).run C.P w=.ok v w'->(execOp a.eval o).run C.P w=.ok (.value v) w':=by
       intro w' v ae;refine sF ar ?_;simp[builtin,ae]
      have Gk:(hU xs G br).length=xs.length:=by simp[hU];omega
      have hp:fL s.aa kap (λi=>if i=b then (⟨(s.aa b).gen,.bl aY (hU xs G br)⟩) else s.aa i) kap:=
       pf rfl (λh=>by cases h) (λ_=>by rw[U];exact⟨rfl,Gk,rfl⟩) (λh=>by cases h) (λh=>by cases h)
      rcases b4 with⟨aA,ae⟩ | ⟨aA,pq,ae,jQ,gV⟩
      ·have kh:=aX.1 aA;subst kh;have sL:G=0:=by grind
       subst sL;have aoq:a1=0:=by omega
       subst aoq;have Qa:br=[]:=by grind
       subst Qa;obtain⟨fr,eB,eC⟩:=P5       rfl rE;have ds:(Builtin.append_ #[t,u] o.type #[a.eval x,a.eval y]).run C.P w=.ok (.slice none 0 0) w:=by
        rw[ae,Ax];simp[Builtin.append_,en aJ,en gD,tO i1,Builtin.lenOf];simp_all
       have bL:hU ([]:List aY.al) 0 []=[]:=by rfl
       refine h8 aw (pj w _ ds) ⟨kap,F,bw.set (s:=s.cn b _) ?_ bh ⟨⟨by simp[aC.cn,aD],rfl⟩,λ_ _=>⟨by simp,.inl ⟨aA,rfl⟩⟩⟩⟩;rw[bL,aoo U];omega
      ·obtain⟨cs,h9,bE,c2,c3,c4,c5⟩:=aX.2 aA;obtain⟨fr,eB,eC⟩:=P5       rfl rE;have qS:=eC.1;have qb:=eC.one ki;have Zd:xs.length*aY.size<=(kap b).cap*aY.size:=amt _ c3;have Gl:(G+br.length)*aY.size<=xs.length*aY.size:=amt _ hc;rw[aP']at Gl;obtain⟨w',eo,ck,c8,fB,n5,n6,oN⟩:∃ w' eo,(storeCells ⟨(kap b).aa,pq+(G - a1)*aY.size,none⟩ fr).run C.P w=.ok () w'/\w'.heap[(kap b).aa]?=some (.cells eo h9 (0,0))/\eo.toList=cs.toList.take ((kap b).off+G*aY.size)++(fr++cs.toList.drop ((kap b).off+G*aY.size+fr.length))/\
         (∀ r,r≠(kap b).aa->w'.heap[r]?=w.heap[r]?)/\w'.heap.size=w.heap.size/\dM w w':=by
        by_cases dk:a1<(kap b).cap
        ·have C2:pq+(G - a1)*aY.size=(kap b).off+G*aY.size:=by
          rw[gV dk,Nat.add_assoc,<-aP'];grind
         obtain⟨w',eo,ck,c8,fB,n5,n6,oN⟩:=yp (P:=C.P) fr ((kap b).off+G*aY.size) 0 w cs bE (by omega) qb;grind
        ·have aV:br.length=0:=by omega
         rw[aV,Nat.zero_mul]at qS;have:=aPU qS;subst this;exact⟨w,cs,by rfl,bE,by simp,λ_ _=>rfl,rfl,dM.refl w⟩
       have Gg:G - a1+br.length<=(kap b).cap - a1:=by omega
       have ds:(Builtin.append_ #[t,u] o.type #[a.eval x,a.eval y]).run C.P w=.ok (.slice (some ⟨(kap b).aa,pq,none⟩) (G - a1+br.length) ((kap b).cap - a1)) w':=by
        rw[ae,Ax];simp only[Builtin.append_,aQr,aQv,aQw,Sem.run_bind,en aJ,en gD,Result.andThen_ok,tO i1,Sem.run_pure,Builtin.lenOf,aml,aPA,tS];simp_all
       refine h8 aw (pj w' _ ds) ⟨kap,F,bw.set (s:=s.cn b _) ?_ bh ⟨⟨by simp[aC.cn,aD],rfl⟩,λ_ _=>⟨by simp  [aC.cn,b8.len];omega,.inr ⟨aA,pq,?_,?_,?_⟩⟩⟩⟩
       ·refine D.qL   (by rw[U];simp[b8.cd,aA]) (by simp[b8.cd,aA]) hp (λh=>by cases h) (λh=>by cases h) n5 n6 oN λH po dk he=>?_;refine⟨λh=>(by grind),λ_=>⟨eo,h9,c8,?_,by omega,c4,?_⟩⟩
        ·have:eo.size=cs.size:=by
          rw[<-aPI];grind
         omega
        ·exact c5.hU he eC hc (by omega) fB
       ·grind
       ·simp  [aC.cn,b8.gJ];omega
       ·simp  [aC.cn,b8.gJ];omega
     grind
    grind
   grind
  ·cases h
 ·cases h
theorem aor(aT:ed C.P T){args:Array Operand}{dq:Array TypeId}(bh:∀ i,o.dst=some i->i<C.bV)(ar:o.op=.call { callee:=.builtin .clear,args:=args,argTypes:=dq })
  (h:(FX T (be C.aU s.az) args.toList dq.toList).run s.aa=some res):cR C o s res:=by
 obtain⟨args⟩:=args;obtain⟨dq⟩:=dq;have aw:∀ c,o.op≠.defer c:=by grind
 simp  [FX]at h;split at h
 ·rename_i x t;split at h
  ·rename_i e aG;have dC:=aT.cB aG (by simp);obtain⟨l9,aJ,iB,oP⟩:=dC.sl;obtain⟨inf,z,i1,i2,i3,i4,i5,i6⟩:=nq iB.np;have ki:=aQZ oP;split at h
   ·rename_i b g a1 G gm;simp only[aE.gU,aE.dy]at h;split at h
    ·rename_i aD;split at h
     ·rename_i aY xs U;split at h
      ·rename_i t';subst t';simp  at h;subst h;intro a w kap F Q D ba _;have ao:bJ C.P s.aa kap F w (use (be C.aU s.az x)).2 (a.eval x):=db D x rfl ba;rw[gm]at ao;have aX:=D.bC b;unfold c7 at aX;rw[U]at aX;obtain⟨⟨aM,aS⟩,b4⟩:=ao.2 aD.symm (by rw[U];rfl);rw[U]at aS b4;simp  [b8.len,b8.gJ]at aS b4;have pj:∀ (w':World) v,(Builtin.clear_ #[t] o.type #[a.eval x]).run C.P w=.ok v w'->(execOp a.eval o).run C.P w=.ok (.value v) w':=by
        intro w' v ae;refine sF ar ?_;simp[builtin,ae]
       have eD:(List.replicate (G - a1) aY.dU).length=G - a1:=by simp
       have Gk:(hU xs a1 (List.replicate (G - a1) aY.dU)).length=xs.length:=by simp[hU];omega
       have hp:fL s.aa kap (λi=>if i=b then (⟨(s.aa b).gen,.bl aY (hU xs a1 (List.replicate (G - a1) aY.dU))⟩) else s.aa i) kap:=
        pf rfl (λh=>by cases h) (λ_=>by rw[U];exact⟨rfl,Gk,rfl⟩) (λh=>by cases h) (λh=>by cases h)
       have nothing:G - a1=0->hU xs a1 (List.replicate (G - a1) aY.dU)=xs:=λaV=>by rw[aV];simp[hU]
       have ix:G - a1=0->s.cn b ⟨(s.aa b).gen,.bl aY (hU xs a1 (List.replicate (G - a1) aY.dU))⟩=s:=λaV=>by
        rw[nothing aV];unfold aC.cn;have:(λi=>if i=b then (⟨(s.aa b).gen,.bl aY xs⟩) else s.aa i)=s.aa:=by
         funext i;by_cases G:i=b
         ·subst G;simp;rw[<-U]
         grind
        rw[this]
       rcases b4 with⟨aA,ae⟩ | ⟨aA,pq,ae,jQ,gV⟩
       ·have kh:=aX.1 aA;have ds:(Builtin.clear_ #[t] o.type #[a.eval x]).run C.P w=.ok (.tuple #[]) w:=by
         rw[ae];simp[Builtin.clear_,en aJ]
        refine h8 aw (pj w _ ds) ⟨kap,F,bw.set (s:=s.cn b _) ?_ bh trivial⟩;grind
       ·obtain⟨cs,h9,bE,c2,c3,c4,c5⟩:=aX.2 aA;by_cases aV:G - a1=0
        ·have ds:(Builtin.clear_ #[t] o.type #[a.eval x]).run C.P w=.ok (.tuple #[]) w:=by
          rw[ae,aV];simp[Builtin.clear_,en aJ]
         refine h8 aw (pj w _ ds) ⟨kap,F,bw.set (s:=s.cn b _) ?_ bh trivial⟩;grind
        ·have hR:hY C.P aY F w ((Array.range ((G - a1)*aY.size)).map (λi=>z.cells[i % z.cells.size]!)).toList (List.replicate (G - a1) aY.dU):=Za i5 _;have w6:z.cells.size=aY.size:=by
          obtain⟨c,yv,iy,z2⟩:=yl (P:=C.P) (H:=λ_=>⟨0,.ey⟩) (kap:=λ_=>⟨0,0,0,true⟩) (F:=F) (w:=w) aY i5;rw[aPN]at yv;rw[<-aPI,yv];exact jP aY iy
         have qS:=hR.1;rw[eD]at qS;have qb:=hR.one ki;revert hR qS qb;generalize l_:((Array.range ((G - a1)*aY.size)).map (λi=>z.cells[i % z.cells.size]!)).toList=fr;intro hR qS qb;have Zd:xs.length*aY.size<=(kap b).cap*aY.size:=amt _ c3;have Gl:(a1+(G - a1))*aY.size<=xs.length*aY.size:=amt _ (by omega);rw[aP']at Gl;have C2:=gV (by omega);obtain⟨w',eo,ck,c8,fB,n5,n6,oN⟩:=yp (P:=C.P) fr ((kap b).off+a1*aY.size) 0 w cs bE (by omega) qb;have ds:(Builtin.clear_ #[t] o.type #[a.eval x]).run C.P w=.ok (.tuple #[]) w':=by
          rw[ae];have bA:(Builtin.zeroCells z.cells (G - a1)).toList=fr:=by rw[<-l_,<-w6];rfl
          simp  [Builtin.clear_,en aJ,sD i1 i4];simp_all
         refine h8 aw (pj w' _ ds) ⟨kap,F,bw.set (s:=s.cn b _) ?_ bh trivial⟩;refine D.qL   (by rw[U];simp[b8.cd,aA]) (by simp[b8.cd,aA]) hp (λh=>by cases h) (λh=>by cases h) n5 n6 oN λH po dk he=>?_;refine⟨λh=>(by grind),λ_=>⟨eo,h9,c8,?_,by omega,c4,?_⟩⟩
         ·have:eo.size=cs.size:=by
           rw[<-aPI];grind
          omega
         ·exact c5.hU he hR (by omega) (by omega) (by omega)
      grind
     grind
    grind
   ·cases h
  ·cases h
 ·cases h
end
end Go.Fer
namespace Go.Fer
open Go.RowKit
section
variable {C:cF} {T:Nat->V} {bs:Nat->Option aN} {o:Oper} {s:aC} {res:eA}
theorem Qp{place:Nat->Option (z24')}{size:Nat}(aj:∀ i,place i=some (i*size,size)):∀ (iz:List (Nat×Value)) (cs:Array Value),(∀ q∈iz,q.2.cells.size=size/\q.1*size+size<=cs.size)->(iz.map (·.1)).Nodup->
  ∃ eo,Instr.fill place cs iz=some eo/\eo.size=cs.size/\∀ i,i*size+size<=cs.size->(eo.toList.drop (i*size)).take size=(match iz.find? (λp=>p.1 == i) with | some q=>q.2.cells.toList | none=>(cs.toList.drop (i*size)).take size)
 | [],cs,_,_=>⟨cs,rfl,rfl,λi _=>rfl⟩
 | (k,v)::iz,cs,h,aA=>by
  obtain⟨E,L⟩:=h (k,v) (by simp);have Ke:=Kb v.cells.toList 0 (k*size) cs (by grind);have e:(v.cells.zipIdx.foldl (λcs p=>cs.setIfInBounds (k*size+p.2) p.1) cs)=((v.cells.toList.zipIdx 0).foldl (λcs p=>cs.setIfInBounds (k*size+p.2) p.1) cs):=by
   rw[<-Array.foldl_toList];simp
  generalize aLt:(v.cells.zipIdx.foldl (λcs p=>cs.setIfInBounds (k*size+p.2) p.1) cs)=Ku at *
  have Gm:Ku.toList=cs.toList.take (k*size)++(v.cells.toList++cs.toList.drop (k*size+size)):=by
   grind
  have cI:Ku.size=cs.size:=by
   rw[<-aPI];grind
  have sM:(iz.map (·.1)).Nodup/\k ∉ iz.map (·.1):=by
   grind
  obtain⟨eo,aM,aS,b4⟩:=Qp aj iz Ku (λq bq=>by grind) sM.1;refine⟨eo,?_,by omega,λi G=>?_⟩
  ·simp  [Instr.fill,aj];grind
  ·by_cases pr:k=i
   ·grind
   ·have hR:(Ku.toList.drop (i*size)).take size=(cs.toList.drop (i*size)).take size:=by
     apply aQ1;intro j;simp only[aQM,aQz];split
     ·rw[Gm];have mx:(List.take (k*size) cs.toList).length=k*size:=by grind
      have Ap:v.cells.toList.length=size:=by omega
      rcases aQD i k with ak | ak
      ·have:(i+1)*size<=k*size:=amt _ (by omega);grind
      ·have:(k+1)*size<=i*size:=amt _ (by omega);rw[aP']at this;rw[amu (by omega),amu (by omega),aQz];congr 1;omega
     ·rfl
    grind
theorem aos(aT:ed C.P T){ty n:Nat}{bu:Array (Nat×Operand)}(bh:∀ i,o.dst=some i->i<C.bV)(ar:o.op=.buildSlice ty n bu)(h:(cP C.aU T bs (be C.aU s.az) o).run s.aa=some res):cR C o s res:=by
 obtain⟨bu⟩:=bu;have aw:∀ c,o.op≠.defer c:=by grind
 simp  [cP,ar]at h;split at h
 ·rename_i e aG;have dC:=aT.cB aG (by simp);obtain⟨l9,aJ,iB,oP⟩:=dC.sl;obtain⟨inf,z,i1,i2,i3,i4,i5,i6⟩:=nq iB.np;simp only[aE.fZ,amj,aE.run_bind]at h;obtain⟨⟨xs,b9⟩,kh,h⟩:=h;obtain⟨b,aLu,an⟩:=tR h;split at an
  ·rename_i Gn;obtain⟨aLv,Zf⟩:=Gn;simp only[amn,amq]at Zf;obtain⟨⟨gX,Gi⟩,Qq⟩:=Zf;have CY:b ∉ b9:=by grind
   simp  at an;subst an;intro a w kap F Q D ba _;obtain⟨F',f1,bj,f2⟩:=bw.mR (an3 n 0 kh) D;obtain⟨Qr,aot,iy,z2⟩:=yl   (H:=s.aa) (kap:=kap)     e i5;have Qs:=PY D bu ba;have mz:=Y4 D.bC f1 iy     (by simp[lA]) Qs n 0 kh f2;have w6:=(F6 e (P:=C.P) i5).2;have Qt:∀ p∈bu,p.1<n:=by
    intro p aj;have:=List.all_eq_true.1 Qq (p.1,(use (be C.aU s.az p.2)).2) (by simp  [lA,aQ5];grind);grind
   have Qu:((bu.map λp=>(p.1,a.eval p.2)).map (·.1)).Nodup:=by
    have:(lA (bu.map λp=>(p.1,be C.aU s.az p.2))).map (·.1)=(bu.map λp=>(p.1,a.eval p.2)).map (·.1):=by simp[lA]
    grind
   have Kv:∀ q∈bu.map (λp=>(p.1,a.eval p.2)),q.2.cells.size=e.size/\q.1*e.size+e.size<=n*e.size:=by
    intro q bq;obtain⟨p,aj,rfl⟩:=List.mem_map.1 bq;have dk:=Qt p aj;refine⟨?_,by
     have:(p.1+1)*e.size<=n*e.size:=amt _ (by omega);grind⟩
    obtain⟨bB,d1,d2⟩:=mz.2 p.1 (by omega);have Gp:(bu.map λp=>(p.1,a.eval p.2)).find? (λr=>r.1 == p.1)=some (p.1,a.eval p.2):=by
     have aou:∀ (l:List (Nat×Value)),(l.map (·.1)).Nodup->∀ q∈l,l.find? (λr=>r.1 == q.1)=some q:=by
      intro l;induction l<;>grind
     grind
    have:=jP e d1;grind
   let base:=(Array.range (n*e.size)).map (λi=>z.cells[i % z.cells.size]!);have aLw:base.size=n*e.size:=by grind
   obtain⟨eo,aM,aS,b4⟩:=Qp (place:=λi=>some (i*e.size,e.size)) (λi=>rfl) (bu.map λp=>(p.1,a.eval p.2)) base (by grind) Qu;have aLx:∀ i,i<n->(base.toList.drop (i*e.size)).take e.size=z.cells.toList:=by
    intro i G;have hle:(i+1)*e.size<=n*e.size:=amt _ (by omega);apply aQ1;intro j;simp  [aQM];split
    ·rename_i aJ;have yt:(i*e.size+j) % z.cells.size=j:=by rw[w6,Nat.add_comm,Nat.add_mul_mod_self_right,Nat.mod_eq_of_lt aJ]
     grind
    grind
   have aov:hY C.P e F' w eo.toList xs:=by
    refine⟨by grind,λi G=>?_⟩;have hle:(i+1)*e.size<=n*e.size:=amt _ (by omega);grind
   have ds:(execOp a.eval o).run C.P w=.ok (.value (.slice (some ⟨w.heap.size,0,none⟩) n n)) (w.alloc (.cells eo l9)):=by
    have aow:¬n*e.size > 2 ^ 24:=by omega
    simp only[execOp,ar,Instr.buildSlice,Sem.run_bind,en aJ,Result.andThen_ok,tO i1,i2,aow,aPA];by_cases yw:n*e.size=0
    ·have vm:base=#[]:=Array.eq_empty_of_size_eq_zero (by omega);rw[vm]at aM;simp only[yw,if_true,Sem.run_bind,Sem.run_pure,Result.andThen_ok];rw[show ((Array.range 0).map (λi=>(#[])[i % (#[]).size]!))=#[] from by simp];simp  at aM ⊢;rw[aM];rfl
    ·simp only[yw,aPA,Sem.run_bind,sD i1 i4,Sem.run_pure];simp;rw[aM];rfl
   have tY:s.iw ((ke b9).run s.aa++[(b,⟨(s.aa b).gen+1,.bl e xs⟩)])=(s.cC b9).cn b ⟨(s.aa b).gen+1,.bl e xs⟩:=by
    rw[CV,tV]
   have sI:(s.cC b9).aa b=s.aa b:=by simp[aC.cC,CY]
   have ak:=bj.Ge (b:=b) (g:=(s.aa b).gen+1)   (k:=⟨w.heap.size,0,n,false⟩)   (by grind) (.inr rfl) (by simp) (λr D=>rz w _ D) (λ_=>by simp) ⟨rfl,rfl,rfl⟩
    (λH bR=>⟨λh=>(by grind),λ_=>⟨eo,l9,tN w _,by grind,by grind,by
     have:n<=n*e.size:=Nat.le_mul_of_pos_right _ (aQZ oP);exact⟨by grind,iB.J'⟩,(aov.Gb (pre:=[]) (post:=[]) (by simp)).later (di.alloc bj.dr _)⟩⟩)
   refine h8 aw ds ?_;simp  [aC.jE];rw[tY];exact⟨_,F',bw.set ak bh ⟨⟨by simp[aC.cn],rfl⟩,λ_ _=>by simp[aC.cn,bI.slice,b8.len,mz.1]⟩⟩
  grind
 ·cases h
theorem Zg(qf:Nat):∀ (m:Nat) (l:List Value),l.length=m*qf->((List.range m).map λi=>(l.drop (i*qf)).take qf).flatten=l
 | 0,l,h=>by
  grind
 | m+1,l,h=>by
  have aO:=Zg qf m (l.take (m*qf)) (by grind);rw[aQ',aPZ];have e:((List.range m).map λi=>(l.drop (i*qf)).take qf)=((List.range m).map λi=>((l.take (m*qf)).drop (i*qf)).take qf):=by
   refine aPF λi G=>?_;have hle:(i+1)*qf<=m*qf:=amt _ (by grind);rw[aP']at hle;rw[List.drop_take,List.take_take,aQ8 (by omega)]
  rw[e];have:(l.drop (m*qf)).take qf=l.drop (m*qf):=aQH (by grind);simp_all
theorem aox(aT:ed C.P T){ty m:Nat}{e:V}{bu:Array (Nat×Operand)}(bh:∀ i,o.dst=some i->i<C.bV)(ar:o.op=.build ty bu)(aG:T ty=.array m e)
  (h:((wV e (lA (bu.toList.map λp=>(p.1,be C.aU s.az p.2))) 0 m).eG λ(xs,b9)=>if (b9.isEmpty&&decide ((lA (bu.toList.map λp=>(p.1,be C.aU s.az p.2))).map (·.1)).Nodup&&(lA (bu.toList.map λp=>(p.1,be C.aU s.az p.2))).all (λp=>decide (p.1<m)))=true then da (ym (bu.toList.map λp=>(p.1,be C.aU s.az p.2))) True (.val (.array m e) xs) else .none).run s.aa=some res):cR C o s res:=by
 obtain⟨bu⟩:=bu;simp only[aE.fZ,amj]at h;obtain⟨⟨xs,b9⟩,kh,h⟩:=h;have dC:=aT.cB aG (by simp);obtain⟨l9,aJ,iB,oP⟩:=dC.bl;obtain⟨i,z,E,L,ak,aZ,bP,ej⟩:=nq dC.np;split at h
 ·rename_i hc;simp only[amn,amq,List.isEmpty_iff,aP4]at hc;obtain⟨⟨rfl,Gi⟩,Qq⟩:=hc;simp  [da,amk]at h;subst h;refine cR.pure (by grind) bh λa w kap F D ba _=>?_;obtain⟨Qr,aot,iy,z2⟩:=yl (P:=C.P) (H:=s.aa) (kap:=kap) (F:=F) (w:=w) (.array m e) bP;have w6:=(F6 (.array m e) (P:=C.P) bP).2;have aLy:z.cells.size=m*e.size:=w6;have Qs:=PY D bu ba;have mz:=λzero (bA:cp C.P e F w zero e.dU)=>Y4 D.bC (λ_ h=>h) bA     (by simp[lA]) Qs m 0 kh (λ_ h=>by grind);have Qt:∀ p∈bu,p.1<m:=by
   intro p aj;exact Qq (p.1,(use (be C.aU s.az p.2)).2) (by simp  [lA,aQ5];grind)
  have Qu:((bu.map λp=>(p.1,a.eval p.2)).map (·.1)).Nodup:=by
   have:(lA (bu.map λp=>(p.1,be C.aU s.az p.2))).map (·.1)=(bu.map λp=>(p.1,a.eval p.2)).map (·.1):=by simp[lA]
   grind
  have hR:∀ i,i<m->cp C.P e F w ((z.cells.toList.drop (i*e.size)).take e.size) e.dU:=by
   intro i G;have aoy:cp C.P (.array m e) F w z.cells.toList (V.array m e).dU:=by grind
   obtain⟨p,c,q,aM,aS,b4⟩:=PR aoy G;have ah:=jP e b4;have:(V.dU (.array m e)).getD i e.dU=e.dU:=by
    show (List.replicate m e.dU).getD i e.dU=e.dU;grind
   grind
  have Zh:xs.length=m:=by
   rcases Nat.eq_zero_or_pos m with aV | aV
   ·subst aV;simp  [wV,aPD]at kh;grind
   grind
  have Kv:∀ q∈bu.map (λp=>(p.1,a.eval p.2)),q.2.cells.size=e.size/\q.1*e.size+e.size<=z.cells.size:=by
   intro q bq;obtain⟨p,aj,rfl⟩:=List.mem_map.1 bq;have dk:=Qt p aj;refine⟨?_,by
    have:(p.1+1)*e.size<=m*e.size:=amt _ (by omega);grind⟩
   obtain⟨bB,d1,d2⟩:=(mz _ (hR p.1 dk)).2 p.1 (by omega);have Gp:(bu.map λp=>(p.1,a.eval p.2)).find? (λr=>r.1 == p.1)=some (p.1,a.eval p.2):=by
    have aou:∀ (l:List (Nat×Value)),(l.map (·.1)).Nodup->∀ q∈l,l.find? (λr=>r.1 == q.1)=some q:=by
     intro l;induction l<;>grind
    grind
   have:=jP e d1;grind
  obtain⟨eo,aM,aS,b4⟩:=Qp   (λi=>rfl) (bu.map λp=>(p.1,a.eval p.2)) z.cells Kv Qu;refine⟨.agg eo,?_,⟨eo,rfl,by omega⟩,?_⟩
  ·simp  [execOp,ar,Instr.build,sD E aZ,en aJ,iB.size];simp_all
  ·refine⟨(List.range m).map λi=>(eo.toList.drop (i*e.size)).take e.size,(Zg e.size m eo.toList (by grind)).symm,by simp,Zh,λi G dR=>?_⟩;have hle:(i+1)*e.size<=m*e.size:=amt _ (by omega);grind
 ·cases h
theorem gv.mono{P:Program}{t:V}{F F':Nat->Prop}{w w':World}{aH:List Value}{x:t.al}(h:gv P t F w aH x)(bm:∀ r,F r->F' r)(he:di F w w'):gv P t F' w' aH x:=⟨h.1,fK t bm he h.2⟩
variable {k:FuncId}{dQ:List Operand}
theorem aoz(bh:∀ i,o.dst=some i->i<C.bV)(ar:o.op=.makeFunc (.func k) #[] ⟨dQ⟩){v:JR}(ae:C.aU.tL k=some v)
  (h:((kd (hV (v.cs.map .bM)) ((dQ.map (be C.aU s.az)).map λv=>(use v).2)).eG λ(y,b9)=>(ke b9).bind λwl=>.ret (some ⟨kg (dQ.map (be C.aU s.az)),True,.val (.fn (hV v.as) v.aR) (λx=>v.sh (JQ v.as (v.cs.map .bM) x y)),wl⟩):aE (Option eA)).run s.aa=some res):cR C o s res:=by
 simp only[aE.fZ,amj,aE.run_bind,aE.dy,amk]at h;obtain⟨⟨y,l⟩,a_,rfl⟩:=h;intro a w kap F Q D ba _;obtain⟨F',f1,bj,f2⟩:=bw.mR (rF _ a_) D;have fA:gv C.P (hV (v.cs.map .bM)) F' w (dQ.map a.eval) y:=by
  refine w2 D.bC f1 _ a_ f2 (by simp) λi G dR=>?_;simp;have dH:i<dQ.length:=by grind
  have E:=tU ba i (by grind);have aB:(dQ.map (be C.aU s.az)).getD i .undef=be C.aU s.az dQ[i]:=by grind
  rw[aB]at E;exact qN (lD D dQ[i]) E
 obtain⟨ay,AD⟩:=D.j2.tL k v ae;have ds:(execOp a.eval o).run C.P w=.ok (.value (.func (.func k) #[] (dQ.map a.eval).toArray)) w:=by simp[execOp,ar,Instr.makeFunc]
 refine h8 (by grind) ds ⟨kap,F',?_⟩;simp  [aC.jE];rw[tV];refine bw.set bj bh ((eb rfl).2 ⟨rfl,_,rfl,⟨rfl,rfl⟩,λfV dL w8 AE ps AF args x E L ak=>⟨k,_,rfl,AD.enter,?_⟩⟩);have aJ:=X9 v.as (v.cs.map .bM) ay       ⟨E,L⟩ (fA.mono w8 AE);have:=AD.ik fV dL _ _ ps AF aJ ak;have e:(args++dQ.map a.eval).toArray=args.toArray++(dQ.map a.eval).toArray:=by simp
 rw[e]at this;exact this.mono λe wO ⟨v,y,aB,bt,⟨aH,cT,bW,ek⟩,l1⟩=>⟨v,y,aH,aB,bt,cT,bW,ek,l1⟩
theorem aoA(bh:∀ i,o.dst=some i->i<C.bV)(ar:o.op=.makeFunc (.func k) #[] ⟨dQ⟩){v:z7}(ae:C.aU.z8 k=some v)
  (h:((kd (hV (v.cs.map .bM)) ((dQ.map (be C.aU s.az)).map λv=>(use v).2)).eG λ(y,b9)=>(ke b9).bind λwl=>.ret (some ⟨kg (dQ.map (be C.aU s.az)),True,.val (.cE v.aI) (v.S y),wl⟩):aE (Option eA)).run s.aa=some res):cR C o s res:=by
 simp only[aE.fZ,amj,aE.run_bind,aE.dy,amk]at h;obtain⟨⟨y,l⟩,a_,rfl⟩:=h;intro a w kap F Q D ba _;obtain⟨F',f1,bj,f2⟩:=bw.mR (rF _ a_) D;have fA:gv C.P (hV (v.cs.map .bM)) F' w (dQ.map a.eval) y:=by
  refine w2 D.bC f1 _ a_ f2 (by simp) λi G dR=>?_;simp;have dH:i<dQ.length:=by grind
  have E:=tU ba i (by grind);have aB:(dQ.map (be C.aU s.az)).getD i .undef=be C.aU s.az dQ[i]:=by grind
  rw[aB]at E;exact qN (lD D dQ[i]) E
 have AD:=D.j2.z8 k v ae;have ds:(execOp a.eval o).run C.P w=.ok (.value (.func (.func k) #[] (dQ.map a.eval).toArray)) w:=by simp[execOp,ar,Instr.makeFunc]
 refine h8 (by grind) ds ⟨kap,F',?_⟩;simp  [aC.jE];rw[tV];refine bw.set bj bh ((eb rfl).2 ⟨rfl,_,rfl,⟨rfl,rfl⟩,λfV dL w8 AE ps AF eM=>⟨k,_,rfl,AD.enter,λl I Y jk jU fw=>?_⟩⟩);exact AD.ik fV dL _ _ ps AF (fA.mono w8 AE) eM l I Y jk jU fw
variable {dQ:Array Operand}
theorem aoB(bh:∀ i,o.dst=some i->i<C.bV)(ar:o.op=.makeFunc (.func k) #[] dQ)(h:(cP C.aU T bs (be C.aU s.az) o).run s.aa=some res):cR C o s res:=by
 obtain⟨dQ⟩:=dQ;simp only[cP,ar,Array.isEmpty_empty,if_true]at h;split at h;case h_1 v ae=>exact aoz bh ar ae h
 split at h;case h_1 v ae=>exact aoA bh ar ae h
 simp only[da,aE.dy,amk]at h;subst h;refine cR.pure (by grind) bh λa w kap F D ba _=>?_;refine⟨.func (.func k) #[] (dQ.map a.eval).toArray,by simp[execOp,ar,Instr.makeFunc],dQ.map a.eval,rfl,by simp,λi G=>?_⟩;have dR:i<dQ.length:=by grind
 have E:=tU ba i (by omega);have aB:(dQ.map (be C.aU s.az)).getD i .undef=be C.aU s.az dQ[i]:=by grind
 rw[aB]at E;have L:=qN (lD D dQ[i]) E;have cT:hX ((dQ.map (be C.aU s.az)).map λv=>(use v).2) i=(use (be C.aU s.az dQ[i])).2:=by simp[hX,dR]
 grind
theorem aoC{first:Array Operand}(bh:∀ i,o.dst=some i->i<C.bV)(ar:o.op=.makeFunc (.func k) first dQ)(ax:first.isEmpty=false)(h:(cP C.aU T bs (be C.aU s.az) o).run s.aa=some res):cR C o s res:=by
 obtain⟨first⟩:=first
 simp  [cP,ar,ax,aPA]at h;split at h
 ·have hc:dQ=#[]:=by grind
  subst hc;simp  [da,amk]at h;subst h;refine cR.pure (by grind) bh λa w kap F D ba _=>?_;refine⟨.func (.func k) (first.map a.eval).toArray #[],by simp[execOp,ar,Instr.makeFunc],first.map a.eval,rfl,by simp,λi G=>?_⟩;have dR:i<first.length:=by omega
  have E:=tU ba i (by grind);have aB:(first.map (be C.aU s.az)).getD i .undef=be C.aU s.az first[i]:=by grind
  rw[aB]at E;have L:=qN (lD D first[i]) E;have cT:hX ((first.map (be C.aU s.az)).map λv=>(use v).2) i=(use (be C.aU s.az first[i])).2:=by simp[hX,dR]
  grind
 ·cases h
def mU(o:Oper)(bV:Nat):Bool:=
 (match o.dst with | some d=>decide (d<bV) | none=>true)&&(match o.op with | .store _ _ _=>o.dst.isNone | .mapUpdate _ _ _ _=>o.dst.isNone | .insert _ _ _ _=>o.dst.isNone | _=>true)
theorem aoD(aT:ed C.P T)(dn:lE C.P bs)(aw:mU o C.bV=true)(h:(cP C.aU T bs (be C.aU s.az) o).run s.aa=some res):cR C o s res:=by
 simp  [mU]at aw;have bh:∀ i,o.dst=some i->i<C.bV:=λi G=>by
  grind
 cases ar:o.op with
 | move x=>exact am3 bh ar h
 | assign x=>exact am4 bh ar h
 | pick c a b=>exact am5 bh ar h
 | binOp op t x y dN=>exact ane aT bh ar h
 | unOp op t x=>exact am6 bh ar h
 | extract t i=>exact am7 bh ar h
 | nilCheck x=>exact am8 bh ar h
 | fieldAddr t x f=>exact am9 aT bh ar h
 | field t x f=>exact am_ aT bh ar h
 | load t x=>exact anf aT bh ar h
 | store t x y=>
  exact anz aT (by grind) ar h
 | alloc t=>
  by_cases aG:T t=.dh
  ·simp  [cP,ar]at h;obtain⟨_,_,an⟩:=tR h;grind
  ·exact anq aT bh ar h aG
 | box t x=>exact ans aT bh ar h
 | build t bu=>
  by_cases PZ:∀ m e,T t≠.array m e
  ·exact anw aT bh ar PZ h
  ·obtain⟨m,e,aG⟩:∃ m e,T t=.array m e:=by grind
   refine aox aT bh ar aG ?_;simpa only [cP,ar,aG]using h
 | buildSlice t n bu=>exact aos aT bh ar h
 | indexAddr t x i=>exact anD aT bh ar h
 | index t x i=>exact anh aT bh ar h
 | convert a b x=>exact anZ aT bh ar h
 | makeFunc fn first dQ=>
  cases fn with
  | func k=>
   by_cases ax:first=#[]
   ·subst ax;exact aoB bh ar h
   ·exact aoC bh ar (by grind) h
  | _=>simp[cP,ar,aE.none]at h
 | makeMap t r=>exact an8 bh ar h
 | lookup t m x ok=>exact an_ aT bh ar h
 | mapUpdate t m x y=>
  exact Ql aT (by grind) (.inl ar) h
 | insert t m x y=>
  exact Ql aT (by grind) (.inr ar) h
 | makeSlice t l c=>exact aod aT bh ar h
 | makeInterface t x=>exact Ze (by simp[cP,ar,da]) h
 | panic x=>exact Ze (by simp[cP,ar,da]) h
 | slice t x a1 G l6=>
  cases l6 with
  | none=>exact anF aT bh ar h
  | some m=>exact aom aT bh ar h
 | call c=>
  obtain⟨callee,args,dq⟩:=c;cases callee with
  | value f=>
   cases f with
   | func k=>exact an4 dn bh ar h
   | _=>simp[cP,ar,pg,aE.none]at h
  | invoke r m=>simp[cP,ar,pg,aE.none]at h
  | builtin b=>
   cases b with
   | len=>exact anl aT bh ar h
   | append=>
    cases ay:Ah (be C.aU s.az) args.toList with
    | none=>exact anV aT bh ar (by simpa [cP,ar,pg,ay]using h)
    | some p=>exact aop aT bh ar ay (by simpa [cP,ar,pg,ay]using h)
   | clear=>exact aor aT bh ar (by simpa [cP,ar,pg]using h)
   | copy=>exact aoi aT bh ar h
   | min=>exact YF (.inl ⟨rfl,rfl⟩) bh ar (by simpa [cP,ar,pg]using h)
   | max=>exact YF (.inr ⟨rfl,rfl⟩) bh ar (by simpa [cP,ar,pg]using h)
   | cap=>exact anm aT bh ar (by simpa [cP,ar,pg]using h)
   | _=>simp[cP,ar,pg,aE.none]at h
 | _=>simp[cP,ar,aE.none]at h
end
end Go.Fer
namespace Go.Fer
open Go.RowKit
def aE.er{af:Type}(p:af->Prop):aE af->Prop
 | .ret a=>p a
 | .fp _ k=>∀ x,(k x).er p
theorem Zi{rho:Operand->aL}{k:IntKind}:∀ (l:List Operand) {cy:Prop} {jD:z1'},(∀ x∈l,(use (rho x)).1)->p6 rho k l=some (cy,jD)->cy
 | [],_,_,_,h=>by cases h
 | [x],cy,jD,hu,h=>by
  simp  [p6]at h;grind
 | x::y::l,cy,jD,hu,h=>by
  simp  [p6]at h;split at h
  ·rename_i ah;split at h
   ·cases h;exact⟨hu x (by simp),Zi (y::l) (λz bA=>hu z (amr _ bA)) ah⟩
   grind
  grind
theorem aE.er.run{af:Type}{p:af->Prop}{m:aE af}(h:m.er p)(H:Nat->b7):p (m.run H):=by
 induction m with
 | ret a=>exact h
 | fp b k aO=>exact aO _ (h _)
theorem aE.er.bind{af bet:Type}{p:bet->Prop}{m:aE af}{f:af->aE bet}(h:∀ a,(f a).er p):(m.bind f).er p:=by
 induction m with
 | ret a=>exact h a
 | fp b k aO=>exact λx=>aO x
variable {af:Type}
def l'(p:af->Prop)(x:Option af):Prop:=∀ a,x=some a->p a
theorem aE.er.eG{af bet:Type}{p:bet->Prop}{m:aE (Option af)}{f:af->aE (Option bet)}(h:∀ a,(f a).er (l' p)):(m.eG f).er (l' p):=by
 refine aE.er.bind λa=>?_;cases a with
 | none=>intro a h;grind
 | some a=>grind
theorem aE.er.Zj{bet:Type}{q:af->Prop}{p:bet->Prop}{m:aE (Option af)}{f:af->aE (Option bet)}(hm:m.er (l' q))(h:∀ a,q a->(f a).er (l' p)):(m.eG f).er (l' p):=by
 induction m with
 | ret a=>
  cases a with
  | none=>intro b U;grind
  | some a=>exact h a (hm a rfl)
 | fp b k aO=>exact λx=>aO x (hm x)
theorem aE.er.ma{p:af->Prop}:(aE.none:aE (Option af)).er (l' p):=by intro a h;grind
theorem aE.er.uc{p:af->Prop}{a:af}(h:p a):(aE.ret (some a)).er (l' p):=by intro b U;grind
theorem aE.er.nil{p:af->Prop}:(aE.ret (Option.none:Option af)).er (l' p):=by intro b U;grind
theorem aE.er.da{p:eA->Prop}{cy c:Prop}{v:aL}(h:p ⟨cy,c,v,[]⟩):(da cy c v).er (l' p):=aE.er.uc h
theorem aE.er.n1{p:eA->Prop}{d:Option Nat}{k:Nat->Nat->Option eA}(h:∀ b g,l' p (k b g)):(n1 d k).er (l' p):=by
 unfold Go.Fer.n1;split
 ·exact .ma
 ·exact λx=>h _ _
def aL.C3:aL->Bool
 | .ku _ _=>true
 | _=>false
theorem Kw{a:aL}(h:a.C3=false):(use a).1:=by
 cases a<;>first | trivial | cases h
def ud(rho:Operand->aL)(o:Oper):Bool:=o.op.operands.toList.all λx=>!(rho x).C3
def aL.aoE:aL->Bool
 | .hk _ _=>false
 | .val (.map _ _) _=>false
 | _=>true
def C4(rho:Operand->aL)(b:Builtin)(args:List Operand):Bool:=
 match b with
 | .len=>match args with
  | [x]=>(use (rho x)).2.aoE
  | _=>false
 | .min=>true
 | .max=>true
 | _=>false
def aL.Zk:aL->Bool
 | .kQ ..=>true
 | _=>false
def qV(rho:Operand->aL)(o:Oper):Bool:=
 match o.op with
 | .move _ | .assign _ | .pick .. | .unOp .. | .extract .. | .fieldAddr .. | .field .. | .alloc .. | .box .. | .build .. | .buildSlice .. | .convert .. | .makeFunc .. | .makeMap .. | .lookup .. | .mapUpdate .. | .insert ..=>true
 | .load _ x=>!(use (rho x)).2.Zk
 | .store _ x _=>!(use (rho x)).2.Zk
 | .binOp op _ x _ _=>match op with
  | .quo | .rem | .shl | .shr=>false
  | .add=>(use (rho x)).2.n0.isSome
  | _=>true
 | .call c=>match c.callee with
  | .builtin b=>C4 rho b c.args.toList
  | _=>false
 | _=>false
variable {op:BinOp}{v:aL}
theorem aoF{k:IntKind}{a b:Int}{c:Prop}(h:CK op k a b=some (c,v))(E:op≠.quo)(L:op≠.rem):c:=by
 cases op<;>simp only[CK,reduceCtorEq]at h<;>first | (obtain⟨rfl,_⟩:=h;trivial) | contradiction
theorem aoG{a b:List UInt8}{c:Prop}(h:FN op a b=some (c,v))(E:op≠.add):c:=by
 cases op<;>simp only[FN,reduceCtorEq]at h<;>first | (obtain⟨rfl,_⟩:=h;trivial) | contradiction
theorem aoH{t:V}{x y:aL}:(FO op t x y).er (l' λr=>r.1):=by
 refine aE.er.eG λe=>?_;cases op<;>first | exact .uc trivial | exact .nil
section
variable {aP:dV} {T:Nat->V} {bs:Nat->Option aN} {rho:Operand->aL} {o:Oper}
variable {x:Operand}{y:Operand}{ty:TypeId}
theorem aoI{t:TypeId}(ar:o.op=.binOp op ty x y t)(hc:qV rho o=true):(cP aP T bs rho o).er (l' λr=>r.c):=by
 unfold cP;rw[ar];simp;simp  [qV,ar]at hc;split
 ·split
  ·grind
  ·grind
  ·split
   ·split
    ·rename_i c v G;refine .da (aoF G ?_ ?_)<;>(grind)
    ·exact .ma
   ·exact .ma
 ·split
  ·rename_i a b E L;split
   ·rename_i c v G;refine .da (aoG G ?_);intro e;subst e;generalize (use (rho x)).2=z at hc E;cases z<;>try (cases E;done)
    rename_i t d;cases t<;>first | (cases E;done) | (cases hc;done)
   ·exact .ma
  ·exact aE.er.Zj aoH λr D=>.da D
theorem Zl{p:eA->Prop}{m:Operand}(h:∀ wl,p ⟨(use (rho m)).1/\(use (rho x)).1/\(use (rho y)).1,True,.undef,wl⟩):(vc T rho ty m x y).er (l' p):=by
 unfold vc;split
 ·simp;split
  ·split
   ·refine aE.er.eG λ_=>aE.er.eG λ_=>aE.er.bind λ_=>λz=>?_;intro r D;split at D
    ·split at D
     ·simp  at D;grind
     grind
    grind
   ·exact .ma
  ·exact .ma
 ·exact .ma
theorem aoJ{m:Operand}:(vc T rho ty m x y).er (l' λr=>r.c):=Zl λ_=>trivial
theorem aoK(hc:qV rho o=true):(cP aP T bs rho o).er (l' λr=>r.c):=by
 cases ar:o.op with
 | binOp op ty x y t=>exact aoI ar hc
 | call c=>
  obtain⟨callee,args,dq⟩:=c;simp  [qV,ar]at hc;unfold cP;rw[ar];simp only[pg];cases callee with
  | builtin b=>
   cases b with
   | len=>
    simp  [FR];split
    ·simp  [C4]at hc;refine aE.er.Zj   ?_ λr D=>.da D;unfold JY;repeat' first | exact .ma | exact .uc trivial | split | (cases hc;done) | (intro z r D;grind) | simp_all
    ·exact .ma
   | min | max=>
    simp  [Ag];repeat' first | exact .da trivial | exact .ma | split
   | _=>simp[C4]at hc
  | _=>grind
 | _=>
  simp only[qV,ar]at hc;unfold cP;rw[ar];simp only[CN];repeat' first | exact .ma | exact .da trivial | exact .uc trivial | exact aoJ | refine aE.er.eG λ_=>?_ | refine aE.er.bind λ_=>?_ | refine .n1 λb g=>λr D=>by grind | split | (cases hc;done) | (intro z r D;grind) | simp_all
theorem Gq:∀ {l:List aL},(∀ v∈l,(use v).1)->kg l
 | [],_=>trivial
 | v::l,h=>by
  have E:=h v (by simp);have L:=Gq (l:=l) λu hu=>h u (by grind);cases v<;>first | exact L | exact⟨E,L⟩
theorem Zm:∀ {l:List (Nat×aL)},(∀ v∈l,(use v.2).1)->ym l
 | [],_=>trivial
 | (i,v)::l,h=>by
  have E:=h (i,v) (by simp);have L:=Zm (l:=l) λu hu=>h u (by grind);cases v<;>first | exact L | exact⟨E,L⟩
theorem Gr{x:Option Operand}{p:Prop}{n:Option Int}(h:lb rho x=some (p,n))(ao:∀ y,x=some y->(use (rho y)).1):p:=by
 unfold lb at h;grind
def vn(rho:Operand->aL)(o:Oper):Prop:=∀ x∈o.op.operands.toList,(use (rho x)).1
theorem Qv{rho:Operand->aL}{o:Oper}(h:ud rho o=true):vn rho o:=λx ao=>Kw (by simpa using List.all_eq_true.1 h x ao)
theorem vn.use{rho:Operand->aL}{o:Oper}(h:vn rho o)(ao:x∈o.op.operands.toList){cy:Prop}(hu:use (rho x)=(cy,v)):cy:=by
 have:=h x ao;grind
set_option maxHeartbeats 1600000 in
theorem aoL(nv:vn rho o):(cP aP T bs rho o).er (l' λr=>r.cy):=by
 have ax:∀ x∈o.op.operands.toList,(use (rho x)).1:=nv;have bm:∀ (l:List Operand),(∀ x∈l,x∈o.op.operands.toList)->kg (l.map rho):=λl ah=>Gq λv ae=>by
  grind
 have jU:∀ (l:List (Nat×Operand)),(∀ p∈l,p.2∈o.op.operands.toList)->ym (l.map λp=>(p.1,rho p.2)):=λl ah=>Zm λv ae=>by
  grind
 cases ar:o.op with
 | build ty bu=>
  have h:=jU bu.toList λp aj=>by simp  [Op.operands];grind
  unfold cP;rw[ar];simp only;repeat' first | exact .ma | exact .da h | refine aE.er.eG λ_=>?_ | split
 | buildSlice ty n bu=>
  have h:=jU bu.toList λp aj=>by simp  [Op.operands];grind
  unfold cP;rw[ar];simp only;repeat' first | exact .ma | refine aE.er.eG λ_=>aE.er.bind λ_=>.n1 λb g=>λr D=>by grind | split
 | makeFunc fn first dQ=>
  have h:=bm dQ.toList λp aj=>by simp[Op.operands];grind
  have L:=bm first.toList λp aj=>by simp[Op.operands];grind
  unfold cP;rw[ar];simp only;repeat' first | exact .ma | exact .da h | exact .da L | exact aE.er.eG λ_=>aE.er.bind λ_=>.uc h | split
 | slice ty x a1 G l6=>
  rw[ar]at ax;unfold cP;rw[ar];simp only[J1,J0];have ao:=ax x (by simp[Op.operands]);have ah:∀ p n,lb rho a1=some (p,n)->p:=λp n h=>Gr h λy a_=>ax y (by subst a_;simp[Op.operands]);have df:∀ p n,lb rho G=some (p,n)->p:=λp n h=>Gr h λy a_=>ax y (by subst a_;simp[Op.operands]);have hm:∀ p n,lb rho l6=some (p,n)->p:=λp n h=>Gr h λy a_=>ax y (by subst a_;simp[Op.operands]);repeat' first | exact .ma | exact .da (by grind) | exact aE.er.eG λ_=>.uc (by grind) | split
 | call c=>
  obtain⟨callee,args,dq⟩:=c;have aW:∀ x∈args.toList,(use (rho x)).1:=λx ao=>ax x (by simp[Op.operands,Call.operands];grind);have gu:kg (args.toList.map rho):=Gq λv ae=>by grind
  have G:∀ (x:Operand) (l:List Operand) {k:IntKind} {cy:Prop} {jD:z1'},args.toList=x::l->p6 rho k l=some (cy,jD)->cy:=λx l _ _ _ e h=>Zi l (λp aj=>aW p (by grind)) h;unfold cP;rw[ar];simp only[pg,FR,FW,FT,FQ,FX,J5,Ag,FU,J2];repeat' first | exact .ma | exact .da (by grind) | exact .uc (by grind) | refine aE.er.eG λ_=>?_ | refine aE.er.bind λ_=>?_ | refine .n1 λb g=>λr D=>by grind | split | (intro z;dsimp only) | (intro r D;grind)
 | _=>
  rw[ar]at ax;simp only[Op.operands]at ax;unfold cP;rw[ar];simp only[CN,J4];repeat' first | exact .ma | exact .da (by grind) | exact .uc (by grind) | refine aE.er.eG λ_=>?_ | refine aE.er.bind λ_=>?_ | refine .n1 λb g=>λr D=>by grind | exact Zl λ_=>by grind | split | (unfold PG) | (intro z;dsimp only) | (intro r D;grind)
end
end Go.Fer
namespace Go.Fer
open Go.RowKit
theorem Zn{rho kD:Operand->aL}{k:IntKind}:∀ (l:List Operand),(∀ x∈l,rho x=kD x)->p6 rho k l=p6 kD k l
 | [],_=>rfl
 | [x],h=>by simp only[p6,h x (by simp)]
 | x::y::l,h=>by simp only[p6,h x (by simp),Zn (y::l) λz bA=>h z (amr _ bA)]
section
variable {aP:dV} {T:Nat->V} {bs:Nat->Option aN} {rho kD:Operand->aL} {o:Oper}
theorem Qw{x:Option Operand}(h:∀ y,x=some y->rho y=kD y):lb rho x=lb kD x:=by
 cases x with
 | none=>rfl
 | some y=>have:=h y rfl;unfold lb;grind
theorem aoM(h:∀ x∈o.op.operands.toList,rho x=kD x):cP aP T bs rho o=cP aP T bs kD o:=by
 have hm:∀ l:List Operand,(∀ x∈l,x∈o.op.operands.toList)->l.map rho=l.map kD:=λl ah=>aPF λp aj=>h p (ah p aj);have aj:∀ l:List (Nat×Operand),(∀ p∈l,p.2∈o.op.operands.toList)->l.map (λp=>(p.1,rho p.2))=l.map λp=>(p.1,kD p.2):=λl ah=>aPF λp aj=>by rw[h p.2 (ah p aj)]
 unfold cP;cases ar:o.op with
 | build ty bu | buildSlice ty n bu=>simp only[aj bu.toList λp aj=>by rw[ar];simp only[Op.operands,aQ5];grind]
 | makeFunc fn first dQ=>simp only[hm dQ.toList λp aj=>by rw[ar];simp[Op.operands];simp_all,hm first.toList λp aj=>by rw[ar];simp[Op.operands];simp_all]
 | slice ty x a1 G l6=>
  rw[ar]at h;have U:∀ z,z=a1\/z=G\/z=l6->lb rho z=lb kD z:=λz bA=>Qw λy a_=>h y (by grind [Op.operands]);simp only[J0,J1,h x (by simp[Op.operands]),U a1 (.inl rfl),U G (.inr (.inl rfl)),U l6 (.inr (.inr rfl))]
 | call c=>
  rw[ar]at h;obtain⟨callee,args,dq⟩:=c;have aW:∀ x∈args.toList,rho x=kD x:=λx ao=>h x (by simp[Op.operands,Call.operands];simp_all);have G:∀ (k:IntKind) (x:Operand) (l:List Operand),args.toList=x::l->p6 rho k l=p6 kD k l:=λk x l e=>Zn l λp aj=>aW p (by rw[e];exact amr _ aj);have ay:Ah rho args.toList=Ah kD args.toList:=by unfold Ah;grind
  simp only[pg,ay,J2,aPF aW];split
  ·split<;>simp only[FR,FW,FT,FX,J5,Ag,FU];all_goals first | (split<;>first | rfl | (simp_all;done)) | (split<;>split<;>first | rfl | (simp_all;done))
  all_goals rfl
 | _=>rw[ar]at h<;>simp[Op.operands]at h<;>simp_all[CN,vc,J4]
end
end Go.Fer
namespace Go.Fer
open Go.RowKit
variable {P:Program}{e:V}
theorem cv.Kx{id:TypeId}(h:cv P (.cN e) id):cv P (.slice e) id:=by
 have G:nZ P (.cN e) id=nZ P (.slice e) id:=by
  unfold nZ;cases P.info? id with
  | none=>rfl
  | some i=>
   cases bA:i.zero with
   | none=>grind
   | some z=>simp  [bA];cases z<;>rfl
 grind [cv,de]
theorem Ky{b:b8}{m:List (Nat×List e.al)}(h:Ak e b=some m):b=.bQ e m:=by
 unfold Ak at h;grind
variable {id:Nat}{af:Type}
theorem aoN{m:List (Nat×List af)}(h:m.any (λp=>p.1 == id)=true):(id,cQ m id)∈m:=by
 unfold cQ;grind
theorem Zo{m:List (Nat×List af)}(aA:(m.map (·.1)).Nodup){xs:List af}(h:(id,xs)∈m):cQ m id=xs:=by
 have an:∀ (l:List (Nat×List af)),(l.map (·.1)).Nodup->(id,xs)∈l->l.find? (λp=>p.1 == id)=some (id,xs):=by
  intro l;induction l<;>grind
 grind [cQ]
theorem Zp{m:List (Nat×List af)}{i:Nat}(h:i<(cQ m id).length):(id,cQ m id)∈m:=by
 grind [cQ]
theorem aoO(m:List (Nat×List af))(id i:Nat)(d:af):(eS m id i d).map (·.1)=m.map (·.1):=by
 grind [eS,List.map_congr_left]
theorem Gs:∀ t:V,t.iI.size=t.size
 | .cN _=>rfl
 | .ad t=>Gs t
 | .au a b=>by simp  [V.iI,V.size,Gs a,Gs b]
 | .slice _=>rfl
 | .bool | .int _ | .str | .dh | .array _ _ | .bM _ | .map _ _ | .fn _ _ | .cE _ | .eW=>rfl
theorem Zq:∀ (t:V) {v:Value},l0 t v->l0 t.iI v
 | .cN _,_,h=>h
 | .ad t,_,⟨cs,E,L⟩=>⟨cs,E,L.trans (Gs t).symm⟩
 | .au _ _,_,h=>h.elim
 | .slice _,_,h=>h
 | .bool,_,h=>h
 | .int _,_,h=>h
 | .str,_,h=>h
 | .dh,_,h=>h
 | .array _ _,_,h=>h
 | .bM _,_,h=>h
 | .map _ _,_,h=>h
 | .fn _ _,_,h=>h
 | .cE _,_,h=>h
 | .eW,_,h=>h
theorem Zr:∀ (t:V) {aH:List Value},wM t aH->wM t.iI aH
 | .au a b,_::_,h=>⟨Zq a h.1,Zr b h.2⟩
 | .au _ _,[],h=>h.elim
 | .dh,_,h=>h
 | .cN _,_,⟨v,E,L⟩=>⟨v,E,L⟩
 | .ad t,_,⟨v,E,L⟩=>⟨v,E,Zq (.ad t) L⟩
 | .slice _,_,⟨v,E,L⟩=>⟨v,E,L⟩
 | .bool,_,h=>h
 | .int _,_,h=>h
 | .str,_,h=>h
 | .array _ _,_,h=>h
 | .bM _,_,h=>h
 | .map _ _,_,h=>h
 | .fn _ _,_,h=>h
 | .cE _,_,h=>h
 | .eW,_,h=>h
theorem aoP{m:List (Nat×List e.al)}{F F':Nat->Prop}{w:World}(bm:∀ r,F r->F' r)(hm:∀ id xs,(id,xs)∈m->F' id/\Ab P e F w id xs):∀ (t:V) {cs:List Value} {x:t.al},cp P t F w cs x->n3 e m t x->cp P t.iI F' w cs (gw e m t x):=by
 intro t;induction t with
 | cN aY _=>
  intro cs x h D;obtain⟨he,an,ah⟩:=D;subst he;obtain⟨Zs,eo,T,a1,G,e8,e_,mv,aoQ⟩:=hm _ _ (aoN an);have hlen:(((cQ m x.1).drop x.2.1).take x.2.2).length=x.2.2:=by grind
  have aw:gw aY m (.cN aY) x=((cQ m x.1).drop x.2.1).take x.2.2:=by
   grind [gw]
  rw[aw];generalize bA:((cQ m x.1).drop x.2.1).take x.2.2=zs at hlen;rcases h with⟨rfl,aV⟩ | ⟨o,c,rfl,E,L,ak⟩
  ·have:zs=[]:=List.length_eq_zero_iff.1 (by omega);subst this;exact⟨none,0,rfl,amo _,by decide,λ_=>rfl,λp aj=>by omega⟩
  ·refine⟨some ⟨x.1,o,none⟩,c,by grind,by omega,L,(by simp),λp aj hc=>?_⟩;cases aj;refine⟨Zs,rfl,λi G=>?_⟩;have dR:x.2.1+i<(cQ m x.1).length:=by omega
   obtain⟨bB,d1,d2⟩:=aoQ (x.2.1+i) dR;refine⟨bB,⟨Zs,rfl,λj aJ=>?_⟩,?_⟩
   ·grind [World.cell?]
   ·have:zs[i]=(cQ m x.1)[x.2.1+i]:=by
     grind
    rw[this];exact fK _ bm (di.refl _ _) d2
 | ad t aO=>intro cs x h D;exact aO h D
 | au a b gI fS=>
  intro cs x h D;obtain⟨c,d,rfl,E,L⟩:=h;exact⟨c,d,rfl,gI E D.1,fS L D.2⟩
 | slice t aO=>
  intro cs xs h D;obtain⟨a,cap,rfl,E,L,ak,aZ⟩:=h;have hlen:(List.map (gw e m t) xs).length=List.length xs:=aPJ _;show cp P (.slice t.iI) F' w _ (List.map (gw e m t) xs);refine⟨a,cap,by simp,by omega,L,ak,λp aj hc=>?_⟩;obtain⟨aM,aS,b4⟩:=aZ p aj hc;refine⟨bm _ aM,aS,λi G=>?_⟩;have dR:i<List.length xs:=by omega
  obtain⟨bB,m1,m2⟩:=b4 i dR;refine⟨bB,by rw[Gs];exact m1.mono bm (di.refl _ _),?_⟩;have:(List.map (gw e m t) xs)[i]=gw e m t xs[i]:=by simp
  rw[this];exact aO m2 (D _ (amm _))
 | bool=>intro cs x h _;exact h
 | int k=>intro cs x h _;exact h
 | str=>intro cs x h _;exact h
 | dh=>intro cs x h _;exact h
 | array n t _=>intro cs x h _;exact fK (.array n t) bm (di.refl _ _) h
 | bM t _=>intro cs x h _;exact fK (.bM t) bm (di.refl _ _) h
 | map k v _ _=>intro cs x h _;exact fK (.map k v) bm (di.refl _ _) h
 | fn a b _ _=>intro cs x h _;exact fK (.fn a b) bm (di.refl _ _) h
 | cE a _=>intro cs x h _;exact fK (.cE a) bm (di.refl _ _) h
 | eW=>intro cs x h _;exact h
section
variable {C:cF} {s:aC} {a:Act} {w:World} {kap:Nat->bI} {F:Nat->Prop}
theorem bw.aoR(h:bw C s a w kap F):bw C (s.cn cx ⟨(s.aa cx).gen,.ey⟩) a w kap (λr=>F r\/k7 s.aa r):=by
  have ah:fL s.aa kap (λi=>if i=cx then (⟨(s.aa cx).gen,.ey⟩) else s.aa i) kap:=pf rfl (λh=>by cases h) (λh=>by cases h) (λh=>by cases h) (λh=>by cases h);have bm:∀ r,F r->F r\/k7 s.aa r:=λr D=>.inl D;have mV:∀ b,b≠cx->(s.cn cx ⟨(s.aa cx).gen,.ey⟩).aa b=s.aa b:=λb U=>by grind [aC.cn]
  have aj:(s.cn cx ⟨(s.aa cx).gen,.ey⟩).aa cx=⟨(s.aa cx).gen,.ey⟩:=by rfl
  have eJ:∀ b,((s.cn cx ⟨(s.aa cx).gen,.ey⟩).aa b).body.cd (kap b)=true->(s.aa b).body.cd (kap b)=true:=λb U=>by
    by_cases e:b=cx
    · subst e;cases U
    grind
  exact { h with
    dX:=h.dX,dj:=h.dj
    bX:=λi=>bJ.later ah bm (di.refl _ _) (h.bX i)
    bC:=λb=>by
      by_cases e:b=cx
      · subst e
        trivial
      · exact c7.k6 (h.bC b) ah bm (di.refl _ _) (by grind) rfl λ_=>rfl
    own:=λb U=>by
      obtain⟨E,L,ak⟩:=h.own b (eJ b U);exact⟨E,λk=>k.elim L λk=>(h.bQ.nX k).2.2.2.2 b (eJ b U) rfl,ak⟩
    inj:=λb bf U eg=>h.inj b bf (eJ b U) (eJ bf eg)
    dr:=λr D=>D.elim (h.dr r) λk=>(h.bQ.nX k).2.1
    hQ:=λr D=>D.elim (h.hQ r) λk=>.inr (h.bQ.nX k).2.2.2.1
    iq:=λr D=>.inl (h.iq r D)
    iY:=λb r D hc=>by
      by_cases e:b=cx
      · subst e;rcases hc with hc | hc<;>cases hc
      · rw[mV b e]at hc;exact h.iY b r D hc
    jB:=λb k an aV aW=>by
      by_cases e:b=cx
      · subst e;cases aW
      · rw[mV b e]at aV aW ⊢;exact h.jB b k an aV aW
    e7:=λl aI ab n ad e=>by
      obtain⟨E,L,Y,ak,aZ,bP⟩:=h.e7 l aI ab n ad e;have jk:∀ r,(F r\/k7 s.aa r)->¬Y r:=λr D a_=>D.elim (ak r a_).2.1 λk=>(h.bQ.nX k).1 l aI ab n ad e;exact⟨E,L,Y,λr D=>⟨(ak r D).1,λk=>jk r k D,(ak r D).2.2⟩,λb U=>aZ b (eJ b U),L.JT bP bm (λ_ _=>rfl) (amo _) (dM.refl _) (λr D=>D.elim (h.dr r) λk=>(h.bQ.nX k).2.1) jk⟩
    bQ:=λe m hm=>by grind
    hW:=h.hW.mono bm (di.refl _ _) }
theorem bw.aoS(h:bw C s a w kap F){m:List (Nat×List e.al)}(U:(s.aa cx).body=.bQ e m\/((s.aa cx).body=.ey/\m=[])){xs:List e.al}(h_:∀ l aI ab n ad,s.az ca≠.aR l aI ab n ad)
    (E:id<w.heap.size) (L:¬F id) (ak:¬C.K0 id) (aZ:∀ b,(s.aa b).body.cd (kap b)=true->(kap b).aa≠id) (bP:id ∉ m.map (·.1)) (ej:Ab C.P e F w id xs) :
    bw C (s.cn cx ⟨(s.aa cx).gen,.bQ e ((id,xs)::m)⟩) a w kap F:=by
  have ah:fL s.aa kap (λi=>if i=cx then (⟨(s.aa cx).gen,.bQ e ((id,xs)::m)⟩) else s.aa i) kap:=pf rfl (λh=>by cases h) (λh=>by cases h) (λh=>by cases h) (λh=>by cases h);have mV:∀ b,b≠cx->(s.cn cx ⟨(s.aa cx).gen,.bQ e ((id,xs)::m)⟩).aa b=s.aa b:=λb U=>by grind [aC.cn]
  have eJ:∀ b,((s.cn cx ⟨(s.aa cx).gen,.bQ e ((id,xs)::m)⟩).aa b).body.cd (kap b)=true->(s.aa b).body.cd (kap b)=true:=λb U=>by
    by_cases e:b=cx
    · subst e;cases U
    grind
  exact { h with
    dX:=h.dX,dj:=h.dj
    bX:=λi=>bJ.later ah (λ_ h=>h) (di.refl _ _) (h.bX i)
    bC:=λb=>by
      by_cases e:b=cx
      · subst e
        trivial
      · exact c7.k6 (h.bC b) ah (λ_ h=>h) (di.refl _ _) (by grind) rfl λ_=>rfl
    own:=λb U=>h.own b (eJ b U)
    inj:=λb bf U eg=>h.inj b bf (eJ b U) (eJ bf eg)
    iY:=λb r D hc=>by
      by_cases e:b=cx
      · subst e;rcases hc with hc | hc<;>cases hc
      · rw[mV b e]at hc;exact h.iY b r D hc
    jB:=λb k an aV aW=>by
      by_cases e:b=cx
      · subst e;cases aW
      · rw[mV b e]at aV aW ⊢;exact h.jB b k an aV aW
    e7:=λl aI ab n ad e=>(h_ l aI ab n ad e).elim
    bQ:=λaY dp hm=>by
      cases hm;have qR:(m.map (·.1)).Nodup/\∀ sN Kz,(sN,Kz)∈m->(∀ l aI ab n ad,s.az ca≠.aR l aI ab n ad)/\sN<w.heap.size/\¬F sN/\¬C.K0 sN/\(∀ b,(s.aa b).body.cd (kap b)=true->(kap b).aa≠sN)/\Ab C.P e F w sN Kz:=by
        rcases U with k | ⟨_,rfl⟩
        · exact h.bQ e m k
        simp
      refine⟨by grind,λsN Kz ao=>?_⟩;rcases List.mem_cons.1 ao with ao | ao
      · cases ao
        exact⟨h_,E,L,ak,λb U=>aZ b (eJ b U),ej⟩
      · obtain⟨iC,aM,aS,b4,hZ,sJ⟩:=qR.2 sN Kz ao
        exact⟨iC,aM,aS,b4,λb U=>hZ b (eJ b U),sJ⟩ }
variable {k:IntKind}
theorem bw.aoT(h:bw C s a w kap F){m:List (Nat×z1')}(U:(s.aa cx).body=.bQ (.int k) m){i:Nat}{d:Int}(G:i<(cQ m id).length)(aw:gQ k d) :
    ∃ w',(storeCells ⟨id,i,none⟩ [.int k d]).run C.P w=.ok () w'/\bw C (s.cn cx ⟨(s.aa cx).gen,.bQ (.int k) (eS m id i d)⟩) a w' kap F:=by
  have ob:=Zp G;obtain⟨aA,gu⟩:=h.bQ (.int k) m U;obtain⟨nn,cO,cJ,gT,ly,cs,T,a1,dR,bE,c2,c3,c4⟩:=gu _ _ ob;have KA:V.size (.int k)=1:=rfl;have aLz:i<cs.size:=by grind
  have hc:w.cell? ⟨id,i,none⟩=some cs[i]:=by grind [World.cell?]
  have ax:w.frozen? ⟨id,i,none⟩=false:=by
    grind [World.frozen?]
  refine⟨w.setCell ⟨id,i,none⟩ (.int k d),?_,?_⟩
  · simp only[storeCells,Sem.run_bind,tS,run_store C.P w _ (.int k d) _ rfl,aRh,hc,ax,Result.andThen_ok]
    rfl
  have yx:∀ r,r≠id->(w.setCell ⟨id,i,none⟩ (.int k d)).heap[r]?=w.heap[r]?:=λr D=>Below.heap_setCell _ _ _ _ (by omega);have vo:(w.setCell ⟨id,i,none⟩ (.int k d)).heap[id]?=some (.cells (cs.setIfInBounds i (.int k d)) T (a1,dR)):=by
    grind [World.setCell]
  have Gt:(w.setCell ⟨id,i,none⟩ (.int k d)).heap.size=w.heap.size:=by simp
  have he:di F w (w.setCell ⟨id,i,none⟩ (.int k d)):=⟨by omega,λr D=>yx r λe=>cJ (e ▸ D)⟩
  have qW:dM w (w.setCell ⟨id,i,none⟩ (.int k d)):=⟨rfl,rfl,rfl⟩
  have ah:fL s.aa kap (λj=>if j=cx then (⟨(s.aa cx).gen,.bQ (.int k) (eS m id i d)⟩) else s.aa j) kap:=pf rfl (λh=>by cases h) (λh=>by cases h) (λh=>by cases h) (λh=>by cases h);have mV:∀ b,b≠cx->(s.cn cx ⟨(s.aa cx).gen,.bQ (.int k) (eS m id i d)⟩).aa b=s.aa b:=λb U=>by grind [aC.cn]
  have eJ:∀ b,((s.cn cx ⟨(s.aa cx).gen,.bQ (.int k) (eS m id i d)⟩).aa b).body.cd (kap b)=true->(s.aa b).body.cd (kap b)=true:=λb U=>by
    by_cases e:b=cx
    · subst e;cases U
    grind
  exact { h with
    dX:=h.dX,dj:=h.dj
    bX:=λi=>bJ.later ah (λ_ h=>h) he (h.bX i)
    bC:=λb=>by
      by_cases e:b=cx
      · subst e
        trivial
      · exact c7.k6 (h.bC b) ah (λ_ h=>h) he (by grind) rfl λar=>yx _ (ly b ar)
    own:=λb U=>by
      obtain⟨E,L,ak⟩:=h.own b (eJ b U);grind
    inj:=λb bf U eg=>h.inj b bf (eJ b U) (eJ bf eg)
    dr:=λr D=>by rw[Gt];exact h.dr r D
    e2:=λr D=>(yx r λe=>gT (e ▸ D)).trans (h.e2 r D)
    size:=by rw[Gt];exact h.size
    eN:=h.eN.trans qW
    iY:=λb r D hc=>by
      by_cases e:b=cx
      · subst e;rcases hc with hc | hc<;>cases hc
      · rw[mV b e]at hc;exact h.iY b r D hc
    jB:=λb k' an aV aW=>by
      by_cases e:b=cx
      · subst e;cases aW
      · rw[mV b e]at aV aW ⊢;exact h.jB b k' an aV aW
    e7:=λl aI ab n ad e=>(nn l aI ab n ad e).elim
    bQ:=λe dp hm=>by
      cases hm;refine⟨by grind [aoO],λZt aLA ao=>?_⟩;obtain⟨p,C5,w9⟩:=List.mem_map.1 ao;obtain⟨nX,Qx⟩:=p;obtain⟨Zu,h',lG,Zv,Zw,aoU⟩:=gu nX Qx C5;by_cases e:nX=id
      · subst e
        simp  at w9
        obtain⟨rfl,rfl⟩:=w9
        have KB:=Zo aA C5
        refine⟨Zu,by omega,lG,Zv,λb U=>Zw b (eJ b U),cs.setIfInBounds i (.int k d),T,a1,dR,vo,?_,?_,λj aJ=>?_⟩
        · grind
        · grind
        · have gD:j<List.length (cQ m nX):=by grind
          by_cases AG:j=i
          · subst AG
            refine⟨[.int k d],λmS gD=>?_,?_⟩
            · grind
            · have:(List.set Qx j d)[j]=d:=by simp
              rw[this]
              exact⟨rfl,aw⟩
          · obtain⟨bB,d1,d2⟩:=c4 j gD
            refine⟨bB,λmS gD=>?_,?_⟩
            · grind [jP]
            · have aB:(List.set Qx i d)[j]=(cQ m nX)[j]:=by
                grind
              rw[aB]
              exact PD (.int k) rfl d2
      · simp  [if_neg e]at w9
        obtain⟨rfl,rfl⟩:=w9
        exact⟨Zu,by omega,lG,Zv,λb U=>Zw b (eJ b U),aoU.mono (λ_ h=>h) he (yx _ e)⟩
    hW:=h.hW.mono (λ_ h=>h) he }
end
section
variable {C:cF} {T:Nat->V} {bs:Nat->Option aN} {o:Oper} {s:aC} {res:eA}
variable {ty:TypeId}{x:Operand}{r:aE (Option eA)}
theorem aoV(aT:ed C.P T)(bh:∀ i,o.dst=some i->i<C.bV)(ar:o.op=.load ty x)(aj:e1 C.aU T (be C.aU s.az) o=some r)(h:r.run s.aa=some res):cR C o s res:=by
 simp only[e1,ar]at aj;split at aj
 ·rename_i cz k id i hu;cases aj;simp only[aE.gU,aE.dy]at h;split at h
  ·rename_i m hm;split at h
   ·rename_i aG;cases h;refine cR.pure (by grind) bh λa w kap F D ba hc=>?_;have ao:a.eval x=.pointer (some ⟨id,i*1,none⟩):=db D x hu ba;have U:=Ky hm;obtain⟨nn,cO,cJ,gT,ly,cs,h9,a1,G,bE,c2,c3,c4⟩:=(D.bQ _ m U).2 _ _ (Zp hc);obtain⟨bB,d1,d2⟩:=c4 i hc;obtain⟨rfl,a8⟩:=d2;have oM:w.cell? ⟨id,i,none⟩=some (.int k (cQ m id)[i]):=by
     simp_all[World.cell?,V.size]
    have dC:=aT.cB aG (by simp);have aB:(cQ m id).getD i (0)=(cQ m id)[i]:=by grind
    have ua:mP w ⟨id,i,none⟩ [.int k (cQ m id)[i]]:=⟨λ_=>rfl,λj aJ=>by
     grind⟩
    obtain⟨r,ck,c8⟩:=J7   dC ua ⟨rfl,a8⟩;refine⟨r,by simp_all[execOp,Instr.loadAt,Instr.sureAddr],?_⟩;rw[aB];exact c8
   grind
  grind
 grind
theorem aoW(aT:ed C.P T){y:Operand}(bh:o.dst=none)(ar:o.op=.store ty x y)(aj:e1 C.aU T (be C.aU s.az) o=some r)(h:r.run s.aa=some res):cR C o s res:=by
 simp  [e1,ar]at aj;split at aj
 ·rename_i cz k id i hu;split at aj
  ·rename_i lB k' d ae;cases aj;simp  at h;split at h
   ·rename_i m hm;split at h
    ·rename_i aG;obtain⟨aG,rfl⟩:=aG;cases h;intro a w kap F Q D ba hc;have ao:a.eval x=.pointer (some ⟨id,i*1,none⟩):=db D x hu ba.1;have a_:=hO.1 (db D y ae ba.2);have aw:∀ c,o.op≠.defer c:=by grind
     obtain⟨w',ck,c8⟩:=D.aoT (Ky hm) hc a_.2;have dC:=aT.cB aG (by simp);refine F0 (w':=w') aw ?_ ?_
     ·have:=Kf   dC (show (Value.int k' d).cells.size=V.size (.int k') from rfl) ck;simp_all[execOp,Instr.storeAt,Instr.sureAddr]
     ·rw[bh];exact⟨kap,F,c8⟩
    grind
   grind
  grind
 grind
theorem aoX(aT:ed C.P T){i:Operand}(bh:∀ i,o.dst=some i->i<C.bV)(ar:o.op=.indexAddr ty x i)(aj:e1 C.aU T (be C.aU s.az) o=some r)(h:r.run s.aa=some res):cR C o s res:=by
 simp  [e1,ar]at aj;split at aj
 ·rename_i cz e q hu;split at aj
  ·rename_i k n G;cases aj;simp only[aE.dy]at h;split at h
   ·rename_i aG;cases h;refine cR.pure (by grind) bh λa w kap F D ba hc=>?_;have ao:=((eb rfl).1 (db D x hu ba.1)).2;have L:=p9 (db D i rfl ba.2) G;rcases ao with⟨_,aV⟩ | ⟨f',c,aB,E,tX,ak⟩
    ·omega
    ·have aB:=(aPM aB).1;have dC:=(aT.cB aG (by simp)).Kx;refine⟨.pointer (some ⟨q.1,f'+n.toNat*e.size,none⟩),by simp[execOp,ar,aB,L.1,Kj dC (p:=⟨q.1,f',none⟩) rfl hc.1 hc.2],?_⟩;show Value.pointer _=Value.pointer _;grind
   grind
  grind
 grind
theorem aoY(aT:ed C.P T){a1 G l6:Option Operand}(bh:∀ i,o.dst=some i->i<C.bV)(ar:o.op=.slice ty x a1 G l6)(aj:e1 C.aU T (be C.aU s.az) o=some r)(h:r.run s.aa=some res):cR C o s res:=by
 simp  [e1,ar]at aj;split at aj
 ·rename_i cz e q hu;split at aj
  ·rename_i ol l sA df bK Au;cases aj;simp only[aE.dy]at h;split at h
   ·rename_i aG;cases h;refine cR.pure (by grind) bh λa w kap F D ba hc=>?_;have cY:(a1.map a.eval=none/\l=none)\/∃ k m,a1.map a.eval=some (.int k m)/\l=some m:=by
     rcases As D bK ba.2.1 with⟨rfl,rfl⟩ | ⟨y,k,m,rfl,rfl,e⟩<;>grind
    have fe:(G.map a.eval=none/\df=none)\/∃ k m,G.map a.eval=some (.int k m)/\df=some m:=by
     rcases As D Au ba.2.2 with⟨rfl,rfl⟩ | ⟨y,k,m,rfl,rfl,e⟩<;>grind
    have ao:=((eb rfl).1 (db D x hu ba.1)).2;have dC:=(aT.cB aG (by simp)).Kx;obtain⟨j,aJ,iB,oP⟩:=dC.sl;have run:∀ (p:Option Addr) (n cap:Nat),a.eval x=.slice p n cap->n<=cap->0<=dA l/\dA l<=fU n df/\fU n df<=cap->
      (execOp a.eval o).run C.P w=.ok (.value (.slice (if cap=(dA l).toNat then p else p.map (·.add ((dA l).toNat*e.size))) ((fU n df).toNat - (dA l).toNat) (cap - (dA l).toNat))) w:=by
     intro p n cap ae aA hc;have:=P4 (P:=C.P) (w:=w) (isS:=true) cY fe hc.1 hc.2.1 hc.2.2 aA;simp[execOp,ar,ae,Instr.sliceAt,Instr.slice,en aJ,this,iB.size]
    rcases ao with⟨aB,aV⟩ | ⟨f',c,aB,E,tX,ak⟩
    ·have aB:=(aPM aB).1;have bA:0<=dA l/\dA l<=fU 0 df/\fU 0 df<=((0)):=by grind
     refine⟨_,run none 0 0 aB (amo _) bA,(eb rfl).2 ⟨rfl,.inl ⟨?_,?_⟩⟩⟩<;>grind
    ·have aB:=(aPM aB).1;refine⟨_,run _ _ _ aB E ⟨hc.1,hc.2.1,by omega⟩,(eb rfl).2 ⟨rfl,.inr ?_⟩⟩;by_cases kA:c=(dA l).toNat
     ·rw[if_pos kA];exact⟨f',_,rfl,by show (fU q.2.2 df).toNat - (dA l).toNat<=_;omega,by omega,λh=>by omega⟩
     ·rw[if_neg kA];refine⟨f'+(dA l).toNat*e.size,c - (dA l).toNat,?_,by show (fU q.2.2 df).toNat - (dA l).toNat<=_;omega,by omega,λh=>?_⟩
      ·simp[tS]
      grind
   grind
  grind
 grind
variable {dq:Array TypeId}
theorem aoZ(aT:ed C.P T){args:Array Operand}(bh:∀ i,o.dst=some i->i<C.bV)(ar:o.op=.call { callee:=.builtin .len,args:=args,argTypes:=dq })(aj:e1 C.aU T (be C.aU s.az) o=some r)(h:r.run s.aa=some res):cR C o s res:=by
 obtain⟨args⟩:=args;obtain⟨dq⟩:=dq;simp  [e1,ar]at aj;split at aj
 ·rename_i x t;split at aj
  ·rename_i cz e q hu;cases aj;simp only[aE.dy]at h;split at h
   ·rename_i ph;cases h;refine cR.pure (by grind) bh λa w kap F D ba hc=>?_;obtain⟨i,G,_⟩:=(aT.cB ph (by simp)).Kx.sl;have PT:∀ a' m cap,a.eval x=.slice a' m cap->m<2 ^ 63->(Builtin.len_ #[t] o.type #[a.eval x]).run C.P w=.ok (.int .i64 m) w/\gQ .i64 m:=by
     simp_all[Builtin.len_,en,goInt,CU]
    have ao:=((eb rfl).1 (db D x hu ba)).2;rcases ao with⟨aB,aV⟩ | ⟨f',c,aB,E,tX,ak⟩
    ·obtain⟨aM,aS⟩:=PT _ _ _ (aPM aB).1 (by decide);refine⟨_,sF ar ?_,hO.2 ⟨rfl,by grind⟩⟩;rw[aV];simp[builtin,aM]
    ·obtain⟨aM,aS⟩:=PT _ _ _ (aPM aB).1 (by omega);refine⟨_,sF ar ?_,hO.2 ⟨rfl,aS⟩⟩;simp[builtin,aM]
   grind
  grind
 grind
theorem ao0{k:FuncId}{args:Array Operand}(bh:∀ i,o.dst=some i->i<C.bV)(ar:o.op=.call { callee:=.value (.func k),args:=args,argTypes:=dq })(aj:e1 C.aU T (be C.aU s.az) o=some r)(h:r.run s.aa=some res):cR C o s res:=by
 simp  [e1,ar]at aj;obtain⟨c,hc,rfl⟩:=aj;simp only[PI,aE.run_bind]at h;split at h;rotate_left
 ·simp only[aE.fZ,amj,aE.run_bind,aE.dy,amk]at h;obtain⟨⟨x,l⟩,ao,rfl⟩:=h;intro a w kap F Q D ba hq;refine Qg D (D.j2.z_ k c hc).1 bh ar ba ao hq λy w' a_ v n_=>?_;have a_:y=c.g x:=a_;have e:∀ (r:aE (List (Nat×b7))),r=(if c.aR.pure then .ret [] else ke l)->s.iw (r.run s.aa)=(if c.aR.pure then s else s.cC l):=by
   intro r D;subst D;split
   ·rfl
   grind [tV]
  grind [aC.jE]
 rename_i x b9 ao;simp only[aE.gU]at h;split at h
 ·rename_i m hm;simp only[aE.run_bind,aE.dy,amk]at h;subst h;have U:=Ky hm;intro a w kap F Q D ba hq;obtain⟨ax,AH⟩:=D.j2.z_ k c hc;have aw:∀ c,o.op≠.defer c:=by grind
  obtain⟨args⟩:=args;have ds:(execOp a.eval o).run C.P w=.ok (.enter k (args.map a.eval).toArray) w:=by
   simp  [execOp,ar,resolve,Act.eval,Deferred.ofValue,invoke];have:=ax.enter (args.map a.eval).toArray w;grind
  obtain⟨ue,f1,gn,f2⟩:=bw.mR (rF c.nV ao) D;have fA:gv C.P c.nV ue w (args.map a.eval) x:=by
   refine w2 D.bC f1 c.nV ao f2 (by simp) λi G dR=>?_;have E:=tU ba i (by grind);grind [qN,lD]
  have oc:((s.cC b9).aa cx).body=.bQ c.e m:=by
   grind [aC.cC,fN]
  have l8:=gn.bQ c.e m oc;have c1:=gn.aoR;have w8:∀ r,ue r->ue r\/k7 (s.cC b9).aa r:=λr h=>.inl h;have Qy:gv C.P c.nV.iI (λr=>ue r\/k7 (s.cC b9).aa r) w (args.map a.eval) (gw c.e m c.nV x):=
   ⟨Zr _ fA.1,aoP w8 (λid xs ao=>⟨.inr ⟨c.e,m,xs,oc,ao⟩,(l8.2 id xs ao).2.2.2.2.2⟩) _ fA.2 hq.1⟩
  by_cases gp:(c.aR.pure||c.tJ)=true
  ·have key:∀ v w',tH C.P c.aR (wN F w w') w' v (c.g (gw c.e m c.nV x))->Below w.heap.size w w'->
     dc C (s.jE o.dst ⟨kg (args.map (be C.aU s.az)),n3 c.e m c.nV x/\c.pre (gw c.e m c.nV x),qM c.aR (c.g (gw c.e m c.nV x)),[]⟩) (a.put o.dst v) w':=λv w' gW gK=>by
    exact⟨kap,_,(D.grow gK).set bh (Ay gW)⟩
   have fin:∀ (l:List (Nat×b7)),(if (c.aR.pure||c.tJ)=true then [] else l)=[]:=λl=>if_pos gp;rw[fin];rw[aPO]at gp;by_cases yy:c.aR.pure=true
   ·refine yu aw ds (ax.ik _ w _ _ c1.dr c1.hW Qy hq.2) λe w' ⟨v,y,he,a_,gW,gK⟩=>⟨v,he,?_⟩
    obtain rfl:=a_;obtain⟨aH,cO,cJ⟩:=gW;exact key v w' ⟨aH,cO,Qf yy cJ⟩ gK
   ·refine yu aw ds ((AH (gp.resolve_left yy)).ik _ w _ _ c1.dr c1.hW Qy hq.2) λe w' ⟨v,y,he,a_,gW,gK⟩=>⟨v,he,?_⟩
    obtain rfl:=a_;obtain⟨aH,cO,cJ⟩:=gW;exact key v w' ⟨aH,cO,cJ.1,fK _ (λr D=>.inr D) (di.refl _ _) cJ.2⟩ gK
  ·have bL:(if (c.aR.pure||c.tJ)=true then aE.ret [] else ke b9)=ke b9:=if_neg gp;rw[bL,if_neg gp];have aLB:(s.aa cx).gen=((s.cC b9).aa cx).gen:=by
    grind [aC.cC,fN]
   have tY:s.iw ((ke b9).run s.aa++[(cx,⟨(s.aa cx).gen,.ey⟩)])=(s.cC b9).cn cx ⟨((s.cC b9).aa cx).gen,.ey⟩:=by
    grind [CV,tV]
   refine yu aw ds (ax.ik _ w _ _ c1.dr c1.hW Qy hq.2) λe w' ⟨v,y,he,a_,gW,gK⟩=>⟨v,he,?_⟩
   obtain rfl:=a_;simp  [aC.jE];rw[tY];exact⟨kap,_,(c1.grow gK).set bh (Ay gW)⟩
 ·cases h
theorem ao1{w:World}(sC cE ty u T:TypeId)(aj:P.underlying sC=some (.pointer u))(hu:P.underlying u=some (.int .u8))(aT:P.underlying T=some (.int .u8))(hc:P.cellsOf T=1)(g o cells:Nat)(jg:w.shape? g=some (T,cells))(l:List UInt8)(aV:l≠[])
  (aA:o+l.length<=cells) (aLC:l.length<=9223372036854775807) (oM:∀ j x,l[j]?=some x->w.cell? ((⟨g,o,none⟩:Addr).add j)=some (.int .u8 x.toNat)) :
  (Builtin.unsafeString_ #[sC,cE] ty #[.pointer (some ⟨g,o,none⟩),.int .i64 l.length]).run P w=.ok (.string ⟨l.toArray⟩) (w.freeze ⟨g,o,none⟩ l.length):=by
 have ah:l.length≠0:=by grind
 have ao2:=Lib.run_loadBytes (P:=P) w l ⟨g,o,none⟩ .empty oM;have aw:P.depth=(2*(P.types.size+Made.depth)+1)+1:=rfl;have vp:sameLayout P P.depth T u=true:=by
  grind [sameLayout]
 have ao3:liesAt P P.depth T (cells / P.cellsOf T) o u l.length=true:=by
  simp_all[rowAt,Nat.mod_one,liesAt]
 have ao4:¬(9223372036854775807)<(l.length:Int):=by omega
 have ao5:Builtin.unsafeString_ #[sC,cE] ty #[.pointer (some ⟨g,o,none⟩),.int .i64 l.length]=
   (do
    let n <-asInt (.int .i64 l.length);if n < 0 then runtimePanic (.error "unsafe.String: len out of range")
    if n > IntKind.i64.max then unsupported (.unsafePointer "String: a length above the largest int")
    if n=0 then pure (.string .empty)
    else if <-variablesAt ⟨g,o,none⟩ (<-elemOf sC) n.toNat then do
     let s <-loadBytes ⟨g,o,none⟩ .empty n.toNat;freeze ⟨g,o,none⟩ n.toNat;pure (.string s)
    else unsupported (.unsafePointer "String: not so many bytes at ptr")) := rfl
 rw[ao5];have Gu:¬(l.length:Int)<0:=by omega
 simp[asInt,asIntOf,ao4,Gu,ah,variablesAt,jg,elemOf,run_underlying aj,ao3,ao2]
theorem cv.sC{k:IntKind}{id:TypeId}(h:cv P (.bM (.int k)) id):∃ i,P.underlying id=some (.pointer i)/\cv P (.int k) i:=by
 grind [cv,de]
theorem ao6(aT:ed C.P T){args:Array Operand}(bh:∀ i,o.dst=some i->i<C.bV)(ar:o.op=.call { callee:=.builtin .unsafeSliceData,args:=args,argTypes:=dq })(aj:e1 C.aU T (be C.aU s.az) o=some r)(h:r.run s.aa=some res):cR C o s res:=by
 obtain⟨args⟩:=args;simp  [e1,ar]at aj;split at aj
 ·rename_i x;split at aj
  ·rename_i cz b g hu;cases aj;simp  at h;split at h
   ·rename_i e xs U;split at h
    ·rename_i hc;obtain⟨aD,aG⟩:=hc;cases h;obtain⟨i,G,_⟩:=(aT.cB aG (by simp)).sC;have qa:∀ c,o.op≠.defer c:=by grind
     intro a w kap F Q D ba _;have ao:=db D x hu ba;have ae:=ao.2 aD.symm (by rw[U];rfl);have aX:=D.bC b;unfold c7 at aX;rw[U]at aX;have fin:∀ p w',(Builtin.unsafeSliceData_ dq o.type #[a.eval x]).run C.P w=.ok (.pointer p) w'->Below w.heap.size w w'->(0<xs.length->p=some ⟨(kap b).aa,(kap b).off,none⟩)->
       o.wpIn (eZ C.r) 0 C.P a w (λa' w'=>dc C (s.jE o.dst ⟨cz,True,.z' b g,[]⟩) a' w') Q:=λp w' E L ak=>by
      refine h8     qa (sF ar (by simp[builtin,E])) ⟨kap,_,(D.grow L).set bh ⟨⟨aRi aD.symm,p,rfl⟩,λ_ _ aA=>?_⟩⟩;rw[U]at aA;rw[ak aA]
     cases aA:(kap b).fT with
     | true=>
      have kh:=aX.1 aA;simp_all[bI.slice,Lib.run_unsafeSliceData_nil,Below.refl]
     | false=>
      obtain⟨cs,h9,bE,c2,c3,c4,c5⟩:=aX.2 aA;simp  [bI.slice,aA,aPA]at ae;by_cases wY:(kap b).cap=0
      ·have jg:w.shape? (kap b).aa=some (h9,cs.size):=by grind [World.shape?]
       refine fin _ _ (by rw[ae,wY];exact Lib.run_unsafeSliceData_zero w _ _ i G _ _ _ jg) ((Below.refl _ _).alloc (amo _) _) (λh=>by omega)
      simp_all[Lib.run_unsafeSliceData_row,Below.refl]
    grind
   grind
  grind
 grind
theorem ao7(aT:ed C.P T){args:Array Operand}(bh:∀ i,o.dst=some i->i<C.bV)(ar:o.op=.call { callee:=.builtin .unsafeString,args:=args,argTypes:=dq })(aj:e1 C.aU T (be C.aU s.az) o=some r)(h:r.run s.aa=some res):cR C o s res:=by
 obtain⟨args⟩:=args;obtain⟨dq⟩:=dq;simp  [e1,ar]at aj;split at aj
 ·rename_i x n sC cE;split at aj
  ·rename_i cz b g on m hu aA;cases aj;simp  at h;split at h
   ·rename_i xs U;change z1' at xs;split at h
    ·rename_i hc;obtain⟨aD,aG⟩:=hc;cases h;obtain⟨u,G,ao8⟩:=(aT.cB aG (by simp)).sC;have qa:∀ c,o.op≠.defer c:=by grind
     intro a w kap F Q D ba hm;obtain⟨⟨_,p,aj⟩,Ao⟩:=db D x hu ba.1;have ao9:=(hO.1 (db D n aA ba.2)).1;have aX:=D.bC b;unfold c7 at aX;rw[U]at aX;have gK:(fh xs).length=List.length xs:=by simp[fh]
     have ah:fL s.aa kap (λi=>if i=b then (⟨(s.aa b).gen,.ey⟩) else s.aa i) kap:=pf rfl (λh=>by cases h) (λh=>by cases h) (λh=>by cases h) (λh=>by cases h);by_cases aV:xs=[]
     ·subst aV;subst hm;have ds:=Lib.run_unsafeString_none (P:=C.P) w sC cE o.type p;have hw:bw C (s.cn b ⟨(s.aa b).gen,.ey⟩) a w kap F:=D.u' ⟨λi=>.inl rfl,λi=>by
       grind [aC.cn]⟩
      refine h8   (v:=.string .empty) qa (sF ar (by simp[builtin,aj,ao9,ds])) ⟨kap,F,hw.set bh (k3.2 ⟨rfl,by grind⟩)⟩
     ·have ki:=List.length_pos_iff.2 aV;have tZ:(kap b).fT=false:=by
       cases aA:(kap b).fT with
       | false=>rfl
       | true=>exact (aV (aX.1 aA)).elim
      obtain⟨cs,h9,bE,c2,c3,c4,c5⟩:=aX.2 tZ;have Kh:=Ao aD.symm (by rw[U];rfl) (by rw[U];exact ki);obtain⟨t1,bU⟩:=c4.2 .u8 rfl;have jg:w.shape? (kap b).aa=some (h9,cs.size):=by grind [World.shape?]
      have cI:V.size (.int .u8)=1:=rfl;have oM:∀ j x,(fh xs)[j]?=some x->w.cell? ((⟨(kap b).aa,(kap b).off,none⟩:Addr).add j)=some (.int .u8 x.toNat):=λj x aJ=>by
       obtain⟨ao_,iB⟩:=List.getElem?_eq_some_iff.1 aJ;have oP:j<List.length xs:=by omega
       obtain⟨bB,d1,d2⟩:=c5 j oP;obtain⟨rfl,a8⟩:=d2;have:=d1 0 (by simp);rw[tS];simp  [World.cell?];have gm:x.toNat=xs[j]:=by
        rw[<-iB];simp only[fh];have E:(0)<=xs[j]:=a8.1;have L:xs[j]<=255:=a8.2;simp;omega
       grind
      have ds:=ao1   sC cE o.type u h9 G ao8.int t1 bU (kap b).aa (kap b).off cs.size jg (fh xs) (λe=>by grind) (by grind) (by omega) oM;have hw:bw C (s.cn b ⟨(s.aa b).gen,.ey⟩) a (w.freeze ⟨(kap b).aa,(kap b).off,none⟩ (fh xs).length) kap F:=by
       have eJ:(s.aa b).body.cd (kap b)=true:=by grind [b8.cd]
       have yx:∀ r,r≠(kap b).aa->(w.freeze ⟨(kap b).aa,(kap b).off,none⟩ (fh xs).length).heap[r]?=w.heap[r]?:=λr D=>by
        grind [World.freeze]
       have Kv:(w.freeze ⟨(kap b).aa,(kap b).off,none⟩ (fh xs).length).heap.size=w.heap.size:=by
        grind [World.freeze]
       have qW:dM w (w.freeze ⟨(kap b).aa,(kap b).off,none⟩ (fh xs).length):=by
        unfold World.freeze;split<;>exact⟨rfl,rfl,rfl⟩
       generalize w.freeze ⟨(kap b).aa,(kap b).off,none⟩ (fh xs).length=w' at yx Kv qW;show bw C ⟨s.az,λi=>if i=b then (⟨(s.aa b).gen,.ey⟩) else s.aa i⟩ a w' kap F;obtain⟨Gv,w_⟩:∃ Gv:Nat->b7,Gv=λi=>if i=b then (⟨(s.aa b).gen,.ey⟩) else s.aa i:=⟨_,rfl⟩
       have vo:Gv b=⟨(s.aa b).gen,.ey⟩:=by grind
       have eM:∀ i,i≠b->Gv i=s.aa i:=λi G=>by grind
       have u_:yi s.aa Gv:=by rw[w_];exact JU rfl
       rw[<-w_]at ah ⊢;refine D.move   ah (λ_ h=>h) (λ_ h=>.inl h) (by omega) (λr _ h=>yx r λe=>h b eJ e.symm) qW (λhe i=>?_) (λi G=>?_) (λi j G aJ e=>?_) (λr h=>by have:=D.dr r h;omega) (λi _ hc=>⟨rfl,?_⟩) u_
       ·by_cases e:i=b
        ·subst e;unfold c7;rw[vo];trivial
        ·exact c7.k6 (D.bC i) ah (λ_ h=>h) he (by grind) rfl λar=>yx _ λaY=>e (D.inj i b ar eJ aY)
       ·by_cases e:i=b
        ·subst e;rw[vo]at G;cases G
        ·rw[eM i e]at G;exact⟨by have:=(D.own i G).1;omega,(D.own i G).2.1,.inl ⟨i,G,rfl⟩⟩
       ·by_cases aB:i=b
        ·subst aB;rw[vo]at G;cases G
        ·by_cases bt:j=b
         ·subst bt;rw[vo]at aJ;cases aJ
         ·rw[eM i aB]at G;rw[eM j bt]at aJ;exact D.inj i j G aJ e
       ·by_cases e:i=b
        ·subst e;rw[vo]at hc;rcases hc with hc | hc<;>cases hc
        grind
      refine h8 qa (sF ar (by simp_all[builtin])) ⟨kap,F,hw.set bh (k3.2 ⟨rfl,by omega⟩)⟩
    grind
   grind
  grind
 grind
theorem ao'(aT:ed C.P T)(aw:mU o C.bV=true)(aj:e1 C.aU T (be C.aU s.az) o=some r)(h:r.run s.aa=some res):cR C o s res:=by
 simp  [mU]at aw;cases ar:o.op with
 | load ty x=>grind [aoV]
 | store ty x y=>grind [aoW]
 | indexAddr ty x i=>grind [aoX]
 | slice ty x a1 G l6=>grind [aoY]
 | call c=>
  obtain⟨callee,args,dq⟩:=c;grind [aoZ,ao6,ao7,e1,ao0]
 | _=>simp[e1,ar]at aj
theorem C6(aT:ed C.P T)(dn:lE C.P bs)(aw:mU o C.bV=true)(h:(iv C.aU T bs (be C.aU s.az) o).run s.aa=some res):cR C o s res:=by
 grind [iv,ao',aoD]
end
def aL.KC:aL->Bool
 | .yf _ _ _=>true
 | _=>false
def vq(rho:Operand->aL)(o:Oper):Bool:=qV rho o&&(match o.op with
 | .load _ x=>!(use (rho x)).2.KC
 | .store _ x _=>!(use (rho x)).2.KC
 | _=>true)
section
variable {aP:dV} {T:Nat->V} {bs:Nat->Option aN} {rho kD:Operand->aL} {o:Oper}
theorem aE.er.yz{p:eA->Prop}{c:Prop}[Decidable c]{r:eA}(h:p r):(aE.ret (if c then some r else Option.none)).er (l' p):=by
 grind [uc,nil]
theorem Gw(hc:vq rho o=true):(iv aP T bs rho o).er (l' λr=>r.c):=by
 unfold vq at hc;unfold iv;split
 ·rename_i r aj;cases ar:o.op with
  | load ty x=>
   grind [e1,aL.KC]
  | store ty x y=>
   grind [e1,aL.KC]
  | indexAddr ty x i=>grind [qV]
  | slice ty x a1 G l6=>grind [qV]
  | call c=>
   obtain⟨callee,args,dq⟩:=c;cases callee with
   | builtin b=>
    cases b with
    | len=>
     simp  [e1,ar]at aj;split at aj
     ·split at aj
      ·cases aj;exact .yz trivial
      grind
     grind
    | unsafeSliceData=>grind [qV,C4]
    | unsafeString=>grind [qV,C4]
    | _=>simp[e1,ar]at aj
   | value f=>grind [qV]
   | _=>grind [e1]
  | _=>simp[e1,ar]at aj
 grind [aoK]
theorem Zx(nv:vn rho o):(iv aP T bs rho o).er (l' λr=>r.cy):=by
 unfold iv;split
 ·rename_i r aj;cases ar:o.op with
  | load ty x=>
   simp  [e1,ar]at aj;split at aj
   ·rename_i hu;cases aj;intro z;have:=nv.use   (by grind [Op.operands]) hu;show (aE.ret _).er _;split
    ·exact .yz this
    ·exact .nil
   grind
  | store ty x y=>
   simp  [e1,ar]at aj;split at aj
   ·rename_i hu;split at aj
    ·rename_i ae;cases aj;intro z;have E:=nv.use   (by grind [Op.operands]) hu;have L:=nv.use   (by grind [Op.operands]) ae;show (aE.ret _).er _;split
     ·exact .yz ⟨E,L⟩
     ·exact .nil
    grind
   grind
  | indexAddr ty x i=>
   simp  [e1,ar]at aj;split at aj
   ·rename_i hu;split at aj
    ·cases aj;exact .yz ⟨nv.use   (by grind [Op.operands]) hu,nv i (by grind [Op.operands])⟩
    grind
   grind
  | slice ty x a1 G l6=>
   simp  [e1,ar]at aj;split at aj
   ·rename_i hu;split at aj
    ·rename_i bK Au;cases aj;exact .yz ⟨nv.use   (by grind [Op.operands]) hu,Gr bK λy a_=>nv y (by grind [Op.operands]),Gr Au λy a_=>nv y (by grind [Op.operands])⟩
    grind
   grind
  | call c=>
   obtain⟨callee,args,dq⟩:=c;cases callee with
   | builtin b=>
    cases b with
    | len=>
     simp  [e1,ar]at aj;split at aj
     ·split at aj
      ·rename_i hu;cases aj;exact .yz (nv.use   (by grind [Op.operands,Call.operands]) hu)
      grind
     grind
    | unsafeSliceData=>
     simp  [e1,ar]at aj;split at aj
     ·split at aj
      ·rename_i hu;cases aj;have:=nv.use   (by grind [Op.operands,Call.operands]) hu;intro z;show (aE.ret _).er _;split
       ·exact .yz this
       ·exact .nil
      grind
     grind
    | unsafeString=>
     simp  [e1,ar]at aj;split at aj
     ·split at aj
      ·rename_i hu aA;cases aj;have E:=nv.use   (by grind [Op.operands,Call.operands]) hu;have L:=nv.use   (by grind [Op.operands,Call.operands]) aA;intro z;show (aE.ret _).er _;split
       ·exact .yz ⟨E,L⟩
       ·exact .nil
      grind
     grind
    | _=>simp[e1,ar]at aj
   | value f=>
    cases f with
    | func k=>
     simp  [e1,ar]at aj;obtain⟨c,_,rfl⟩:=aj;have AH:kg (args.toList.map rho):=Gq λv ae=>by
      obtain⟨p,aj,rfl⟩:=List.mem_map.1 ae;exact nv p (by grind [Op.operands,Call.operands])
     refine aE.er.bind λr=>?_;split
     ·intro z;show aE.er _ (match Ak c.e z.body with | some m=>_ | none=>_);split
      ·exact aE.er.bind λwl=>.uc AH
      ·exact .ma
     ·exact aE.er.eG λ⟨x,b9⟩=>aE.er.bind λwl=>.uc AH
    | _=>grind [e1]
   | _=>grind [e1]
  | _=>simp[e1,ar]at aj
 grind [aoL]
theorem Zy(h:ud rho o=true):(iv aP T bs rho o).er (l' λr=>r.cy):=Zx (Qv h)
theorem apa(h:∀ x∈o.op.operands.toList,rho x=kD x):e1 aP T rho o=e1 aP T kD o:=by
 cases ar:o.op with
 | load ty x=>grind [Op.operands,e1]
 | store ty x y=>
  simp_all[Op.operands,e1]
 | indexAddr ty x i=>
  simp_all[Op.operands,e1]
 | slice ty x a1 G l6=>
  rw[ar]at h;have E:=h x (by simp[Op.operands]);have L:lb rho a1=lb kD a1:=Qw λy a_=>h y (by grind [Op.operands]);have ak:lb rho G=lb kD G:=Qw λy a_=>h y (by grind [Op.operands]);unfold e1;grind
 | call c=>
  obtain⟨callee,args,dq⟩:=c;have fA:∀ x∈args.toList,rho x=kD x:=λx ao=>h x (by grind [Op.operands,Call.operands]);have ah:=aPF fA;unfold e1;rw[ar];simp only;split
  ·grind
  ·grind
  ·grind
  ·unfold PI;simp  [ah]
  ·rfl
 | _=>unfold e1;rw[ar]
theorem apb(h:∀ x∈o.op.operands.toList,rho x=kD x):iv aP T bs rho o=iv aP T bs kD o:=by
 grind [iv,apa,aoM]
end
end Go.Fer
namespace Go.Fer
open Go.RowKit
def KD(want b:Bool):Bool:=match want with | true=>b | false=>!b
def mb(s:Nat->aL)(ops:Array Oper):Option (Nat×Bool)->Option (Option Bool)
 | none=>some none
 | some (j,want)=>match ops[j]? with
  | some o=>match o.dst with
   | some d=>match s d with
    | .val .bool b=>some (some (KD want b))
    | .ku g (.val .bool b)=>some (some (g&&KD want b))
    | _=>none
   | none=>none
  | none=>none
def KE(ops:Array Oper):Option (Nat×Bool)->List Nat
 | none=>[]
 | some (j,_)=>match ops[j]? with
  | some o=>o.dst.toList
  | none=>[]
def apc(l:List Operand):List Nat:=l.filterMap fun | .tmp t=>some t | _=>none
def Gx(ops:Array Oper)(o:Oper):List Nat:=KE ops o.guard++apc o.op.operands.toList
structure eT where
 cs:List Prop
 dst:Option Nat
 ho:aL
 jC:List (Nat×b7)
 mA:List Nat
 xa:List Nat
def eT.jV(r:eT)(s:aC):aC:=(s.iw r.jC).set r.dst r.ho
def eT.pt(r:eT):List Nat:=r.dst.toList
def eT.oQ(r:eT):List Nat:=r.jC.map (·.1)
def Gy(cO cJ:Bool)(cy c:Prop):List Prop:=(match cO with | true=>[] | false=>[cy])++(match cJ with | true=>[] | false=>[c])
def vr(aP:dV)(T:Nat->V)(bs:Nat->Option aN)(ops:Array Oper)(s:aC)(o:Oper):Option eT:=
 match mb s.az ops o.guard with
 | none=>none
 | some g=>match (iv aP T bs (be aP s.az) o).run s.aa with
  | none=>none
  | some res=>match g with
   | none=>some ⟨Gy (ud (be aP s.az) o) (vq (be aP s.az) o) res.cy res.c,o.dst,res.ho,res.jC,Gx ops o,(iv aP T bs (be aP s.az) o).looks s.aa⟩
   | some b=>match res.jC with
    | []=>some ⟨Gy (ud (be aP s.az) o&&(vq (be aP s.az) o&&!res.ho.C3)) true (b=true->res.cy/\(res.c/\(use res.ho).1)) True,o.dst,.ku b (use res.ho).2,[],Gx ops o,(iv aP T bs (be aP s.az) o).looks s.aa⟩
    | _=>none
def xb(aP:dV)(T:Nat->V)(bs:Nat->Option aN)(ops:Array Oper):List Oper->aC->Option (List eT×aC)
 | [],s=>some ([],s)
 | o::os,s=>match vr aP T bs ops s o with
  | none=>none
  | some r=>match xb aP T bs ops os (r.jV s) with
   | none=>none
   | some (l,s')=>some (r::l,s')
def C7(a b:List Nat):Bool:=a.all λx=>!b.contains x
def eT.apart(a b:eT):Bool:=C7 a.pt (b.mA++b.pt)&&C7 a.mA b.pt&&C7 a.oQ (b.xa++b.oQ)&&C7 a.xa b.oQ
def lH(o:Oper):List Nat:=o.after.toList.filterMap λe=>if Region.binds .any e then some e.on else none
def Gz(acc:List Nat):List Nat->List Nat
 | []=>acc
 | x::l=>match acc.contains x with | true=>Gz acc l | false=>Gz (x::acc) l
theorem Qz{x:Nat}:∀ {l acc:List Nat},x∈Gz acc l->x∈acc\/x∈l
 | [],acc,h=>.inl h
 | y::l,acc,h=>by
  unfold Gz at h;split at h
  ·exact (Qz h).imp_right (amr _)
  ·rcases Qz h with h | h
   ·rcases List.mem_cons.1 h with h | h
    ·exact .inr (h ▸ aQA)
    ·exact .inl h
   ·exact .inr (amr _ h)
def C8(acc:List (List Nat))(o:Oper):List (List Nat):=acc++[Gz [] ((lH o).flatMap λj=>j::acc.getD j [])]
def jG(ops:List Oper):List (List Nat):=ops.foldl C8 []
def Zz(cl:List (List Nat))(l:List eT):Bool:=
 (List.range l.length).all λj=>(List.range j).all λi=>match l[i]?,l[j]? with
  | some a,some b=>(cl.getD j []).contains i||a.apart b
  | _,_=>false
def C9(ops:List Oper):Bool:=(List.range ops.length).all λj=>match ops[j]? with
 | some o=>(lH o).all λi=>decide (i<j)
 | none=>false
def AI(ops:List Oper)(l:List eT):Bool:=C9 ops&&Zz (jG ops) l
def AJ(R:List Nat)(s s':aC):Prop:=∀ t∈R,s.az t=s'.az t
def AK(B:List Nat)(s s':aC):Prop:=∀ b∈B,s.aa b=s'.aa b
theorem KF{a b:List Nat}(h:C7 a b=true){x:Nat}(ao:x∈a):x ∉ b:=by
 have:=List.all_eq_true.1 h x ao;grind
theorem C_(s:aC):∀ (l:List (Nat×b7)),(s.iw l).az=s.az:=by
 intro l;induction l generalizing s with
 | nil=>rfl
 | cons p l aO=>simp only[aC.iw];rw[aO];rfl
variable {b:Nat}
theorem QA:∀ (l:List (Nat×b7)) (s:aC),b ∉ l.map (·.1)->(s.iw l).aa b=s.aa b:=by
 intro l;induction l with
 | nil=>intro s _;rfl
 | cons p l aO=>
  intro s h;simp only[aPS,aQN,not_or]at h;simp only[aC.iw];rw[aO _ h.2];simp[aC.cn,h.1]
theorem QB:∀ (l:List (Nat×b7)) (s s':aC),b∈l.map (·.1)->(s.iw l).aa b=(s'.iw l).aa b:=by
 intro l;induction l with
 | nil=>simp
 | cons p l aO=>
  intro s s' h;simp only[aC.iw];by_cases U:b∈l.map (·.1)
  ·grind
  ·rw[QA l _ U,QA l _ U];have:b=p.1:=by grind
   simp[aC.cn,this]
theorem apd(s:aC)(d:Option Nat)(v:aL):(s.set d v).aa=s.aa:=by cases d<;>rfl
theorem KG(r:eT)(s:aC)(t:Nat):(r.jV s).az t=if t∈r.pt then r.ho else s.az t:=by
 unfold eT.jV eT.pt;cases h:r.dst with
 | none=>simp[aC.set,C_]
 | some d=>simp[aC.set,C_,eq_comm]
theorem AL(r:eT)(s:aC)(b:Nat):(r.jV s).aa b=(s.iw r.jC).aa b:=by unfold eT.jV;rw[apd]
variable {r:eT}{s:aC}
theorem ZA{t:Nat}(h:t ∉ r.pt):(r.jV s).az t=s.az t:=by rw[KG,if_neg h]
theorem xc(h:b ∉ r.oQ):(r.jV s).aa b=s.aa b:=by rw[AL];exact QA _ _ h
variable {s':aC}
theorem aC.ape(E:∀ t,s.az t=s'.az t)(L:∀ b,s.aa b=s'.aa b):s=s':=by
 obtain⟨a,b⟩:=s;obtain⟨a',bf⟩:=s';rw[show a=a' from funext E,show b=bf from funext L]
variable {b:eT}
theorem apf{a:eT}(E:∀ t∈a.pt,t ∉ b.pt)(L:∀ x∈a.oQ,x ∉ b.oQ)(s:aC):a.jV (b.jV s)=b.jV (a.jV s):=by
 apply aC.ape
 ·intro t;simp only[KG];grind
 ·intro x;by_cases aW:x∈a.oQ
  ·have U:=L x aW;rw[xc U,AL,AL];exact QB _ _ _ aW
  ·rw[xc aW];by_cases U:x∈b.oQ
   ·rw[AL,AL];exact QB _ _ _ U
   ·rw[xc U,xc U,xc aW]
def jW(l:List eT)(s:aC):aC:=l.foldl (λs r=>r.jV s) s
variable {R:List Nat}
theorem apg{B:List Nat}:∀ (l:List eT) (s:aC),(∀ r∈l,(∀ t∈R,t ∉ r.pt)/\∀ b∈B,b ∉ r.oQ)->AJ R (jW l s) s/\AK B (jW l s) s:=by
 intro l;induction l with
 | nil=>intro s _;exact⟨λ_ _=>rfl,λ_ _=>rfl⟩
 | cons r l aO=>
  intro s h;obtain⟨E,L⟩:=aO (r.jV s) λjO bj=>h jO (amr _ bj);have D:=h r (aQA);exact⟨λt aG=>(E t aG).trans (ZA (D.1 t aG)),λb U=>(L b U).trans (xc (D.2 b U))⟩
theorem aph{B:List Nat}(E:AJ R s s')(L:AK B s s'):AJ R (r.jV s) (r.jV s')/\AK B (r.jV s) (r.jV s'):=by
 refine⟨λt aG=>?_,λb U=>?_⟩
 ·rw[KG,KG];split
  ·rfl
  ·exact E t aG
 ·by_cases hw:b∈r.oQ
  ·rw[AL,AL];exact QB _ _ _ hw
  ·rw[xc hw,xc hw];exact L b U
theorem api{B:List Nat}(p:Nat×eT->Bool):∀ (l:List (Nat×eT)) (s s':aC),AJ R s s'->AK B s s'->(∀ r∈l,p r=false->(∀ t∈R,t ∉ r.2.pt)/\∀ b∈B,b ∉ r.2.oQ)->
  AJ R (jW ((l.filter p).map (·.2)) s) (jW (l.map (·.2)) s')/\AK B (jW ((l.filter p).map (·.2)) s) (jW (l.map (·.2)) s'):=by
 intro l;induction l with
 | nil=>intro s s' E L _;exact⟨E,L⟩
 | cons r l aO=>
  intro s s' E L h;have ah:=λjO bj=>h jO (amr _ bj);cases aj:p r with
  | true=>
   rw[List.filter_cons_of_pos aj];obtain⟨aM,aS⟩:=aph (r:=r.2) E L;exact aO _ _ aM aS ah
  | false=>
   rw[List.filter_cons_of_neg (by grind)];have D:=h r (aQA) aj;exact aO _ _ (λt aG=>(E t aG).trans (ZA (D.1 t aG)).symm) (λb U=>(L b U).trans (xc (D.2 b U)).symm) ah
theorem apj:∀ (l:List eT) (s:aC),(∀ x∈l,(∀ t∈r.pt,t ∉ x.pt)/\∀ b∈r.oQ,b ∉ x.oQ)->jW l (r.jV s)=r.jV (jW l s):=by
 intro l;induction l with
 | nil=>intro s _;rfl
 | cons x l aO=>
  intro s h;have ao:=h x (aQA);show jW l (x.jV (r.jV s))=r.jV (jW l (x.jV s));rw[<-apf ao.1 ao.2 s];grind
def j3:Nat->List eT->List (Nat×eT)
 | _,[]=>[]
 | n,r::l=>(n,r)::j3 (n+1) l
theorem QC:∀ (l m:List eT) (n:Nat),j3 n (l++m)=j3 n l++j3 (n+l.length) m
 | [],m,n=>by rfl
 | r::l,m,n=>by simp only[aRl,j3,QC l m (n+1),aQn];grind
theorem KH:∀ (l:List eT) (n:Nat),(j3 n l).map (·.2)=l
 | [],_=>rfl
 | r::l,n=>by simp only[j3,aPS,KH l (n+1)]
theorem AM:∀ {l:List eT} {n j:Nat} {x:eT},(j,x)∈j3 n l->n<=j/\l[j - n]?=some x
 | r::l,n,j,x,h=>by
  simp only[j3,aQN,aPD]at h;rcases h with⟨rfl,rfl⟩ | h
  ·simp
  ·obtain⟨E,L⟩:=AM h;grind
 | [],_,_,_,h=>by cases h
def mW(l:List eT)(s:aC)(f:Nat->Bool):aC:=jW (((j3 0 l).filter λp=>f p.1).map (·.2)) s
theorem GA(l m:List eT)(s:aC):jW (l++m) s=jW m (jW l s):=by simp[jW]
theorem QD{a:eT}(h:a.apart b=true):(∀ t∈a.pt,t ∉ b.mA/\t ∉ b.pt)/\(∀ t∈a.mA,t ∉ b.pt)/\(∀ x∈a.oQ,x ∉ b.xa/\x ∉ b.oQ)/\∀ x∈a.xa,x ∉ b.oQ:=by
 simp only[eT.apart,amn]at h;obtain⟨⟨⟨E,L⟩,ak⟩,aZ⟩:=h;refine⟨λt aG=>?_,λt aG=>KF L aG,λx ao=>?_,λx ao=>KF aZ ao⟩
 ·have:=KF E aG;grind
 ·have:=KF ak ao;grind
theorem apk{l:List eT}{f:Nat->Bool}{i:Nat}(G:l[i]?=some r)(ax:f i=false)
  (hq:∀ j x,j<i->l[j]?=some x->f j=false->x.apart r=true) (AN:∀ j x,i<j->l[j]?=some x->f j=true->r.apart x=true) :
  AJ r.mA (mW l s f) (jW (l.take i) s)/\AK r.xa (mW l s f) (jW (l.take i) s)/\mW l s (λj=>if j=i then true else f j)=r.jV (mW l s f):=by
 obtain⟨dk,fz⟩:=List.getElem?_eq_some_iff.1 G;have hlen:(l.take i).length=i:=by grind
 have ZB:j3 0 l=j3 0 (l.take i)++(i,r)::j3 (i+1) (l.drop (i+1)):=by
  have E:l=l.take i++r::l.drop (i+1):=by
   have:=aQL i l;rw[aPE dk,fz]at this;grind
  have L:=QC (l.take i) (r::l.drop (i+1)) 0;rw[<-E,hlen]at L;simpa [j3]using L
 have apl:∀ p∈j3 0 (l.take i),p.1<i/\l[p.1]?=some p.2:=by
  rintro⟨j,x⟩ aj;obtain⟨_,L⟩:=AM aj;grind
 have aLD:∀ p∈j3 (i+1) (l.drop (i+1)),i<p.1/\l[p.1]?=some p.2:=by
  rintro⟨j,x⟩ aj;obtain⟨E,L⟩:=AM aj;grind
 have ZC:∀ x∈((j3 (i+1) (l.drop (i+1))).filter λp=>f p.1).map (·.2),r.apart x=true:=by
  grind
 have kS:mW l s f=jW (((j3 (i+1) (l.drop (i+1))).filter λp=>f p.1).map (·.2)) (jW (((j3 0 (l.take i)).filter λp=>f p.1).map (·.2)) s):=by
  unfold mW;rw[ZB,aQh,List.filter_cons_of_neg (by grind),aPZ,GA]
 have vp:=apg (R:=r.mA) (B:=r.xa) (((j3 (i+1) (l.drop (i+1))).filter λp=>f p.1).map (·.2)) (jW (((j3 0 (l.take i)).filter λp=>f p.1).map (·.2)) s)
  (λx ao=>by
   have:=QD (ZC x ao);grind)
 have uf:=api (R:=r.mA) (B:=r.xa) (λp=>f p.1) (j3 0 (l.take i)) s s (λ_ _=>rfl) (λ_ _=>rfl) (λp aj ZD=>by
  obtain⟨E,L⟩:=apl p aj;have:=QD (hq p.1 p.2 E L ZD);grind)
 rw[KH]at uf;refine⟨λt aG=>by rw[kS];exact (vp.1 t aG).trans (uf.1 t aG),λb U=>by rw[kS];exact (vp.2 b U).trans (uf.2 b U),?_⟩;rw[kS];unfold mW;have aB:(j3 0 (l.take i)).filter (λp=>if p.1=i then true else f p.1)=(j3 0 (l.take i)).filter λp=>f p.1:=by
  apply aQf;grind
 have bt:(j3 (i+1) (l.drop (i+1))).filter (λp=>if p.1=i then true else f p.1)=(j3 (i+1) (l.drop (i+1))).filter λp=>f p.1:=by
  apply aQf;grind
 rw[ZB,aQh,List.filter_cons_of_pos (by simp),aB,bt,aPZ,GA];show jW _ (r.jV _)=_;refine apj _ _ λx ao=>?_;have:=QD (ZC x ao);grind
theorem C'{p:Nat->Prop}:∀ (ops:List Oper) (acc:List (List Nat)),(∀ j i,i∈acc.getD j []->p j->p i)->(∀ j o,ops[j]?=some o->∀ i∈lH o,p (acc.length+j)->p i)->
  ∀ j i,i∈(ops.foldl C8 acc).getD j []->p j->p i:=by
 intro ops;induction ops with
 | nil=>simp
 | cons o ops aO=>
  intro acc h aw;refine aO (C8 acc o) (λj i G aJ=>?_) λj f' hS i G aJ=>aw (j+1) f' (by grind) i G (by
   have:(C8 acc o).length=acc.length+1:=by simp[C8]
   grind)
  unfold C8 at G;rw[amp,List.getElem?_append]at G;split at G
  ·grind
  ·rename_i dk;by_cases e:j=acc.length
   ·subst e;simp only[Nat.sub_self,aQv,amx]at G;have G:=(Qz G).resolve_left (by simp);simp only[aQ4,aQN]at G;obtain⟨k,an,G⟩:=G;have u_:=aw 0 o (by simp) k an (by omega);grind
   grind
variable {ops:Array Oper}
theorem QE{aP:dV}{T:Nat->V}{bs:Nat->Option aN}:∀ (os:List Oper) (s:aC) {l:List eT} {s':aC},xb aP T bs ops os s=some (l,s')->
  l.length=os.length/\s'=jW l s/\∀ i o,os[i]?=some o->∃ r,l[i]?=some r/\vr aP T bs ops (jW (l.take i) s) o=some r:=by
 intro os;induction os with
 | nil=>intro s l s' h;cases h;exact⟨rfl,rfl,λi o h=>by cases h⟩
 | cons o os aO=>
  intro s l s' h;simp only[xb]at h;split at h
  ·cases h
  ·rename_i r D;split at h
   ·cases h
   ·rename_i et aLE ah;cases h;obtain⟨E,L,ak⟩:=aO _ ah;refine⟨by grind,L,λi f' hS=>?_⟩;cases i with
    | zero=>
     simp only[aQv,amk]at hS;subst hS;exact⟨r,by simp,D⟩
    | succ i=>
     obtain⟨jO,aM,aS⟩:=ak i f' (by grind);exact⟨jO,by grind,aS⟩
theorem QF{f kz:Nat->aL}{g:Option (Nat×Bool)}(h:∀ t∈KE ops g,f t=kz t):mb f ops g=mb kz ops g:=by
 unfold mb;cases g with
 | none=>rfl
 | some p=>
  obtain⟨j,want⟩:=p;simp only;cases aJ:ops[j]? with
  | none=>rfl
  | some o=>
   simp only;cases aw:o.dst with
   | none=>rfl
   | some d=>
    simp only;rw[h d (by simp[KE,aJ,aw])]
theorem apm{aP:dV}{T:Nat->V}{bs:Nat->Option aN}{o:Oper}(h:vr aP T bs ops s o=some r)(E:AJ r.mA s' s)(L:AK r.xa s' s):vr aP T bs ops s' o=some r:=by
 have ZE:r.mA=Gx ops o/\r.xa=(iv aP T bs (be aP s.az) o).looks s.aa:=by
  unfold vr at h;grind
 rw[ZE.1]at E;rw[ZE.2]at L;have lF:∀ x∈o.op.operands.toList,be aP s'.az x=be aP s.az x:=by
  intro x ao;cases x with
  | tmp t=>
   refine E t ?_;simp only[Gx,List.mem_append];exact .inr (List.mem_filterMap.2 ⟨.tmp t,ao,rfl⟩)
  | _=>rfl
 have aB:mb s'.az ops o.guard=mb s.az ops o.guard:=QF λt aG=>E t (by simp[Gx,aG]);have bt:iv aP T bs (be aP s'.az) o=iv aP T bs (be aP s.az) o:=apb lF;have cT:=aE.Ya (H:=s.aa) (H':=s'.aa) (iv aP T bs (be aP s.az) o) L;have bW:ud (be aP s'.az) o=ud (be aP s.az) o:=by
  unfold ud;grind
 have l1:qV (be aP s'.az) o=qV (be aP s.az) o:=by
  unfold qV;cases ar:o.op with
  | binOp op ty x y t=>
   rw[ar]at lF;simp only;rw[lF x (by simp[Op.operands])]
  | load ty x=>rw[ar]at lF;simp only;rw[lF x (by simp[Op.operands])]
  | store ty x y=>rw[ar]at lF;simp only;rw[lF x (by simp[Op.operands])]
  | call c=>
   obtain⟨callee,args,dq⟩:=c;rw[ar]at lF;cases callee with
   | builtin b=>
    have df:∀ x∈args.toList,be aP s'.az x=be aP s.az x:=λx ao=>lF x (by simp[Op.operands,Call.operands];simp_all);simp only;unfold C4;grind
   | _=>rfl
  | _=>rfl
 have ek:vq (be aP s'.az) o=vq (be aP s.az) o:=by
  unfold vq;rw[l1];congr 1;cases ar:o.op with
  | load ty x=>rw[ar]at lF;simp only;rw[lF x (by simp[Op.operands])]
  | store ty x y=>rw[ar]at lF;simp only;rw[lF x (by simp[Op.operands])]
  | _=>rfl
 unfold vr at h ⊢;simp_all
end Go.Fer
