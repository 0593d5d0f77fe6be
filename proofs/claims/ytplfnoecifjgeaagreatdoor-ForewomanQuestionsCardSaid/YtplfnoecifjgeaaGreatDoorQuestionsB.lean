/- Part 2 of the proof of Questions: shallow programs of Go functions, and what they compute. No condition. -/
import Derived.Test.YtplfnoecifjgeaaGreatDoorQuestionsA
import Derived.Laws.BytesString
noncomputable section
namespace Go.Fer
open Go.RowKit
theorem BV {p:Addr} (h:p.spot=none) (n:Nat):p.add n=⟨p.block,p.off+n,none⟩:=by
 obtain ⟨b,o,sp⟩:=p;simp only at h;subst h;exact uO b o n
theorem J6 {e:ad} {xs:List e.ai} {i:Int} (G:0<=i) (V:i<(xs.length:Int)):kI e xs i=xs[i.toNat]'(by omega):=by
 unfold kI;grind
section
variable {C:b8} {T:Nat->ad} {bg:Nat->Option aO} {o:Oper} {s:aB} {res:ey}
theorem J7 {P:Program} {w:World} {e:ad} {ty:TypeId} (h:b7 P (.slice e) ty) {p:Addr} (ar:p.spot=none) {n cap:Nat} {k:IntKind} {i:Int} (G:0<=i) (V:i<(n:Int)) :
  (Instr.indexAt ty (.slice (some p) n cap) (.int k i)).run P w=.ok (.pointer (some ⟨p.block,p.off+i.toNat*e.size,none⟩)) w:=by
 obtain ⟨j,aH,iW,_⟩:=h.sl;simp [Instr.indexAt,asIntOf,dC aH,G,V,iW.size,BV ar]
theorem acY (aV:dT C.P T) {ty:TypeId} {x i:Operand} (bh:∀ i,o.dst=some i->i<C.nt) (ag:o.op=.indexAddr ty x i) (h:(bt C.aP T bg (a_ C.aP s.az) o).run s.ab=some res):cE C o s res:=by
 simp only [bt,ag] at h;split at h
 ·rename_i cX k n aL M;have dk:=aV.b_ aL (by simp);simp only [bO,aq.e0,Option.bind_eq_some_iff,aq.bN,Option.some.injEq] at h;obtain ⟨⟨c,v⟩,hf,rfl⟩:=h;refine cE.pure (by grind) bh λa w κ F U be hc=>?_;have aj:bA C.P s.ab κ F w (use (a_ C.aP s.az x)).2 (a.eval x):=cK U x rfl be.1;have V:=od (cK U i rfl be.2) M;have y1:∀ (xs:List cX.ai),bK C.P (.slice cX) F w [a.eval x] xs->0<=n/\n<(xs.length:Int)->∃ r,(execOp a.eval o).run C.P w=.ok (.value r) w/\bA C.P s.ab κ F w (.dW cX (kI cX xs n)) r:=by
   intro xs hQ aD;obtain ⟨a',cap,aF,m1,m2,m3,m4⟩:=hQ;have aF:=(List.cons.inj aF).1;cases a' with
   | none=>grind
   | some p=>
    obtain ⟨ec,ef,jF⟩:=m4 p rfl (by omega);obtain ⟨bk,d1,d2⟩:=jF n.toNat (by omega);refine ⟨_,by simp [execOp,ag,aF,V.1,J7 dk ef aD.1 aD.2],⟨p.block,p.off+n.toNat*cX.size,none⟩,bk,rfl,d1,?_⟩;rw [J6 aD.1 aD.2];exact d2
  unfold Q6 at hf;split at hf
  ·rename_i e xs e5;simp only [aq.bN] at hf;split at hf
   ·rename_i he;subst he;simp only [Option.some.injEq,Prod.mk.injEq] at hf;obtain ⟨rfl,rfl⟩:=hf;rw [e5] at aj;exact y1 xs ((dV rfl).1 aj).2 hc
   grind
  ·rename_i b g e5;rw [e5] at aj;simp only [aq.eZ,aq.bN] at hf;split at hf
   ·rename_i aC;have aT:=U.bE b;unfold cB at aT;split at hf
    ·rename_i e xs bS;split at hf
     ·rename_i he;subst he;simp only [Option.some.injEq,Prod.mk.injEq] at hf;obtain ⟨rfl,rfl⟩:=hf;have af:=aj.2 aC.symm (by rw [bS];rfl);rw [bS] at af aT;have uV:(κ b).e3=false:=by
       cases aD:(κ b).e3 with
       | false=>rfl
       | true=>rw [aT.1 aD] at hc;grind
      simp only [bD.slice,uV,Bool.false_eq_true,if_false,bQ.len] at af;refine ⟨_,by simp [execOp,ag,af,V.1,J7 dk (p:=⟨(κ b).ab,(κ b).off,none⟩) rfl hc.1 hc.2];rfl,⟨aj.1.1,rfl⟩,λ_ _=>?_⟩;rw [bS];exact ⟨by simp only [bQ.len];omega,uV,rfl⟩
     grind
    ·rename_i e xs bS;split at hf
     ·rename_i he;subst he;simp only [Option.some.injEq,Prod.mk.injEq] at hf;obtain ⟨rfl,rfl⟩:=hf;have af:=aj.2 aC.symm (by rw [bS];rfl);rw [bS] at af aT;simp only [bQ.len] at af;refine y1 xs ?_ hc;rw [af];exact aT
     grind
    grind
   grind
  ·rename_i b g aZ M e5;rw [e5] at aj;simp only [aq.eZ,aq.bN] at hf;split at hf
   ·rename_i aC;have aT:=U.bE b;unfold cB at aT;split at hf
    ·rename_i e xs bS;split at hf
     ·rename_i he;subst he;simp only [Option.some.injEq,Prod.mk.injEq] at hf;obtain ⟨rfl,rfl⟩:=hf;obtain ⟨⟨aU,aX⟩,bP⟩:=aj.2 aC.symm (by rw [bS];rfl);rw [bS] at aX bP aT;simp only [bQ.len,bQ.eY] at aX bP;rcases bP with ⟨aD,_⟩ | ⟨aD,mc,af,hO,gw⟩
      ·rw [aT.1 aD] at aX;grind
      ·obtain ⟨cs,hR,bF,c2,c3,c4,c5⟩:=aT.2 aD;refine ⟨_,by simp [execOp,ag,af,V.1,J7 dk (p:=⟨(κ b).ab,mc,none⟩) rfl hc.1 hc.2];rfl,⟨aj.1.1,rfl⟩,λ_ _=>?_⟩;rw [bS];refine ⟨by simp only [bQ.len];omega,aD,?_⟩;rw [gw (by omega)];simp only [bQ.eY,Nat.add_mul];grind
     grind
    ·rename_i e xs bS;split at hf
     ·rename_i he;subst he;simp only [Option.some.injEq,Prod.mk.injEq] at hf;obtain ⟨rfl,rfl⟩:=hf;obtain ⟨⟨aU,aX⟩,bP⟩:=aj.2 aC.symm (by rw [bS];rfl);rw [bS] at aX bP aT;simp only [bQ.len,bQ.eY] at aX bP;have hlen:((xs.take M).drop aZ).length=M - aZ:=by grind
      obtain ⟨r,cf,cF⟩:=y1 ((xs.take M).drop aZ) (EV aT aU aX bP) (by omega);refine ⟨r,cf,?_⟩;have aF:kI e ((xs.take M).drop aZ) n=kI e xs ((aZ:Int)+n):=by
       rw [J6 hc.1 (by omega),J6 (by omega) (by omega)];grind
      grind
     grind
    grind
   grind
  ·simp_all
  ·cases hf
 ·rename_i m cX k n aL M;split at h
  ·rename_i dw a8 xs e5;split at h
   ·rename_i he;obtain ⟨rfl,rfl⟩:=he;simp only [bO,aq.bN,Option.some.injEq] at h;subst h;refine cE.pure (by grind) bh λa w κ F U be hc=>?_;have aj:bA C.P s.ab κ F w (use (a_ C.aP s.az x)).2 (a.eval x):=cK U x rfl be.1;rw [e5] at aj;have V:=od (cK U i rfl be.2) M;obtain ⟨j,aH,qO,_⟩:=(aV.b_ aL (by simp)).bj;obtain ⟨p,bk,af,cR,nG⟩:=aj;obtain ⟨bF,c2,c3,rfl,bB,di⟩:=JU nG (i:=n.toNat) (by omega);refine ⟨.pointer (some ⟨p.block,p.off+n.toNat*a8.size,none⟩),?_,⟨p.block,p.off+n.toNat*a8.size,none⟩,c2,rfl,⟨cR.1,rfl,λq br=>?_⟩,di⟩
    ·simp [execOp,ag,Instr.indexAt,af,V.1,asIntOf,dC aH,hc.1,hc.2,qO.size,BV cR.2.1,Instr.sureAddr]
    ·have:=cR.2.2 (bF.length+q) (by grind);grind
   ·cases h
  ·rename_i b g off e5;simp only [aq.eZ,aq.bN] at h;split at h
   ·rename_i bl;simp only [Bool.and_eq_true,decide_eq_true_eq] at bl;simp only [Option.some.injEq] at h;subst h;refine cE.pure (by grind) bh λa w κ F U be hc=>?_;have G:bA C.P s.ab κ F w (use (a_ C.aP s.az x)).2 (a.eval x):=cK U x rfl be.1;rw [e5] at G;have V:=od (cK U i rfl be.2) M;have ah:=G.2 bl.1.symm bl.2;obtain ⟨j,aH,qO,_⟩:=(aV.b_ aL (by simp)).bj;exact ⟨_,by simp [execOp,ag,Instr.indexAt,ah,V.1,asIntOf,dC aH,hc.1,hc.2,qO.size,BV (p:=⟨(κ b).ab,off,none⟩) rfl,Instr.sureAddr],⟨G.1.1,rfl⟩,λ_ _=>rfl⟩
   grind
  ·cases h
 ·cases h
theorem BW {a:Act} {w:World} {κ:Nat->bD} {F:Nat->Prop} (U:bm C s a w κ F) {x:Option Operand} {p:Prop} {n:Option Int} (h:k4 (a_ C.aP s.az) x=some (p,n)) (ar:p) :
  (x=none/\n=none)\/∃ y k m,x=some y/\n=some m/\a.eval y=.int k m:=by
 cases x with
 | none=>simp only [k4,Option.some.injEq,Prod.mk.injEq] at h;grind
 | some y=>
  simp only [k4] at h;split at h
  ·rename_i q k m hu;simp only [Option.some.injEq,Prod.mk.injEq] at h;obtain ⟨rfl,rfl⟩:=h;exact .inr ⟨y,k,m,rfl,rfl,(gP.1 (cK U y hu ar)).1⟩
  grind
theorem Ry {P:Program} {w:World} {isS:Bool} {len cap:Nat} {aZ M:Option Value} {l h:Option Int} (ak:(aZ=none/\l=none)\/∃ k m,aZ=some (.int k m)/\l=some m) (cR:(M=none/\h=none)\/∃ k m,M=some (.int k m)/\h=some m)
  (G:0<=dp l) (V:dp l<=fx len h) (ah:fx len h<=(cap:Int)) (_h4:len<=cap):(Instr.sliceBounds isS len cap aZ M none).run P w=.ok ((dp l).toNat,(fx len h).toNat,cap) w:=by
 rcases ak with ⟨rfl,rfl⟩ | ⟨k,m,rfl,rfl⟩<;>rcases cR with ⟨rfl,rfl⟩ | ⟨k',dw,rfl,rfl⟩<;>simp only [dp,fx] at G V ah ⊢
 ·rfl
 ·have:0<=dw/\dw<=(cap:Int):=by omega
  simp [Instr.sliceBounds,Instr.sliceBound,asIntOf,this]
 ·have:0<=m/\m<=(len:Int):=by omega
  simp [Instr.sliceBounds,Instr.sliceBound,asIntOf,this]
 ·have aF:0<=dw/\dw<=(cap:Int):=by omega
  have bB:0<=m/\m<=dw:=by omega
  have di:max dw 0=dw:=by omega
  simp [Instr.sliceBounds,Instr.sliceBound,asIntOf,aF,bB,di]
theorem acZ {l h:Option Int} {n m:Nat} (Rz:n<=m):BA l h n m<=m:=by
 unfold BA;grind
theorem ac0 (aV:dT C.P T) {ty:TypeId} {x:Operand} {aZ M:Option Operand} (bh:∀ i,o.dst=some i->i<C.nt) (ag:o.op=.slice ty x aZ M none) (h:(bt C.aP T bg (a_ C.aP s.az) o).run s.ab=some res):cE C o s res:=by
 simp only [bt,ag,Option.isSome_none,Bool.false_eq_true,if_false,EY] at h;split at h
 ·rename_i ol l qJ lK rU J8;have ay:∀ c,o.op≠.defer c:=by grind
  have rK:∀ (a:Act) (w:World) κ F,bm C s a w κ F->ol->qJ->((aZ.map a.eval=none/\l=none)\/∃ k m,aZ.map a.eval=some (.int k m)/\l=some m)/\((M.map a.eval=none/\lK=none)\/∃ k m,M.map a.eval=some (.int k m)/\lK=some m):=by
   intro a w κ F U BX BY;constructor
   ·rcases BW U rU BX with ⟨rfl,rfl⟩ | ⟨y,k,m,rfl,rfl,e⟩
    ·exact .inl ⟨rfl,rfl⟩
    ·exact .inr ⟨k,m,by simp [e],rfl⟩
   ·rcases BW U J8 BY with ⟨rfl,rfl⟩ | ⟨y,k,m,rfl,rfl,e⟩
    ·exact .inl ⟨rfl,rfl⟩
    ·exact .inr ⟨k,m,by simp [e],rfl⟩
  split at h
  ·rename_i cX aL;have dk:=aV.b_ aL (by simp);obtain ⟨j,aH,iW,oi⟩:=dk.sl;simp only [aq.e0,Option.bind_eq_some_iff] at h;obtain ⟨⟨c,v⟩,fN,h⟩:=h;simp only [bO,aq.bN,Option.some.injEq] at h;subst h;have runs:∀ (a:Act) (w:World) κ F,bm C s a w κ F->ol->qJ->∀ (q:Option Addr) (n cap:Nat),a.eval x=.slice q n cap->n<=cap->0<=dp l/\dp l<=fx n lK/\fx n lK<=(cap:Int)->
     (execOp a.eval o).run C.P w=.ok (.value (.slice (if cap=(dp l).toNat then q else q.map (·.add ((dp l).toNat*cX.size))) ((fx n lK).toNat - (dp l).toNat) (cap - (dp l).toNat))) w:=by
    intro a w κ F U BX BY q n cap af aD hc;obtain ⟨dB,eu⟩:=rK a w κ F U BX BY;have:=Ry (P:=C.P) (w:=w) (isS:=true) dB eu hc.1 hc.2.1 hc.2.2 aD;simp [execOp,ag,af,Instr.sliceAt,Instr.slice,dC aH,this,iW.size]
   unfold Q7 at fN;split at fN
   ·rename_i e xs e5;simp only [aq.bN] at fN;split at fN
    ·rename_i he;subst he;simp only [Option.some.injEq,Prod.mk.injEq] at fN;obtain ⟨rfl,rfl⟩:=fN;refine cE.pure ay bh λa w κ F U be hc=>?_;have aj:bA C.P s.ab κ F w (use (a_ C.aP s.az x)).2 (a.eval x):=cK U x rfl be.1;rw [e5] at aj;obtain ⟨_,a',cap,aF,m1,m2,m3,m4⟩:=(dV rfl).1 aj;have aF:=(List.cons.inj aF).1;refine ⟨_,runs a w κ F U be.2.1 be.2.2 a' xs.length cap aF m1 ⟨hc.1,hc.2.1,by omega⟩,(dV rfl).2 ⟨rfl,?_⟩⟩;have hlen:((xs.take (fx xs.length lK).toNat).drop (dp l).toNat).length=(fx xs.length lK).toNat - (dp l).toNat:=by
      simp;omega
     refine ⟨_,_,by rw [hlen],by omega,by omega,?_,λp ar uJ=>?_⟩
     ·intro aD;split at aD
      ·omega
      ·cases a' with
       | none=>have:=m3 rfl;omega
       | some q=>cases aD
     ·cases a' with
      | none=>split at ar<;>cases ar
      | some q=>
       obtain ⟨ec,ef,jF⟩:=m4 q rfl (by omega);have br:∃ d,p=⟨q.block,q.off+d,none⟩/\(d=(dp l).toNat*e.size\/cap=(dp l).toNat):=by
        split at ar
        ·omega
        ·simp only [Option.map_some,Option.some.injEq] at ar;rw [BV ef] at ar;grind
       obtain ⟨d,rfl,wB⟩:=br;refine ⟨ec,rfl,λi M=>?_⟩;rw [hlen] at M;obtain ⟨bk,d1,d2⟩:=jF ((dp l).toNat+i) (by omega);rcases wB with rfl | wO
       ·refine ⟨bk,⟨d1.1,rfl,λk ao=>?_⟩,?_⟩
        ·have:=d1.2.2 k ao;rw [Nat.add_mul] at this;rw [show q.off+(dp l).toNat*e.size+i*e.size=q.off+((dp l).toNat*e.size+i*e.size) from by omega];exact this
        ·have bB:((xs.take (fx xs.length lK).toNat).drop (dp l).toNat)[i]'(by rw [hlen];exact M)=xs[(dp l).toNat+i]'(by omega):=by simp
         rw [bB];exact d2
       ·omega
    grind
   ·rename_i e5;simp only [aq.bN,Option.some.injEq,Prod.mk.injEq] at fN;obtain ⟨rfl,rfl⟩:=fN;refine cE.pure ay bh λa w κ F U be hc=>?_;have aj:bA C.P s.ab κ F w (use (a_ C.aP s.az x)).2 (a.eval x):=cK U x rfl be.1;rw [e5] at aj;simp only [bA] at aj;have jH:0<=dp l/\dp l<=fx 0 lK/\fx 0 lK<=((0:Nat):Int):=hc;have c1:=runs a w κ F U be.2.1 be.2.2 none 0 0 aj (Nat.le_refl _) jH;have aY:(fx 0 lK).toNat=0:=by omega
    rw [aY] at c1;refine ⟨_,c1,?_⟩;simp only [bA];simp
   ·rename_i b g e5;simp only [aq.eZ,aq.bN] at fN;split at fN
    ·rename_i bl;simp only [Bool.and_eq_true,decide_eq_true_eq,beq_iff_eq] at bl;obtain ⟨⟨aC,e6⟩,BN⟩:=bl;simp only [Option.some.injEq,Prod.mk.injEq] at fN;obtain ⟨rfl,rfl⟩:=fN;refine cE.pure ay bh λa w κ F U be hc=>?_;have aj:bA C.P s.ab κ F w (use (a_ C.aP s.az x)).2 (a.eval x):=cK U x rfl be.1;rw [e5] at aj;have af:=aj.2 aC.symm e6;obtain ⟨ec,ef⟩:=yW U e6;cases aD:(κ b).e3 with
     | true=>
      have aY:=ec aD;simp only [bD.slice,aD,if_true] at af;rw [aY] at hc;have c1:=runs a w κ F U be.2.1 be.2.2 none 0 0 af (Nat.le_refl _) hc;refine ⟨_,c1,⟨aj.1.1,by rfl⟩,λ_ _=>⟨by grind,.inl ⟨aD,?_⟩⟩⟩;grind
     | false=>
      have wO:=JV U e6 aD;simp only [bD.slice,aD,Bool.false_eq_true,if_false] at af;have c1:=runs a w κ F U be.2.1 be.2.2 _ _ _ af wO ⟨hc.1,hc.2.1,by omega⟩;refine ⟨_,c1,⟨aj.1.1,by rfl⟩,λ_ _=>⟨by omega,.inr ⟨aD,?_⟩⟩⟩;rw [<-BN];by_cases lF:(κ b).cap=(dp l).toNat
      ·grind
      ·rw [if_neg lF];simp only [Option.map_some,uO];simp
    grind
   ·rename_i b g fe aY e5;simp only [aq.eZ,aq.bN] at fN;split at fN
    ·rename_i bl;simp only [Bool.and_eq_true,decide_eq_true_eq,beq_iff_eq] at bl;obtain ⟨⟨aC,e6⟩,BN⟩:=bl;simp only [Option.some.injEq,Prod.mk.injEq] at fN;obtain ⟨rfl,rfl⟩:=fN;refine cE.pure ay bh λa w κ F U be hc=>?_;have aj:bA C.P s.ab κ F w (use (a_ C.aP s.az x)).2 (a.eval x):=cK U x rfl be.1;rw [e5] at aj;obtain ⟨⟨aU,aX⟩,bP⟩:=aj.2 aC.symm e6;obtain ⟨ec,ef⟩:=yW U e6;have rV:BA l lK (aY - fe) ((s.ab b).body.len - fe)<=(s.ab b).body.len - fe:=acZ (by omega);revert hc rV;generalize BA l lK (aY - fe) ((s.ab b).body.len - fe)=lim;intro hc rV;rcases bP with ⟨aD,af⟩ | ⟨aD,mc,af,hO,gw⟩
     ·have J9:=ec aD;have cX:aY - fe=0:=by omega
      have elim:lim=0:=by omega
      rw [cX,elim] at hc;grind
     ·have wO:=JV U e6 aD;have c1:=runs a w κ F U be.2.1 be.2.2 _ _ _ af (by omega) ⟨hc.1,hc.2.1,by omega⟩;refine ⟨_,c1,⟨aj.1.1,by rfl⟩,λ_ _=>⟨by omega,.inr ⟨aD,?_⟩⟩⟩;rw [<-BN];rw [<-BN] at c1;have aF:(fx (aY - fe) lK).toNat - (dp l).toNat=fe+(fx (aY - fe) lK).toNat - (fe+(dp l).toNat):=by omega
      have bB:(κ b).cap - fe - (dp l).toNat=(κ b).cap - (fe+(dp l).toNat):=by omega
      rw [aF,bB];have di:(fe+(dp l).toNat)*(s.ab b).body.eY=fe*(s.ab b).body.eY+(dp l).toNat*(s.ab b).body.eY:=Nat.add_mul _ _ _;by_cases lF:(κ b).cap - fe=(dp l).toNat
      ·rw [if_pos lF];exact ⟨_,rfl,by omega,λh=>by omega⟩
      ·rw [if_neg lF];simp only [Option.map_some,uO];exact ⟨_,rfl,by omega,λh=>by omega⟩
    grind
   ·cases fN
  ·rename_i aL;have dk:=(aV.b_ aL (by simp)).str;split at h
   ·rename_i c v fN;simp only [bO,aq.bN,Option.some.injEq] at h;subst h;unfold Q8 at fN;split at fN
    ·rename_i xs e5;simp only [Option.some.injEq,Prod.mk.injEq] at fN;obtain ⟨rfl,rfl⟩:=fN;refine cE.pure ay bh λa w κ F U be hc=>?_;have aj:bA C.P s.ab κ F w (use (a_ C.aP s.az x)).2 (a.eval x):=cK U x rfl be.1;rw [e5] at aj;obtain ⟨af,ch⟩:=l5.1 aj;obtain ⟨dB,eu⟩:=rK a w κ F U be.2.1 be.2.2;have aG:ByteArray.size ⟨xs.toArray⟩=xs.length:=by rfl
     have:=Ry (P:=C.P) (w:=w) (isS:=false) (len:=xs.length) (cap:=xs.length) dB eu hc.1 hc.2.1 hc.2.2 (Nat.le_refl _);refine ⟨.string ⟨((xs.take (fx xs.length lK).toNat).drop (dp l).toNat).toArray⟩,?_,l5.2 ⟨rfl,by grind⟩⟩;simp only [execOp,ag,af,Instr.sliceAt,Instr.slice,Sem.run_bind,dC dk,Result.andThen_ok,Option.map_none,Option.isSome_none,Bool.false_eq_true,if_false,aG,this,Sem.run_pure];have he:ByteArray.extract ⟨xs.toArray⟩ (dp l).toNat (fx xs.length lK).toNat=⟨((xs.take (fx xs.length lK).toNat).drop (dp l).toNat).toArray⟩:=by
      apply ByteArray.ext;rw [ByteArray.data_extract];grind
     rw [he]
    grind
   ·cases h
  ·cases h
 ·cases h
end
end Go.Fer
namespace Go.Fer
open Go.RowKit
def gi (P:Program) (e:ad) (F:Nat->Prop) (w:World) (all:List Value) (xs:List e.ai):Prop:=
 all.length=xs.length*e.size/\∀ i (h:i<xs.length),bK P e F w ((all.drop (i*e.size)).take e.size) xs[i]
theorem gi.append {P:Program} {e:ad} {F:Nat->Prop} {w:World} {l m:List Value} {xs ys:List e.ai} (h:gi P e F w l xs) (k:gi P e F w m ys):gi P e F w (l++m) (xs++ys):=by
 refine ⟨by simp [h.1,k.1,Nat.add_mul],λi M=>?_⟩;by_cases aj:i<xs.length
 ·have aF:(xs++ys)[i]=xs[i]:=List.getElem_append_left aj;rw [aF];have hle:(i+1)*e.size<=xs.length*e.size:=Nat.mul_le_mul_right _ (by omega);rw [Nat.add_mul,Nat.one_mul] at hle;have:((l++m).drop (i*e.size)).take e.size=(l.drop (i*e.size)).take e.size:=by
   rw [List.drop_append_of_le_length (by rw [h.1];omega),List.take_append_of_le_length (by simp [h.1];omega)]
  rw [this];exact h.2 i aj
 ·have dM:i - xs.length<ys.length:=by grind
  have aF:(xs++ys)[i]=ys[i - xs.length]:=List.getElem_append_right (by omega);rw [aF];have hm:i*e.size=xs.length*e.size+(i - xs.length)*e.size:=by rw [<-Nat.add_mul];grind
  have:(l++m).drop (i*e.size)=m.drop ((i - xs.length)*e.size):=by
   rw [hm,<-h.1,List.drop_append,List.drop_of_length_le (by omega)];simp
  rw [this];exact k.2 _ dM
theorem gi.BZ {P:Program} {e:ad} {F:Nat->Prop} {w:World} {all pre post:List Value} {cs:Array Value} {xs:List e.ai} (h:gi P e F w all xs) (hc:cs.toList=pre++(all++post)):lz P e F w cs pre.length xs:=by
 intro i M;have hle:(i+1)*e.size<=xs.length*e.size:=Nat.mul_le_mul_right _ (by omega);rw [Nat.add_mul,Nat.one_mul] at hle;refine ⟨_,λj aH=>?_,h.2 i M⟩;have fM:j<e.size:=by grind
 rw [<-Array.getElem?_toList,hc,List.getElem?_append_right (by omega),List.getElem?_append_left (by grind)];grind
theorem Ff {P:Program} {e:ad} {F:Nat->Prop} {w:World}:∀ {xs:List e.ai} {p:Addr},(0<xs.length->p.spot=none)->(∀ i (h:i<xs.length),∃ bk,kr w ⟨p.block,p.off+i*e.size,none⟩ bk/\bK P e F w bk xs[i])->
  ∃ all,gi P e F w all xs/\kr w p all
 | [],p,ar,_=>⟨[],⟨by simp,λi M=>by grind⟩,λh=>by grind,λj aH=>by grind⟩
 | x::xs,p,ar,h=>by
  obtain ⟨bk,d1,d2⟩:=h 0 (by simp);have uU:=hM e d2;obtain ⟨all,ca,a2⟩:=Ff (P:=P) (F:=F) (w:=w) (xs:=xs) (p:=⟨p.block,p.off+e.size,none⟩) (λ_=>rfl) (λi M=>by
   obtain ⟨Rx,aU,aX⟩:=h (i+1) (by grind);grind)
  refine ⟨bk++all,?_,λ_=>ar (by simp),λj aH=>?_⟩
  ·have G:gi P e F w bk [x]:=⟨by grind,λi M=>by
    have:i=0:=by grind
    subst this;grind⟩
   exact G.append ca
  ·rcases Nat.lt_or_ge j bk.length with G | G
   ·rw [List.getElem_append_left G];have:=d1.2 j G;grind
   ·rw [List.getElem_append_right G];have:=a2.2 (j - bk.length) (by grind);grind
section
variable {C:b8} {T:Nat->ad} {bg:Nat->Option aO} {o:Oper} {s:aB} {res:ey}
theorem rW {a:Act} {w:World} {κ:Nat->bD} {F:Nat->Prop} (U:bm C s a w κ F) {e:ad} {av:aI} {v:Value} {ys:List e.ai} {l:List Nat} (h:(dA (.slice e) av).run s.ab=some (ys,l)) (af:bA C.P s.ab κ F w av v) :
  ∃ q cap,v=.slice q ys.length cap/\((q=none/\ys=[]/\cap=0)\/∃ p all,q=some p/\gi C.P e F w all ys/\kr w p all):=by
 have y1:∀ {xs:List e.ai},bK C.P (.slice e) F w [v] xs->∃ q cap,v=.slice q xs.length cap/\((q=none/\xs=[]/\cap=0)\/∃ p all,q=some p/\gi C.P e F w all xs/\kr w p all):=by
  intro xs aj;obtain ⟨q,cap,aF,m1,m2,m3,m4⟩:=aj;refine ⟨q,cap,(List.cons.inj aF).1,?_⟩;cases q with
  | none=>
   simp_all
  | some p=>
   obtain ⟨all,ca,a2⟩:=Ff (P:=C.P) (F:=F) (w:=w) (xs:=xs) (p:=p) (λh=>(m4 p rfl (by omega)).2.1) (λi M=>let ⟨bk,d1,d2⟩:=(m4 p rfl (by omega)).2.2 i M;⟨bk,d1.JM,d2⟩);grind
 cases av with
 | val cU y=>
  simp only [dA,aq.bN,Option.map_eq_some_iff,Prod.mk.injEq] at h;obtain ⟨z,bl,rfl,_⟩:=h;exact y1 (((dV rfl).1 (EU bl af)).2)
 | df=>
  simp only [dA,km,ad.eC,if_true,dX,aq.bN,Option.some.injEq,Prod.mk.injEq] at h;obtain ⟨rfl,_⟩:=h;simp only [bA] at af;grind
 | an b g=>
  simp only [dA,km,ad.eC,if_true,dX,aq.eZ,aq.bN] at h;split at h
  ·rename_i aC;have aT:=U.bE b;unfold cB at aT;split at h
   ·rename_i a8 xs bS;simp only [Option.map_eq_some_iff,Prod.mk.injEq] at h;obtain ⟨z,bl,rfl,_⟩:=h;obtain ⟨qP,rfl⟩:=kH bl;cases qP;have tp:=af.2 aC.symm (by rw [bS];rfl);rw [bS] at tp aT;simp only [bQ.len] at tp;cases aD:(κ b).e3 with
    | true=>
     have hQ:=aT.1 aD;subst hQ;simp only [bD.slice,aD,if_true] at tp;grind
    | false=>
     obtain ⟨cs,hR,bF,c2,c3,c4,c5⟩:=aT.2 aD;simp only [bD.slice,aD,Bool.false_eq_true,if_false] at tp;obtain ⟨all,ca,a2⟩:=Ff (P:=C.P) (F:=F) (w:=w) (xs:=xs) (p:=⟨(κ b).ab,(κ b).off,none⟩) (λ_=>rfl) (λi M=>by
      obtain ⟨bk,d1,d2⟩:=c5 i M;exact ⟨bk,⟨λ_=>rfl,λj aH=>by rw [uQ bF];grind⟩,d2⟩)
     grind
   ·rename_i a8 xs bS;simp only [Option.map_eq_some_iff,Prod.mk.injEq] at h;obtain ⟨z,bl,rfl,_⟩:=h;obtain ⟨qP,rfl⟩:=kH bl;cases qP;have tp:=af.2 aC.symm (by rw [bS];rfl);rw [bS] at tp aT;simp only [bQ.len] at tp;simp only [jz] at aT;grind
   grind
  grind
 | sub b g aZ M=>
  simp only [dA,km,ad.eC,if_true,dX,aq.eZ,aq.bN] at h;split at h
  ·rename_i aC;have aT:=U.bE b;unfold cB at aT;split at h
   ·rename_i a8 xs bS;simp only [Option.map_eq_some_iff,Prod.mk.injEq] at h;obtain ⟨z,bl,rfl,_⟩:=h;obtain ⟨qP,rfl⟩:=kH bl;cases qP;obtain ⟨⟨aU,aX⟩,bP⟩:=af.2 aC.symm (by rw [bS];rfl);rw [bS] at aX bP aT;simp only [bQ.len,bQ.eY] at aX bP;have hlen:((xs.take M).drop aZ).length=M - aZ:=by grind
    rcases bP with ⟨aD,tp⟩ | ⟨aD,mc,tp,hO,gw⟩
    ·have hQ:=aT.1 aD;grind
    ·obtain ⟨cs,hR,bF,c2,c3,c4,c5⟩:=aT.2 aD;obtain ⟨all,ca,a2⟩:=Ff (P:=C.P) (F:=F) (w:=w) (xs:=(xs.take M).drop aZ) (p:=⟨(κ b).ab,mc,none⟩) (λ_=>rfl) (λi dM=>by
      rw [hlen] at dM;obtain ⟨bk,d1,d2⟩:=c5 (aZ+i) (by omega);refine ⟨bk,⟨λ_=>rfl,λj aH=>?_⟩,?_⟩
      ·rw [uQ bF,<-d1 j aH];grind
      grind)
     grind
   ·rename_i a8 xs bS;simp only [Option.map_eq_some_iff,Prod.mk.injEq] at h;obtain ⟨z,bl,rfl,_⟩:=h;obtain ⟨qP,rfl⟩:=kH bl;cases qP;obtain ⟨⟨aU,aX⟩,bP⟩:=af.2 aC.symm (by rw [bS];rfl);rw [bS] at aX bP aT;exact y1 (EV aT aU aX bP)
   grind
  grind
 | dW cU y=>simp [dA,km,ad.eC,dX,aq.none] at h
 | jy u=>simp [dA,km,ad.eC,dX,Bw] at h
 | _=>simp [dA,km,ad.eC,dX,aq.none] at h
theorem y2 {P:Program} {w:World} {e:ad} {q:Option Addr} {n cap:Nat} {xs:List e.ai} {F:Nat->Prop} (aD:n=xs.length) (h:(q=none/\xs=[]/\cap=0)\/∃ p all,q=some p/\gi P e F w all xs/\kr w p all) :
  ∃ all,(Builtin.firstCells e.size n (.slice q n cap)).run P w=.ok all.toArray w/\gi P e F w all xs:=by
 subst aD;rcases h with ⟨rfl,rfl,rfl⟩ | ⟨p,all,rfl,ca,a2⟩
 ·exact ⟨[],by rfl,by simp [gi]⟩
 ·refine ⟨all,?_,ca⟩;simp only [Builtin.firstCells];rw [<-ca.1];exact E5 a2
theorem ac1 (n:Nat):∀ (k c:Nat),Builtin.growBy n k c<=max c (2*n+768):=by
 intro k;induction k with
 | zero=>intro c;simp only [Builtin.growBy];omega
 | succ k aM=>
  intro c;simp only [Builtin.growBy];grind
theorem ac2 {Fg cap:Nat} (h:cap<Fg):Builtin.nextslicecap Fg cap<=2*Fg+768:=by
 unfold Builtin.nextslicecap;split
 ·omega
 ·split
  ·omega
  ·have:=ac1 Fg 4 cap;omega
theorem ac3 {z:Array Value} {n k:Nat} (h:z.size=k):(Builtin.zeroCells z n).size=n*k:=by simp [Builtin.zeroCells,h]
theorem ac4 {P:Program} {w:World} {e:ad} {ty mG:TypeId} {F:Nat->Prop} (h:b7 P (.slice e) ty) (ds:b7 P (.slice e) mG\/∃ a8,b7 P (.slice a8) mG) {q q':Option Addr} {cap cap':Nat} {xs ys:List e.ai}
  (aj:(q=none/\xs=[]/\cap=0)\/∃ p all,q=some p/\gi P e F w all xs/\kr w p all) (aS:(q'=none/\ys=[]/\cap'=0)\/∃ p all,q'=some p/\gi P e F w all ys/\kr w p all)
  (hc:cap<xs.length+ys.length) (ak:cn (xs.length+ys.length)) (rt:TypeId) :
  ∃ jI qQ cs,(Builtin.append_ #[ty,mG] rt #[.slice q xs.length cap,.slice q' ys.length cap']).run P w=.ok (.slice (some ⟨w.heap.size,0,none⟩) (xs.length+ys.length) qQ) (w.drew.alloc (.cells cs jI))/\
   qQ<2 ^ 63/\xs.length+ys.length<=qQ/\cs.size=qQ*e.size/\lz P e F w cs 0 (xs++ys):=by
 obtain ⟨jI,aH,iW,oi⟩:=h.sl;obtain ⟨j7,fM⟩:∃ j7,P.underlying mG=some (.slice j7):=by
  rcases ds with ds | ⟨a8,ds⟩
  ·obtain ⟨j7,k,_⟩:=ds.sl;grind
  ·obtain ⟨j7,k,_⟩:=ds.sl;grind
 obtain ⟨i,z,i1,i2,i3,i4,i5,i6⟩:=ko iW.kn;have bl:=(BR e (P:=P) i5).2;have ac5:∀ t:Nat,xs.length+ys.length<=xs.length+ys.length+t % (2 ^ 63 - (xs.length+ys.length))/\xs.length+ys.length+t % (2 ^ 63 - (xs.length+ys.length))<2 ^ 63:=by
  intro t;unfold cn at ak;have:t % (2 ^ 63 - (xs.length+ys.length))<2 ^ 63 - (xs.length+ys.length):=Nat.mod_lt _ (by omega);omega
 generalize J_:xs.length+ys.length+(w.tape w.drawn (.appendCap (xs.length+ys.length) cap jI)) % (2 ^ 63 - (xs.length+ys.length))=qQ;have J':=ac5 (w.tape w.drawn (.appendCap (xs.length+ys.length) cap jI));rw [J_] at J';have RA:∀ {p:Addr} {all:List Value},kr w p all->kr w.drew p all:=λh=>h;have RB:∀ {all:List Value} {zs:List e.ai},gi P e F w all zs->gi P e F w.drew all zs:=λh=>⟨h.1,λi M=>e' e (F:=F) (F':=F) (w:=w) (w':=w.drew) (λ_ U=>U) ⟨Nat.le_refl _,λ_ _=>rfl⟩ (h.2 i M)⟩
 have nF:(q=none/\xs=[]/\cap=0)\/∃ p all,q=some p/\gi P e F w.drew all xs/\kr w.drew p all:=aj.imp id λ⟨p,all,a,b,c⟩=>⟨p,all,a,RB b,RA c⟩
 have B0:(q'=none/\ys=[]/\cap'=0)\/∃ p all,q'=some p/\gi P e F w.drew all ys/\kr w.drew p all:=aS.imp id λ⟨p,all,a,b,c⟩=>⟨p,all,a,RB b,RA c⟩
 obtain ⟨uW,hO,gw⟩:=y2 (P:=P) (w:=w.drew) (cap:=cap) rfl nF;obtain ⟨ew,ec,ef⟩:=y2 (P:=P) (w:=w.drew) (cap:=cap') rfl B0;refine ⟨jI,qQ,uW.toArray++ew.toArray++Builtin.zeroCells z.cells (qQ - (xs.length+ys.length)),?_,J'.2,J'.1,?_,?_⟩
 ·have aa:=ac2 hc;have qR:Builtin.nextslicecap (xs.length+ys.length) cap*i.bytes<=281474976710656:=by
   unfold cn at ak;calc Builtin.nextslicecap (xs.length+ys.length) cap*i.bytes<=(2*4294967296+768)*1024:=Nat.mul_le_mul (by omega) i3
    _<=281474976710656:=by decide
  have y3:¬((xs.length+ys.length:Nat):Int) > IntKind.i64.max:=by
   unfold cn at ak;have:IntKind.i64.max=9223372036854775807:=by decide
   omega
  have ac6:¬Builtin.nextslicecap (xs.length+ys.length) cap*i.bytes > 2 ^ 48:=by
   omega
  have RC:(Question.appendCap (xs.length+ys.length) cap jI).cut (w.tape w.drawn (.appendCap (xs.length+ys.length) cap jI))=qQ:=by
   rw [<-J_];rfl
  have ac7:(Question.appendCap (xs.length+ys.length) cap jI).forced=false:=rfl;simp only [Builtin.append_,List.getElem?_toArray,List.getElem?_cons_zero,List.getElem?_cons_succ,Sem.run_bind,dC aH,dC fM,Result.andThen_ok,rP i1,i2,Sem.run_pure,Builtin.lenOf,Bool.false_eq_true,if_false,if_neg (show ¬xs.length+ys.length<=cap by omega),y3,false_and,E3 i1,ac6,run_choose,ac7,RC,run_askRoom,Bool.not_false,if_true,World.drew_eq,hO,ec,qL i1 i4];rfl
 ·have G:=gw.1;have V:=ef.1;simp only [Array.size_append,List.size_toArray,ac3 bl,G,V];rw [<-Nat.add_mul,<-Nat.add_mul];grind
 ·have jf:=gw.append ef;have ac8:gi P e F w (uW++ew) (xs++ys):=⟨jf.1,λi M=>e' e (F:=F) (F':=F) (w:=w.drew) (w':=w) (λ_ U=>U) ⟨Nat.le_refl _,λ_ _=>rfl⟩ (jf.2 i M)⟩
  exact ac8.BZ (pre:=[]) (post:=(Builtin.zeroCells z.cells (qQ - (xs.length+ys.length))).toList) (by simp)
end
end Go.Fer
namespace Go.Fer
open Go.RowKit
section
variable {C:b8} {T:Nat->ad} {bg:Nat->Option aO} {o:Oper} {s:aB} {res:ey}
theorem bm.B1 {a:Act} {w w':World} {κ:Nat->bD} {F:Nat->Prop} (h:bm C s a w κ F) {b g:Nat} {e:ad} {zs:List e.ai} {k:bD} (aC:(s.ab b).gen<g) (k8:k.e3=true\/k.ab=w.heap.size) (cb:w.heap.size<=w'.heap.size)
  (mK:∀ r,r<w.heap.size->w'.heap[r]?=w.heap[r]?) (ch:k.e3=false->k.ab<w'.heap.size) (hc:da w w')
  (bS:∀ H κ',jz C.P H κ' F w' k (.bj e zs)):bm C (s.cw b ⟨g,.bj e zs⟩) a w' (λi=>if i=b then k else κ i) F:=by
 have ak:fm s.ab κ (λi=>if i=b then (⟨g,.bj e zs⟩:bL) else s.ab i) (λi=>if i=b then k else κ i):=yF aC λbf dh=>by grind
 have he:cZ F w w':=⟨cb,λr U=>mK r (h.c_ r U)⟩
 refine h.move (H':=λi=>if i=b then (⟨g,.bj e zs⟩:bL) else s.ab i) ak (λ_ U=>U) (λ_ U=>.inl U) cb (λr U _=>mK r U) hc (λ_=>?_) ?_ ?_ (λr U=>Nat.lt_of_lt_of_le (h.c_ r U) cb) (yG (.inr ⟨rfl,rfl⟩) λbf dh=>by grind)
 ·intro i;by_cases M:i=b
  ·subst M;simp only [cB,if_true];grind
  ·exact cB.k3 (h.bE i) ak (λ_ U=>U) he (by grind) (by grind) λag=>mK _ (h.an i ag).1
 ·intro i M;by_cases eL:i=b
  ·subst eL;simp only [if_true,bQ.b1,Bool.not_eq_true'] at M ⊢;have ao:=k8.resolve_left (by grind);refine ⟨ch M,λaw=>?_,.inr (by omega)⟩;have:=h.c_ _ aw;omega
  ·simp only [if_neg eL] at M ⊢;have:=h.an i M;grind
 ·intro i j M aH a8;by_cases eL:i=b<;>by_cases l7:j=b
  ·omega
  ·simp only [if_pos eL,if_neg l7,bQ.b1,Bool.not_eq_true'] at M aH a8;have ao:=k8.resolve_left (by grind);have:=(h.an j aH).1;omega
  ·simp only [if_neg eL,if_pos l7,bQ.b1,Bool.not_eq_true'] at M aH a8;have ao:=k8.resolve_left (by grind);have:=(h.an i M).1;omega
  ·simp only [if_neg eL,if_neg l7] at M aH a8;exact h.inj i j M aH a8
theorem ac9 (s:aB) (b:Nat) (x y:bL):(s.cw b x).cw b y=s.cw b y:=by
 unfold aB.cw;grind
theorem bm.ac_ {a:Act} {w:World} {κ:Nat->bD} {F:Nat->Prop} (h:bm C s a w κ F) {b:Nat} {e:ad} {xs:List e.ai} (aa:(s.ab b).body=.bj e xs) {aZ M:Nat} (G:aZ<=M) (V:M<=xs.length) {v:Value} (aG:ET (κ b) e.size aZ M v) :
  ∃ κ',bm C (s.cw b ⟨(s.ab b).gen+1,.bj e ((xs.take M).drop aZ)⟩) a w κ' F/\v=(κ' b).slice ((xs.take M).drop aZ).length:=by
 have hlen:((xs.take M).drop aZ).length=M - aZ:=by grind
 have gh:∀ κ':Nat->bD,(∀ bf,bf≠b->κ' bf=κ bf)->fm s.ab κ (λi=>if i=b then (⟨(s.ab b).gen+1,.bj e ((xs.take M).drop aZ)⟩:bL) else s.ab i) κ':=
  λκ' Bu=>yF (Nat.lt_succ_self _) Bu
 have aT:=h.bE b;unfold cB at aT;rw [aa] at aT;rcases aG with ⟨aD,rfl⟩ | ⟨aD,o,rfl,hO,gw⟩
 ·have hQ:=aT.1 aD;subst hQ;refine ⟨κ,?_,by simp [bD.slice,aD]⟩;refine h.move (H':=λi=>if i=b then (⟨(s.ab b).gen+1,.bj e ((([]:List e.ai).take M).drop aZ)⟩:bL) else s.ab i) (gh κ λ_ _=>rfl) (λ_ U=>U) (λ_ U=>.inl U) (Nat.le_refl _) (λ_ _ _=>rfl) (da.refl _) (λ_=>?_) ?_ ?_ h.c_ (yG (.inr ⟨rfl,rfl⟩) λ_ _=>rfl)
  ·intro i;by_cases M:i=b
   ·subst M;simp only [cB,if_true];exact ⟨λ_=>by simp,λh=>by grind⟩
   ·exact cB.k3 (h.bE i) (gh κ λ_ _=>rfl) (λ_ U=>U) (cZ.refl _ _) (by grind) rfl λ_=>rfl
  ·intro i M;by_cases eL:i=b
   ·subst eL;simp [bQ.b1,aD] at M
   ·simp only [if_neg eL] at M;exact ⟨(h.an i M).1,(h.an i M).2.1,.inl ⟨i,M,rfl⟩⟩
  ·intro i j M aH a8;by_cases eL:i=b
   ·subst eL;simp [bQ.b1,aD] at M
   ·by_cases l7:j=b
    ·subst l7;simp [bQ.b1,aD] at aH
    ·simp only [if_neg eL,if_neg l7] at M aH;exact h.inj i j M aH a8
 ·obtain ⟨cs,hR,bF,c2,c3,c4,c5⟩:=aT.2 aD;let k':bD:=⟨(κ b).ab,o,(κ b).cap - aZ,false⟩
  let κ':Nat->bD:=λi=>if i=b then k' else κ i
  have B2:∀ bf,bf≠b->κ' bf=κ bf:=λbf h=>if_neg h;have y4:κ' b=k':=if_pos rfl;have gb:=h.an b (by rw [aa];simp [bQ.b1,aD]);refine ⟨κ',?_,by rw [y4,hlen];rfl⟩;refine h.move (H':=λi=>if i=b then (⟨(s.ab b).gen+1,.bj e ((xs.take M).drop aZ)⟩:bL) else s.ab i) (gh κ' B2) (λ_ U=>U) (λ_ U=>.inl U) (Nat.le_refl _) (λ_ _ _=>rfl) (da.refl _) (λ_=>?_) ?_ ?_ h.c_ (yG (.inr ⟨rfl,rfl⟩) B2)
  ·intro i;by_cases dM:i=b
   ·subst dM;simp only [cB,if_true,y4];have hmul:aZ*e.size<=(κ i).cap*e.size:=Nat.mul_le_mul_right _ (by omega);refine ⟨λh=>(by cases h),λ_=>⟨cs,hR,bF,?_,by grind,by grind,λj aH=>?_⟩⟩
    ·simp only [k'];rw [Nat.sub_mul];omega
    ·rw [hlen] at aH;obtain ⟨bk,d1,d2⟩:=c5 (aZ+j) (by omega);grind
   ·exact cB.k3 (h.bE i) (gh κ' B2) (λ_ U=>U) (cZ.refl _ _) (by grind) (B2 i dM) λ_=>rfl
  ·intro i dM;by_cases eL:i=b
   ·subst eL;rw [y4];exact ⟨gb.1,gb.2.1,.inl ⟨i,by rw [aa];simp [bQ.b1,aD],rfl⟩⟩
   ·simp only [if_neg eL] at dM;rw [B2 i eL] at dM ⊢;exact ⟨(h.an i dM).1,(h.an i dM).2.1,.inl ⟨i,dM,rfl⟩⟩
  ·intro i j dM aH a8;have RD:∀ i,(κ' i).ab=(κ i).ab:=λi=>by
    grind
   have b9:∀ i,((if i=b then (⟨(s.ab b).gen+1,.bj e ((xs.take M).drop aZ)⟩:bL) else s.ab i).body.b1 (κ' i)=true)->(s.ab i).body.b1 (κ i)=true:=λi M=>by
    by_cases eL:i=b
    ·subst eL;rw [aa];simp [bQ.b1,aD]
    grind
   rw [RD,RD] at a8;exact h.inj i j (b9 i dM) (b9 j aH) a8
theorem lz.later {P:Program} {e:ad} {F:Nat->Prop} {w w':World} {cs:Array Value} {off:Nat} {xs:List e.ai} (h:lz P e F w cs off xs) (he:cZ F w w'):lz P e F w' cs off xs:=h.mono (λ_ U=>U) he
theorem ac' (aV:dT C.P T) {args:Array Operand} {dj:Array TypeId} (bh:∀ i,o.dst=some i->i<C.nt) (ag:o.op=.call { callee:=.builtin .append,args:=args,argTypes:=dj }) (h:(BC T (a_ C.aP s.az) o.dst args.toList dj.toList).run s.ab=some res):cE C o s res:=by
 obtain ⟨args⟩:=args;obtain ⟨dj⟩:=dj;have ay:∀ c,o.op≠.defer c:=by grind
 simp only [BC] at h;split at h
 ·rename_i x y t u;split at h
  ·rename_i e bB aL hu;have dk:=aV.b_ aL (by simp);have uS:=aV.b_ hu (by simp);obtain ⟨jI,aH,iW,oi⟩:=dk.sl;obtain ⟨ada,fM,_⟩:=uS.sl;obtain ⟨inf,z,i1,i2,i3,i4,i5,i6⟩:=ko iW.kn;have mH:∀ (a:Act) (w w':World) v,(Builtin.append_ #[t,u] o.type #[a.eval x,a.eval y]).run C.P w=.ok v w'->(execOp a.eval o).run C.P w=.ok (.value v) w':=by
    intro a w w' v af;refine wL ag ?_;simp [builtin,af]
   have main:∀ (s:aB) (a:Act) (w:World) (κ:Nat->bD) (F:Nat->Prop) (Q:Exit->Act->World->Prop) (b g:Nat) (xs ys:List e.ai),bm C s a w κ F->
     (∃ q cap,a.eval y=.slice q ys.length cap/\((q=none/\ys=[]/\cap=0)\/∃ p all,q=some p/\gi C.P e F w all ys/\kr w p all))->
     (s.ab b).gen<g->(∃ q cap,a.eval x=.slice q xs.length cap/\((q=none/\xs=[]/\cap=0)\/∃ p all,q=some p/\gi C.P e F w all xs/\kr w p all))->
     (∀ q cap,a.eval x=.slice q xs.length cap->q≠none->xs.length+ys.length<=cap->(s.ab b).body=.bj e xs/\(κ b).e3=false/\q=some ⟨(κ b).ab,(κ b).off,none⟩/\cap=(κ b).cap)->cn (xs.length+ys.length)->
     o.wpIn (dS C.r) 0 C.P a w (λa' w'=>cu C ((s.cw b ⟨g,.bj e (xs++ys)⟩).set o.dst (.an b g)) a' w') Q:=by
    intro s a w κ F Q b g xs ys U nI Ka rX adb hlen;obtain ⟨q,cap,rX,Kb⟩:=rX;obtain ⟨q',cap',tq,nI⟩:=nI;have Kc:∀ (κ':Nat->bD) (v:Value) (w':World),bm C (s.cw b ⟨g,.bj e (xs++ys)⟩) a w' κ' F->v=(κ' b).slice (xs++ys).length->cu C ((s.cw b ⟨g,.bj e (xs++ys)⟩).set o.dst (.an b g)) (a.put o.dst v) w':=by
     intro κ' v w' bd af;refine ⟨κ',F,bm.set bd bh ⟨⟨by simp [aB.cw],?_⟩,λ_ _=>?_⟩⟩
     ·rw [af];unfold bD.slice;split<;>rfl
     ·rw [af];simp [aB.cw,bQ.len]
    by_cases wP:xs.length+ys.length<=cap
    ·cases br:q with
     | none=>
      subst br;obtain ⟨ade,uJ⟩:xs=[]/\cap=0:=by
       grind
      subst ade;subst uJ;have Kd:ys=[]:=by grind
      subst Kd;obtain ⟨ew,ec,ef⟩:=y2 (P:=C.P) (w:=w) (cap:=cap') rfl nI;have c1:(Builtin.append_ #[t,u] o.type #[a.eval x,a.eval y]).run C.P w=.ok (.slice none 0 0) w:=by
       rw [rX,tq];simp only [List.length_nil] at ec ⊢;simp [Builtin.append_,dC aH,dC fM,rP i1,Builtin.lenOf];rw [i2,ec];simp
      refine hr ay (mH a w w _ c1) (Kc _ _ _ (U.B1 (k:=⟨0,0,0,true⟩) Ka (.inl rfl) (Nat.le_refl _) (λ_ _=>rfl) (λh=>by cases h) (da.refl _) λH κ'=>⟨λ_=>rfl,λh=>by cases h⟩) ?_);simp [bD.slice]
     | some Fh=>
      obtain ⟨aa,uV,ar,wO⟩:=adb q cap rX (by grind) wP;rw [br] at ar;have ar:=Option.some.inj ar;subst ar;subst wO;have aT:=U.bE b;unfold cB at aT;rw [aa] at aT;obtain ⟨cs,hR,bF,c2,c3,c4,c5⟩:=aT.2 uV;obtain ⟨ew,ec,ef⟩:=y2 (P:=C.P) (w:=w) (cap:=cap') rfl nI;have o9:=ef.1;have nH:∀ v∈ew,v.oneCell'=true:=by
       intro v af;obtain ⟨j,aH,rfl⟩:=List.mem_iff_getElem.1 af;have k7:0<e.size:=Nat.pos_of_ne_zero oi;have hdiv:j / e.size<ys.length:=(Nat.div_lt_iff_lt_mul k7).2 (by omega);have nG:=ef.2 (j / e.size) hdiv;have iw:=yJ (P:=C.P) (H:=λ_=>⟨0,.fw⟩) (κ:=λ_=>⟨0,0,0,true⟩) e nG;have y5:=Nat.mod_lt j k7;have adf:j / e.size*e.size+j % e.size=j:=Nat.div_add_mod' j e.size;have B3:((ew.drop (j / e.size*e.size)).take e.size).length=e.size:=hM e nG;have:=(iw.kI (j % e.size) (by rw [iw.len,B3];omega)).2;grind
      have adg:(κ b).off+xs.length*e.size+0+ew.length<=cs.size:=by
       rw [o9];have:(xs.length+ys.length)*e.size<=(κ b).cap*e.size:=Nat.mul_le_mul_right _ wP;grind
      obtain ⟨w',dc,cf,cF,ep,lG,lH,l'⟩:=uR (P:=C.P) ew ((κ b).off+xs.length*e.size) 0 w cs bF adg nH;have c1:(Builtin.append_ #[t,u] o.type #[a.eval x,a.eval y]).run C.P w=.ok (.slice (some ⟨(κ b).ab,(κ b).off,none⟩) (xs.length+ys.length) (κ b).cap) w':=by
       rw [rX,tq,br];simp only [Builtin.append_,List.getElem?_toArray,List.getElem?_cons_zero,List.getElem?_cons_succ,Sem.run_bind,dC aH,dC fM,Result.andThen_ok,rP i1,i2,Sem.run_pure,Builtin.lenOf,Bool.false_eq_true,if_false,if_pos wP,Bool.not_false,if_true,ec,uO];simp only [cf,Result.andThen_ok]
      have gh:fm s.ab κ (λi=>if i=b then (⟨g,.bj e (xs++ys)⟩:bL) else s.ab i) κ:=yF Ka λ_ _=>rfl;refine hr ay (mH a w w' _ c1) (Kc κ _ _ (U.o2 (b:=b) (by rw [aa];simp [bQ.b1,uV]) (by simp [bQ.b1,uV]) gh (λh=>by cases h) (λh=>by cases h) lG lH l' λH mJ ch he=>?_) (by simp [bD.slice,uV]));refine ⟨λh=>(by grind),λ_=>?_⟩;have Fc:dc.size=cs.size:=by
       rw [<-Array.length_toList,ep];grind
      refine ⟨dc,hR,cF,by omega,by grind,c4,λi M=>?_⟩;simp only [Nat.add_zero] at ep;have gG:(cs.toList.take ((κ b).off+xs.length*e.size)).length=(κ b).off+xs.length*e.size:=by grind
      by_cases RE:i<xs.length
      ·obtain ⟨bk,d1,d2⟩:=c5 i RE;have aF:(xs++ys)[i]=xs[i]:=List.getElem_append_left RE;rw [aF];refine ⟨bk,λk ao=>?_,e' e (λ_ U=>U) he d2⟩;have RF:=hM e d2;have hle:(i+1)*e.size<=xs.length*e.size:=Nat.mul_le_mul_right _ (by omega);rw [Nat.add_mul] at hle;rw [<-Array.getElem?_toList,ep,List.getElem?_append_left (by omega),List.getElem?_take,if_pos (by omega)];grind
      ·have dM:i - xs.length<ys.length:=by grind
       have aF:(xs++ys)[i]=ys[i - xs.length]:=List.getElem_append_right (by omega);rw [aF];have B4:=ef.BZ (pre:=cs.toList.take ((κ b).off+xs.length*e.size)) (post:=cs.toList.drop ((κ b).off+xs.length*e.size+ew.length)) ep;obtain ⟨bk,d1,d2⟩:=B4 (i - xs.length) dM;refine ⟨bk,λk ao=>?_,e' e (λ_ U=>U) he d2⟩;have:=d1 k ao;rw [gG] at this;rw [<-this];congr 1;have:i*e.size=xs.length*e.size+(i - xs.length)*e.size:=by rw [<-Nat.add_mul];grind
       omega
    ·obtain ⟨adh,qQ,cs,cf,cF,ep,lG,lH⟩:=ac4 (P:=C.P) (w:=w) (F:=F) (cap:=cap) (cap':=cap') dk (.inr ⟨bB,uS⟩) Kb nI (by omega) hlen o.type;rw [<-rX,<-tq] at cf;refine hr ay (mH a w _ _ cf) (Kc _ _ _ (U.B1 (k:=⟨w.heap.size,0,qQ,false⟩) Ka (.inr rfl) (by simp) (λr U=>?_) (λ_=>by simp) ⟨rfl,rfl,rfl⟩ λH κ'=>⟨λh=>(by cases h),λ_=>⟨cs,adh,?_,by grind,by grind,cF,?_⟩⟩) ?_)
     ·exact o1 w.drew _ U
     ·exact pY w.drew _
     ·exact lH.later ⟨by simp,λr bd=>o1 w.drew _ (U.c_ r bd)⟩
     ·simp [bD.slice]
   simp only [JI] at h;split at h
   ·rename_i b g e5;simp only [aq.eZ] at h;split at h
    ·rename_i a8 xs bS;split at h
     ·rename_i qS;subst qS;simp only [aq.e0,Option.bind_eq_some_iff,aq.bN,Option.some.injEq] at h;obtain ⟨⟨ys,l⟩,j6,rfl⟩:=h;have aC:(s.ab b).gen=g/\(s.ab b).body=.bj a8 xs:=by
       grind
      intro a w κ F Q U be hc;have aj:bA C.P s.ab κ F w (use (a_ C.aP s.az x)).2 (a.eval x):=cK U x rfl be.1;have nF:=aj;rw [e5] at nF;have af:=nF.2 aC.1.symm (by rw [aC.2];rfl);rw [aC.2] at af;simp only [bQ.len] at af;have hQ:(dA (.slice a8) (use (a_ C.aP s.az x)).2).run s.ab=some (xs,[b]):=by
       rw [e5];simp [dA,km,ad.eC,dX,aC.1,aC.2,eR]
      refine main s a w κ F Q b (g+1) xs ys U (rW U j6 (cK U y rfl be.2)) (by omega) (rW U hQ aj) (λq cap br Ke _=>?_) hc;rw [af] at br;cases aD:(κ b).e3 with
      | true=>
       simp only [bD.slice,aD,if_true,Value.slice.injEq] at br;grind
      | false=>
       simp only [bD.slice,aD,Bool.false_eq_true,if_false,Value.slice.injEq] at br;grind
     ·cases h
    ·cases h
   ·rename_i b g aZ M e5;simp only [aq.eZ] at h;split at h
    ·rename_i a8 xs bS;split at h
     ·rename_i qS;subst qS;simp only [aq.e0,Option.bind_eq_some_iff,aq.bN,Option.some.injEq] at h;obtain ⟨⟨ys,l⟩,j6,rfl⟩:=h;have aC:(s.ab b).gen=g/\(s.ab b).body=.bj a8 xs:=by
       grind
      intro a w κ F Q U be hc;have aj:bA C.P s.ab κ F w (use (a_ C.aP s.az x)).2 (a.eval x):=cK U x rfl be.1;rw [e5] at aj;obtain ⟨⟨aU,aX⟩,bP⟩:=aj.2 aC.1.symm (by rw [aC.2];rfl);rw [aC.2] at aX bP;simp only [bQ.len,bQ.eY] at aX bP;obtain ⟨κ',bd,af⟩:=U.ac_ aC.2 aU aX bP;have nI:=rW U j6 (cK U y rfl be.2);have RG:(s.cw b ⟨(s.ab b).gen+1,.bj a8 ((xs.take M).drop aZ)⟩).ab b=⟨(s.ab b).gen+1,.bj a8 ((xs.take M).drop aZ)⟩:=by simp [aB.cw]
      have hQ:(dA (.slice a8) (.an b (g+1))).run (s.cw b ⟨(s.ab b).gen+1,.bj a8 ((xs.take M).drop aZ)⟩).ab=some ((xs.take M).drop aZ,[b]):=by
       simp [dA,km,ad.eC,dX,aB.cw,aC.1,eR]
      have Kb:bA C.P (s.cw b ⟨(s.ab b).gen+1,.bj a8 ((xs.take M).drop aZ)⟩).ab κ' F w (.an b (g+1)) (a.eval x):=by
       refine ⟨⟨by grind,aj.1.2⟩,λ_ _=>?_⟩;rw [RG];exact af
      have:=main (s.cw b ⟨(s.ab b).gen+1,.bj a8 ((xs.take M).drop aZ)⟩) a w κ' F Q b (g+2) ((xs.take M).drop aZ) ys bd nI (by grind) (rW bd hQ Kb) (λq cap br Ke _=>?_) hc
      ·rw [ac9] at this;exact this
      ·rw [af] at br;cases aD:(κ' b).e3 with
       | true=>
        simp only [bD.slice,aD,if_true,Value.slice.injEq] at br;grind
       | false=>
        simp only [bD.slice,aD,Bool.false_eq_true,if_false,Value.slice.injEq] at br;grind
     ·cases h
    ·cases h
   ·rename_i e5;simp only [aq.e0,Option.bind_eq_some_iff] at h;obtain ⟨⟨ys,l⟩,j6,h⟩:=h;obtain ⟨b,aa,ao⟩:=qN h;simp only [Option.some.injEq] at ao;subst ao;intro a w κ F Q U be hc;have aj:bA C.P s.ab κ F w (use (a_ C.aP s.az x)).2 (a.eval x):=cK U x rfl be.1;rw [e5] at aj;simp only [bA] at aj;have:=main s a w κ F Q b ((s.ab b).gen+1) [] ys U (rW U j6 (cK U y rfl be.2)) (Nat.lt_succ_self _) ⟨none,0,aj,.inl ⟨rfl,rfl,rfl⟩⟩ (λq cap br Ke _=>by grind) (by grind);exact this
   ·rename_i a8 xs e5;split at h
    ·rename_i qS;subst qS;simp only [aq.e0,Option.bind_eq_some_iff] at h;obtain ⟨⟨ys,l⟩,j6,h⟩:=h;obtain ⟨b,aa,ao⟩:=qN h;simp only [Option.some.injEq] at ao;subst ao;intro a w κ F Q U be hc;have aj:bA C.P s.ab κ F w (use (a_ C.aP s.az x)).2 (a.eval x):=cK U x rfl be.1;rw [e5] at aj;obtain ⟨J3,BP,Fe⟩:=aj;have hQ:(dA (.slice a8) (.val (.slice a8) xs)).run s.ab=some (xs,[]):=by
      simp [dA,eR]
     exact main s a w κ F Q b ((s.ab b).gen+1) xs ys U (rW U j6 (cK U y rfl be.2)) (Nat.lt_succ_self _) (rW U hQ J3) (λq cap br Ke wP=>by
      grind) hc.2
    ·cases h
   ·cases h
  ·cases h
 ·cases h
theorem adi {P:Program} {F:Nat->Prop} {w:World} {all:List Value} {ys:z1'} (h:gi P (.int .u8) F w all ys):all=ys.map (Value.int .u8):=by
 obtain ⟨G,V⟩:=h;have G:all.length=ys.length:=G.trans (Nat.mul_one _);apply List.ext_getElem (by simpa using G);intro i M dM;have dt:i<ys.length:=by omega
 obtain ⟨e,_⟩:=V i dt;have aG:ad.size (.int .u8)=1:=rfl;rw [aG,Nat.mul_one,List.drop_eq_getElem_cons M] at e;have:=(List.cons.inj e).1;rw [this];simp
theorem RH:∀ (ys:z1') (s:ByteArray),ys.foldl (λr n=>r.push (UInt8.ofNat n.toNat)) s=⟨s.data++(uN ys).toArray⟩
 | [],s=>by simp [uN]
 | y::ys,s=>by
  rw [List.foldl_cons,RH ys];refine congrArg ByteArray.mk ?_;apply Array.ext';simp [uN,ByteArray.push]
theorem adj (ys:z1'):ys.foldl (λr n=>r.push (UInt8.ofNat n.toNat)) ByteArray.empty=⟨(uN ys).toArray⟩:=by
 rw [RH];refine congrArg ByteArray.mk ?_;apply Array.ext';simp [ByteArray.empty,ByteArray.emptyWithCapacity];rfl
theorem adk (aV:dT C.P T) {Kf Kg:TypeId} {x:Operand} (bh:∀ i,o.dst=some i->i<C.nt) (ag:o.op=.convert Kf Kg x) (h:(bt C.aP T bg (a_ C.aP s.az) o).run s.ab=some res):cE C o s res:=by
 simp only [bt,ag] at h;split at h
 ·rename_i aU k aX n t1 t2 aj;simp only [bO,aq.bN,Option.some.injEq] at h;subst h;refine cE.pure (by grind) bh λa w κ F U be _=>?_;have G:=od (cK U x rfl be) aj;have aF:=(aV.b_ t1 (by simp)).int;have bB:=(aV.b_ t2 (by simp)).int;refine ⟨.int k (k.wrap n),?_,gP.2 ⟨rfl,p2 _ _⟩⟩;simp [execOp,ag,convert,dC aF,dC bB,G.1,Conv.intToInt]
 ·rename_i t1 t2;simp only [aq.e0,Option.bind_eq_some_iff,bO,aq.bN,Option.some.injEq] at h;obtain ⟨⟨ys,l⟩,j6,rfl⟩:=h;refine cE.pure (by grind) bh λa w κ F U be _=>?_;have hu:=cK U x rfl be;obtain ⟨q,cap,af,nI⟩:=rW U j6 hu;have ch:ys.length<2 ^ 63:=by
   have G:=l9 (F':=λ_=>True) U.bE (λ_ _=>trivial) j6 (λ_ _ _=>trivial) hu;obtain ⟨_,V⟩:=(dV rfl).1 G;obtain ⟨q',cap',aF,m1,m2,_⟩:=V;have bB:=(List.cons.inj (aF.symm.trans rfl)).1;omega
  obtain ⟨jI,aH,iW,_⟩:=(aV.b_ t1 (by simp)).sl;have aF:=iW.int;have bB:=(aV.b_ t2 (by simp)).str;refine ⟨.string ⟨(uN ys).toArray⟩,?_,l5.2 ⟨rfl,by simpa [uN] using ch⟩⟩;have hc:(convert Kf Kg (a.eval x)).run C.P w=.ok (.string ⟨(uN ys).toArray⟩) w:=by
   rw [af,run_convert_bytes_string w Kf Kg jI q ys.length cap aH aF bB];rcases nI with ⟨rfl,rfl,rfl⟩ | ⟨p,all,rfl,ba,oj⟩
   ·rfl
   ·have fB:all=ys.map (Value.int .u8):=adi ba;have ak:=E5 (P:=C.P) oj;rw [fB,List.length_map] at ak;rw [run_bytesToString w p ys.length cap ys ak];refine congrArg (λs=>Result.ok (Value.string s) w) ?_;exact adj ys
  simp [execOp,ag,hc]
 ·cases h
end
end Go.Fer
namespace Go.Fer
open Go.RowKit
theorem h0.yI {P:Program} {k:FuncId} {ts aW:ad} {sh RI:ts.ai->A aW.ai} (h:h0 P k ts aW sh) (aG:∀ x,A.le (sh x) (RI x)):h0 P k ts aW RI where
 enter:=h.enter
 iO:=λF w args x bo gf ba qT=>by
  obtain ⟨G,V⟩:=aG x qT;exact (h.iO F w args x bo gf ba G).mono λe w' ⟨v,y,aF,bB,di⟩=>⟨v,y,aF,V y bB,di⟩
def aO.sh (c:aO) (x:c.ts.ai):A c.aW.ai:=A.dR (c.pre x) (c.g x)
def adl (P:Program) (k:FuncId) (ts:ad) (x:ts.ai) (e:ad) (ys:List e.ai):Prop:=
 ∀ (F:Nat->Prop) (w:World) (args:List Value),(∀ r,F r->r<w.heap.size)->nA P F w->fl P ts F w args x->Calls P k args.toArray w λz w'=>∃ (b:bD) (F':Nat->Prop),z=.returned (b.slice ys.length)/\(∀ r,F r->F' r)/\(∀ r,F' r->F r\/(w.heap.size<=r/\r<w'.heap.size))/\
  (b.e3=true->ys=[])/\(b.e3=false->(w.heap.size<=b.ab/\b.ab<w'.heap.size/\¬F' b.ab)/\∃ cs T,w'.heap[b.ab]?=some (.cells cs T (0,0))/\b.off+b.cap*e.size<=cs.size/\ys.length<=b.cap/\b.cap<2 ^ 63/\lz P e F' w' cs b.off ys)/\Below w.heap.size w w'
def B5 (P:Program) (k:FuncId) (c:aO):Prop:=(∀ args w,(callFunc k args).run P w=.ok (.enter k args) w)/\∀ x,c.pre x->∀ y,BE c.aW (c.g x)=some y->adl P k c.ts x y.1 y.2
def jh (P:Program) (bg:Nat->Option aO):Prop:=∀ k c,bg k=some c->(nD c.aW=false->h0 P k c.ts c.aW c.sh)/\(nD c.aW=true->B5 P k c)
theorem adm {t:ad} {y:t.ai} {z:(e:ad)×List e.ai} (h:BE t y=some z):nD t=true:=by
 unfold BE at h;unfold nD;split at h<;>simp_all
theorem adn {t:ad} {y:t.ai} (h:BE t y=none):nD t=false:=by
 cases hc:nD t with
 | false=>rfl
 | true=>
  unfold nD at hc;split at hc
  ·cases h
  ·cases hc
theorem j8 {t:ad} (aL:t.gu=true) (avs:List aI):iS t avs=(match avs with | [v]=>dA t v | _=>.none:aq (Option (t.ai×List Nat))):=by
 cases t<;>first
  | (cases aL;done)
  | (rcases avs with _ | ⟨v,_ | ⟨u,aE⟩⟩<;>rfl)
theorem uX {P:Program} {H:Nat->bL} {κ:Nat->bD} {F F':Nat->Prop} {w:World} (aT:∀ b,cB P H κ F w b) (bo:∀ r,F r->F' r):∀ (t:ad) {avs:List aI} {aE:List Value} {x:t.ai} {l:List Nat},(iS t avs).run H=some (x,l)->
  iR H κ F' l->avs.length=aE.length->(∀ i (h:i<avs.length) (ds:i<aE.length),bA P H κ F w avs[i] aE[i])->fl P t F' w aE x:=by
 have gu:∀ (t:ad),t.gu=true->∀ {avs:List aI} {aE:List Value} {x:t.ai} {l:List Nat},(match avs with | [v]=>dA t v | _=>.none:aq (Option (t.ai×List Nat))).run H=some (x,l)->
   iR H κ F' l->avs.length=aE.length->(∀ i (h:i<avs.length) (ds:i<aE.length),bA P H κ F w avs[i] aE[i])->fl P t F' w aE x:=by
  intro t aL avs aE x l h ak hlen fB;split at h
  ·rename_i v;match aE,hlen with
   | [u],_=>
    refine (rI aL).2 ⟨u,rfl,l9 aT bo h ak ?_⟩;exact fB 0 (by simp) (by simp)
  ·cases h
 intro t;induction t with
 | aA a b fv eJ=>
  intro avs aE x l h ak hlen fB;match avs,aE,hlen with
  | [],_,_=>simp [iS,aq.none] at h
  | v::avs,u::aE,hlen=>
   simp only [iS,aq.e0,Option.bind_eq_some_iff,aq.bN,Option.some.injEq,Prod.mk.injEq] at h;obtain ⟨⟨y,m⟩,G,⟨z,dw⟩,V,rfl,rfl⟩:=h;refine Bq.2 ⟨l9 aT bo G ak.left (fB 0 (by simp) (by simp)),?_⟩;exact eJ V ak.right (by grind) λi M dM=>by
    have:=fB (i+1) (by grind) (by grind);grind
 | cQ=>
  intro avs aE x l h ak hlen fB;match avs,aE,hlen with
  | [],[],_=>exact ⟨rfl,rfl⟩
  | _::_,_,_=>simp [iS,aq.none] at h
 | bool=>intro avs aE x l h;rw [j8 rfl] at h;exact gu _ rfl h
 | int k=>intro avs aE x l h;rw [j8 rfl] at h;exact gu (.int k) rfl h
 | str=>intro avs aE x l h;rw [j8 rfl] at h;exact gu _ rfl h
 | st t _=>intro avs aE x l h;rw [j8 rfl] at h;exact gu (.st t) rfl h
 | slice e _=>intro avs aE x l h;rw [j8 rfl] at h;exact gu (.slice e) rfl h
 | array n e _=>intro avs aE x l h;rw [j8 rfl] at h;exact gu (.array n e) rfl h
 | bI e _=>intro avs aE x l h;rw [j8 rfl] at h;exact gu (.bI e) rfl h
 | map k v _ _=>intro avs aE x l h;rw [j8 rfl] at h;exact gu (.map k v) rfl h
 | fn a b _ _=>intro avs aE x l h;rw [j8 rfl] at h;exact gu (.fn a b) rfl h
 | cq a _=>intro avs aE x l h;rw [j8 rfl] at h;exact gu (.cq a) rfl h
 | ej=>intro avs aE x l h;rw [j8 rfl] at h;exact gu .ej rfl h
theorem p6 {H:Nat->bL}:∀ (t:ad) {avs:List aI} {x:t.ai} {l:List Nat},(iS t avs).run H=some (x,l)->gF H l:=by
 have gu:∀ (t:ad),t.gu=true->∀ {avs:List aI} {x:t.ai} {l:List Nat},(match avs with | [v]=>dA t v | _=>.none:aq (Option (t.ai×List Nat))).run H=some (x,l)->gF H l:=by
  intro t _ avs x l h;split at h
  ·exact mI h
  ·cases h
 intro t;induction t with
 | aA a b fv eJ=>
  intro avs x l h;match avs with
  | []=>simp [iS,aq.none] at h
  | v::avs=>
   simp only [iS,aq.e0,Option.bind_eq_some_iff,aq.bN,Option.some.injEq,Prod.mk.injEq] at h;obtain ⟨⟨y,m⟩,G,⟨z,dw⟩,V,rfl,rfl⟩:=h;exact (mI G).append (eJ V)
 | cQ=>
  intro avs x l h;match avs with
  | []=>
   simp only [iS,aq.bN,Option.some.injEq,Prod.mk.injEq] at h;rw [<-h.2];exact .nil H
  | _::_=>simp [iS,aq.none] at h
 | bool=>intro avs x l h;rw [j8 rfl] at h;exact gu _ rfl h
 | int k=>intro avs x l h;rw [j8 rfl] at h;exact gu (.int k) rfl h
 | str=>intro avs x l h;rw [j8 rfl] at h;exact gu _ rfl h
 | st t _=>intro avs x l h;rw [j8 rfl] at h;exact gu (.st t) rfl h
 | slice e _=>intro avs x l h;rw [j8 rfl] at h;exact gu (.slice e) rfl h
 | array n e _=>intro avs x l h;rw [j8 rfl] at h;exact gu (.array n e) rfl h
 | bI e _=>intro avs x l h;rw [j8 rfl] at h;exact gu (.bI e) rfl h
 | map k v _ _=>intro avs x l h;rw [j8 rfl] at h;exact gu (.map k v) rfl h
 | fn a b _ _=>intro avs x l h;rw [j8 rfl] at h;exact gu (.fn a b) rfl h
 | cq a _=>intro avs x l h;rw [j8 rfl] at h;exact gu (.cq a) rfl h
 | ej=>intro avs x l h;rw [j8 rfl] at h;exact gu .ej rfl h
theorem ado {H:Nat->bL} {e:ad} {ps:List (Nat×aI)}:∀ (n i:Nat) {xs:List e.ai} {l:List Nat},(th e ps i n).run H=some (xs,l)->gF H l:=by
 intro n;induction n with
 | zero=>intro i xs l h;cases h;exact .nil H
 | succ n aM=>
  intro i xs l h;simp only [th,aq.e0,Option.bind_eq_some_iff,aq.bN,Option.some.injEq,Prod.mk.injEq] at h;obtain ⟨⟨x,m⟩,G,⟨ys,dw⟩,V,rfl,rfl⟩:=h;refine gF.append ?_ (aM (i+1) V);split at G
  ·exact mI G
  ·simp only [aq.bN,Option.some.injEq,Prod.mk.injEq] at G;rw [<-G.2];exact .nil H
theorem RJ {P:Program} {F F':Nat->Prop} {w w':World} {t:ad} {aE:List Value} {x:t.ai} (aL:t.pure=true) (h:fl P t F w aE x):fl P t F' w' aE x:=⟨h.1,ab8 t aL h.2⟩
theorem tr {P:Program} {H:Nat->bL} {κ:Nat->bD} {F:Nat->Prop} {w:World}:∀ (t:ad) {aE:List Value} {y:t.ai},fl P t F w aE y->t≠.cQ->aE.length=j3 t/\∀ i,i<j3 t->bA P H κ F w (kp t y i) (aE.getD i Go.undef):=by
 intro t;induction t with
 | aA a b _ eJ=>
  intro aE y h _;obtain ⟨v,us,rfl,G,V⟩:=EP h;by_cases aa:b=.cQ
  ·subst aa;have:us=[]:=V.1;subst this;refine ⟨rfl,λi M=>?_⟩;cases i with
   | zero=>exact G
   | succ i=>simp only [j3] at M;omega
  ·obtain ⟨aU,aX⟩:=eJ V aa;refine ⟨by simp [j3,aU],λi M=>?_⟩;cases i with
   | zero=>exact G
   | succ i=>
    have:=aX i (by simp only [j3] at M;omega);simpa [kp] using this
 | cQ=>simp
 | _=>
  intro aE y h _;obtain ⟨v,rfl,G⟩:=(rI rfl).1 h;refine ⟨rfl,λi M=>?_⟩;simp only [j3] at M;have:i=0:=by omega
  subst this;exact G
theorem B6 {P:Program} {H:Nat->bL} {κ:Nat->bD} {F:Nat->Prop} {w:World} {t:ad} {v:Value} {y:t.ai} (h:ta P t F w v y):bA P H κ F w (qI t y) v:=by
 have pW:=@tr P H κ F w;obtain ⟨aE,G,V⟩:=h;cases t with
 | aA a b=>
  simp only [yB] at G;obtain ⟨aU,aX⟩:=pW (.aA a b) V (by simp);exact ⟨aE,G,aU,aX⟩
 | cQ=>exact G.1
 | _=>
  obtain ⟨u,rfl,hu⟩:=(rI rfl).1 V;have:v=u:=by simpa [yB,eq_comm] using G
  rw [this];exact hu
section
variable {C:b8} {T:Nat->ad} {bg:Nat->Option aO} {o:Oper} {s:aB} {res:ey}
theorem bm.grow {a:Act} {w w':World} {κ:Nat->bD} {F:Nat->Prop} (h:bm C s a w κ F) (aa:Below w.heap.size w w'):bm C s a w' κ (uG F w w'):=by
 have he:cZ F w w':=⟨aa.size,λr U=>aa.block r (h.c_ r U)⟩
 refine h.move (H':=s.ab) (fm.refl _ _) (λ_ U=>.inl U) (λr U=>U.imp id λU=>.inr U.1) aa.size (λr U _=>aa.block r U) ⟨aa.os,aa.tape,aa.output⟩ (λ_=>?_) ?_ h.inj ?_ (λ_ _ h=>⟨rfl,h⟩)
 ·intro b;exact cB.k3 (h.bE b) (fm.refl _ _) (λ_ U=>.inl U) he rfl rfl λag=>aa.block _ (h.an b ag).1
 ·intro b ag;have:=h.an b ag;refine ⟨Nat.lt_of_lt_of_le this.1 aa.size,λaw=>?_,.inl ⟨b,ag,rfl⟩⟩;rcases aw with aw | ⟨aw,_⟩
  ·exact this.2.1 aw
  ·omega
 ·intro r U;rcases U with U | ⟨_,U⟩
  ·exact Nat.lt_of_lt_of_le (h.c_ r U) aa.size
  omega
theorem B7 {r:Option Nat} {P:Program} {o:Oper} {a:Act} {w:World} {K:Act->World->Prop} {Q:Exit->Act->World->Prop} {f:FuncId} {args:Array Value} {R:Ending->World->Prop} (ay:∀ c,o.op≠.defer c)
  (h:(execOp a.eval o).run P w=.ok (.enter f args) w) (hc:Calls P f args w R) (ao:∀ e w',R e w'->∃ v,e=.returned v/\K (a.put o.dst v) w'):o.wpIn (dS r) 0 P a w K Q:=by
 refine ⟨λ_ _=>trivial,?_⟩;rw [yS ay,h];refine ⟨λaG=>(by cases aG),?_⟩;have G:CallsIn Fence.wide 0 P f args w R:=callsIn_wide.2 hc;have V:CallsIn (dS r) 0 P f args w R:=by
  cases r with
  | none=>exact G
  | some l=>exact CallsIn.inRound l G
 refine V.mono λe w' he=>?_;grind
theorem RL {a:Act} {w:World} {κ:Nat->bD} {F:Nat->Prop} {ts:ad} (U:bm C s a w κ F) {args:Array Operand} (be:jE (args.toList.map (a_ C.aP s.az))) {x:ts.ai} {l:List Nat}
  (aj:(iS ts ((args.toList.map (a_ C.aP s.az)).map λv=>(use v).2)).run s.ab=some (x,l)):∃ F',(∀ r,F r->F' r)/\bm C (s.cy l) a w κ F'/\fl C.P ts F' w (args.toList.map a.eval) x:=by
 obtain ⟨args⟩:=args;obtain ⟨F',f1,bd,f2⟩:=bm.k6 (p6 ts aj) U;refine ⟨F',f1,bd,uX U.bE f1 ts aj f2 (by simp) λi M dM=>?_⟩;simp only [List.getElem_map];have dt:i<args.length:=by grind
 have G:=rQ be i (by grind);have aF:(args.map (a_ C.aP s.az)).getD i .undef=a_ C.aP s.az args[i]:=by grind
 rw [show (List.map (a_ C.aP s.az) (⟨args⟩:Array Operand).toList)=args.map (a_ C.aP s.az) from rfl,aF] at G;exact o4 (j5 U args[i]) G
theorem RM {a:Act} {w:World} {κ:Nat->bD} {F:Nat->Prop} {Q:Exit->Act->World->Prop} {K:Act->World->Prop} {k:FuncId} {ts aW:ad} {sh:ts.ai->A aW.ai} (U:bm C s a w κ F) (aw:h0 C.P k ts aW sh)
  (bh:∀ i,o.dst=some i->i<C.nt) {args:Array Operand} {dj:Array TypeId} (ag:o.op=.call { callee:=.value (.func k),args:=args,argTypes:=dj }) (be:jE (args.toList.map (a_ C.aP s.az))) {x:ts.ai} {l:List Nat}
  (aj:(iS ts ((args.toList.map (a_ C.aP s.az)).map λv=>(use v).2)).run s.ab=some (x,l)) (aG:(sh x).cr)
  (ao:∀ y w',(sh x).bR y->∀ v,cu C ((if aW.pure then s else s.cy l).set o.dst (qI aW y)) (a.put o.dst v) w'->K (a.put o.dst v) w'):o.wpIn (dS C.r) 0 C.P a w K Q:=by
 have ay:∀ c,o.op≠.defer c:=by grind
 obtain ⟨args⟩:=args;have c1:(execOp a.eval o).run C.P w=.ok (.enter k (args.map a.eval).toArray) w:=by
  simp only [execOp,ag,Sem.run_bind,resolve,Act.eval,Deferred.ofValue,Sem.run_pure,Result.andThen_ok,invoke];have:=aw.enter (args.map a.eval).toArray w;grind
 obtain ⟨F',f1,bd,dY⟩:=RL U be aj;refine B7 ay c1 (aw.iO F' w _ x bd.c_ bd.iv dY aG) λe w' ⟨v,y,he,aS,gg,aa⟩=>⟨v,he,ao y w' aS v ?_⟩
 by_cases ar:aW.pure=true
 ·rw [if_pos ar];have aC:=U.grow aa;refine ⟨κ,_,aC.set bh (B6 ?_)⟩;obtain ⟨aE,dx,dP⟩:=gg;exact ⟨aE,dx,RJ ar dP⟩
 ·rw [if_neg ar];have aC:=bd.grow aa;exact ⟨κ,_,aC.set bh (B6 gg)⟩
theorem bm.hD {a:Act} {w w':World} {κ:Nat->bD} {F F':Nat->Prop} (h:bm C s a w κ F) {b g:Nat} {e:ad} {ys:List e.ai} {k:bD} (Bv:b<eP) (aC:(s.ab b).gen<g) (aa:Below w.heap.size w w')
  (bo:∀ r,F r->F' r) (s_:∀ r,F' r->F r\/(w.heap.size<=r/\r<w'.heap.size)) (G:k.e3=true->ys=[])
  (V:k.e3=false->(w.heap.size<=k.ab/\k.ab<w'.heap.size/\¬F' k.ab)/\∃ cs T,w'.heap[k.ab]?=some (.cells cs T (0,0))/\k.off+k.cap*e.size<=cs.size/\ys.length<=k.cap/\k.cap<2 ^ 63/\lz C.P e F' w' cs k.off ys) :
  bm C (s.cw b ⟨g,.bj e ys⟩) a w' (λi=>if i=b then k else κ i) F':=by
 have ak:fm s.ab κ (λi=>if i=b then ⟨g,.bj e ys⟩ else s.ab i) (λi=>if i=b then k else κ i):=yF aC λbf dh=>by grind
 refine h.move (H':=λi=>if i=b then ⟨g,.bj e ys⟩ else s.ab i) ak bo (λr U=>(s_ r U).imp id λh=>.inr h.1) aa.size (λr U _=>aa.block r U) ⟨aa.os,aa.tape,aa.output⟩ (λhe=>?_) ?_ ?_ ?_ (yG (.inl Bv) λbf dh=>by grind)
 ·intro i;by_cases M:i=b
  ·subst M;simp only [cB,if_true];exact ⟨G,λaD=>(V aD).2⟩
  ·refine cB.k3 (h.bE i) ak bo he (by grind) (by grind) λag=>?_;exact aa.block _ (h.an i ag).1
 ·intro i M;by_cases eL:i=b
  ·subst eL;simp only [if_true,bQ.b1,Bool.not_eq_true'] at M ⊢;obtain ⟨⟨aU,aX,bP⟩,_⟩:=V M;exact ⟨aX,bP,.inr aU⟩
  ·simp only [if_neg eL] at M ⊢;have:=h.an i M;refine ⟨Nat.lt_of_lt_of_le this.1 aa.size,λaw=>?_,.inl ⟨i,M,rfl⟩⟩;rcases s_ _ aw with aw | aw
   ·exact this.2.1 aw
   ·omega
 ·intro i j M aH a8;by_cases eL:i=b<;>by_cases l7:j=b
  ·omega
  ·simp only [if_pos eL,if_neg l7,bQ.b1,Bool.not_eq_true'] at M aH a8;have:=(h.an j aH).1;have:=(V M).1.1;omega
  ·simp only [if_neg eL,if_pos l7,bQ.b1,Bool.not_eq_true'] at M aH a8;have:=(h.an i M).1;have:=(V aH).1.1;omega
  ·simp only [if_neg eL,if_neg l7] at M aH a8;exact h.inj i j M aH a8
 ·intro r U;rcases s_ r U with ds | ds
  ·exact Nat.lt_of_lt_of_le (h.c_ r ds) aa.size
  ·exact ds.2
theorem adp (cz:jh C.P bg) {k:FuncId} {args:Array Operand} {dj:Array TypeId} (bh:∀ i,o.dst=some i->i<C.nt) (ag:o.op=.call { callee:=.value (.func k),args:=args,argTypes:=dj }) (h:(bt C.aP T bg (a_ C.aP s.az) o).run s.ab=some res):cE C o s res:=by
 simp only [bt,ag,mF,E0] at h;split at h
 ·rename_i c hc;simp only [aq.e0,Option.bind_eq_some_iff] at h;obtain ⟨⟨x,l⟩,aj,h⟩:=h;split at h
  ·rename_i y aS;simp only [aq.run_bind] at h;obtain ⟨d,ay,h⟩:=qN h;split at h
   ·cases h
   rename_i tt;cases h;have tt:d ∉ l:=by simpa using tt
   have Kh:=bh d ay;intro a w κ F Q U be gG;obtain ⟨aU,aX⟩:=(cz k c hc).2 (adm aS);obtain ⟨F',f1,bd,dY⟩:=RL U be aj;have c1:(execOp a.eval o).run C.P w=.ok (.enter k (args.map a.eval)) w:=by
    simp only [execOp,ag,Sem.run_bind,resolve,Act.eval,Deferred.ofValue,Sem.run_pure,Result.andThen_ok,invoke];have:=aU (args.map a.eval) w;grind
   have ji:=aX x gG y aS F' w _ bd.c_ bd.iv dY;rw [show (args.toList.map a.eval).toArray=args.map a.eval from by rw [<-Array.toList_map,Array.toArray_toList]] at ji;refine B7 (by grind) c1 ji λz w' ⟨b,eg,bl,g1,eo,g3,g4,g5⟩=>⟨_,bl,?_⟩
   have y6:(s.cy l).ab d=s.ab d:=by simp [aB.cy,tt]
   have jf:=bd.hD (b:=d) (g:=(s.ab d).gen+1) (e:=y.1) (ys:=y.2) (k:=b) (Nat.lt_of_lt_of_le Kh U.ga) (by rw [y6];omega) g5 g1 eo g3 g4;refine ⟨λi=>if i=d then b else κ i,eg,?_⟩;simp only [aB.h5];rw [BQ,tk];refine jf.set bh ⟨⟨by simp [aB.cw],by unfold bD.slice;split<;>rfl⟩,λ_ _=>by simp [aB.cw,bQ.len]⟩
  rename_i aS;simp only [aq.run_bind,aq.bN,Option.some.injEq] at h;subst h;intro a w κ F Q U be gG;refine RM U ((cz k c hc).1 (adn aS)) bh ag be aj gG λy w' aS v j9=>?_;have aS:y=c.g x:=aS;subst aS;have e:∀ (r:aq (List (Nat×bL))),r=(if c.aW.pure then .ret [] else jD l)->s.fU (r.run s.ab)=(if c.aW.pure then s else s.cy l):=by
   intro r U;subst U;split
   ·rfl
   ·exact tk s l
  simp only [aB.h5];grind
 ·cases h
theorem RN {P:Program} {H:Nat->bL} {κ:Nat->bD} {F F':Nat->Prop} {w:World} (aT:∀ b,cB P H κ F w b) (bo:∀ r,F r->F' r) {e:ad} {zero:List Value} (bl:bK P e F' w zero e.db) {ps:List (Nat×aI)} {qs:List (Nat×Value)} (hlen:ps.length=qs.length)
  (fB:∀ i (h:i<ps.length) (ds:i<qs.length),ps[i].1=qs[i].1/\bA P H κ F w ps[i].2 qs[i].2):∀ (n i:Nat) {xs:List e.ai} {l:List Nat},(th e ps i n).run H=some (xs,l)->
  iR H κ F' l->xs.length=n/\∀ j (h:j<xs.length),∃ bk,bK P e F' w bk xs[j]/\(match qs.find? (λp=>p.1 == i+j) with | some q=>bk=q.2.cells.toList | none=>bk=zero):=by
 have find:∀ (ps:List (Nat×aI)) (qs:List (Nat×Value)),ps.length=qs.length->(∀ i (h:i<ps.length) (ds:i<qs.length),ps[i].1=qs[i].1/\bA P H κ F w ps[i].2 qs[i].2)->∀ i,(ps.find? (λp=>p.1 == i)=none/\qs.find? (λp=>p.1 == i)=none)\/∃ p q,ps.find? (λp=>p.1 == i)=some p/\qs.find? (λp=>p.1 == i)=some q/\bA P H κ F w p.2 q.2:=by
  intro ps;induction ps with
  | nil=>grind
  | cons p ps aM=>
   intro qs ak h i;cases qs with
   | nil=>grind
   | cons q qs=>
    have aY:=h 0 (by simp) (by simp);simp only [List.getElem_cons_zero] at aY;by_cases ar:p.1=i
    ·grind
    ·have br:q.1≠i:=by omega
     have:=aM qs (by grind) (λj aH fM=>by have:=h (j+1) (by grind) (by grind);grind) i;grind
 intro n;induction n with
 | zero=>intro i xs l h _;cases h;simp
 | succ n aM=>
  intro i xs l h ak;simp only [th,aq.e0,Option.bind_eq_some_iff,aq.bN,Option.some.injEq,Prod.mk.injEq] at h;obtain ⟨⟨x,m⟩,G,⟨ys,dw⟩,V,rfl,rfl⟩:=h;obtain ⟨aU,aX⟩:=aM (i+1) V ak.right;refine ⟨by grind,λj aH=>?_⟩;cases j with
  | zero=>
   rcases find ps qs hlen fB i with ⟨f1,f2⟩ | ⟨p,q,f1,f2,f3⟩
   ·rw [f1] at G;simp only [aq.bN,Option.some.injEq,Prod.mk.injEq] at G;grind
   ·rw [f1] at G;refine ⟨q.2.cells.toList,(l9 aT bo G ak.left f3).2,?_⟩;grind
  | succ j=>
   obtain ⟨bk,d1,d2⟩:=aX j (by grind);grind
end
end Go.Fer
namespace Go.Fer
open Go.RowKit
def rY (d:Nat) (em:Bool) (xs:Array Value):List Field->Sem Unit
 | []=>pure ()
 | f::eS=>
  if f.name ≠ "_" then do
   let a <-part f.type xs f.offset
   Instr.checkKey em d f.type a
   rY d em xs eS
  else rY d em xs eS
theorem adq {P:Program} (w:World) (em:Bool) (d:Nat) (t:TypeId) (xs:Array Value) (aL:P.underlying t=some (.struct (P.fieldsOf t))) :
  (Instr.checkKey em (d+1) t (.agg xs)).run P w=(rY d em xs (P.fieldsOf t).toList).run P w:=by
 simp only [Instr.checkKey,Sem.run_bind,dC aL,Result.andThen_ok];rw [<-Array.forIn_toList];generalize (P.fieldsOf t).toList=eS;clear aL;induction eS generalizing w with
 | nil=>rfl
 | cons f eS aM=>
  simp only [List.forIn_cons,rY,Sem.run_bind,Sem.run_ite];split
  ·generalize (part f.type xs f.offset).run P w=cf;cases cf with
   | ok a cj=>
    simp only [Result.andThen_ok];generalize (Instr.checkKey em d f.type a).run P cj=cF;cases cF with
    | ok b c6=>
     simp_all
    | halt x c6=>rfl
   | halt x cj=>rfl
  simp_all
theorem B8 {P:Program} {F:Nat->Prop} {w:World} {em:Bool}:∀ (t:ad) (d:Nat),t.kJ=true->t.j4<=d->
  (∀ {id:TypeId} {v:Value} {x:t.ai},b7 P t id->ek P t F w v x->(Instr.checkKey em d id v).run P w=.ok () w)/\
  (∀ {l:List Field} {off:Nat} {xs:Array Value} {p c q:List Value} {x:t.ai},cC P t (.inr (l,off))=true->xs.toList=p++(c++q)->p.length=off->bK P t F w c x->
   (rY d em xs l).run P w=.ok () w):=by
 intro t;induction t with
 | bool=>
  intro d _ ay;refine ⟨λ{id v x} h G=>?_,λh=>by simp [cC] at h⟩;rw [fa.1 G];obtain ⟨d,rfl⟩:∃ e,d=e+1:=⟨d - 1,by simp only [ad.j4] at ay;omega⟩
  unfold b7 at h;simp only [cC,Bool.and_eq_true] at h;obtain ⟨_,h⟩:=h;split at h
  ·rename_i hu;simp [Instr.checkKey,dC hu]
  grind
 | int k=>
  intro d _ ay;refine ⟨λ{id v x} h G=>?_,λh=>by simp [cC] at h⟩;rw [(gP.1 G).1];obtain ⟨d,rfl⟩:∃ e,d=e+1:=⟨d - 1,by simp only [ad.j4] at ay;omega⟩
  simp [Instr.checkKey,dC (b7.int h)]
 | str=>
  intro d _ ay;refine ⟨λ{id v x} h G=>?_,λh=>by simp [cC] at h⟩;rw [(l5.1 G).1];obtain ⟨d,rfl⟩:∃ e,d=e+1:=⟨d - 1,by simp only [ad.j4] at ay;omega⟩
  simp [Instr.checkKey,dC (b7.str h)]
 | cQ=>intro d h;cases h
 | slice e _=>intro d h;cases h
 | array n e _=>intro d h;cases h
 | bI e _=>intro d h;cases h
 | map k v _ _=>intro d h;cases h
 | fn a b _ _=>intro d h;cases h
 | cq a _=>intro d h;cases h
 | ej=>intro d h;cases h
 | aA a b fv eJ=>
  intro d hc ay;simp only [ad.kJ,Bool.and_eq_true] at hc;simp only [ad.j4] at ay;have JQ:=fv d hc.1 (by omega);have oZ:=eJ d hc.2 (by omega);refine ⟨λh=>by unfold b7 at h;simp [cC] at h,?_⟩;intro l off xs p c q x h aj ar o6;simp only [bK] at o6;obtain ⟨bF,c2,rfl,aU,aX⟩:=o6;have e_:=hM a aU;have step : ∀ (f : Field) (cm : List Field), f.offset = off -> b7 P a f.type -> f.name ≠ "_" -> (rY d em xs (f :: cm)).run P w = (rY d em xs cm).run P w := by
   intro f cm ag aw aD;obtain ⟨v,cf,cF⟩:=qM (cs:=xs) (p:=p) (c:=bF) (q:=c2++q) aw (by grind) aU;simp only [rY,aD,ne_eq,not_false_eq_true,if_true,Sem.run_bind];rw [ag,<-ar,cf,Result.andThen_ok,JQ.1 aw cF,Result.andThen_ok]
  match l,h with
  | [],h=>rfl
  | [f],h=>simp only [cC,Bool.false_eq_true] at h
  | [f,g],h=>
   simp only [cC,Bool.and_eq_true,beq_iff_eq,bne_iff_ne,ne_eq] at h;obtain ⟨⟨⟨⟨G,V⟩,ah⟩,a7⟩,⟨⟨⟨bM,dr⟩,fY⟩,jb⟩⟩:=h;rw [step f [g] G V a7];obtain ⟨v,cf,cF⟩:=qM (cs:=xs) (p:=p++bF) (c:=c2) (q:=q) dr (by grind) aX;have aF:(p++bF).length=g.offset:=by grind
   rw [aF] at cf;simp only [rY,jb,ne_eq,not_false_eq_true,if_true,Sem.run_bind,cf,Result.andThen_ok,oZ.1 dr cF,Sem.run_pure]
  | f::g::i::l,h=>
   simp only [cC,Bool.and_eq_true,beq_iff_eq,bne_iff_ne,ne_eq] at h;obtain ⟨⟨⟨⟨G,V⟩,ah⟩,a7⟩,bM⟩:=h;rw [step f _ G V a7,oZ.2 bM (p:=p++bF) (c:=c2) (q:=q) (by grind) (by grind) aX]
 | st t aM=>
  intro d hc ay;simp only [ad.j4] at ay;obtain ⟨d,rfl⟩:∃ e,d=e+1:=⟨d - 1,by omega⟩
  refine ⟨λ{id v x} h G=>?_,λh=>by simp [cC] at h⟩;have i:=aM d hc (by omega);obtain ⟨aF,bB,di,gv⟩:=h.BI;obtain ⟨⟨xs,rfl,hQ⟩,o6⟩:=G;simp only [Value.cells,bK] at o6;rw [adq w em d id xs gv];rcases di with di | ⟨f,di,h1,mC,BK⟩ | ⟨rfl,di⟩
  ·exact i.2 di (p:=[]) (c:=xs.toList) (q:=[]) (by simp) rfl o6
  ·rw [di];obtain ⟨v,cf,cF⟩:=qM (cs:=xs) (p:=[]) (c:=xs.toList) (q:=[]) mC (by simp) o6;simp only [List.length_nil] at cf;simp only [rY,BK,ne_eq,not_false_eq_true,if_true,Sem.run_bind,h1,cf,Result.andThen_ok,i.1 mC cF,Sem.run_pure]
  ·cases hc
theorem Ki:∀ (t:ad),t.kJ=true->∀ (x y:t.ai),gE t x y=true<->x=y:=by
 intro t;induction t with
 | bool=>intro _ x y;simp [gE]
 | int k=>intro _ x y;simp [gE]
 | str=>intro _ x y;simp [gE]
 | st t aM=>intro h x y;exact aM h x y
 | aA a b fv eJ=>
  intro h x y;simp only [ad.kJ,Bool.and_eq_true] at h;simp only [gE,Bool.and_eq_true,fv h.1,eJ h.2];grind
 | _=>intro h;cases h
def y7 {k:ad} {β:Type} (x:k.ai) (es:List MapEntry) (xs:List (k.ai×β)) (i:Nat) (r:Option (Nat×Value)):Prop:=
 (r=none/\∀ p∈xs,gE k x p.1=false)\/∃ j e p,es[j]?=some e/\xs[j]?=some p/\gE k x p.1=true/\(∀ j7 q,j7<j->xs[j7]?=some q->gE k x q.1=false)/\r=some (i+j,e.val)
theorem y7.next {k:ad} {β:Type} {x:k.ai} {e:MapEntry} {es:List MapEntry} {p:k.ai×β} {xs:List (k.ai×β)} {i:Nat} {r:Option (Nat×Value)} (h:y7 x es xs (i+1) r) (ar:gE k x p.1=false):y7 x (e::es) (p::xs) i r:=by
 rcases h with ⟨G,V⟩ | ⟨j,a8,p',G,V,ah,a7,bM⟩
 ·exact .inl ⟨G,λq br=>by
   grind⟩
 ·refine .inr ⟨j+1,a8,p',by grind,by grind,ah,λj7 q fM br=>?_,by grind⟩;grind
theorem RO {P:Program} {F:Nat->Prop} {w:World} {k:ad} {β:Type} (hc:k.kJ=true) (aD:k.j4<=10000) {k9:TypeId} (ao:b7 P k k9) {tu:Value} {x:k.ai} (aj:ek P k F w tu x):∀ (es:List MapEntry) (xs:List (k.ai×β)) (i:Nat),es.length=xs.length->(∀ (j:Nat) (e:MapEntry) (p:k.ai×β),es[j]?=some e->xs[j]?=some p->ek P k F w e.key p.1)->∃ r,(Instr.findAsking k9 tu es i).run P w=.ok r w/\y7 x es xs i r
 | [],[],i,_,_=>⟨none,rfl,.inl ⟨rfl,λp ar=>by cases ar⟩⟩
 | e::es,p::xs,i,ak,h=>by
  have aY:=h 0 e p rfl rfl;have he:=(JP k 10000 hc aD).1 ao aj aY;obtain ⟨r,cf,cF⟩:=RO (β:=β) hc aD ao aj es xs (i+1) (by grind) λj a8 p' G V=>h (j+1) a8 p' (by grind) (by grind);cases br:gE k x p.1 with
  | true=>
   refine ⟨some (i,e.val),by simp [Instr.findAsking,Op.equal,Op.maxDepth,he,br],.inr ⟨0,e,p,rfl,rfl,br,λj7 q fM=>by omega,rfl⟩⟩
  | false=>exact ⟨r,by simp [Instr.findAsking,Op.equal,Op.maxDepth,he,br,cf],cF.next br⟩
theorem RP {P:Program} {F:Nat->Prop} {w:World} {k:ad} {k9:TypeId} (ao:b7 P k k9) {d:TypeDesc} (ay:P.underlying k9=some d) {u v:Value} {x y:k.ai} (hu:ek P k F w u x) (af:ek P k F w v y) {b:Bool} (h:Instr.sameNow d u v=some b):b=gE k x y:=by
 cases k with
 | bool=>
  rw [fa.1 hu,fa.1 af] at h;cases d<;>simp only [Instr.sameNow,Option.some.injEq,reduceCtorEq] at h;rw [<-h];rfl
 | int k=>
  rw [(gP.1 hu).1,(gP.1 af).1] at h;cases d<;>simp only [Instr.sameNow,if_true,Option.some.injEq,reduceCtorEq] at h;rw [<-h];rfl
 | str=>
  rw [(l5.1 hu).1,(l5.1 af).1] at h;cases d<;>simp only [Instr.sameNow,Option.some.injEq,reduceCtorEq] at h;rw [<-h,beq_toListBytes,ByteArray.toList_eq,ByteArray.toList_eq];simp only [gE];grind
 | st t=>
  obtain ⟨⟨us,rfl,_⟩,_⟩:=hu;cases d<;>cases v<;>simp [Instr.sameNow] at h
 | array n t=>
  obtain ⟨⟨us,rfl,_⟩,_⟩:=hu;cases d<;>cases v<;>simp [Instr.sameNow] at h
 | cQ=>exact hu.1.elim
 | aA a b=>exact hu.1.elim
 | slice e=>
  obtain ⟨_,a,cap,aF,_⟩:=(dV rfl).1 hu;obtain rfl:=(List.cons.inj aF).1;cases d<;>simp [Instr.sameNow] at h
 | bI e=>
  obtain ⟨_,aj⟩:=(dV rfl).1 hu;rcases aj with ⟨aF,_⟩ | ⟨p,y,bk,aF,_⟩<;>(obtain rfl:=(List.cons.inj aF).1;cases d<;>simp [Instr.sameNow] at h)
 | map k' h2=>
  obtain ⟨_,aj⟩:=(dV rfl).1 hu;rcases aj with ⟨aF,_⟩ | ⟨r,es,clk,aF,_⟩<;>(obtain rfl:=(List.cons.inj aF).1;cases d<;>simp [Instr.sameNow] at h)
 | fn a b=>
  obtain ⟨i,z,G,V,ah,a7,bM,dr⟩:=ko ao.kn;unfold b7 at ao;simp only [cC,Bool.and_eq_true,ay] at ao;cases d<;>simp [Instr.sameNow] at ao h
 | cq a=>
  obtain ⟨i,z,G,V,ah,a7,bM,dr⟩:=ko ao.kn;unfold b7 at ao;simp only [cC,Bool.and_eq_true,ay] at ao;cases d<;>simp [Instr.sameNow] at ao h
 | ej=>
  obtain ⟨i,z,G,V,ah,a7,bM,dr⟩:=ko ao.kn;unfold b7 at ao;simp only [cC,Bool.and_eq_true,ay] at ao;cases d<;>simp [Instr.sameNow] at ao h
theorem RQ {P:Program} {F:Nat->Prop} {w:World} {k:ad} {β:Type} {k9:TypeId} (ao:b7 P k k9) {d:TypeDesc} (ay:P.underlying k9=some d) {tu:Value} {x:k.ai} (aj:ek P k F w tu x):∀ (es:List MapEntry) (xs:List (k.ai×β)) (i:Nat) {r:Option (Nat×Value)},es.length=xs.length->(∀ (j:Nat) (e:MapEntry) (p:k.ai×β),es[j]?=some e->xs[j]?=some p->ek P k F w e.key p.1)->Instr.findNow d tu es i=some r->y7 x es xs i r
 | [],[],i,r,_,_,h=>by cases h;exact .inl ⟨rfl,λp ar=>by cases ar⟩
 | e::es,p::xs,i,r,ak,h,aw=>by
  have aY:=h 0 e p rfl rfl;simp only [Instr.findNow] at aw;split at aw
  ·rename_i aG;have:=RP ao ay aj aY aG;cases aw;exact .inr ⟨0,e,p,rfl,rfl,this.symm,λj7 q fM=>by omega,rfl⟩
  ·rename_i aG;have:=RP ao ay aj aY aG;exact (RQ ao ay aj es xs (i+1) (by grind) (λj a8 p' G V=>h (j+1) a8 p' (by grind) (by grind)) aw).next this.symm
  grind
theorem b7.adr {P:Program} {t:ad} {id:TypeId} (h:b7 P t id) (hc:t.kJ=true):∃ d,P.underlying id=some d:=by
 cases t with
 | bool=>
  unfold b7 at h;simp only [cC,Bool.and_eq_true] at h;grind
 | int k=>exact ⟨_,b7.int h⟩
 | str=>exact ⟨_,b7.str h⟩
 | st t=>exact ⟨_,h.BI.2.2.2⟩
 | aA a b=>unfold b7 at h;simp [cC] at h
 | _=>cases hc
theorem wQ {P:Program} {F:Nat->Prop} {w:World} {k:ad} {β:Type} (hc:ti k=true) {k9:TypeId} (ao:b7 P k k9) {tu:Value} {x:k.ai} (aj:ek P k F w tu x) {es:List MapEntry} {xs:List (k.ai×β)}
  (ak:es.length=xs.length) (h:∀ (j:Nat) (e:MapEntry) (p:k.ai×β),es[j]?=some e->xs[j]?=some p->ek P k F w e.key p.1):∃ r,(Instr.findKey k9 tu es).run P w=.ok r w/\y7 x es xs 0 r:=by
 simp only [ti,Bool.and_eq_true,decide_eq_true_eq] at hc;obtain ⟨d,ay⟩:=ao.adr hc.1;simp only [Instr.findKey,Sem.run_bind,dC ay,Result.andThen_ok];cases aD:Instr.findNow d tu es 0 with
 | some r=>exact ⟨r,rfl,RQ ao ay aj es xs 0 ak h aD⟩
 | none=>exact RO hc.1 (by omega) ao aj es xs 0 ak h
theorem RR {k v:ad} {es:List (k.ai×v.ai)} {x:k.ai}:∀ {j:Nat} {p:k.ai×v.ai},es[j]?=some p->gE k x p.1=true->(∀ j7 q,j7<j->es[j7]?=some q->gE k x q.1=false)->yN es x=some p.2/\∀ y,lD es x y=es.set j (p.1,y):=by
 induction es with
 | nil=>simp
 | cons q es aM=>
  intro j p G V ah;cases j with
  | zero=>
   simp at G;subst G;exact ⟨by simp [yN,V],λy=>by simp [lD,V]⟩
  | succ j=>
   have aY:=ah 0 q (by omega) rfl;obtain ⟨aU,aX⟩:=aM (j:=j) (p:=p) (by grind) V λj7 q' fM tn=>ah (j7+1) q' (by omega) (by grind);exact ⟨by simpa [yN,List.find?_cons,aY] using aU,λy=>by simp [lD,aY,aX y]⟩
theorem RS {k v:ad} {es:List (k.ai×v.ai)} {x:k.ai} (h:∀ p∈es,gE k x p.1=false):yN es x=none/\∀ y,lD es x y=es++[(x,y)]:=by
 induction es with
 | nil=>exact ⟨rfl,λ_=>rfl⟩
 | cons q es aM=>
  have aY:=h q (by simp);obtain ⟨aU,aX⟩:=aM λp ar=>h p (by grind);exact ⟨by simpa [yN,List.find?_cons,aY] using aU,λy=>by simp [lD,aY,aX y]⟩
section
variable {C:b8} {T:Nat->ad} {bg:Nat->Option aO} {o:Oper} {s:aB} {res:ey}
theorem ads {P:Program} {F:Nat->Prop} {w:World} {v:ad} {z:Value} (af:v.eC=true\/v.isAgg=true) (i5:j2 v z.cells.toList=some []) (i6:(∃ cs,z=.agg cs)<->v.isAgg=true):ek P v F w z v.db:=by
 obtain ⟨c,e,og,z2⟩:=uL (P:=P) (H:=λ_=>⟨0,.fw⟩) (κ:=λ_=>⟨0,0,0,true⟩) (F:=F) (w:=w) v i5;rw [List.append_nil] at e;refine ⟨?_,by grind⟩;have ak:=hM v og;rcases af with af | af
 ·obtain ⟨u,rfl,hu⟩:=Br af og;have Fb:∀ cs,z≠.agg cs:=λcs bl=>by
   have:=i6.1 ⟨cs,bl⟩;cases v<;>simp [ad.eC,ad.isAgg] at af this
  have bl:z.cells=#[z]:=by
   cases z<;>first | rfl | grind
  cases v<;>simp only [ad.eC,Bool.false_eq_true] at af<;>exact bl
 ·obtain ⟨cs,rfl⟩:=i6.2 af;have a8:cs.toList=c:=e;cases v<;>simp only [ad.isAgg,Bool.false_eq_true] at af
  ·exact ⟨cs,rfl,by rw [<-Array.length_toList,a8,ak];rfl⟩
  ·exact ⟨cs,rfl,by rw [<-Array.length_toList,a8,ak];rfl⟩
def Kj (P:Program) (k v:ad) (F:Nat->Prop) (w:World) (ms:List MapEntry) (xs:List (k.ai×v.ai)):Prop:=
 ms.length=xs.length/\∀ (j:Nat) (e:MapEntry) (p:k.ai×v.ai),ms[j]?=some e->xs[j]?=some p->ek P k F w e.key p.1/\ek P v F w e.val p.2
theorem uH.es {P:Program} {k v:ad} {F:Nat->Prop} {w:World} {ms:Array MapEntry} {clk:Nat} {xs:List (k.ai×v.ai)} (h:uH P k v F w ms clk xs):Kj P k v F w ms.toList xs:=by
 obtain ⟨G,V,ah,a7⟩:=h;refine ⟨by omega,λj e p he ar=>?_⟩;obtain ⟨aH,rfl⟩:=List.getElem?_eq_some_iff.1 ar;obtain ⟨fM,rfl⟩:=List.getElem?_eq_some_iff.1 he;obtain ⟨a,b,c,d,_⟩:=ah j aH (by omega);exact ⟨⟨a,by grind⟩,c,by grind⟩
theorem adt {a:Act} {w:World} {κ:Nat->bD} {F:Nat->Prop} (U:bm C s a w κ F) {k v:ad} {av:aI} {u:Value} {xs:List (k.ai×v.ai)} (h:(BF k v av).run s.ab=some xs) (hu:bA C.P s.ab κ F w av u) :
  (u=.map none/\xs=[])\/∃ r ms clk,u=.map (some r)/\w.heap[r]?=some (.map ms clk)/\Kj C.P k v F w ms.toList xs:=by
 have cy:∀ {xs:List (k.ai×v.ai)},bK C.P (.map k v) F w [u] xs->(u=.map none/\xs=[])\/∃ r ms clk,u=.map (some r)/\w.heap[r]?=some (.map ms clk)/\Kj C.P k v F w ms.toList xs:=by
  intro xs aj;rcases aj with ⟨aF,bB⟩ | ⟨r,ms,clk,aF,G,V,ah,a7,bM,dr⟩
  ·grind
  ·exact .inr ⟨r,ms,clk,(List.cons.inj aF).1,V,uH.es ⟨ah,a7,bM,dr⟩⟩
 cases av with
 | val t es=>
  simp only [BF,aq.bN] at h;exact cy ((dV rfl).1 (EU h hu)).2
 | jy x=>
  simp only [bA] at hu;subst hu;have aj:u=.map none/\xs=[]:=by
   unfold BF at h;split at h
   ·grind
   ·simp_all
   ·grind
   ·cases h
  grind
 | fb b g=>
  simp only [BF,aq.eZ,aq.bN] at h;split at h
  ·rename_i aC;have aT:=U.bE b;unfold cB at aT;split at h
   ·rename_i k' h2 es aa;obtain ⟨e,rfl⟩:=kH h;cases e;rw [aa] at aT;obtain ⟨ms,clk,G,V⟩:=aT;exact .inr ⟨_,ms,clk,hu.2 aC.symm (by rw [aa];rfl),G,V.es⟩
   ·rename_i k' h2 es aa;obtain ⟨e,rfl⟩:=kH h;cases e;rw [aa] at aT;have:=hu.2 aC.symm (by rw [aa];rfl);simp only [jz] at aT;grind
   grind
  grind
 | _=>cases h
theorem adu {ty:TypeId} {r:Option Operand} (bh:∀ i,o.dst=some i->i<C.nt) (ag:o.op=.makeMap ty r) (h:(bt C.aP T bg (a_ C.aP s.az) o).run s.ab=some res):cE C o s res:=by
 simp only [bt,ag] at h;split at h
 ·cases h
 ·rename_i RT;have RT:r=none:=by simp_all
  subst RT;split at h
  ·rename_i k v aL;obtain ⟨b,ay,ao⟩:=qN h;simp only [Option.some.injEq] at ao;subst ao;intro a w κ F Q U _ _;have c1:(execOp a.eval o).run C.P w=.ok (.value (.map (some w.heap.size))) (w.alloc (.map #[] 0)):=by
    simp [execOp,ag,Instr.makeMap]
   have G:=U.alloc (b:=b) (x:=⟨(s.ab b).gen+1,.mp k v []⟩) (U.hd (bh b ay)) (Nat.lt_succ_self _) (o:=.map #[] 0) (k:=⟨w.heap.size,0,0,false⟩) rfl λH κ' _ _ _=>
    ⟨#[],0,pY _ _,rfl,by simp,λi M=>by simp,λi j M=>by simp⟩
   refine hr (by grind) c1 ⟨_,F,bm.set (s:=s.cw b _) G bh ⟨⟨by simp [aB.cw],rfl⟩,λ_ _=>by simp⟩⟩
  ·cases h
theorem adv (aV:dT C.P T) {ty:TypeId} {m x:Operand} {ok:Bool} (bh:∀ i,o.dst=some i->i<C.nt) (ag:o.op=.lookup ty m x ok) (h:(bt C.aP T bg (a_ C.aP s.az) o).run s.ab=some res):cE C o s res:=by
 simp only [bt,ag,yO] at h;split at h
 ·rename_i k v aL;split at h
  ·rename_i hc;simp only [Bool.and_eq_true,Bool.or_eq_true] at hc;obtain ⟨i,j,M,mL,hf⟩:=(aV.b_ aL (by simp)).mp;simp only [aq.e0,Option.bind_eq_some_iff,bO,aq.bN,Option.some.injEq] at h;obtain ⟨es,o7,⟨y,l⟩,aS,rfl⟩:=h;refine cE.pure (by grind) bh λa w κ F U be _=>?_;have hm:=cK U m rfl be.1;have aj:=BM U aS (cK U x rfl be.2);obtain ⟨inf,z,i1,i2,i3,i4,i5,i6⟩:=ko hf.kn;have hzero:ek C.P v F w z v.db:=ads hc.2 i5 i6;have fin:∀ (u:Value) (q:Option v.ai),ek C.P v F w u (q.getD v.db)->bA C.P s.ab κ F w (Q_ v q ok) (if ok=true then .tuple #[u,.bool q.isSome] else u):=by
    intro u q ah;cases ok with
    | true=>
     refine ⟨[u,.bool q.isSome],rfl,rfl,λi M=>?_⟩;match i,M with
     | 0,_=>exact ah
     | 1,_=>exact fa.2 rfl
    | false=>exact ah
   have l6:ti k=true:=hc.1;have fg:k.kJ=true/\k.j4<=100:=by simpa [ti] using l6
   rcases adt U o7 hm with ⟨hu,aD⟩ | ⟨r,ms,clk,hu,hw,ks⟩
   ·subst aD;have eb:=(B8 (em:=true) k 10000 fg.1 (by omega)).1 mL aj;obtain ⟨f,f1,f2⟩:=wQ (β:=v.ai) (xs:=[]) (es:=[]) l6 mL aj rfl (λj e p h=>by cases h);rcases f2 with ⟨rfl,_⟩ | ⟨j,e,p,G,_⟩
    ·refine ⟨_,?_,fin z none hzero⟩;simp only [execOp,ag,hu,Instr.lookup,Sem.run_bind,dC M,Result.andThen_ok,Sem.run_pure];simp only [show (#[]:Array MapEntry).isEmpty=true from rfl,eb,Result.andThen_ok,f1];cases ok<;>simp [qL i1 i4]
    grind
   ·have eb:=(B8 (em:=ms.isEmpty) k 10000 fg.1 (by omega)).1 mL aj;obtain ⟨f,f1,f2⟩:=wQ (β:=v.ai) (xs:=es) (es:=ms.toList) l6 mL aj ks.1 (λj e p G V=>by
     have:=(ks.2 j e p G V).1;exact ⟨this.1,e' k (λ_ _=>trivial) (cZ.refl F w) this.2⟩)
    have eT:(getObj r).run C.P w=.ok (.map ms clk) w:=by simp [getObj,Sem.run,hw]
    rcases f2 with ⟨rfl,ez⟩ | ⟨j,e,p,G,V,ah,a7,rfl⟩
    ·refine ⟨_,?_,by rw [(RS ez).1];exact fin z none hzero⟩;simp only [execOp,ag,hu,Instr.lookup,Sem.run_bind,dC M,Result.andThen_ok,Sem.run_pure,eT,eb,f1,qL i1 i4];rfl
    ·refine ⟨_,?_,by rw [(RR V ah a7).1];exact fin e.val (some p.2) (ks.2 j e p G V).2⟩;simp only [execOp,ag,hu,Instr.lookup,Sem.run_bind,dC M,Result.andThen_ok,Sem.run_pure,eT,eb,f1];rfl
  ·cases h
 ·cases h
theorem Kk (P:Program) (w:World) (uW ew:Value):∃ k' w',(Instr.keyThatStays uW ew).run P w=.ok k' w'/\(k'=ew\/k'=uW)/\(w'=w\/w'=w.drew):=by
 unfold Instr.keyThatStays;split
 ·exact ⟨ew,w,rfl,.inl rfl,.inl rfl⟩
 ·have aw : (Question.extern "map.whichKeyStays" 2).forced = false := rfl;simp only [Sem.run_bind,run_choose,aw,Bool.false_eq_true,if_false,Result.andThen_ok];split
  ·exact ⟨ew,_,rfl,.inl rfl,.inr rfl⟩
  ·exact ⟨uW,_,rfl,.inr rfl,.inr rfl⟩
theorem rZ {P:Program} {w:World} {r:Nat} {es:Array MapEntry} {clk:Nat} (h:w.heap[r]?=some (.map es clk)) (o:Obj):(setObj r o).run P w=.ok () { w with heap:=w.heap.setIfInBounds r o }:=by
 simp [setObj,Sem.run,h]
theorem Kl (aV:dT C.P T) {ty:TypeId} {m x y:Operand} (Kh:o.dst=none) (ag:o.op=.mapUpdate ty m x y\/o.op=.insert ty m x y) (h:(bt C.aP T bg (a_ C.aP s.az) o).run s.ab=some res):cE C o s res:=by
 have ay:∀ c,o.op≠.defer c:=by grind
 have kL:∀ aK,bt C.aP T bg aK o=qK T aK ty m x y:=λaK=>by rcases ag with ag | ag<;>simp only [bt,ag]
 have hex:∀ aK w,(execOp aK o).run C.P w=(do Instr.mapUpdate ty (aK m) (aK x) (aK y);pure .skip:Sem Next).run C.P w:=λaK w=>by rcases ag with ag | ag<;>simp only [execOp,ag]
 rw [kL] at h;simp only [qK] at h;split at h
 ·rename_i k v aL;obtain ⟨k9,y8,M,mL,hf⟩:=(aV.b_ aL (by simp)).mp;split at h
  ·rename_i hc;split at h
   ·rename_i b g tv;simp only [aq.e0,Option.bind_eq_some_iff,aq.run_bind,aq.eZ,aq.bN] at h;obtain ⟨⟨dJ,ob⟩,aj,⟨mM,oc⟩,aS,h⟩:=h;split at h
    ·rename_i aC;obtain ⟨aC,p4⟩:=aC;have p4:b ∉ ob++oc:=by
      grind
     split at h
     ·rename_i k' h2 es aa;simp only [Option.map_eq_some_iff] at h;obtain ⟨RU,o7,rfl⟩:=h;obtain ⟨e,rfl⟩:=kH o7;cases e;intro a w κ F Q U be _;obtain ⟨F',f1,bd,f2⟩:=bm.k6 ((mI aj).append (mI aS)) U;have hm:bA C.P s.ab κ F w (use (a_ C.aP s.az m)).2 (a.eval m):=cK U m rfl be.1;rw [tv] at hm;have kM:=hm.2 aC.symm (by rw [aa];rfl);have tw:=l9 U.bE f1 aj f2.left (cK U x rfl be.2.1);have Fi:=l9 U.bE f1 aS f2.right (cK U y rfl be.2.2);have o_:(s.cy (ob++oc)).ab b=s.ab b:=by simp only [aB.cy];grind
      have aT:=bd.bE b;unfold cB at aT;rw [o_,aa] at aT;obtain ⟨ms,clk,hw,tx⟩:=aT;have fg:k.kJ=true/\k.j4<=100:=by simpa [ti] using hc
      have eb:=(B8 (em:=false) k 10000 fg.1 (by omega)).1 mL tw;have ks:=tx.es;obtain ⟨f,dx,dP⟩:=wQ (β:=v.ai) (xs:=es) (es:=ms.toList) hc mL tw ks.1 (λj e p G V=>(ks.2 j e p G V).1);have eT:(getObj (κ b).ab).run C.P w=.ok (.map ms clk) w:=by simp [getObj,Sem.run,hw]
      have o8:s.fU ((jD (ob++oc)).run s.ab++[(b,⟨(s.ab b).gen,.mp k v (lD es dJ mM)⟩)])=(s.cy (ob++oc)).cw b ⟨(s.ab b).gen,.mp k v (lD es dJ mM)⟩:=by
       rw [BQ,tk]
      have gh:fm (s.cy (ob++oc)).ab κ (λi=>if i=b then (⟨(s.ab b).gen,.mp k v (lD es dJ mM)⟩:bL) else (s.cy (ob++oc)).ab i) κ:=
       qH (by rw [o_]) (λh=>by cases h) (λh=>by cases h) (λ_=>by rw [o_,aa];rfl) (λh=>by cases h)
      obtain ⟨hq,Km,Fj,RV⟩:=tx;have done:∀ (cj:World) (Fk:Array MapEntry) (Fl:Nat),(cj=w\/cj=w.drew)->
        (execOp a.eval o).run C.P w=.ok .skip { cj with heap:=cj.heap.setIfInBounds (κ b).ab (.map Fk Fl) }->
        (∀ {w'},cZ F' w w'->uH C.P k v F' w' Fk Fl (lD es dJ mM))->
        o.wpIn (dS C.r) 0 C.P a w (λa' w'=>cu C (s.h5 o.dst ⟨(use (a_ C.aP s.az m)).1/\(use (a_ C.aP s.az x)).1/\(use (a_ C.aP s.az y)).1,True,.undef,(jD (ob++oc)).run s.ab++[(b,⟨(s.ab b).gen,.mp k v (lD es dJ mM)⟩)]⟩) a' w') Q:=by
       intro cj Fk Fl lL c1 adw;have cR:cj.heap=w.heap:=by rcases lL with rfl | rfl<;>rfl
       have iV:da w cj:=by rcases lL with rfl | rfl<;>exact ⟨rfl,rfl,rfl⟩
       refine E6 ay c1 ⟨κ,F',?_⟩;simp only [aB.h5];rw [o8,Kh];refine bd.o2 (b:=b) (x:=⟨(s.ab b).gen,.mp k v (lD es dJ mM)⟩) (by rw [o_,aa];rfl) rfl gh (λh=>by cases h) (λ_=>by rw [o_,aa];rfl) (λr Kn=>?_) (by grind) ⟨iV.os,iV.tape,iV.output⟩ λH _ _ he=>?_
       ·grind
       ·have ch:(κ b).ab<w.heap.size:=(Array.getElem?_eq_some_iff.1 hw).1;exact ⟨Fk,Fl,by grind,adw he⟩
      rcases dP with ⟨rfl,ez⟩ | ⟨j,e,p,G,V,ah,a7,rfl⟩
      ·refine done w (ms.push { key:=a.eval x,val:=a.eval y,born:=clk }) (clk+1) (.inl rfl) ?_ λ{w'} he=>?_
       ·rw [hex];simp only [kM,Instr.mapUpdate,Sem.run_bind,dC M,Result.andThen_ok,eT,eb,dx,rZ hw,Sem.run_pure]
       ·rw [(RS ez).2];refine ⟨by grind,?_,λi M dM=>?_,λi j M aH e=>?_⟩
        ·rw [List.map_append,List.nodup_append];refine ⟨Km,by simp,λq br q' tn=>?_⟩;obtain ⟨p,ar,rfl⟩:=List.mem_map.1 br;simp only [List.map_cons,List.map_nil,List.mem_singleton] at tn;subst tn;intro e;have:=ez p ar;rw [e,(Ki k fg.1 _ _).2 rfl] at this;grind
        ·by_cases p7:i<es.length
         ·obtain ⟨aU,aX,bP,gx,o'⟩:=Fj i p7 (by omega);have aF:(es++[(dJ,mM)])[i]=es[i]:=List.getElem_append_left p7;have bB:(ms.push { key:=a.eval x,val:=a.eval y,born:=clk })[i]=ms[i]'(by omega):=Array.getElem_push_lt (by omega);rw [aF,bB];exact ⟨aU,e' k (λ_ h=>h) he aX,bP,e' v (λ_ h=>h) he gx,by omega⟩
         ·have adx:i=es.length:=by grind
          subst adx;have aF:(es++[(dJ,mM)])[es.length]=(dJ,mM):=by simp
          have bB:(ms.push { key:=a.eval x,val:=a.eval y,born:=clk })[es.length]={ key:=a.eval x,val:=a.eval y,born:=clk }:=by
           grind
          rw [aF,bB];exact ⟨tw.1,e' k (λ_ h=>h) he tw.2,Fi.1,e' v (λ_ h=>h) he Fi.2,by simp⟩
        ·have born:∀ i (h:i<(ms.push { key:=a.eval x,val:=a.eval y,born:=clk }).size),(∃ ds:i<ms.size,(ms.push { key:=a.eval x,val:=a.eval y,born:=clk })[i]=ms[i])\/(i=ms.size/\((ms.push { key:=a.eval x,val:=a.eval y,born:=clk })[i]).born=clk):=by
          grind
         grind
      ·have aH:j<es.length:=(List.getElem?_eq_some_iff.1 V).1;have wR:j<ms.size:=by omega
       have Ko:ms[j]=e:=by
        grind
       have mN:es[j]=p:=(List.getElem?_eq_some_iff.1 V).2;have ady:dJ=p.1:=(Ki k fg.1 _ _).1 ah;obtain ⟨jj,cj,cf,cF,ep⟩:=Kk C.P w e.key (a.eval x);have lL:cj.heap[(κ b).ab]?=some (.map ms clk):=by rcases ep with rfl | rfl<;>exact hw
       refine done cj (ms.modify j λe=>{ e with key:=jj,val:=a.eval y }) clk ep ?_ λ{w'} he=>?_
       ·rw [hex];rw [Nat.zero_add] at dx;simp only [kM,Instr.mapUpdate,Sem.run_bind,dC M,Result.andThen_ok,eT,eb,dx];have mK:((ms[j]?).map (·.key)).getD (a.eval x)=e.key:=by
         grind
        rw [mK,cf];simp only [Result.andThen_ok,rZ lL,Sem.run_pure]
       ·rw [(RR V ah a7).2];refine ⟨by grind,?_,λi M dM=>?_,λi j7 M fM a8=>?_⟩
        ·have:(es.set j (p.1,mM)).map (·.1)=es.map (·.1):=by
          apply List.ext_getElem?;grind
         grind
        ·have p7:i<es.length:=by grind
         have Kp:i<ms.size:=by omega
         obtain ⟨aU,aX,bP,gx,o'⟩:=Fj i p7 Kp;by_cases y9:j=i
         ·subst y9;have aF:(es.set j (p.1,mM))[j]=(p.1,mM):=by simp
          have bB:(ms.modify j λe=>{ e with key:=jj,val:=a.eval y })[j]={ key:=jj,val:=a.eval y,born:=ms[j].born }:=by grind
          rw [aF,bB];have uP:ek C.P k F' w jj p.1:=by
           rcases cF with rfl | rfl
           ·grind
           ·rw [<-Ko,<-mN];exact ⟨aU,aX⟩
          exact ⟨uP.1,e' k (λ_ h=>h) he uP.2,Fi.1,e' v (λ_ h=>h) he Fi.2,o'⟩
         ·have aF:(es.set j (p.1,mM))[i]=es[i]:=by grind
          have bB:(ms.modify j λe=>{ e with key:=jj,val:=a.eval y })[i]=ms[i]:=by grind
          rw [aF,bB];exact ⟨aU,e' k (λ_ h=>h) he aX,bP,e' v (λ_ h=>h) he gx,o'⟩
        grind
     grind
    grind
   ·cases h
  ·cases h
 ·cases h
end
end Go.Fer
namespace Go.Fer
open Go.RowKit
section
variable {C:b8} {T:Nat->ad} {bg:Nat->Option aO} {o:Oper} {s:aB} {res:ey}
theorem RW {P:Program} {F:Nat->Prop} {w:World} {e:ad} {z:Value} (bM:j2 e z.cells.toList=some []) (n:Nat) :
  gi P e F w ((Array.range (n*e.size)).map (λi=>z.cells[i % z.cells.size]!)).toList (List.replicate n e.db):=by
 obtain ⟨c,y_,og,z2⟩:=uL (P:=P) (H:=λ_=>⟨0,.fw⟩) (κ:=λ_=>⟨0,0,0,true⟩) (F:=F) (w:=w) e bM;rw [List.append_nil] at y_;have tz:z.cells.size=e.size:=by rw [<-Array.length_toList,y_];exact hM e og
 refine ⟨by simp,λi M=>?_⟩;have dM:i<n:=by grind
 have hle:(i+1)*e.size<=n*e.size:=Nat.mul_le_mul_right _ (by omega);rw [Nat.add_mul] at hle;have:((((Array.range (n*e.size)).map (λi=>z.cells[i % z.cells.size]!)).toList.drop (i*e.size)).take e.size)=z.cells.toList:=by
  apply List.ext_getElem?;intro j;simp only [List.getElem?_take,List.getElem?_drop];split
  ·rename_i aH;have fM:j<z.cells.size:=by omega
   rw [Array.getElem?_toList,Array.getElem?_toList];have y5:(i*e.size+j) % z.cells.size=j:=by rw [tz,Nat.add_comm,Nat.add_mul_mod_self_right,Nat.mod_eq_of_lt aH]
   grind
  grind
 grind
theorem adz {n:Int} (aY:0<=n) (G:n<=4294967296):IntKind.i64.wrap n=n:=by
 simp only [IntKind.wrap,IntKind.signed,IntKind.bits];grind
theorem adA (aV:dT C.P T) {ty:TypeId} {l c:Operand} (bh:∀ i,o.dst=some i->i<C.nt) (ag:o.op=.makeSlice ty l c) (h:(bt C.aP T bg (a_ C.aP s.az) o).run s.ab=some res):cE C o s res:=by
 simp only [bt,ag,E1] at h;split at h
 ·rename_i e aL;split at h
  ·rename_i n m ak hm;have dk:=aV.b_ aL (by simp);obtain ⟨jI,aH,iW,oi⟩:=dk.sl;obtain ⟨inf,z,i1,i2,i3,i4,i5,i6⟩:=ko iW.kn;obtain ⟨b,ay,ao⟩:=qN h;simp only [Option.some.injEq] at ao;subst ao;intro a w κ F Q U be hc;have adB:=od (cK U l rfl be.1) ak;have iV:=od (cK U c rfl be.2) hm;obtain ⟨c0,rfl,bF⟩:0<=n/\n=m/\cn n.toNat:=hc;unfold cn at bF;obtain ⟨k,rfl⟩:∃ k:Nat,n=k:=⟨n.toNat,by omega⟩
   simp only [Int.toNat_natCast] at bF;have hw:IntKind.i64.wrap (k:Int)=k:=adz (by omega) (by omega);let cs:Array Value:=(Array.range (k*e.size)).map (λi=>z.cells[i % z.cells.size]!);have jf:gi C.P e F w cs.toList (List.replicate k e.db):=RW i5 k;have awq:inf.bytes*k<=2 ^ 47:=by
    calc inf.bytes*k<=1024*4294967296:=Nat.mul_le_mul i3 (by omega)
     _<=2 ^ 47:=by decide
   have c1:(execOp a.eval o).run C.P w=.ok (.value (.slice (some ⟨w.heap.size,0,none⟩) k k)) (w.alloc (.cells cs jI)):=by
    have adC:¬((inf.bytes:Int)*(k:Int) > 2 ^ 48):=by
     omega
    have lM:¬((k:Int)<0):=by omega
    have wP:¬(k*inf.bytes > roomBytes):=by
     have:roomBytes=2 ^ 47:=rfl;grind
    have uP:¬((k:Int) > (k:Int)):=by omega
    simp only [execOp,ag,Instr.makeSlice,adB.1,iV.1,Sem.run_bind,dC aH,Result.andThen_ok,asInt,asIntOf,Sem.run_pure,E3 i1,hw,adC,lM,uP,decide_false,Bool.or_false,Bool.false_or,Bool.false_eq_true,if_false,run_askRoom,Int.toNat_natCast,rP i1,i2];by_cases r0:k*e.size=0
    ·have adD:cs=#[]:=Array.eq_empty_of_size_eq_zero (by grind);rw [adD];have adE:(Array.map (λ_:Nat=>(default:Value)) (Array.range 0))=#[]:=by simp
     simp [r0,newRow];rw [adE]
    ·simp [r0,qL i1 i4,newRow,cs]
   have ah:=U.B1 (b:=b) (g:=(s.ab b).gen+1) (zs:=List.replicate k e.db) (k:=⟨w.heap.size,0,k,false⟩) (w':=w.alloc (.cells cs jI)) (Nat.lt_succ_self _) (.inr rfl) (by simp) (λr U=>o1 w _ U) (λ_=>by simp) ⟨rfl,rfl,rfl⟩
    (λH κ'=>⟨λh=>(by cases h),λ_=>⟨cs,jI,pY w _,by grind,by simp,by grind,(jf.BZ (pre:=[]) (post:=[]) (by simp)).later (cZ.alloc U.c_ _)⟩⟩)
   refine hr (by grind) c1 ⟨_,F,bm.set (s:=s.cw b _) ah bh ⟨⟨by simp [aB.cw],rfl⟩,λ_ _=>by simp [aB.cw,bD.slice,bQ.len]⟩⟩
  ·cases h
 ·cases h
theorem gi.take {P:Program} {e:ad} {F:Nat->Prop} {w:World} {all:List Value} {xs:List e.ai} (h:gi P e F w all xs) {n:Nat} (aD:n<=xs.length):gi P e F w (all.take (n*e.size)) (xs.take n):=by
 have hle:n*e.size<=xs.length*e.size:=Nat.mul_le_mul_right _ aD;refine ⟨by simp only [List.length_take,h.1];simp,λi M=>?_⟩;have dM:i<n:=by grind
 have adF:(i+1)*e.size<=n*e.size:=Nat.mul_le_mul_right _ (by omega);rw [Nat.add_mul] at adF;have:((all.take (n*e.size)).drop (i*e.size)).take e.size=(all.drop (i*e.size)).take e.size:=by
  rw [List.drop_take,List.take_take,Nat.min_eq_left (by omega)]
 rw [this];simpa using h.2 i (by omega)
theorem RX {P:Program} {w:World} {e:ad} {q:Option Addr} {n cap:Nat} {xs:List e.ai} {F:Nat->Prop} (aD:n<=xs.length) (h:(q=none/\xs=[]/\cap=0)\/∃ p all,q=some p/\gi P e F w all xs/\kr w p all) :
  ∃ all,(Builtin.firstCells e.size n (.slice q xs.length cap)).run P w=.ok all.toArray w/\gi P e F w all (xs.take n):=by
 rcases h with ⟨rfl,rfl,rfl⟩ | ⟨p,all,rfl,ca,a2⟩
 ·exact ⟨[],by rfl,by simp [gi]⟩
 ·have hle:n*e.size<=xs.length*e.size:=Nat.mul_le_mul_right _ aD;refine ⟨all.take (n*e.size),?_,ca.take aD⟩;simp only [Builtin.firstCells];have ak:(all.take (n*e.size)).length=n*e.size:=by simp only [List.length_take,ca.1];omega
  have U:kr w p (all.take (n*e.size)):=⟨λaY=>a2.1 (by grind),λj aH=>by
   have fM:j<all.length:=by grind
   rw [List.getElem_take];exact a2.2 j fM⟩
  have:=E5 (P:=P) U;grind
theorem lz.fZ {P:Program} {e:ad} {F:Nat->Prop} {w w':World} {cs dc:Array Value} {off aZ:Nat} {xs zs:List e.ai} {ew:List Value} (h:lz P e F w cs off xs) (he:cZ F w w') (aD:gi P e F w ew zs) (ak:aZ+zs.length<=xs.length)
  (o5:off+xs.length*e.size<=cs.size) (hc:dc.toList=cs.toList.take (off+aZ*e.size)++(ew++cs.toList.drop (off+aZ*e.size+ew.length))):lz P e F w' dc off (Go.Fer.fZ xs aZ zs):=by
 have hlen:(Go.Fer.fZ xs aZ zs).length=xs.length:=by simp [Go.Fer.fZ];omega
 have adG:(aZ+zs.length)*e.size<=xs.length*e.size:=Nat.mul_le_mul_right _ ak;rw [Nat.add_mul] at adG;have o9:=aD.1;have gG:(cs.toList.take (off+aZ*e.size)).length=off+aZ*e.size:=by grind
 intro i M;rw [hlen] at M;have adH:i<aZ\/(aZ<=i/\i<aZ+zs.length)\/aZ+zs.length<=i:=by omega
 rcases adH with G | ⟨G,V⟩ | G
 ·obtain ⟨bk,d1,d2⟩:=h i M;have RF:=hM e d2;have aF:(Go.Fer.fZ xs aZ zs)[i]'(by omega)=xs[i]:=by
   simp only [Go.Fer.fZ,List.append_assoc];grind
  rw [aF];refine ⟨bk,λj aH=>?_,e' e (λ_ h=>h) he d2⟩;have hle:(i+1)*e.size<=aZ*e.size:=Nat.mul_le_mul_right _ (by omega);rw [Nat.add_mul] at hle;rw [<-Array.getElem?_toList,hc,List.getElem?_append_left (by omega),List.getElem?_take,if_pos (by omega),Array.getElem?_toList];grind
 ·have B4:=aD.BZ (pre:=cs.toList.take (off+aZ*e.size)) (post:=cs.toList.drop (off+aZ*e.size+ew.length)) hc;obtain ⟨bk,d1,d2⟩:=B4 (i - aZ) (by omega);have aF:(Go.Fer.fZ xs aZ zs)[i]'(by omega)=zs[i - aZ]'(by omega):=by
   simp only [Go.Fer.fZ,List.append_assoc];grind
  rw [aF];refine ⟨bk,λj aH=>?_,e' e (λ_ h=>h) he d2⟩;have:=d1 j aH;rw [gG] at this;rw [<-this];congr 1;have:i*e.size=aZ*e.size+(i - aZ)*e.size:=by rw [<-Nat.add_mul];grind
  omega
 ·obtain ⟨bk,d1,d2⟩:=h i M;have RF:=hM e d2;have aF:(Go.Fer.fZ xs aZ zs)[i]'(by omega)=xs[i]:=by
   simp only [Go.Fer.fZ,List.append_assoc];have gh:(xs.take aZ).length=aZ:=by grind
   rw [List.getElem_append_right (by omega),List.getElem_append_right (by omega)];grind
  rw [aF];refine ⟨bk,λj aH=>?_,e' e (λ_ h=>h) he d2⟩;have Fm:(aZ+zs.length)*e.size<=i*e.size:=Nat.mul_le_mul_right _ G;rw [Nat.add_mul] at Fm;rw [<-Array.getElem?_toList,hc,List.getElem?_append_right (by omega),List.getElem?_append_right (by omega),List.getElem?_drop,gG];grind
theorem gi.one {P:Program} {e:ad} {F:Nat->Prop} {w:World} {ew:List Value} {ys:List e.ai} (h:gi P e F w ew ys) (k7:0<e.size):∀ v∈ew,v.oneCell'=true:=by
 intro v af;obtain ⟨j,aH,rfl⟩:=List.mem_iff_getElem.1 af;have hdiv:j / e.size<ys.length:=(Nat.div_lt_iff_lt_mul k7).2 (by rw [<-h.1];exact aH);have nG:=h.2 (j / e.size) hdiv;have iw:=yJ (P:=P) (H:=λ_=>⟨0,.fw⟩) (κ:=λ_=>⟨0,0,0,true⟩) e nG;have y5:=Nat.mod_lt j k7;have adf:j / e.size*e.size+j % e.size=j:=Nat.div_add_mod' j e.size;have B3:((ew.drop (j / e.size*e.size)).take e.size).length=e.size:=hM e nG;have:=(iw.kI (j % e.size) (by rw [iw.len,B3];omega)).2;grind
theorem adI (aV:dT C.P T) {args:Array Operand} {dj:Array TypeId} (bh:∀ i,o.dst=some i->i<C.nt) (ag:o.op=.call { callee:=.builtin .copy,args:=args,argTypes:=dj }) (h:(bt C.aP T bg (a_ C.aP s.az) o).run s.ab=some res):cE C o s res:=by
 obtain ⟨args⟩:=args;obtain ⟨dj⟩:=dj;have ay:∀ c,o.op≠.defer c:=by grind
 simp only [bt,ag,mF,E2] at h;split at h
 ·rename_i x y t u;split at h
  ·rename_i e bB aL hu;have dk:=aV.b_ aL (by simp);obtain ⟨jI,aH,iW,oi⟩:=dk.sl;obtain ⟨inf,z,i1,i2,i3,i4,i5,i6⟩:=ko iW.kn;have k7:0<e.size:=Nat.pos_of_ne_zero oi;split at h
   ·rename_i b g aZ M B9;simp only [aq.e0,Option.bind_eq_some_iff,aq.eZ,aq.bN] at h;obtain ⟨⟨ys,l⟩,j6,h⟩:=h;split at h
    ·rename_i aC;split at h
     ·rename_i a8 xs aa;split at h
      ·rename_i qS;subst qS;simp only [Option.some.injEq] at h;subst h;intro a w κ F Q U be _;obtain ⟨q',cap',tq,nI⟩:=rW U j6 (cK U y rfl be.2);have aj:bA C.P s.ab κ F w (use (a_ C.aP s.az x)).2 (a.eval x):=cK U x rfl be.1;have aT:=U.bE b;unfold cB at aT;rw [aa] at aT;have place:aZ<=M.getD xs.length/\M.getD xs.length<=xs.length/\(((κ b).e3=true/\∃ cap,a.eval x=.slice none 0 cap)\/((κ b).e3=false/\∃ mc cap,a.eval x=.slice (some ⟨(κ b).ab,mc,none⟩) (M.getD xs.length - aZ) cap/\(aZ<M.getD xs.length->mc=(κ b).off+aZ*a8.size))):=by
        split at B9
        ·rename_i bf g' e5;simp only [Option.some.injEq,Prod.mk.injEq] at B9;obtain ⟨rfl,rfl,rfl,rfl⟩:=B9;rw [e5] at aj;have af:=aj.2 aC.symm (by rw [aa];rfl);rw [aa] at af;simp only [bQ.len] at af;refine ⟨Nat.zero_le _,Nat.le_refl _,?_⟩;cases aD:(κ bf).e3 with
         | true=>exact .inl ⟨rfl,0,by simpa [bD.slice,aD] using af⟩
         | false=>exact .inr ⟨rfl,(κ bf).off,(κ bf).cap,by simpa [bD.slice,aD] using af,λ_=>by simp⟩
        ·rename_i bf g' awr dM e5;simp only [Option.some.injEq,Prod.mk.injEq] at B9;obtain ⟨rfl,rfl,rfl,rfl⟩:=B9;rw [e5] at aj;obtain ⟨⟨aU,aX⟩,bP⟩:=aj.2 aC.symm (by rw [aa];rfl);rw [aa] at aX bP;simp only [bQ.len,bQ.eY] at aX bP;refine ⟨aU,aX,?_⟩;rcases bP with ⟨aD,af⟩ | ⟨aD,mc,af,hO,gw⟩
         ·grind
         ·obtain ⟨cs,hR,bF,c2,c3,c4,c5⟩:=aT.2 aD;grind
        grind
       obtain ⟨jG,p5,mb⟩:=place;have RY:∀ m:Nat,m<=ys.length->m<=xs.length->fL .i64 (m:Int):=by
        intro m _ hm;have:=yW U (b:=b) (by rw [aa];rfl);rw [aa] at this;simp only [bQ.len] at this;exact BO (by omega)
       generalize RZ:M.getD xs.length=cR at *
       have Rz:Nat.min ys.length (cR - aZ)=min (cR - aZ) ys.length:=Nat.min_comm _ _;have adJ:(ys.take (cR - aZ)).length=min (cR - aZ) ys.length:=by simp
       have y':(fZ xs aZ (ys.take (cR - aZ))).length=xs.length:=by simp [fZ];omega
       have gh:fm s.ab κ (λi=>if i=b then (⟨(s.ab b).gen,.bj a8 (fZ xs aZ (ys.take (cR - aZ)))⟩:bL) else s.ab i) κ:=
        qH rfl (λh=>by cases h) (λ_=>by rw [aa];exact ⟨rfl,y',rfl⟩) (λh=>by cases h) (λh=>by cases h)
       have mH:∀ (w':World) v,(Builtin.copy_ #[t,u] o.type #[a.eval x,a.eval y]).run C.P w=.ok v w'->(execOp a.eval o).run C.P w=.ok (.value v) w':=by
        intro w' v af;refine wL ag ?_;simp [builtin,af]
       rcases mb with ⟨aD,cap,rX⟩ | ⟨aD,mc,cap,rX,adK⟩
       ·have hQ:=aT.1 aD;subst hQ;have adL:cR=0:=by grind
        subst adL;have Kq:aZ=0:=by omega
        subst Kq;obtain ⟨ew,ec,ef⟩:=RX (P:=C.P) (w:=w) (n:=0) (Nat.zero_le _) nI;have c1:(Builtin.copy_ #[t,u] o.type #[a.eval x,a.eval y]).run C.P w=.ok (.int .i64 ((0:Nat):Int)) w:=by
         simp only [Builtin.copy_,List.getElem?_toArray,List.getElem?_cons_zero,List.getElem?_cons_succ,Sem.run_bind,dC aH,Result.andThen_ok,rX,tq,Builtin.lenOf,Sem.run_pure,rP i1,i2,Nat.min_zero];rw [ec];rfl
        refine hr ay (mH w _ c1) ⟨κ,F,bm.set (s:=s.cw b _) ?_ bh (gP.2 ⟨by simp,RY _ (by simp) (by simp)⟩)⟩;have cX:fZ ([]:List a8.ai) 0 (ys.take (0 - 0))=[]:=by rfl
        have es:s.cw b ⟨(s.ab b).gen,.bj a8 (fZ ([]:List a8.ai) 0 (ys.take (0 - 0)))⟩=s:=by
         rw [cX];unfold aB.cw;have:(λi=>if i=b then (⟨(s.ab b).gen,.bj a8 []⟩:bL) else s.ab i)=s.ab:=by
          funext i;by_cases M:i=b
          ·subst M;simp only [if_true];rw [<-aa]
          grind
         rw [this]
        grind
       ·obtain ⟨cs,hR,bF,c2,c3,c4,c5⟩:=aT.2 aD;have BS:min (cR - aZ) ys.length<=ys.length:=Nat.min_le_right _ _;obtain ⟨ew,ec,ef⟩:=RX (P:=C.P) (w:=w) BS nI;have kK:ys.take (min (cR - aZ) ys.length)=ys.take (cR - aZ):=by
         simp
        rw [kK] at ef;have o9:=ef.1;rw [adJ] at o9;have nH:=ef.one k7;have R0:xs.length*a8.size<=(κ b).cap*a8.size:=Nat.mul_le_mul_right _ c3;have B_:(aZ+min (cR - aZ) ys.length)*a8.size<=xs.length*a8.size:=Nat.mul_le_mul_right _ (by omega);rw [Nat.add_mul] at B_;obtain ⟨w',dc,cf,cF,ep,lG,lH,l'⟩:∃ w' dc,(storeCells ⟨(κ b).ab,mc,none⟩ ew).run C.P w=.ok () w'/\w'.heap[(κ b).ab]?=some (.cells dc hR (0,0))/\dc.toList=cs.toList.take ((κ b).off+aZ*a8.size)++(ew++cs.toList.drop ((κ b).off+aZ*a8.size+ew.length))/\
          (∀ r,r≠(κ b).ab->w'.heap[r]?=w.heap[r]?)/\w'.heap.size=w.heap.size/\da w w':=by
         by_cases ch:aZ<cR
         ·rw [adK ch];obtain ⟨w',dc,cf,cF,ep,lG,lH,l'⟩:=uR (P:=C.P) ew ((κ b).off+aZ*a8.size) 0 w cs bF (by omega) nH;grind
         ·have aY:min (cR - aZ) ys.length=0:=by omega
          rw [aY,Nat.zero_mul] at o9;have:ew=[]:=List.eq_nil_of_length_eq_zero o9;subst this;exact ⟨w,cs,by rfl,bF,by simp,λ_ _=>rfl,rfl,da.refl w⟩
        have c1:(Builtin.copy_ #[t,u] o.type #[a.eval x,a.eval y]).run C.P w=.ok (.int .i64 ((min (cR - aZ) ys.length:Nat):Int)) w':=by
         simp only [Builtin.copy_,List.getElem?_toArray,List.getElem?_cons_zero,List.getElem?_cons_succ,Sem.run_bind,dC aH,Result.andThen_ok,rX,tq,Builtin.lenOf,Sem.run_pure,rP i1,i2];rw [Rz,ec];simp only [Result.andThen_ok,cf];rfl
        refine hr ay (mH w' _ c1) ⟨κ,F,bm.set (s:=s.cw b _) ?_ bh (gP.2 ⟨rfl,RY _ (by omega) (by omega)⟩)⟩;refine U.o2 (b:=b) (by rw [aa];simp [bQ.b1,aD]) (by simp [bQ.b1,aD]) gh (λh=>by cases h) (λh=>by cases h) lG lH l' λH mJ ch he=>?_;refine ⟨λh=>(by grind),λ_=>⟨dc,hR,cF,?_,by omega,c4,?_⟩⟩
        ·have:dc.size=cs.size:=by
          rw [<-Array.length_toList,ep];simp only [List.length_append,List.length_take,List.length_drop,Array.length_toList];omega
         omega
        ·exact c5.fZ he ef (by omega) (by omega) ep
      grind
     grind
    grind
   ·cases h
  ·cases h
 ·cases h
theorem R1 (ag:(bt C.aP T bg (a_ C.aP s.az) o).run s.ab=some ⟨True,False,.undef,[]⟩) (h:(bt C.aP T bg (a_ C.aP s.az) o).run s.ab=some res):cE C o s res:=by
 rw [ag] at h;cases h;intro a w κ F Q _ _ hc;grind
end
end Go.Fer
namespace Go.Fer
open Go.RowKit
section
variable {C:b8} {T:Nat->ad} {bg:Nat->Option aO} {o:Oper} {s:aB} {res:ey}
theorem adM {P:Program} {w:World} {len cap:Nat} {aZ:Option Value} {l:Option Int} {k k':IntKind} {h m:Int} (ak:(aZ=none/\l=none)\/∃ k m,aZ=some (.int k m)/\l=some m)
  (G:0<=dp l) (V:dp l<=h) (ah:h<=m) (a7:m<=(cap:Int)):(Instr.sliceBounds true len cap aZ (some (.int k h)) (some (.int k' m))).run P w=.ok ((dp l).toNat,h.toNat,m.toNat) w:=by
 rcases ak with ⟨rfl,rfl⟩ | ⟨k,n,rfl,rfl⟩<;>simp only [dp] at G V ⊢
 ·have aF:0<=m/\m<=(cap:Int):=by omega
  have bB:0<=h/\h<=m:=by omega
  have di:max m 0=m:=by omega
  simp [Instr.sliceBounds,Instr.sliceBound,asIntOf,aF,bB,di]
 ·have aF:0<=m/\m<=(cap:Int):=by omega
  have bB:0<=h/\h<=m:=by omega
  have di:max m 0=m:=by omega
  have gv:0<=n/\n<=h:=by omega
  have h1:max h 0=h:=by omega
  simp [Instr.sliceBounds,Instr.sliceBound,asIntOf,aF,bB,di,gv,h1]
theorem adN (aV:dT C.P T) {ty:TypeId} {x:Operand} {aZ M:Option Operand} {o3:Operand} (bh:∀ i,o.dst=some i->i<C.nt) (ag:o.op=.slice ty x aZ M (some o3)) (h:(bt C.aP T bg (a_ C.aP s.az) o).run s.ab=some res):cE C o s res:=by
 simp only [bt,ag,Option.isSome_some,if_true,EZ] at h;split at h
 ·rename_i ol l qJ cR uM m rU J8 adO;have ay:∀ c,o.op≠.defer c:=by grind
  split at h
  ·rename_i cX aL;have dk:=aV.b_ aL (by simp);obtain ⟨j,aH,iW,oi⟩:=dk.sl;simp only [aq.e0,Option.bind_eq_some_iff] at h;obtain ⟨⟨c,v⟩,fN,h⟩:=h;simp only [bO,aq.bN,Option.some.injEq] at h;subst h;have runs:∀ (a:Act) (w:World) κ F,bm C s a w κ F->ol->qJ->uM->∀ (q:Option Addr) (n cap:Nat),a.eval x=.slice q n cap->0<=dp l->dp l<=cR->cR<=m->m<=(cap:Int)->
     (execOp a.eval o).run C.P w=.ok (.value (.slice (if m.toNat=(dp l).toNat then q else q.map (·.add ((dp l).toNat*cX.size))) (cR.toNat - (dp l).toNat) (m.toNat - (dp l).toNat))) w:=by
    intro a w κ F U BX BY adP q n cap af bF c2 c3 c4;have dB:(aZ.map a.eval=none/\l=none)\/∃ k m,aZ.map a.eval=some (.int k m)/\l=some m:=by
     rcases BW U rU BX with ⟨rfl,rfl⟩ | ⟨y,k,m,rfl,rfl,e⟩
     ·exact .inl ⟨rfl,rfl⟩
     ·exact .inr ⟨k,m,by simp [e],rfl⟩
    obtain ⟨aws,aX,m2,rfl,bB,di⟩:∃ y k n,M=some y/\cR=n/\a.eval y=.int k n:=by
     rcases BW U J8 BY with ⟨_,h⟩ | ⟨y,k,m,rfl,h,e⟩
     ·cases h
     ·exact ⟨y,k,m,rfl,Option.some.inj h,e⟩
    obtain ⟨bP,gv⟩:∃ k,a.eval o3=.int k m:=by
     rcases BW U adO adP with ⟨h,_⟩ | ⟨y,k,m,G,V,e⟩
     ·cases h
     ·cases G;cases V;exact ⟨k,e⟩
    subst bB;have:=adM (P:=C.P) (w:=w) (len:=n) (k:=aX) (k':=bP) dB bF c2 c3 c4;simp [execOp,ag,af,Instr.sliceAt,Instr.slice,dC aH,di,gv,this,iW.size]
   unfold Q9 at fN;split at fN
   ·rename_i e xs e5;simp only [aq.bN] at fN;split at fN
    ·rename_i he;subst he;simp only [Option.some.injEq,Prod.mk.injEq] at fN;obtain ⟨rfl,rfl⟩:=fN;refine cE.pure ay bh λa w κ F U be hc=>?_;have aj:bA C.P s.ab κ F w (use (a_ C.aP s.az x)).2 (a.eval x):=cK U x rfl be.1;rw [e5] at aj;obtain ⟨_,a',cap,aF,m1,m2,m3,m4⟩:=(dV rfl).1 aj;have aF:=(List.cons.inj aF).1;simp only [fx] at hc;obtain ⟨bF,c2,c3,c4⟩:=hc;subst c3;have hlen:((xs.take cR.toNat).drop (dp l).toNat).length=cR.toNat - (dp l).toNat:=by
      grind
     have awt:(xs.length:Int)<=cap:=by omega
     refine ⟨_,runs a w κ F U be.2.1 be.2.2.1 be.2.2.2 a' xs.length cap aF bF c2 (Int.le_refl _) (by omega),(dV rfl).2 ⟨rfl,?_⟩,_,by rw [hlen]⟩;refine ⟨_,_,by rw [hlen],by omega,by omega,?_,λp ar uJ=>?_⟩
     ·intro aD;split at aD
      ·omega
      ·cases a' with
       | none=>grind
       | some q=>cases aD
     ·cases a' with
      | none=>grind
      | some q=>
       obtain ⟨ec,ef,jF⟩:=m4 q rfl (by omega);have br:p=⟨q.block,q.off+(dp l).toNat*e.size,none⟩:=by
        split at ar
        ·omega
        ·simp only [Option.map_some,Option.some.injEq] at ar;rw [BV ef] at ar;grind
       subst br;refine ⟨ec,rfl,λi M=>?_⟩;rw [hlen] at M;obtain ⟨bk,d1,d2⟩:=jF ((dp l).toNat+i) (by omega);grind
    grind
   ·rename_i e5;simp only [aq.bN,Option.some.injEq,Prod.mk.injEq] at fN;obtain ⟨rfl,rfl⟩:=fN;refine cE.pure ay bh λa w κ F U be hc=>?_;have aj:bA C.P s.ab κ F w (use (a_ C.aP s.az x)).2 (a.eval x):=cK U x rfl be.1;rw [e5] at aj;simp only [bA] at aj;simp only [fx] at hc;obtain ⟨bF,c2,c3⟩:=hc;have c1:=runs a w κ F U be.2.1 be.2.2.1 be.2.2.2 none 0 0 aj (by omega) (by omega) (by omega) (by omega);have aY:cR.toNat=0:=by omega
    have G:m.toNat=0:=by omega
    have V:(dp l).toNat=0:=by omega
    rw [aY,G,V] at c1;simp only [if_true,Nat.sub_zero] at c1;exact ⟨_,c1,(dV rfl).2 ⟨rfl,none,0,rfl,Nat.le_refl _,by decide,λ_=>rfl,λp ar=>by simp⟩,none,rfl⟩
   ·rename_i b g e5;simp only [aq.eZ,aq.bN] at fN;split at fN
    ·rename_i bl;simp only [Bool.and_eq_true,decide_eq_true_eq] at bl;obtain ⟨aC,e6⟩:=bl;simp only [Option.some.injEq,Prod.mk.injEq] at fN;obtain ⟨rfl,rfl⟩:=fN;refine cE.pure ay bh λa w κ F U be hc=>?_;have aj:bA C.P s.ab κ F w (use (a_ C.aP s.az x)).2 (a.eval x):=cK U x rfl be.1;rw [e5] at aj;have af:=aj.2 aC.symm e6;obtain ⟨ec,ef⟩:=yW U e6;simp only [fx] at hc;obtain ⟨bF,c2,c3,c4⟩:=hc;cases aD:(κ b).e3 with
     | true=>
      have aY:=ec aD;simp only [bD.slice,aD,if_true] at af;exact ⟨_,runs a w κ F U be.2.1 be.2.2.1 be.2.2.2 none 0 0 af bF c2 c3 (by omega),trivial⟩
     | false=>
      have wO:=JV U e6 aD;simp only [bD.slice,aD,Bool.false_eq_true,if_false] at af;exact ⟨_,runs a w κ F U be.2.1 be.2.2.1 be.2.2.2 _ _ _ af bF c2 c3 (by omega),trivial⟩
    grind
   ·cases fN
  ·cases h
 ·cases h
theorem adQ {b:Nat} {e:ad} (aa:(s.ab b).body=.bj e []):s.cw b ⟨(s.ab b).gen,.bj e []⟩=s:=by
 unfold aB.cw;have:(λi=>if i=b then (⟨(s.ab b).gen,.bj e []⟩:bL) else s.ab i)=s.ab:=by
  funext i;by_cases M:i=b
  ·subst M;simp only [if_true];rw [<-aa]
  grind
 rw [this]
theorem adR (aV:dT C.P T) {args:Array Operand} {dj:Array TypeId} (bh:∀ i,o.dst=some i->i<C.nt) (ag:o.op=.call { callee:=.builtin .append,args:=args,argTypes:=dj }) {b g aZ M:Nat} (aG:wF (a_ C.aP s.az) args.toList=some (b,g,aZ,M))
  (h:(BG T (a_ C.aP s.az) args.toList dj.toList b g aZ M).run s.ab=some res):cE C o s res:=by
 obtain ⟨args⟩:=args;obtain ⟨dj⟩:=dj;have ay:∀ c,o.op≠.defer c:=by grind
 simp only [BG] at h;split at h
 ·rename_i x y t u;have e5:(use (a_ C.aP s.az x)).2=.sub b g aZ M:=by
   simp only [wF] at aG;grind
  split at h
  ·rename_i e bB aL hu;have dk:=aV.b_ aL (by simp);have uS:=aV.b_ hu (by simp);obtain ⟨jI,aH,iW,oi⟩:=dk.sl;obtain ⟨ada,fM,_⟩:=uS.sl;obtain ⟨inf,z,i1,i2,i3,i4,i5,i6⟩:=ko iW.kn;have k7:0<e.size:=Nat.pos_of_ne_zero oi;simp only [aq.e0,Option.bind_eq_some_iff,aq.eZ,aq.bN] at h;obtain ⟨⟨ys,l⟩,j6,h⟩:=h;split at h
   ·rename_i aC;split at h
    ·rename_i a8 xs aa;split at h
     ·rename_i qS;subst qS;simp only [Option.some.injEq] at h;subst h;intro a w κ F Q U be hc;change M+ys.length<=xs.length at hc;obtain ⟨q',cap',tq,nI⟩:=rW U j6 (cK U y rfl be.2);have aj:bA C.P s.ab κ F w (use (a_ C.aP s.az x)).2 (a.eval x):=cK U x rfl be.1;rw [e5] at aj;have aT:=U.bE b;unfold cB at aT;rw [aa] at aT;obtain ⟨⟨aU,aX⟩,bP⟩:=aj.2 aC.symm (by rw [aa];rfl);rw [aa] at aX bP;simp only [bQ.len,bQ.eY] at aX bP;have mH:∀ (w':World) v,(Builtin.append_ #[t,u] o.type #[a.eval x,a.eval y]).run C.P w=.ok v w'->(execOp a.eval o).run C.P w=.ok (.value v) w':=by
       intro w' v af;refine wL ag ?_;simp [builtin,af]
      have y':(fZ xs M ys).length=xs.length:=by simp [fZ];omega
      have gh:fm s.ab κ (λi=>if i=b then (⟨(s.ab b).gen,.bj a8 (fZ xs M ys)⟩:bL) else s.ab i) κ:=
       qH rfl (λh=>by cases h) (λ_=>by rw [aa];exact ⟨rfl,y',rfl⟩) (λh=>by cases h) (λh=>by cases h)
      rcases bP with ⟨aD,af⟩ | ⟨aD,mc,af,hO,gw⟩
      ·have hQ:=aT.1 aD;subst hQ;have om:M=0:=by grind
       subst om;have Kq:aZ=0:=by omega
       subst Kq;have Kd:ys=[]:=by grind
       subst Kd;obtain ⟨ew,ec,ef⟩:=y2 (P:=C.P) (w:=w) (cap:=cap') rfl nI;have c1:(Builtin.append_ #[t,u] o.type #[a.eval x,a.eval y]).run C.P w=.ok (.slice none 0 0) w:=by
        rw [af,tq];simp only [List.length_nil] at ec ⊢;simp [Builtin.append_,dC aH,dC fM,rP i1,Builtin.lenOf];simp_all
       have cX:fZ ([]:List a8.ai) 0 []=[]:=by rfl
       refine hr ay (mH w _ c1) ⟨κ,F,bm.set (s:=s.cw b _) ?_ bh ⟨⟨by simp [aB.cw,aC],rfl⟩,λ_ _=>⟨by simp,.inl ⟨aD,rfl⟩⟩⟩⟩;rw [cX,adQ aa];exact U
      ·obtain ⟨cs,hR,bF,c2,c3,c4,c5⟩:=aT.2 aD;obtain ⟨ew,ec,ef⟩:=y2 (P:=C.P) (w:=w) (cap:=cap') rfl nI;have o9:=ef.1;have nH:=ef.one k7;have R0:xs.length*a8.size<=(κ b).cap*a8.size:=Nat.mul_le_mul_right _ c3;have B_:(M+ys.length)*a8.size<=xs.length*a8.size:=Nat.mul_le_mul_right _ hc;rw [Nat.add_mul] at B_;obtain ⟨w',dc,cf,cF,ep,lG,lH,l'⟩:∃ w' dc,(storeCells ⟨(κ b).ab,mc+(M - aZ)*a8.size,none⟩ ew).run C.P w=.ok () w'/\w'.heap[(κ b).ab]?=some (.cells dc hR (0,0))/\dc.toList=cs.toList.take ((κ b).off+M*a8.size)++(ew++cs.toList.drop ((κ b).off+M*a8.size+ew.length))/\
         (∀ r,r≠(κ b).ab->w'.heap[r]?=w.heap[r]?)/\w'.heap.size=w.heap.size/\da w w':=by
        by_cases ch:aZ<(κ b).cap
        ·have za:mc+(M - aZ)*a8.size=(κ b).off+M*a8.size:=by
          rw [gw ch,Nat.add_assoc,<-Nat.add_mul];grind
         rw [za];obtain ⟨w',dc,cf,cF,ep,lG,lH,l'⟩:=uR (P:=C.P) ew ((κ b).off+M*a8.size) 0 w cs bF (by omega) nH;grind
        ·have aY:ys.length=0:=by omega
         rw [aY,Nat.zero_mul] at o9;have:ew=[]:=List.eq_nil_of_length_eq_zero o9;subst this;exact ⟨w,cs,by rfl,bF,by simp,λ_ _=>rfl,rfl,da.refl w⟩
       have wP:M - aZ+ys.length<=(κ b).cap - aZ:=by omega
       have c1:(Builtin.append_ #[t,u] o.type #[a.eval x,a.eval y]).run C.P w=.ok (.slice (some ⟨(κ b).ab,mc,none⟩) (M - aZ+ys.length) ((κ b).cap - aZ)) w':=by
        rw [af,tq];simp only [Builtin.append_,List.getElem?_toArray,List.getElem?_cons_zero,List.getElem?_cons_succ,Sem.run_bind,dC aH,dC fM,Result.andThen_ok,rP i1,i2,Sem.run_pure,Builtin.lenOf,Bool.false_eq_true,if_false,if_pos wP,Bool.not_false,if_true,ec,uO];simp_all
       refine hr ay (mH w' _ c1) ⟨κ,F,bm.set (s:=s.cw b _) ?_ bh ⟨⟨by simp [aB.cw,aC],rfl⟩,λ_ _=>⟨by simp only [aB.cw,if_true,bQ.len,y'];omega,.inr ⟨aD,mc,?_,?_,?_⟩⟩⟩⟩
       ·refine U.o2 (b:=b) (by rw [aa];simp [bQ.b1,aD]) (by simp [bQ.b1,aD]) gh (λh=>by cases h) (λh=>by cases h) lG lH l' λH mJ ch he=>?_;refine ⟨λh=>(by grind),λ_=>⟨dc,hR,cF,?_,by omega,c4,?_⟩⟩
        ·have:dc.size=cs.size:=by
          rw [<-Array.length_toList,ep];grind
         omega
        ·exact c5.fZ he ef hc (by omega) ep
       ·grind
       ·simp only [aB.cw,if_true,bQ.eY];exact hO
       ·simp only [aB.cw,if_true,bQ.eY];exact gw
     grind
    grind
   grind
  ·cases h
 ·cases h
theorem adS (aV:dT C.P T) {args:Array Operand} {dj:Array TypeId} (bh:∀ i,o.dst=some i->i<C.nt) (ag:o.op=.call { callee:=.builtin .clear,args:=args,argTypes:=dj })
  (h:(BH T (a_ C.aP s.az) args.toList dj.toList).run s.ab=some res):cE C o s res:=by
 obtain ⟨args⟩:=args;obtain ⟨dj⟩:=dj;have ay:∀ c,o.op≠.defer c:=by grind
 simp only [BH] at h;split at h
 ·rename_i x t;split at h
  ·rename_i e aL;have dk:=aV.b_ aL (by simp);obtain ⟨jI,aH,iW,oi⟩:=dk.sl;obtain ⟨inf,z,i1,i2,i3,i4,i5,i6⟩:=ko iW.kn;have k7:0<e.size:=Nat.pos_of_ne_zero oi;split at h
   ·rename_i b g aZ M e5;simp only [aq.eZ,aq.bN] at h;split at h
    ·rename_i aC;split at h
     ·rename_i a8 xs aa;split at h
      ·rename_i qS;subst qS;simp only [Option.some.injEq] at h;subst h;intro a w κ F Q U be _;have aj:bA C.P s.ab κ F w (use (a_ C.aP s.az x)).2 (a.eval x):=cK U x rfl be;rw [e5] at aj;have aT:=U.bE b;unfold cB at aT;rw [aa] at aT;obtain ⟨⟨aU,aX⟩,bP⟩:=aj.2 aC.symm (by rw [aa];rfl);rw [aa] at aX bP;simp only [bQ.len,bQ.eY] at aX bP;have mH:∀ (w':World) v,(Builtin.clear_ #[t] o.type #[a.eval x]).run C.P w=.ok v w'->(execOp a.eval o).run C.P w=.ok (.value v) w':=by
        intro w' v af;refine wL ag ?_;simp [builtin,af]
       have tA:(List.replicate (M - aZ) a8.db).length=M - aZ:=by simp
       have y':(fZ xs aZ (List.replicate (M - aZ) a8.db)).length=xs.length:=by simp [fZ];omega
       have gh:fm s.ab κ (λi=>if i=b then (⟨(s.ab b).gen,.bj a8 (fZ xs aZ (List.replicate (M - aZ) a8.db))⟩:bL) else s.ab i) κ:=
        qH rfl (λh=>by cases h) (λ_=>by rw [aa];exact ⟨rfl,y',rfl⟩) (λh=>by cases h) (λh=>by cases h)
       have nothing:M - aZ=0->fZ xs aZ (List.replicate (M - aZ) a8.db)=xs:=λaY=>by rw [aY];simp [fZ]
       have hC:M - aZ=0->s.cw b ⟨(s.ab b).gen,.bj a8 (fZ xs aZ (List.replicate (M - aZ) a8.db))⟩=s:=λaY=>by
        rw [nothing aY];unfold aB.cw;have:(λi=>if i=b then (⟨(s.ab b).gen,.bj a8 xs⟩:bL) else s.ab i)=s.ab:=by
         funext i;by_cases M:i=b
         ·subst M;simp only [if_true];rw [<-aa]
         grind
        rw [this]
       rcases bP with ⟨aD,af⟩ | ⟨aD,mc,af,hO,gw⟩
       ·have hQ:=aT.1 aD;subst hQ;have om:M - aZ=0:=by grind
        have c1:(Builtin.clear_ #[t] o.type #[a.eval x]).run C.P w=.ok (.tuple #[]) w:=by
         rw [af];simp [Builtin.clear_,dC aH]
        refine hr ay (mH w _ c1) ⟨κ,F,bm.set (s:=s.cw b _) ?_ bh trivial⟩;grind
       ·obtain ⟨cs,hR,bF,c2,c3,c4,c5⟩:=aT.2 aD;by_cases aY:M - aZ=0
        ·have c1:(Builtin.clear_ #[t] o.type #[a.eval x]).run C.P w=.ok (.tuple #[]) w:=by
          rw [af,aY];simp [Builtin.clear_,dC aH]
         refine hr ay (mH w _ c1) ⟨κ,F,bm.set (s:=s.cw b _) ?_ bh trivial⟩;grind
        ·obtain ⟨n,p8⟩:∃ n,M - aZ=n+1:=⟨M - aZ - 1,by omega⟩
         have jf:gi C.P a8 F w ((Array.range ((M - aZ)*a8.size)).map (λi=>z.cells[i % z.cells.size]!)).toList (List.replicate (M - aZ) a8.db):=RW i5 _;have tz:z.cells.size=a8.size:=by
          obtain ⟨c,y_,og,z2⟩:=uL (P:=C.P) (H:=λ_=>⟨0,.fw⟩) (κ:=λ_=>⟨0,0,0,true⟩) (F:=F) (w:=w) a8 i5;rw [List.append_nil] at y_;rw [<-Array.length_toList,y_];exact hM a8 og
         have o9:=jf.1;rw [tA] at o9;have nH:=jf.one k7;revert jf o9 nH;generalize k8:((Array.range ((M - aZ)*a8.size)).map (λi=>z.cells[i % z.cells.size]!)).toList=ew;intro jf o9 nH;have R0:xs.length*a8.size<=(κ b).cap*a8.size:=Nat.mul_le_mul_right _ c3;have B_:(aZ+(M - aZ))*a8.size<=xs.length*a8.size:=Nat.mul_le_mul_right _ (by omega);rw [Nat.add_mul] at B_;have za:mc=(κ b).off+aZ*a8.size:=gw (by omega);obtain ⟨w',dc,cf,cF,ep,lG,lH,l'⟩:=uR (P:=C.P) ew ((κ b).off+aZ*a8.size) 0 w cs bF (by omega) nH;have c1:(Builtin.clear_ #[t] o.type #[a.eval x]).run C.P w=.ok (.tuple #[]) w':=by
          rw [af,za];have bl:(Builtin.zeroCells z.cells (M - aZ)).toList=ew:=by rw [<-k8,<-tz];rfl
          simp only [Builtin.clear_,List.getElem?_toArray,List.getElem?_cons_zero,Sem.run_bind,dC aH,Result.andThen_ok,qL i1 i4,p8];simp_all
         refine hr ay (mH w' _ c1) ⟨κ,F,bm.set (s:=s.cw b _) ?_ bh trivial⟩;refine U.o2 (b:=b) (by rw [aa];simp [bQ.b1,aD]) (by simp [bQ.b1,aD]) gh (λh=>by cases h) (λh=>by cases h) lG lH l' λH mJ ch he=>?_;refine ⟨λh=>(by grind),λ_=>⟨dc,hR,cF,?_,by omega,c4,?_⟩⟩
         ·have:dc.size=cs.size:=by
           rw [<-Array.length_toList,ep];grind
          omega
         ·exact c5.fZ he jf (by omega) (by omega) (by omega)
      grind
     grind
    grind
   ·cases h
  ·cases h
 ·cases h
end
end Go.Fer
namespace Go.Fer
open Go.RowKit
section
variable {C:b8} {T:Nat->ad} {bg:Nat->Option aO} {o:Oper} {s:aB} {res:ey}
theorem Kr {place:Nat->Option (Nat×Nat)} {size:Nat} (ar:∀ i,place i=some (i*size,size)):∀ (qs:List (Nat×Value)) (cs:Array Value),(∀ q∈qs,q.2.cells.size=size/\q.1*size+size<=cs.size)->(qs.map (·.1)).Nodup->
  ∃ dc,Instr.fill place cs qs=some dc/\dc.size=cs.size/\∀ i,i*size+size<=cs.size->(dc.toList.drop (i*size)).take size=(match qs.find? (λp=>p.1 == i) with | some q=>q.2.cells.toList | none=>(cs.toList.drop (i*size)).take size)
 | [],cs,_,_=>⟨cs,rfl,rfl,λi _=>rfl⟩
 | (k,v)::qs,cs,h,aD=>by
  obtain ⟨G,V⟩:=h (k,v) (by simp);simp only at G V;have Fa:=E_ v.cells.toList 0 (k*size) cs (by grind);have e:(v.cells.zipIdx.foldl (λ(cs:Array Value) (p:Value×Nat)=>cs.setIfInBounds (k*size+p.2) p.1) cs)=((v.cells.toList.zipIdx 0).foldl (λ(cs:Array Value) (p:Value×Nat)=>cs.setIfInBounds (k*size+p.2) p.1) cs):=by
   rw [<-Array.foldl_toList];simp
  generalize awu:(v.cells.zipIdx.foldl (λ(cs:Array Value) (p:Value×Nat)=>cs.setIfInBounds (k*size+p.2) p.1) cs)=Fo at *
  have R2:Fo.toList=cs.toList.take (k*size)++(v.cells.toList++cs.toList.drop (k*size+size)):=by
   grind
  have cb:Fo.size=cs.size:=by
   rw [<-Array.length_toList,R2];grind
  have B':(qs.map (·.1)).Nodup/\k ∉ qs.map (·.1):=by
   grind
  obtain ⟨dc,aU,aX,bP⟩:=Kr ar qs Fo (λq br=>by grind) B'.1;refine ⟨dc,?_,by omega,λi M=>?_⟩
  ·simp only [Instr.fill,ar];grind
  ·rw [bP i (by omega)];by_cases mL:k=i
   ·grind
   ·have:((k,v)::qs).find? (λp=>p.1 == i)=qs.find? (λp=>p.1 == i):=by grind
    rw [this];have jf:(Fo.toList.drop (i*size)).take size=(cs.toList.drop (i*size)).take size:=by
     apply List.ext_getElem?;intro j;simp only [List.getElem?_take,List.getElem?_drop];split
     ·rename_i aH;rw [R2];have kK:(List.take (k*size) cs.toList).length=k*size:=by grind
      have wN:v.cells.toList.length=size:=by omega
      rcases Nat.lt_or_ge i k with ah | ah
      ·have:(i+1)*size<=k*size:=Nat.mul_le_mul_right _ (by omega);grind
      ·have:(k+1)*size<=i*size:=Nat.mul_le_mul_right _ (by omega);rw [Nat.add_mul] at this;rw [List.getElem?_append_right (by omega),kK,List.getElem?_append_right (by omega),List.getElem?_drop];congr 1;omega
     ·rfl
    grind
theorem adT (aV:dT C.P T) {ty n:Nat} {ps:Array (Nat×Operand)} (bh:∀ i,o.dst=some i->i<C.nt) (ag:o.op=.buildSlice ty n ps) (h:(bt C.aP T bg (a_ C.aP s.az) o).run s.ab=some res):cE C o s res:=by
 obtain ⟨ps⟩:=ps;have ay:∀ c,o.op≠.defer c:=by grind
 simp only [bt,ag] at h;split at h
 ·rename_i e aL;have dk:=aV.b_ aL (by simp);obtain ⟨jI,aH,iW,oi⟩:=dk.sl;obtain ⟨inf,z,i1,i2,i3,i4,i5,i6⟩:=ko iW.kn;simp only [aq.e0,Option.bind_eq_some_iff,aq.run_bind] at h;obtain ⟨⟨xs,bW⟩,hQ,h⟩:=h;obtain ⟨b,awv,ao⟩:=qN h;split at ao
  ·rename_i Fp;obtain ⟨aww,R3⟩:=Fp;simp only [Bool.and_eq_true,Bool.not_eq_true',decide_eq_true_eq] at R3;obtain ⟨⟨fO,tt⟩,Ks⟩:=R3;have p4:b ∉ bW:=by grind
   simp only [Option.some.injEq] at ao;subst ao;intro a w κ F Q U be _;obtain ⟨F',f1,bd,f2⟩:=bm.k6 (ado n 0 hQ) U;obtain ⟨adU,Fq,og,z2⟩:=uL (P:=C.P) (H:=s.ab) (κ:=κ) (F:=F') (w:=w) e i5;rw [List.append_nil] at Fq;have Kt:=J0 U ps be;have j_:=RN U.bE f1 og (ps:=ix (ps.map λp=>(p.1,a_ C.aP s.az p.2))) (qs:=ps.map λp=>(p.1,a.eval p.2)) (by simp [ix]) Kt n 0 hQ f2;have tz:=(BR e (P:=C.P) i5).2;have Ku:∀ p∈ps,p.1<n:=by
    intro p ar;have:=List.all_eq_true.1 Ks (p.1,(use (a_ C.aP s.az p.2)).2) (by simp only [ix,List.map_map,List.mem_map];grind);grind
   have Kv:((ps.map λp=>(p.1,a.eval p.2)).map (·.1)).Nodup:=by
    have:(ix (ps.map λp=>(p.1,a_ C.aP s.az p.2))).map (·.1)=(ps.map λp=>(p.1,a.eval p.2)).map (·.1):=by simp [ix]
    grind
   have R4:∀ q∈ps.map (λp=>(p.1,a.eval p.2)),q.2.cells.size=e.size/\q.1*e.size+e.size<=n*e.size:=by
    intro q br;obtain ⟨p,ar,rfl⟩:=List.mem_map.1 br;have ch:=Ku p ar;refine ⟨?_,by
     have:(p.1+1)*e.size<=n*e.size:=Nat.mul_le_mul_right _ (by omega);grind⟩
    obtain ⟨bk,d1,d2⟩:=j_.2 p.1 (by omega);rw [Nat.zero_add] at d2;have uY:(ps.map λp=>(p.1,a.eval p.2)).find? (λr=>r.1 == p.1)=some (p.1,a.eval p.2):=by
     have adV:∀ (l:List (Nat×Value)),(l.map (·.1)).Nodup->∀ q∈l,l.find? (λr=>r.1 == q.1)=some q:=by
      intro l;induction l with
      | nil=>simp
      | cons c l aM=>
       grind
     grind
    rw [uY] at d2;have:=hM e d1;grind
   have Kw:z.cells.size≠0:=by omega
   let base:Array Value:=(Array.range (n*e.size)).map (λi=>z.cells[i % z.cells.size]!);have awx:base.size=n*e.size:=by grind
   obtain ⟨dc,aU,aX,bP⟩:=Kr (place:=λi=>some (i*e.size,e.size)) (λi=>rfl) (ps.map λp=>(p.1,a.eval p.2)) base (by grind) Kv;have awy:∀ i,i<n->(base.toList.drop (i*e.size)).take e.size=z.cells.toList:=by
    intro i M;have hle:(i+1)*e.size<=n*e.size:=Nat.mul_le_mul_right _ (by omega);rw [Nat.add_mul] at hle;apply List.ext_getElem?;intro j;simp only [List.getElem?_take,List.getElem?_drop];split
    ·rename_i aH;have fM:j<z.cells.size:=by omega
     rw [Array.getElem?_toList,Array.getElem?_toList];have y5:(i*e.size+j) % z.cells.size=j:=by rw [tz,Nat.add_comm,Nat.add_mul_mod_self_right,Nat.mod_eq_of_lt aH]
     grind
    grind
   have adW:gi C.P e F' w dc.toList xs:=by
    refine ⟨by grind,λi M=>?_⟩;have dM:i<n:=by omega
    have hle:(i+1)*e.size<=n*e.size:=Nat.mul_le_mul_right _ (by omega);grind
   have c1:(execOp a.eval o).run C.P w=.ok (.value (.slice (some ⟨w.heap.size,0,none⟩) n n)) (w.alloc (.cells dc jI)):=by
    have adX:¬n*e.size > 2 ^ 24:=by omega
    simp only [execOp,ag,Instr.buildSlice,Sem.run_bind,dC aH,Result.andThen_ok,rP i1,i2,adX,if_false];by_cases r0:n*e.size=0
    ·have zb:base=#[]:=Array.eq_empty_of_size_eq_zero (by omega);rw [zb] at aU;simp only [r0,if_true,Sem.run_bind,Sem.run_pure,Result.andThen_ok];rw [show ((Array.range 0).map (λi=>(#[]:Array Value)[i % (#[]:Array Value).size]!))=#[] from by simp];simp only [List.map_toArray] at aU ⊢;rw [show Instr.fill (λi=>some (i*e.size,e.size)) #[] (ps.map λx=>(x.1,a.eval x.2))=some dc from aU];rfl
    ·simp only [r0,if_false,Sem.run_bind,qL i1 i4,Result.andThen_ok,Sem.run_pure];simp only [List.map_toArray];rw [show Instr.fill (λi=>some (i*e.size,e.size)) ((Array.range (n*e.size)).map (λi=>z.cells[i % z.cells.size]!)) (ps.map λx=>(x.1,a.eval x.2))=some dc from aU];rfl
   have o8:s.fU ((jD bW).run s.ab++[(b,⟨(s.ab b).gen+1,.bj e xs⟩)])=(s.cy bW).cw b ⟨(s.ab b).gen+1,.bj e xs⟩:=by
    rw [BQ,tk]
   have o_:(s.cy bW).ab b=s.ab b:=by simp [aB.cy,p4]
   have ah:=bd.B1 (b:=b) (g:=(s.ab b).gen+1) (zs:=xs) (k:=⟨w.heap.size,0,n,false⟩) (w':=w.alloc (.cells dc jI)) (by grind) (.inr rfl) (by simp) (λr U=>o1 w _ U) (λ_=>by simp) ⟨rfl,rfl,rfl⟩
    (λH κ'=>⟨λh=>(by cases h),λ_=>⟨dc,jI,pY w _,by grind,by grind,by
     have:n<=n*e.size:=Nat.le_mul_of_pos_right _ (Nat.pos_of_ne_zero oi);grind,(adW.BZ (pre:=[]) (post:=[]) (by simp)).later (cZ.alloc bd.c_ _)⟩⟩)
   refine hr ay c1 ?_;simp only [aB.h5];rw [o8];exact ⟨_,F',bm.set ah bh ⟨⟨by simp [aB.cw],rfl⟩,λ_ _=>by simp [aB.cw,bD.slice,bQ.len,j_.1]⟩⟩
  grind
 ·cases h
theorem R5 (nJ:Nat):∀ (m:Nat) (l:List Value),l.length=m*nJ->((List.range m).map λi=>(l.drop (i*nJ)).take nJ).flatten=l
 | 0,l,h=>by
  have:l=[]:=List.eq_nil_of_length_eq_zero (by omega);simp [this]
 | m+1,l,h=>by
  rw [Nat.add_mul] at h;have aM:=R5 nJ m (l.take (m*nJ)) (by grind);rw [List.range_succ,List.map_append,List.flatten_append];have e:((List.range m).map λi=>(l.drop (i*nJ)).take nJ)=((List.range m).map λi=>((l.take (m*nJ)).drop (i*nJ)).take nJ):=by
   refine List.map_congr_left λi M=>?_;have hle:(i+1)*nJ<=m*nJ:=Nat.mul_le_mul_right _ (by have:=List.mem_range.1 M;omega);rw [Nat.add_mul] at hle;rw [List.drop_take,List.take_take,Nat.min_eq_left (by omega)]
  rw [e,aM];have:(l.drop (m*nJ)).take nJ=l.drop (m*nJ):=List.take_of_length_le (by grind);simp [this]
theorem adY (aV:dT C.P T) {ty m:Nat} {e:ad} {ps:Array (Nat×Operand)} (bh:∀ i,o.dst=some i->i<C.nt) (ag:o.op=.build ty ps) (aL:T ty=.array m e)
  (h:((th e (ix (ps.toList.map λp=>(p.1,a_ C.aP s.az p.2))) 0 m).cN λ(xs,bW)=>if (bW.isEmpty&&decide ((ix (ps.toList.map λp=>(p.1,a_ C.aP s.az p.2))).map (·.1)).Nodup&&(ix (ps.toList.map λp=>(p.1,a_ C.aP s.az p.2))).all (λp=>decide (p.1<m)))=true then bO (rN (ps.toList.map λp=>(p.1,a_ C.aP s.az p.2))) True (.val (.array m e) xs) else .none).run s.ab=some res):cE C o s res:=by
 obtain ⟨ps⟩:=ps;simp only [aq.e0,Option.bind_eq_some_iff] at h;obtain ⟨⟨xs,bW⟩,hQ,h⟩:=h;have dk:=aV.b_ aL (by simp);obtain ⟨jI,aH,iW,oi⟩:=dk.bj;obtain ⟨i,z,G,V,ah,a7,bM,dr⟩:=ko dk.kn;split at h
 ·rename_i hc;simp only [Bool.and_eq_true,decide_eq_true_eq,List.isEmpty_iff,List.all_eq_true] at hc;obtain ⟨⟨rfl,tt⟩,Ks⟩:=hc;simp only [bO,aq.bN,Option.some.injEq] at h;subst h;refine cE.pure (by grind) bh λa w κ F U be _=>?_;obtain ⟨adU,Fq,og,z2⟩:=uL (P:=C.P) (H:=s.ab) (κ:=κ) (F:=F) (w:=w) (.array m e) bM;rw [List.append_nil] at Fq;have tz:=(BR (.array m e) (P:=C.P) bM).2;have awz:z.cells.size=m*e.size:=tz;have Kt:=J0 U ps be;have j_:=λ(zero:List Value) (bl:bK C.P e F w zero e.db)=>RN U.bE (λ_ h=>h) bl (ps:=ix (ps.map λp=>(p.1,a_ C.aP s.az p.2))) (qs:=ps.map λp=>(p.1,a.eval p.2)) (by simp [ix]) Kt m 0 hQ (λ_ h=>by cases h);have Ku:∀ p∈ps,p.1<m:=by
   intro p ar;exact Ks (p.1,(use (a_ C.aP s.az p.2)).2) (by simp only [ix,List.map_map,List.mem_map];grind)
  have Kv:((ps.map λp=>(p.1,a.eval p.2)).map (·.1)).Nodup:=by
   have:(ix (ps.map λp=>(p.1,a_ C.aP s.az p.2))).map (·.1)=(ps.map λp=>(p.1,a.eval p.2)).map (·.1):=by simp [ix]
   grind
  have jf:∀ i,i<m->bK C.P e F w ((z.cells.toList.drop (i*e.size)).take e.size) e.db:=by
   intro i M;have adZ:bK C.P (.array m e) F w z.cells.toList (ad.array m e).db:=by rw [Fq];exact og
   obtain ⟨p,c,q,aU,aX,bP⟩:=JU adZ M;have ak:=hM e bP;have:(ad.db (.array m e)).getD i e.db=e.db:=by
    show (List.replicate m e.db).getD i e.db=e.db;grind
   rw [this] at bP;have:(z.cells.toList.drop (i*e.size)).take e.size=c:=by
    rw [aU,<-aX];simp [ak]
   rw [this];exact bP
  have R6:xs.length=m:=by
   rcases Nat.eq_zero_or_pos m with aY | aY
   ·subst aY;simp only [th,aq.bN,Option.some.injEq,Prod.mk.injEq] at hQ;rw [<-hQ.1];rfl
   ·exact (j_ _ (jf 0 aY)).1
  have R4:∀ q∈ps.map (λp=>(p.1,a.eval p.2)),q.2.cells.size=e.size/\q.1*e.size+e.size<=z.cells.size:=by
   intro q br;obtain ⟨p,ar,rfl⟩:=List.mem_map.1 br;have ch:=Ku p ar;refine ⟨?_,by
    have:(p.1+1)*e.size<=m*e.size:=Nat.mul_le_mul_right _ (by omega);grind⟩
   obtain ⟨bk,d1,d2⟩:=(j_ _ (jf p.1 ch)).2 p.1 (by omega);rw [Nat.zero_add] at d2;have uY:(ps.map λp=>(p.1,a.eval p.2)).find? (λr=>r.1 == p.1)=some (p.1,a.eval p.2):=by
    have adV:∀ (l:List (Nat×Value)),(l.map (·.1)).Nodup->∀ q∈l,l.find? (λr=>r.1 == q.1)=some q:=by
     intro l;induction l with
     | nil=>simp
     | cons c l aM=>
      grind
    grind
   rw [uY] at d2;have:=hM e d1;grind
  obtain ⟨dc,aU,aX,bP⟩:=Kr (place:=λi=>some (i*e.size,e.size)) (λi=>rfl) (ps.map λp=>(p.1,a.eval p.2)) z.cells R4 Kv;refine ⟨.agg dc,?_,⟨dc,rfl,by omega⟩,?_⟩
  ·simp only [execOp,ag,Instr.build,Sem.run_bind,qL G a7,Result.andThen_ok,dC aH,iW.size];simp_all
  ·refine ⟨(List.range m).map λi=>(dc.toList.drop (i*e.size)).take e.size,(R5 e.size m dc.toList (by grind)).symm,by simp,R6,λi M dM=>?_⟩;simp only [List.getElem_map,List.getElem_range];have Kp:i<m:=by omega
   have hle:(i+1)*e.size<=m*e.size:=Nat.mul_le_mul_right _ (by omega);rw [Nat.add_mul] at hle;obtain ⟨bk,d1,d2⟩:=(j_ _ (jf i Kp)).2 i M;rw [Nat.zero_add] at d2;have:=bP i (by omega);have:(dc.toList.drop (i*e.size)).take e.size=bk:=by
    rw [this];split at d2<;>simp_all
   rw [this];exact d1
 ·cases h
theorem fl.mono {P:Program} {t:ad} {F F':Nat->Prop} {w w':World} {aE:List Value} {x:t.ai} (h:fl P t F w aE x) (bo:∀ r,F r->F' r) (he:cZ F w w'):fl P t F' w' aE x:=⟨h.1,e' t bo he h.2⟩
theorem ad0 {k:FuncId} {cW:List Operand} (bh:∀ i,o.dst=some i->i<C.nt) (ag:o.op=.makeFunc (.func k) #[] ⟨cW⟩) {v:ES} (af:C.aP.tc k=some v)
  (h:((iS (f_ (v.cs.map .bI)) ((cW.map (a_ C.aP s.az)).map λv=>(use v).2)).cN λ(y,bW)=>(jD bW).bind λwl=>.ret (some ⟨jE (cW.map (a_ C.aP s.az)),True,.val (.fn (f_ v.as) v.aW) (λx=>v.sh (ER v.as (v.cs.map .bI) x y)),wl⟩):aq (Option ey)).run s.ab=some res):cE C o s res:=by
 simp only [aq.e0,Option.bind_eq_some_iff,aq.run_bind,aq.bN,Option.some.injEq] at h;obtain ⟨⟨y,l⟩,aS,rfl⟩:=h;intro a w κ F Q U be _;obtain ⟨F',f1,bd,f2⟩:=bm.k6 (p6 _ aS) U;have dY:fl C.P (f_ (v.cs.map .bI)) F' w (cW.map a.eval) y:=by
  refine uX U.bE f1 _ aS f2 (by simp) λi M dM=>?_;simp only [List.getElem_map];have dt:i<cW.length:=by grind
  have G:=rQ be i (by grind);have aF:(cW.map (a_ C.aP s.az)).getD i .undef=a_ C.aP s.az cW[i]:=by grind
  rw [aF] at G;exact o4 (j5 U cW[i]) G
 obtain ⟨aG,wS⟩:=U.jB.tc k v af;have c1:(execOp a.eval o).run C.P w=.ok (.value (.func (.func k) #[] (cW.map a.eval).toArray)) w:=by simp [execOp,ag,Instr.makeFunc]
 refine hr (by grind) c1 ⟨κ,F',?_⟩;simp only [aB.h5];rw [tk];refine bm.set bd bh ((dV rfl).2 ⟨rfl,_,rfl,⟨rfl,rfl⟩,λeg c6 zc wT tB wU args x G V ah=>⟨k,_,rfl,wS.enter,?_⟩⟩);have aH:=QU v.as (v.cs.map .bI) aG (P:=C.P) (F:=eg) (w:=c6) ⟨G,V⟩ (dY.mono zc wT);have:=wS.iO eg c6 _ _ tB wU aH ah;have e:(args++cW.map a.eval).toArray=args.toArray++(cW.map a.eval).toArray:=by simp
 rw [e] at this;exact this.mono λe s9 ⟨v,y,aF,bB,⟨aE,di,gv,h1⟩,mC⟩=>⟨v,y,aE,aF,bB,di,gv,h1,mC⟩
theorem ad1 {k:FuncId} {cW:List Operand} (bh:∀ i,o.dst=some i->i<C.nt) (ag:o.op=.makeFunc (.func k) #[] ⟨cW⟩) {v:wu} (af:C.aP.wx k=some v)
  (h:((iS (f_ (v.cs.map .bI)) ((cW.map (a_ C.aP s.az)).map λv=>(use v).2)).cN λ(y,bW)=>(jD bW).bind λwl=>.ret (some ⟨jE (cW.map (a_ C.aP s.az)),True,.val (.cq v.aN) (v.S y),wl⟩):aq (Option ey)).run s.ab=some res):cE C o s res:=by
 simp only [aq.e0,Option.bind_eq_some_iff,aq.run_bind,aq.bN,Option.some.injEq] at h;obtain ⟨⟨y,l⟩,aS,rfl⟩:=h;intro a w κ F Q U be _;obtain ⟨F',f1,bd,f2⟩:=bm.k6 (p6 _ aS) U;have dY:fl C.P (f_ (v.cs.map .bI)) F' w (cW.map a.eval) y:=by
  refine uX U.bE f1 _ aS f2 (by simp) λi M dM=>?_;simp only [List.getElem_map];have dt:i<cW.length:=by grind
  have G:=rQ be i (by grind);have aF:(cW.map (a_ C.aP s.az)).getD i .undef=a_ C.aP s.az cW[i]:=by grind
  rw [aF] at G;exact o4 (j5 U cW[i]) G
 have wS:=U.jB.wx k v af;have c1:(execOp a.eval o).run C.P w=.ok (.value (.func (.func k) #[] (cW.map a.eval).toArray)) w:=by simp [execOp,ag,Instr.makeFunc]
 refine hr (by grind) c1 ⟨κ,F',?_⟩;simp only [aB.h5];rw [tk];refine bm.set bd bh ((dV rfl).2 ⟨rfl,_,rfl,⟨rfl,rfl⟩,λeg c6 zc wT tB wU ez=>⟨k,_,rfl,wS.enter,λl I Y iA jk eF=>?_⟩⟩);exact wS.iO eg c6 _ _ tB wU (dY.mono zc wT) ez l I Y iA jk eF
theorem ad2 {k:FuncId} {cW:Array Operand} (bh:∀ i,o.dst=some i->i<C.nt) (ag:o.op=.makeFunc (.func k) #[] cW) (h:(bt C.aP T bg (a_ C.aP s.az) o).run s.ab=some res):cE C o s res:=by
 obtain ⟨cW⟩:=cW;simp only [bt,ag,Array.isEmpty_empty,if_true] at h;split at h;case h_1 v af=>exact ad0 bh ag af h
 split at h;case h_1 v af=>exact ad1 bh ag af h
 simp only [bO,aq.bN,Option.some.injEq] at h;subst h;refine cE.pure (by grind) bh λa w κ F U be _=>?_;refine ⟨.func (.func k) #[] (cW.map a.eval).toArray,by simp [execOp,ag,Instr.makeFunc],cW.map a.eval,rfl,by simp,λi M=>?_⟩;have dM:i<cW.length:=by grind
 have G:(use ((cW.map (a_ C.aP s.az)).getD i .undef)).1:=rQ be i (by omega);have aF:(cW.map (a_ C.aP s.az)).getD i .undef=a_ C.aP s.az cW[i]:=by grind
 rw [aF] at G;have V:=o4 (j5 U cW[i]) G;have bB:(cW.map a.eval).getD i Go.undef=a.eval cW[i]:=by grind
 have di:hb ((cW.map (a_ C.aP s.az)).map λv=>(use v).2) i=(use (a_ C.aP s.az cW[i])).2:=by simp [hb,List.getD_eq_getElem?_getD,dM]
 grind
theorem ad3 {k:FuncId} {first cW:Array Operand} (bh:∀ i,o.dst=some i->i<C.nt) (ag:o.op=.makeFunc (.func k) first cW) (aw:first.isEmpty=false) (h:(bt C.aP T bg (a_ C.aP s.az) o).run s.ab=some res):cE C o s res:=by
 obtain ⟨first⟩:=first
 simp only [bt,ag,aw,Bool.false_eq_true,if_false] at h;split at h
 ·rename_i hc;have hc:cW=#[]:=by grind
  subst hc;simp only [bO,aq.bN,Option.some.injEq] at h;subst h;refine cE.pure (by grind) bh λa w κ F U be _=>?_;refine ⟨.func (.func k) (first.map a.eval).toArray #[],by simp [execOp,ag,Instr.makeFunc],first.map a.eval,rfl,by simp,λi M=>?_⟩;have dM:i<first.length:=by omega
  have G:(use ((first.map (a_ C.aP s.az)).getD i .undef)).1:=rQ be i (by grind);have aF:(first.map (a_ C.aP s.az)).getD i .undef=a_ C.aP s.az first[i]:=by grind
  rw [aF] at G;have V:=o4 (j5 U first[i]) G;have bB:(first.map a.eval).getD i Go.undef=a.eval first[i]:=by grind
  have di:hb ((first.map (a_ C.aP s.az)).map λv=>(use v).2) i=(use (a_ C.aP s.az first[i])).2:=by simp [hb,List.getD_eq_getElem?_getD,dM]
  grind
 ·cases h
def k_ (o:Oper) (nt:Nat):Bool:=
 (match o.dst with | some d=>decide (d<nt) | none=>true)&&(match o.op with | .store _ _ _=>o.dst.isNone | .mapUpdate _ _ _ _=>o.dst.isNone | .insert _ _ _ _=>o.dst.isNone | _=>true)
theorem wV (aV:dT C.P T) (cz:jh C.P bg) (ay:k_ o C.nt=true) (h:(bt C.aP T bg (a_ C.aP s.az) o).run s.ab=some res):cE C o s res:=by
 simp only [k_,Bool.and_eq_true] at ay;have bh:∀ i,o.dst=some i->i<C.nt:=λi M=>by
  grind
 cases ag:o.op with
 | move x=>exact acn bh ag h
 | assign x=>exact aco bh ag h
 | pick c a b=>exact acp bh ag h
 | binOp op t x y cU=>exact acy aV bh ag h
 | unOp op t x=>exact acq bh ag h
 | extract t i=>exact acr bh ag h
 | nilCheck x=>exact acs bh ag h
 | fieldAddr t x f=>exact acu aV bh ag h
 | field t x f=>exact acv aV bh ag h
 | load t x=>exact acz aV bh ag h
 | store t x y=>
  have:=ay.2;rw [ag] at this;exact acS aV (by grind) ag h
 | alloc t=>
  by_cases aL:T t=.cQ
  ·simp only [bt,ag,aL] at h;obtain ⟨_,_,ao⟩:=qN h;grind
  ·exact acJ aV bh ag h aL
 | box t x=>exact acL bh ag h
 | build t ps=>
  by_cases Fb:∀ m e,T t≠.array m e
  ·exact acQ aV bh ag Fb h
  ·obtain ⟨m,e,aL⟩:∃ m e,T t=.array m e:=by grind
   refine adY aV bh ag aL ?_;simpa only [bt,ag,aL] using h
 | buildSlice t n ps=>exact adT aV bh ag h
 | indexAddr t x i=>exact acY aV bh ag h
 | index t x i=>exact acB aV bh ag h
 | convert a b x=>exact adk aV bh ag h
 | makeFunc fn first cW=>
  cases fn with
  | func k=>
   by_cases aw:first=#[]
   ·subst aw;exact ad2 bh ag h
   ·exact ad3 bh ag (by grind) h
  | _=>simp [bt,ag,aq.none] at h
 | makeMap t r=>exact adu bh ag h
 | lookup t m x ok=>exact adv aV bh ag h
 | mapUpdate t m x y=>
  have:=ay.2;rw [ag] at this;exact Kl aV (by grind) (.inl ag) h
 | insert t m x y=>
  have:=ay.2;rw [ag] at this;exact Kl aV (by grind) (.inr ag) h
 | makeSlice t l c=>exact adA aV bh ag h
 | makeInterface t x=>exact R1 (by simp [bt,ag,bO]) h
 | panic x=>exact R1 (by simp [bt,ag,bO]) h
 | slice t x aZ M o3=>
  cases o3 with
  | none=>exact ac0 aV bh ag h
  | some m=>exact adN aV bh ag h
 | call c=>
  obtain ⟨callee,args,dj⟩:=c;cases callee with
  | value f=>
   cases f with
   | func k=>exact adp cz bh ag h
   | _=>simp [bt,ag,mF,aq.none] at h
  | invoke r m=>simp [bt,ag,mF,aq.none] at h
  | builtin b=>
   cases b with
   | len=>exact acG aV bh ag h
   | append=>
    cases aG:wF (a_ C.aP s.az) args.toList with
    | none=>exact ac' aV bh ag (by simpa [bt,ag,mF,aG] using h)
    | some p=>exact adR aV bh ag aG (by simpa [bt,ag,mF,aG] using h)
   | clear=>exact adS aV bh ag (by simpa [bt,ag,mF] using h)
   | copy=>exact adI aV bh ag h
   | min=>exact Ro (.inl ⟨rfl,rfl⟩) bh ag (by simpa [bt,ag,mF] using h)
   | max=>exact Ro (.inr ⟨rfl,rfl⟩) bh ag (by simpa [bt,ag,mF] using h)
   | cap=>exact acH aV bh ag (by simpa [bt,ag,mF] using h)
   | _=>simp [bt,ag,mF,aq.none] at h
 | _=>simp [bt,ag,aq.none] at h
end
end Go.Fer
namespace Go.Fer
open Go.RowKit
def aq.cS {al:Type} (p:al->Prop):aq al->Prop
 | .ret a=>p a
 | .eQ _ k=>∀ x,(k x).cS p
theorem Kx {aK:Operand->aI} {k:IntKind}:∀ (l:List Operand) {b9:Prop} {h4:z1'},(∀ x∈l,(use (aK x)).1)->mE aK k l=some (b9,h4)->b9
 | [],_,_,_,h=>by cases h
 | [x],b9,h4,hu,h=>by
  simp only [mE] at h;split at h
  ·split at h
   ·cases h;exact hu x (by simp)
   ·cases h
  ·cases h
 | x::y::l,b9,h4,hu,h=>by
  simp only [mE] at h;split at h
  ·rename_i ak;split at h
   ·cases h;exact ⟨hu x (by simp),Kx (y::l) (λz bl=>hu z (List.mem_cons_of_mem _ bl)) ak⟩
   ·cases h
  ·cases h
theorem aq.cS.run {al:Type} {p:al->Prop} {m:aq al} (h:m.cS p) (H:Nat->bL):p (m.run H):=by
 induction m with
 | ret a=>exact h
 | eQ b k aM=>exact aM _ (h _)
theorem aq.cS.bind {al β:Type} {p:β->Prop} {m:aq al} {f:al->aq β} (h:∀ a,(f a).cS p):(m.bind f).cS p:=by
 induction m with
 | ret a=>exact h a
 | eQ b k aM=>exact λx=>aM x
def la {al:Type} (p:al->Prop) (x:Option al):Prop:=∀ a,x=some a->p a
theorem aq.cS.cN {al β:Type} {p:β->Prop} {m:aq (Option al)} {f:al->aq (Option β)} (h:∀ a,(f a).cS (la p)):(m.cN f).cS (la p):=by
 refine aq.cS.bind λa=>?_;cases a with
 | none=>intro a h;cases h
 | some a=>grind
theorem aq.cS.R7 {al β:Type} {q:al->Prop} {p:β->Prop} {m:aq (Option al)} {f:al->aq (Option β)} (hm:m.cS (la q)) (h:∀ a,q a->(f a).cS (la p)):(m.cN f).cS (la p):=by
 unfold aq.cN;induction m with
 | ret a=>
  cases a with
  | none=>intro b aa;cases aa
  | some a=>exact h a (hm a rfl)
 | eQ b k aM=>exact λx=>aM x (hm x)
theorem aq.cS.bY {al:Type} {p:al->Prop}:(aq.none:aq (Option al)).cS (la p):=by intro a h;cases h
theorem aq.cS.mO {al:Type} {p:al->Prop} {a:al} (h:p a):(aq.ret (some a)).cS (la p):=by intro b aa;grind
theorem aq.cS.nil {al:Type} {p:al->Prop}:(aq.ret (Option.none:Option al)).cS (la p):=by intro b aa;cases aa
theorem aq.cS.bO {p:ey->Prop} {b9 c:Prop} {v:aI} (h:p ⟨b9,c,v,[]⟩):(bO b9 c v).cS (la p):=aq.cS.mO h
theorem aq.cS.h3 {p:ey->Prop} {d:Option Nat} {k:Nat->Nat->Option ey} (h:∀ b g,la p (k b g)):(h3 d k).cS (la p):=by
 unfold Go.Fer.h3;split
 ·exact .bY
 ·exact λx=>h _ _
def aI.zd:aI->Bool
 | .hz _ _=>true
 | _=>false
theorem Fs {a:aI} (h:a.zd=false):(use a).1:=by
 cases a<;>first | trivial | cases h
def r1 (aK:Operand->aI) (o:Oper):Bool:=o.op.operands.toList.all λx=>!(aK x).zd
def aI.ad4:aI->Bool
 | .fb _ _=>false
 | .val (.map _ _) _=>false
 | _=>true
def Ft (aK:Operand->aI) (b:Builtin) (args:List Operand):Bool:=
 match b with
 | .len=>match args with
  | [x]=>(use (aK x)).2.ad4
  | _=>false
 | .min=>true
 | .max=>true
 | _=>false
def aI.R8:aI->Bool
 | .iP ..=>true
 | _=>false
def mP (aK:Operand->aI) (o:Oper):Bool:=
 match o.op with
 | .move _ | .assign _ | .pick .. | .unOp .. | .extract .. | .fieldAddr .. | .field .. | .alloc .. | .box .. | .build .. | .buildSlice .. | .convert .. | .makeFunc .. | .makeMap .. | .lookup .. | .mapUpdate .. | .insert ..=>true
 | .load _ x=>!(use (aK x)).2.R8
 | .store _ x _=>!(use (aK x)).2.R8
 | .binOp op _ x _ _=>match op with
  | .quo | .rem | .shl | .shr=>false
  | .add=>(use (aK x)).2.l_.isSome
  | _=>true
 | .call c=>match c.callee with
  | .builtin b=>Ft aK b c.args.toList
  | _=>false
 | _=>false
theorem ad5 {op:BinOp} {k:IntKind} {a b:Int} {c:Prop} {v:aI} (h:yK op k a b=some (c,v)) (G:op≠.quo) (V:op≠.rem):c:=by
 cases op<;>simp only [yK,Option.some.injEq,Prod.mk.injEq,reduceCtorEq] at h<;>first | (obtain ⟨rfl,_⟩:=h;trivial) | contradiction
theorem ad6 {op:BinOp} {a b:List UInt8} {c:Prop} {v:aI} (h:Bz op a b=some (c,v)) (G:op≠.add):c:=by
 cases op<;>simp only [Bz,Option.some.injEq,Prod.mk.injEq,reduceCtorEq] at h<;>first | (obtain ⟨rfl,_⟩:=h;trivial) | contradiction
theorem ad7 {op:BinOp} {t:ad} {x y:aI}:(yL op t x y).cS (la λr=>r.1):=by
 unfold yL;refine aq.cS.cN λe=>?_;cases op<;>first | exact .mO trivial | exact .nil
section
variable {aR:dE} {T:Nat->ad} {bg:Nat->Option aO} {aK:Operand->aI} {o:Oper}
theorem ad8 {op:BinOp} {ty:TypeId} {x y:Operand} {t:TypeId} (ag:o.op=.binOp op ty x y t) (hc:mP aK o=true):(bt aR T bg aK o).cS (la λr=>r.c):=by
 unfold bt;rw [ag];simp only;simp only [mP,ag] at hc;split
 ·rename_i k a k' b G V;split
  ·cases hc
  ·cases hc
  ·split
   ·split
    ·rename_i c v M;refine .bO (ad5 M ?_ ?_)<;>(grind)
    ·exact .bY
   ·exact .bY
 ·rename_i pa;split
  ·rename_i a b G V;split
   ·rename_i c v M;refine .bO (ad6 M ?_);intro e;subst e;simp only at hc;generalize (use (aK x)).2=z at hc G;cases z<;>try (cases G;done)
    rename_i t d;cases t<;>first | (cases G;done) | (cases hc;done)
   ·exact .bY
  ·exact aq.cS.R7 ad7 λr U=>.bO U
theorem Ky {p:ey->Prop} {ty:TypeId} {m x y:Operand} (h:∀ wl,p ⟨(use (aK m)).1/\(use (aK x)).1/\(use (aK y)).1,True,.undef,wl⟩):(qK T aK ty m x y).cS (la p):=by
 unfold qK;split
 ·simp only;split
  ·split
   ·refine aq.cS.cN λ_=>aq.cS.cN λ_=>aq.cS.bind λ_=>λz=>?_;intro r U;split at U
    ·split at U
     ·simp only [Option.map_eq_some_iff] at U;grind
     grind
    grind
   ·exact .bY
  ·exact .bY
 ·exact .bY
theorem R9 {ty:TypeId} {m x y:Operand}:(qK T aK ty m x y).cS (la λr=>r.c):=Ky λ_=>trivial
theorem ze (hc:mP aK o=true):(bt aR T bg aK o).cS (la λr=>r.c):=by
 cases ag:o.op with
 | binOp op ty x y t=>exact ad8 ag hc
 | move x=>unfold bt;rw [ag];exact .bO trivial
 | assign x=>
  unfold bt;rw [ag];simp only;split
  ·exact .h3 λb g=>λr U=>by grind
  ·exact .bO trivial
 | pick c a b=>
  unfold bt;rw [ag];simp only;split
  ·split
   ·split
    ·exact .bO trivial
    ·exact .bY
   ·split
    ·exact .bO trivial
    ·exact .bY
   ·exact .bY
  ·exact .bY
 | unOp op t x=>
  unfold bt;rw [ag];simp only;split
  ·exact .bO trivial
  ·exact .bO trivial
  ·exact .bY
 | extract x i=>
  unfold bt;rw [ag];simp only;split
  ·split
   ·exact .bO trivial
   ·exact .bY
  ·exact .bY
 | fieldAddr ty x f=>
  unfold bt;rw [ag];simp only;repeat' first | exact .bY | exact .bO trivial | split
  all_goals first
   | (intro z;intro r U;grind)
 | field ty x f=>
  unfold bt;rw [ag];simp only;repeat' first | exact .bY | exact .bO trivial | split
 | load ty x=>
  simp only [mP,ag] at hc;unfold bt;rw [ag];simp only;split
  ·rename_i aj;rw [aj] at hc;cases hc
  ·exact aq.cS.cN λ_=>.bO trivial
 | store ty x y=>
  simp only [mP,ag] at hc;unfold bt;rw [ag];simp only;split
  ·rename_i aj;rw [aj] at hc;cases hc
  ·exact aq.cS.cN λ_=>.mO trivial
 | alloc ty=>
  unfold bt;rw [ag];simp only;exact .h3 λb g=>λr U=>by grind
 | box ty x=>
  unfold bt;rw [ag];simp only;split
  ·exact .h3 λb g=>λr U=>by grind
  ·exact .bY
 | build ty ps=>
  unfold bt;rw [ag];simp only;repeat' first | exact .bY | exact .bO trivial | refine aq.cS.cN λ_=>?_ | split
 | buildSlice ty n ps=>
  unfold bt;rw [ag];simp only;split
  ·refine aq.cS.cN λ_=>aq.cS.bind λ_=>.h3 λb g=>λr U=>by grind
  ·exact .bY
 | convert a b x=>
  unfold bt;rw [ag];simp only;repeat' first | exact .bY | exact .bO trivial | exact aq.cS.cN λ_=>.bO trivial | split
 | makeFunc fn first cW=>
  unfold bt;rw [ag];simp only;split
  ·split
   ·split
    ·exact aq.cS.cN λ_=>aq.cS.bind λ_=>.mO trivial
    ·split
     ·exact aq.cS.cN λ_=>aq.cS.bind λ_=>.mO trivial
     ·exact .bO trivial
   ·split
    ·exact .bO trivial
    ·exact .bY
  ·exact .bY
 | makeMap ty r=>
  unfold bt;rw [ag];simp only;split
  ·exact .bY
  ·split
   ·exact .h3 λb g=>λr U=>by grind
   ·exact .bY
 | lookup ty m x ok=>
  unfold bt;rw [ag];simp only;unfold yO;split
  ·simp only;split
   ·exact aq.cS.cN λ_=>aq.cS.cN λ_=>.bO trivial
   ·exact .bY
  ·exact .bY
 | mapUpdate ty m x y=>
  unfold bt;rw [ag];exact R9
 | insert ty m x y=>
  unfold bt;rw [ag];exact R9
 | call c=>
  obtain ⟨callee,args,dj⟩:=c;simp only [mP,ag] at hc;unfold bt;rw [ag];simp only;unfold mF;cases callee with
  | builtin b=>
   simp only at hc ⊢;cases b with
   | len=>
    simp only [BB];split
    ·rename_i x t aF bB;simp only [Ft,aF] at hc;generalize use (aK x)=u at hc;obtain ⟨cA,dZ⟩:=u;simp only at hc ⊢;refine aq.cS.R7 (q:=λr:Prop×Int=>r.1) ?_ λr U=>.bO U;generalize T t=ty;cases ty<;>simp only [EW]<;>first | exact .bY | skip
     ·cases dZ<;>first | exact .bY | skip
      ·rename_i cU d;cases cU<;>first | exact .bY | exact .mO trivial
     ·cases dZ<;>first | exact .bY | exact .mO trivial | skip
      ·rename_i cU d;cases cU<;>first | exact .bY | exact .mO trivial
      ·intro z r U;grind
      ·intro z r U;grind
     ·cases dZ<;>first | exact .bY | (cases hc;done) | skip
      ·rename_i cU d;cases cU<;>first | exact .bY | cases hc
    ·exact .bY
   | min=>
    simp only [rO];repeat' first | exact .bO trivial | exact .bY | split
   | max=>
    simp only [rO];repeat' first | exact .bO trivial | exact .bY | split
   | _=>simp [Ft] at hc
  | _=>cases hc
 | _=>simp [mP,ag] at hc
theorem Ca:∀ {l:List aI},(∀ v∈l,(use v).1)->jE l
 | [],_=>trivial
 | v::l,h=>by
  have G:=h v (by simp);have V:=Ca (l:=l) λu hu=>h u (by grind);cases v<;>first | exact V | exact ⟨G,V⟩
theorem Kz:∀ {l:List (Nat×aI)},(∀ v∈l,(use v.2).1)->rN l
 | [],_=>trivial
 | (i,v)::l,h=>by
  have G:=h (i,v) (by simp);have V:=Kz (l:=l) λu hu=>h u (by grind);cases v<;>first | exact V | exact ⟨G,V⟩
theorem Cb {x:Option Operand} {p:Prop} {n:Option Int} (h:k4 aK x=some (p,n)) (aj:∀ y,x=some y->(use (aK y)).1):p:=by
 unfold k4 at h;grind
def qU (aK:Operand->aI) (o:Oper):Prop:=∀ x∈o.op.operands.toList,(use (aK x)).1
theorem KA {aK:Operand->aI} {o:Oper} (h:r1 aK o=true):qU aK o:=λx aj=>Fs (by simpa using List.all_eq_true.1 h x aj)
theorem qU.use {aK:Operand->aI} {o:Oper} (h:qU aK o) {x:Operand} (aj:x∈o.op.operands.toList) {b9:Prop} {v:aI} (hu:use (aK x)=(b9,v)):b9:=by
 have:=h x aj;grind
theorem R_ (fy:qU aK o):(bt aR T bg aK o).cS (la λr=>r.b9):=by
 unfold qU at fy;have aw:∀ x∈o.op.operands.toList,(use (aK x)).1:=fy;have hu:∀ x∈o.op.operands.toList,∀ {b9:Prop} {v:aI},use (aK x)=(b9,v)->b9:=λx aj b9 v h=>qU.use fy aj h;cases ag:o.op with
 | move x=>unfold bt;rw [ag];exact .bO trivial
 | assign x=>
  unfold bt;rw [ag];simp only;split
  ·exact .h3 λb g=>λr U=>by grind
  ·exact .bO trivial
 | pick c a b=>
  rw [ag] at hu;unfold bt;rw [ag];simp only;split
  ·rename_i p1 iU lN;have G:=hu c (by simp [Op.operands]) lN;split
   ·split
    ·rename_i yP av ba;exact .bO ⟨G,λ_=>hu a (by simp [Op.operands]) ba⟩
    ·exact .bY
   ·split
    ·rename_i yP av ba;exact .bO ⟨G,λ_=>hu b (by simp [Op.operands]) ba⟩
    ·exact .bY
   ·exact .bY
  ·exact .bY
 | binOp op ty x y t=>
  rw [ag] at fy;have h:=And.intro (fy x (by simp [Op.operands])) (fy y (by simp [Op.operands]));unfold bt;rw [ag];simp only;split
  ·split
   ·split
    ·exact .bO h
    ·exact .bY
   ·split
    ·exact .bO h
    ·exact .bY
   ·split
    ·split
     ·exact .bO h
     ·exact .bY
    ·exact .bY
  ·split
   ·split
    ·exact .bO h
    ·exact .bY
   ·exact aq.cS.cN λ_=>.bO h
 | unOp op t x=>
  rw [ag] at hu;unfold bt;rw [ag];simp only;split
  ·rename_i aj;exact .bO (hu x (by simp [Op.operands]) aj)
  ·rename_i aj;exact .bO (hu x (by simp [Op.operands]) aj)
  ·exact .bY
 | extract x i=>
  rw [ag] at hu;unfold bt;rw [ag];simp only;split
  ·rename_i aj;split
   ·exact .bO (hu x (by simp [Op.operands]) aj)
   ·exact .bY
  ·exact .bY
 | nilCheck x=>
  rw [ag] at hu;unfold bt;rw [ag];simp only;split
  ·rename_i aj;intro z r U;split at U<;>cases U;exact hu x (by simp [Op.operands]) aj
  ·rename_i aj;exact .bO (hu x (by simp [Op.operands]) aj)
  ·rename_i aj;exact .bO (hu x (by simp [Op.operands]) aj)
  ·rename_i aj;intro z r U;split at U<;>cases U;exact hu x (by simp [Op.operands]) aj
  ·exact .bY
 | fieldAddr ty x f=>
  rw [ag] at hu;unfold bt;rw [ag];simp only;split
  ·split
   ·split
    ·rename_i aj;intro z r U;split at U<;>cases U;exact hu x (by simp [Op.operands]) aj
    ·rename_i aj;intro z r U;split at U<;>cases U;exact hu x (by simp [Op.operands]) aj
    ·rename_i aj;intro z r U;split at U<;>cases U;exact hu x (by simp [Op.operands]) aj
    ·rename_i aj;split
     ·split
      ·exact .bO (hu x (by simp [Op.operands]) aj)
      ·exact .bY
     ·exact .bY
    ·exact .bY
   ·exact .bY
  ·exact .bY
 | field ty x f=>
  rw [ag] at hu;unfold bt;rw [ag];simp only;split
  ·split
   ·rename_i aj;split
    ·split
     ·exact .bO (hu x (by simp [Op.operands]) aj)
     ·exact .bY
    ·exact .bY
   ·exact .bY
  ·exact .bY
 | load ty x=>
  rw [ag] at hu;unfold bt;rw [ag];simp only;split
  ·rename_i aj;have h:=hu x (by simp [Op.operands]) aj;intro z r U;repeat' split at U
   all_goals first | (cases U;exact h) | cases U
  ·rename_i aj;exact aq.cS.cN λ_=>.bO (hu x (by simp [Op.operands]) aj)
 | store ty x y=>
  rw [ag] at hu fy;unfold bt;rw [ag];simp only;split
  ·rename_i aj;have h:=hu x (by simp [Op.operands]) aj;have ds:=fy y (by simp [Op.operands]);unfold JK;split
   ·intro z r U;repeat' split at U
    all_goals first | (cases U;exact ⟨h,ds⟩) | cases U
   ·exact .bY
  ·rename_i aj;exact aq.cS.cN λ_=>.mO ⟨hu x (by simp [Op.operands]) aj,fy y (by simp [Op.operands])⟩
 | alloc ty=>
  unfold bt;rw [ag];simp only;exact .h3 λb g=>λr U=>by grind
 | box ty x=>
  rw [ag] at fy;unfold bt;rw [ag];simp only;split
  ·exact .h3 λb g=>λr U=>by split at U<;>cases U;exact fy x (by simp [Op.operands])
  ·exact .bY
 | build ty ps=>
  rw [ag] at aw;have h:rN (ps.toList.map λp=>(p.1,aK p.2)):=Kz λv af=>by
   simp only [List.mem_map] at af;obtain ⟨p,ar,rfl⟩:=af;exact aw p.2 (by simp only [Op.operands,List.mem_map];grind)
  unfold bt;rw [ag];simp only;repeat' first | exact .bY | exact .bO h | refine aq.cS.cN λ_=>?_ | split
 | buildSlice ty n ps=>
  rw [ag] at aw;have h:rN (ps.toList.map λp=>(p.1,aK p.2)):=Kz λv af=>by
   simp only [List.mem_map] at af;obtain ⟨p,ar,rfl⟩:=af;exact aw p.2 (by simp only [Op.operands,List.mem_map];grind)
  unfold bt;rw [ag];simp only;split
  ·refine aq.cS.cN λ_=>aq.cS.bind λ_=>.h3 λb g=>λr U=>by grind
  ·exact .bY
 | indexAddr ty x i=>
  rw [ag] at fy;have h:=And.intro (fy x (by simp [Op.operands])) (fy i (by simp [Op.operands]));unfold bt;rw [ag];simp only;split
  ·exact aq.cS.cN λ_=>.bO h
  ·split
   ·split
    ·exact .bO h
    ·exact .bY
   ·intro z r U;grind
   ·exact .bY
  ·exact .bY
 | index ty x i=>
  rw [ag] at fy;have h:=And.intro (fy x (by simp [Op.operands])) (fy i (by simp [Op.operands]));unfold bt;rw [ag];simp only;split
  ·exact .bO h
  ·split
   ·split
    ·exact .bO h
    ·exact .bY
   ·split
    ·exact .bO h
    ·exact .bY
   ·exact .bY
  ·exact .bY
 | convert a b x=>
  rw [ag] at fy;unfold bt;rw [ag];simp only;split
  ·exact .bO (fy x (by simp [Op.operands]))
  ·exact aq.cS.cN λ_=>.bO (fy x (by simp [Op.operands]))
  ·exact .bY
 | makeFunc fn first cW=>
  rw [ag] at aw;have h:jE (cW.toList.map aK):=Ca λv af=>by
   simp only [List.mem_map] at af;obtain ⟨p,ar,rfl⟩:=af;exact aw p (by simp [Op.operands];simp_all)
  have V:jE (first.toList.map aK):=Ca λv af=>by
   simp only [List.mem_map] at af;obtain ⟨p,ar,rfl⟩:=af;exact aw p (by simp [Op.operands];simp_all)
  unfold bt;rw [ag];simp only;split
  ·split
   ·split
    ·exact aq.cS.cN λ_=>aq.cS.bind λ_=>.mO h
    ·split
     ·exact aq.cS.cN λ_=>aq.cS.bind λ_=>.mO h
     ·exact .bO h
   ·split
    ·exact .bO V
    ·exact .bY
  ·exact .bY
 | slice ty x aZ M o3=>
  rw [ag] at aw fy;unfold bt;rw [ag];simp only;split
  ·unfold EZ;simp only;split
   ·rename_i ol l qJ h uM m ak cR hm;have be:=And.intro (fy x (by simp [Op.operands])) (And.intro (Cb ak λy aS=>aw y (by subst aS;simp [Op.operands])) (And.intro (Cb cR λy aS=>aw y (by subst aS;simp [Op.operands])) (Cb hm λy aS=>aw y (by subst aS;simp [Op.operands]))));split
    ·exact aq.cS.cN λ_=>.mO be
    ·exact .bY
   ·exact .bY
  ·unfold EY;simp only;split
   ·rename_i ol l qJ h ak cR;have be:=And.intro (fy x (by simp [Op.operands])) (And.intro (Cb ak λy aS=>aw y (by subst aS;simp [Op.operands])) (Cb cR λy aS=>aw y (by subst aS;simp [Op.operands])));split
    ·exact aq.cS.cN λ_=>.mO be
    ·split
     ·exact .bO be
     ·exact .bY
    ·exact .bY
   ·exact .bY
 | call c=>
  rw [ag] at aw fy;obtain ⟨callee,args,dj⟩:=c;have dY:∀ x∈args.toList,(use (aK x)).1:=λx aj=>aw x (by simp [Op.operands,Call.operands];simp_all);have pb:∀ x∈args.toList,(use (aK x)).1:=dY;have fB:jE (args.toList.map aK):=Ca λv af=>by
   grind
  unfold bt;rw [ag];simp only;unfold mF;simp only;split
  ·split
   ·unfold BB;split
    ·rename_i x t aF bB;exact aq.cS.cN λ_=>.bO (pb x (by grind))
    ·exact .bY
   ·split
    ·unfold BG;split
     ·rename_i x y t u aF bB;have h:=And.intro (pb x (by grind)) (pb y (by grind));split
      ·simp only;refine aq.cS.cN λ_=>λz=>?_;intro r U;grind
      ·exact .bY
     ·exact .bY
    unfold BC;split
    ·rename_i x y t u aF bB;have h:=And.intro (pb x (by grind)) (pb y (by grind));split
     ·simp only;unfold JI;split
      ·intro z;dsimp only;split
       ·split
        ·exact aq.cS.cN λ_=>.mO h
        ·exact .bY
       ·exact .bY
      ·intro z;dsimp only;split
       ·split
        ·exact aq.cS.cN λ_=>.mO h
        ·exact .bY
       ·exact .bY
      ·exact aq.cS.cN λ_=>.h3 λb g=>λr U=>by grind
      ·split
       ·exact aq.cS.cN λ_=>.h3 λb g=>λr U=>by grind
       ·exact .bY
      ·exact .bY
     ·exact .bY
    ·exact .bY
   ·unfold BH;split
    ·rename_i x t aF bB;have h:=pb x (by grind);split
     ·simp only;split
      ·intro z;intro r U;grind
      ·exact .bY
     ·exact .bY
    ·exact .bY
   ·unfold E2;split
    ·rename_i x y t u aF bB;have h:=And.intro (pb x (by grind)) (pb y (by grind));split
     ·simp only;split
      ·refine aq.cS.cN λ_=>λz=>?_;intro r U;grind
      ·exact .bY
     ·exact .bY
    ·exact .bY
   ·unfold rO;split
    ·rename_i x y l aF;split
     ·split
      ·rename_i ak;exact .bO ⟨pb x (by grind),Kx (y::l) (λp ar=>pb p (by rw [aF];exact List.mem_cons_of_mem _ ar)) ak⟩
      ·exact .bY
     ·exact .bY
    ·exact .bY
   ·unfold rO;split
    ·rename_i x y l aF;split
     ·split
      ·rename_i ak;exact .bO ⟨pb x (by grind),Kx (y::l) (λp ar=>pb p (by rw [aF];exact List.mem_cons_of_mem _ ar)) ak⟩
      ·exact .bY
     ·exact .bY
    ·exact .bY
   ·unfold BD;split
    ·rename_i x t aF bB;have h:=pb x (by grind);split
     ·rename_i di;exact .bO (by grind)
     ·exact .bY
    ·exact .bY
   ·exact .bY
  ·split
   ·unfold E0;simp only;split
    ·refine aq.cS.cN λ_=>?_;split
     ·refine aq.cS.bind λ_=>.h3 λb g=>λr U=>?_;split at U
      ·cases U
      ·cases U;exact fB
     ·exact aq.cS.bind λ_=>.mO fB
    ·exact .bY
   ·exact .bY
  ·exact .bY
 | makeMap ty r=>
  unfold bt;rw [ag];simp only;split
  ·exact .bY
  ·split
   ·exact .h3 λb g=>λr U=>by grind
   ·exact .bY
 | lookup ty m x ok=>
  rw [ag] at fy;have h:=And.intro (fy m (by simp [Op.operands])) (fy x (by simp [Op.operands]));unfold bt;rw [ag];simp only;unfold yO;split
  ·simp only;split
   ·exact aq.cS.cN λ_=>aq.cS.cN λ_=>.bO h
   ·exact .bY
  ·exact .bY
 | mapUpdate ty m x y=>
  rw [ag] at fy;unfold bt;rw [ag];exact Ky λ_=>⟨fy m (by simp [Op.operands]),fy x (by simp [Op.operands]),fy y (by simp [Op.operands])⟩
 | insert ty m x y=>
  rw [ag] at fy;unfold bt;rw [ag];exact Ky λ_=>⟨fy m (by simp [Op.operands]),fy x (by simp [Op.operands]),fy y (by simp [Op.operands])⟩
 | makeSlice ty l c=>
  rw [ag] at fy;have h:=And.intro (fy l (by simp [Op.operands])) (fy c (by simp [Op.operands]));unfold bt;rw [ag];simp only;unfold E1;split
  ·simp only;split
   ·exact .h3 λb g=>λr U=>by grind
   ·exact .bY
  ·exact .bY
 | makeInterface t x=>unfold bt;rw [ag];exact .bO trivial
 | panic x=>unfold bt;rw [ag];exact .bO trivial
 | _=>unfold bt;rw [ag];exact .bY
theorem R' (hc:r1 aK o=true):(bt aR T bg aK o).cS (la λr=>r.b9):=R_ (KA hc)
end
end Go.Fer
namespace Go.Fer
open Go.RowKit
theorem KB {aK jl:Operand->aI} {k:IntKind}:∀ (l:List Operand),(∀ x∈l,aK x=jl x)->mE aK k l=mE jl k l
 | [],_=>rfl
 | [x],h=>by simp only [mE,h x (by simp)]
 | x::y::l,h=>by simp only [mE,h x (by simp),KB (y::l) λz bl=>h z (List.mem_cons_of_mem _ bl)]
section
variable {aR:dE} {T:Nat->ad} {bg:Nat->Option aO} {aK jl:Operand->aI} {o:Oper}
theorem KC {x:Option Operand} (h:∀ y,x=some y->aK y=jl y):k4 aK x=k4 jl x:=by
 cases x with
 | none=>rfl
 | some y=>have:=h y rfl;unfold k4;grind
theorem ad9 (h:∀ x∈o.op.operands.toList,aK x=jl x):bt aR T bg aK o=bt aR T bg jl o:=by
 cases ag:o.op with
 | move x=>rw [ag] at h;have G:=h x (by simp [Op.operands]);unfold bt;simp_all
 | assign x=>rw [ag] at h;have G:=h x (by simp [Op.operands]);unfold bt;simp_all
 | pick c a b=>
  rw [ag] at h;have G:=h c (by simp [Op.operands]);have V:=h a (by simp [Op.operands]);have ah:=h b (by simp [Op.operands]);unfold bt;simp_all
 | binOp op ty x y t=>
  rw [ag] at h;have G:=h x (by simp [Op.operands]);have V:=h y (by simp [Op.operands]);unfold bt;simp_all
 | unOp op t x=>rw [ag] at h;have G:=h x (by simp [Op.operands]);unfold bt;simp_all
 | extract x i=>rw [ag] at h;have G:=h x (by simp [Op.operands]);unfold bt;simp_all
 | nilCheck x=>rw [ag] at h;have G:=h x (by simp [Op.operands]);unfold bt;simp_all
 | fieldAddr ty x f=>rw [ag] at h;have G:=h x (by simp [Op.operands]);unfold bt;simp_all
 | field ty x f=>rw [ag] at h;have G:=h x (by simp [Op.operands]);unfold bt;simp_all
 | load ty x=>rw [ag] at h;have G:=h x (by simp [Op.operands]);unfold bt;simp_all
 | store ty x y=>
  rw [ag] at h;have G:=h x (by simp [Op.operands]);have V:=h y (by simp [Op.operands]);unfold bt;simp_all
 | alloc ty=>unfold bt;rw [ag]
 | box ty x=>rw [ag] at h;have G:=h x (by simp [Op.operands]);unfold bt;simp_all
 | build ty ps=>
  rw [ag] at h;have G:ps.toList.map (λp=>(p.1,aK p.2))=ps.toList.map (λp=>(p.1,jl p.2)):=List.map_congr_left λp ar=>by rw [h p.2 (by simp only [Op.operands,List.mem_map];grind)]
  unfold bt;rw [ag];simp only [G]
 | buildSlice ty n ps=>
  rw [ag] at h;have G:ps.toList.map (λp=>(p.1,aK p.2))=ps.toList.map (λp=>(p.1,jl p.2)):=List.map_congr_left λp ar=>by rw [h p.2 (by simp only [Op.operands,List.mem_map];grind)]
  unfold bt;rw [ag];simp only [G]
 | indexAddr ty x i=>
  rw [ag] at h;have G:=h x (by simp [Op.operands]);have V:=h i (by simp [Op.operands]);unfold bt;simp_all
 | index ty x i=>
  rw [ag] at h;have G:=h x (by simp [Op.operands]);have V:=h i (by simp [Op.operands]);unfold bt;simp_all
 | convert a b x=>rw [ag] at h;have G:=h x (by simp [Op.operands]);unfold bt;simp_all
 | makeFunc fn first cW=>
  rw [ag] at h;have G:cW.toList.map aK=cW.toList.map jl:=List.map_congr_left λp ar=>h p (by simp [Op.operands];simp_all);have V:first.toList.map aK=first.toList.map jl:=List.map_congr_left λp ar=>h p (by simp [Op.operands];simp_all)
  unfold bt;rw [ag];simp only [G,V]
 | lookup ty m x ok=>
  rw [ag] at h;have G:=h m (by simp [Op.operands]);have V:=h x (by simp [Op.operands]);unfold bt;rw [ag];simp only [yO,G,V]
 | mapUpdate ty m x y=>
  rw [ag] at h;have G:=h m (by simp [Op.operands]);have V:=h x (by simp [Op.operands]);have ah:=h y (by simp [Op.operands]);unfold bt;rw [ag];simp only [qK,G,V,ah]
 | insert ty m x y=>
  rw [ag] at h;have G:=h m (by simp [Op.operands]);have V:=h x (by simp [Op.operands]);have ah:=h y (by simp [Op.operands]);unfold bt;rw [ag];simp only [qK,G,V,ah]
 | makeSlice ty l c=>
  rw [ag] at h;have G:=h l (by simp [Op.operands]);have V:=h c (by simp [Op.operands]);unfold bt;rw [ag];simp only [E1,G,V]
 | slice ty x aZ M o3=>
  rw [ag] at h;have G:=h x (by simp [Op.operands]);have V:k4 aK aZ=k4 jl aZ:=KC λy aS=>h y (by subst aS;simp [Op.operands]);have ah:k4 aK M=k4 jl M:=KC λy aS=>h y (by subst aS;simp [Op.operands]);have a7:k4 aK o3=k4 jl o3:=KC λy aS=>h y (by subst aS;simp [Op.operands]);unfold bt;rw [ag];simp only [EY,EZ,G,V,ah,a7]
 | call c=>
  rw [ag] at h;obtain ⟨callee,args,dj⟩:=c;have dY:∀ x∈args.toList,aK x=jl x:=λx aj=>h x (by simp [Op.operands,Call.operands];simp_all);have ak:args.toList.map aK=args.toList.map jl:=List.map_congr_left dY;unfold bt;rw [ag];simp only;unfold mF;simp only;split
  ·split
   ·unfold BB;grind
   ·have qV:wF aK args.toList=wF jl args.toList:=by
     unfold wF;grind
    rw [qV];split
    ·unfold BG;split
     ·rename_i x y t u aF bB;rw [dY x (by simp [aF]),dY y (by simp [aF])]
     ·rfl
    ·unfold BC;grind
   ·unfold BH;split
    ·rename_i x t aF bB;rw [dY x (by simp [aF])]
    ·rfl
   ·unfold E2;split
    ·rename_i x y t u aF bB;rw [dY x (by grind),dY y (by grind)]
    ·rfl
   ·unfold rO;split
    ·rename_i x y l aF;have ak:∀ k,mE aK k (y::l)=mE jl k (y::l):=λk=>KB (y::l) λp ar=>dY p (by rw [aF];exact List.mem_cons_of_mem _ ar);simp only [dY x (by simp [aF]),ak]
    ·rfl
   ·unfold rO;split
    ·rename_i x y l aF;have ak:∀ k,mE aK k (y::l)=mE jl k (y::l):=λk=>KB (y::l) λp ar=>dY p (by rw [aF];exact List.mem_cons_of_mem _ ar);simp only [dY x (by simp [aF]),ak]
    ·rfl
   ·unfold BD;grind
   ·rfl
  ·split
   ·unfold E0;simp only [ak]
   ·rfl
  ·rfl
 | _=>unfold bt;rw [ag]
end
end Go.Fer
namespace Go.Fer
open Go.RowKit
def Fu (want b:Bool):Bool:=match want with | true=>b | false=>!b
def kt (s:Nat->aI) (ops:Array Oper):Option (Nat×Bool)->Option (Option Bool)
 | none=>some none
 | some (j,want)=>match ops[j]? with
  | some o=>match o.dst with
   | some d=>match s d with
    | .val .bool b=>some (some (Fu want b))
    | .hz g (.val .bool b)=>some (some (g&&Fu want b))
    | _=>none
   | none=>none
  | none=>none
def Fv (ops:Array Oper):Option (Nat×Bool)->List Nat
 | none=>[]
 | some (j,_)=>match ops[j]? with
  | some o=>o.dst.toList
  | none=>[]
def ad_ (l:List Operand):List Nat:=l.filterMap fun | .tmp t=>some t | _=>none
def Cc (ops:Array Oper) (o:Oper):List Nat:=Fv ops o.guard++ad_ o.op.operands.toList
structure eN where
 cs:List Prop
 dst:Option Nat
 e4:aI
 hB:List (Nat×bL)
 ku:List Nat
 tC:List Nat
def eN.h6 (r:eN) (s:aB):aB:=(s.fU r.hB).set r.dst r.e4
def eN.nK (r:eN):List Nat:=r.dst.toList
def eN.mQ (r:eN):List Nat:=r.hB.map (·.1)
def Cd (dx dP:Bool) (b9 c:Prop):List Prop:=(match dx with | true=>[] | false=>[b9])++(match dP with | true=>[] | false=>[c])
def uZ (aR:dE) (T:Nat->ad) (bg:Nat->Option aO) (ops:Array Oper) (s:aB) (o:Oper):Option eN:=
 match kt s.az ops o.guard with
 | none=>none
 | some g=>match (bt aR T bg (a_ aR s.az) o).run s.ab with
  | none=>none
  | some res=>match g with
   | none=>some ⟨Cd (r1 (a_ aR s.az) o) (mP (a_ aR s.az) o) res.b9 res.c,o.dst,res.e4,res.hB,Cc ops o,(bt aR T bg (a_ aR s.az) o).looks s.ab⟩
   | some b=>match res.hB with
    | []=>some ⟨Cd (r1 (a_ aR s.az) o&&(mP (a_ aR s.az) o&&!res.e4.zd)) true (b=true->res.b9/\(res.c/\(use res.e4).1)) True,o.dst,.hz b (use res.e4).2,[],Cc ops o,(bt aR T bg (a_ aR s.az) o).looks s.ab⟩
    | _=>none
def wW (aR:dE) (T:Nat->ad) (bg:Nat->Option aO) (ops:Array Oper):List Oper->aB->Option (List eN×aB)
 | [],s=>some ([],s)
 | o::os,s=>match uZ aR T bg ops s o with
  | none=>none
  | some r=>match wW aR T bg ops os (r.h6 s) with
   | none=>none
   | some (l,s')=>some (r::l,s')
def Ce (a b:List Nat):Bool:=a.all λx=>!b.contains x
def eN.apart (a b:eN):Bool:=Ce a.nK (b.ku++b.nK)&&Ce a.ku b.nK&&Ce a.mQ (b.tC++b.mQ)&&Ce a.tC b.mQ
def h7 (o:Oper):List Nat:=o.after.toList.filterMap λe=>if Region.binds .any e then some e.on else none
def Cf (acc:List Nat):List Nat->List Nat
 | []=>acc
 | x::l=>match acc.contains x with | true=>Cf acc l | false=>Cf (x::acc) l
theorem KD {x:Nat}:∀ {l acc:List Nat},x∈Cf acc l->x∈acc\/x∈l
 | [],acc,h=>.inl h
 | y::l,acc,h=>by
  unfold Cf at h;split at h
  ·exact (KD h).imp_right (List.mem_cons_of_mem _)
  ·rcases KD h with h | h
   ·rcases List.mem_cons.1 h with h | h
    ·exact .inr (h ▸ List.mem_cons_self)
    ·exact .inl h
   ·exact .inr (List.mem_cons_of_mem _ h)
def zf (acc:List (List Nat)) (o:Oper):List (List Nat):=acc++[Cf [] ((h7 o).flatMap λj=>j::acc.getD j [])]
def ih (ops:List Oper):List (List Nat):=ops.foldl zf []
def ad' (cl:List (List Nat)) (l:List eN):Bool:=
 (List.range l.length).all λj=>(List.range j).all λi=>match l[i]?,l[j]? with
  | some a,some b=>(cl.getD j []).contains i||a.apart b
  | _,_=>false
def Cg (ops:List Oper):Bool:=(List.range ops.length).all λj=>match ops[j]? with
 | some o=>(h7 o).all λi=>decide (i<j)
 | none=>false
def zg (ops:List Oper) (l:List eN):Bool:=Cg ops&&ad' (ih ops) l
def wX (R:List Nat) (s s':aB):Prop:=∀ t∈R,s.az t=s'.az t
def wY (B:List Nat) (s s':aB):Prop:=∀ b∈B,s.ab b=s'.ab b
theorem Fw {a b:List Nat} (h:Ce a b=true) {x:Nat} (aj:x∈a):x ∉ b:=by
 have:=List.all_eq_true.1 h x aj;grind
theorem zh (s:aB):∀ (l:List (Nat×bL)),(s.fU l).az=s.az:=by
 intro l;induction l generalizing s with
 | nil=>rfl
 | cons p l aM=>simp only [aB.fU];rw [aM];rfl
theorem KE {b:Nat}:∀ (l:List (Nat×bL)) (s:aB),b ∉ l.map (·.1)->(s.fU l).ab b=s.ab b:=by
 intro l;induction l with
 | nil=>intro s _;rfl
 | cons p l aM=>
  intro s h;simp only [List.map_cons,List.mem_cons,not_or] at h;simp only [aB.fU];rw [aM _ h.2];simp [aB.cw,h.1]
theorem KF {b:Nat}:∀ (l:List (Nat×bL)) (s s':aB),b∈l.map (·.1)->(s.fU l).ab b=(s'.fU l).ab b:=by
 intro l;induction l with
 | nil=>simp
 | cons p l aM=>
  intro s s' h;simp only [aB.fU];by_cases aa:b∈l.map (·.1)
  ·grind
  ·rw [KE l _ aa,KE l _ aa];have:b=p.1:=by grind
   simp [aB.cw,this]
theorem aea (s:aB) (d:Option Nat) (v:aI):(s.set d v).ab=s.ab:=by cases d<;>rfl
theorem Fx (r:eN) (s:aB) (t:Nat):(r.h6 s).az t=if t∈r.nK then r.e4 else s.az t:=by
 unfold eN.h6 eN.nK;cases h:r.dst with
 | none=>simp [aB.set,zh]
 | some d=>simp [aB.set,zh,eq_comm]
theorem wZ (r:eN) (s:aB) (b:Nat):(r.h6 s).ab b=(s.fU r.hB).ab b:=by unfold eN.h6;rw [aea]
theorem Sa {r:eN} {s:aB} {t:Nat} (h:t ∉ r.nK):(r.h6 s).az t=s.az t:=by rw [Fx,if_neg h]
theorem tD {r:eN} {s:aB} {b:Nat} (h:b ∉ r.mQ):(r.h6 s).ab b=s.ab b:=by rw [wZ];exact KE _ _ h
theorem aB.ext' {s s':aB} (G:∀ t,s.az t=s'.az t) (V:∀ b,s.ab b=s'.ab b):s=s':=by
 obtain ⟨a,b⟩:=s;obtain ⟨a',bf⟩:=s';rw [show a=a' from funext G,show b=bf from funext V]
theorem aeb {a b:eN} (G:∀ t∈a.nK,t ∉ b.nK) (V:∀ x∈a.mQ,x ∉ b.mQ) (s:aB):a.h6 (b.h6 s)=b.h6 (a.h6 s):=by
 apply aB.ext'
 ·intro t;simp only [Fx];grind
 ·intro x;by_cases ba:x∈a.mQ
  ·have aa:=V x ba;rw [tD aa,wZ,wZ];exact KF _ _ _ ba
  ·rw [tD ba];by_cases aa:x∈b.mQ
   ·rw [wZ,wZ];exact KF _ _ _ aa
   ·rw [tD aa,tD aa,tD ba]
def jJ (l:List eN) (s:aB):aB:=l.foldl (λs r=>r.h6 s) s
theorem aec {R B:List Nat}:∀ (l:List eN) (s:aB),(∀ r∈l,(∀ t∈R,t ∉ r.nK)/\∀ b∈B,b ∉ r.mQ)->wX R (jJ l s) s/\wY B (jJ l s) s:=by
 intro l;induction l with
 | nil=>intro s _;exact ⟨λ_ _=>rfl,λ_ _=>rfl⟩
 | cons r l aM=>
  intro s h;obtain ⟨G,V⟩:=aM (r.h6 s) λpV bd=>h pV (List.mem_cons_of_mem _ bd);have U:=h r (List.mem_cons_self);exact ⟨λt aL=>(G t aL).trans (Sa (U.1 t aL)),λb aa=>(V b aa).trans (tD (U.2 b aa))⟩
theorem aed {R B:List Nat} {r:eN} {s s':aB} (G:wX R s s') (V:wY B s s'):wX R (r.h6 s) (r.h6 s')/\wY B (r.h6 s) (r.h6 s'):=by
 refine ⟨λt aL=>?_,λb aa=>?_⟩
 ·rw [Fx,Fx];split
  ·rfl
  ·exact G t aL
 ·by_cases hw:b∈r.mQ
  ·rw [wZ,wZ];exact KF _ _ _ hw
  ·rw [tD hw,tD hw];exact V b aa
theorem aee {R B:List Nat} (p:Nat×eN->Bool):∀ (l:List (Nat×eN)) (s s':aB),wX R s s'->wY B s s'->(∀ r∈l,p r=false->(∀ t∈R,t ∉ r.2.nK)/\∀ b∈B,b ∉ r.2.mQ)->
  wX R (jJ ((l.filter p).map (·.2)) s) (jJ (l.map (·.2)) s')/\wY B (jJ ((l.filter p).map (·.2)) s) (jJ (l.map (·.2)) s'):=by
 intro l;induction l with
 | nil=>intro s s' G V _;exact ⟨G,V⟩
 | cons r l aM=>
  intro s s' G V h;have ak:=λpV bd=>h pV (List.mem_cons_of_mem _ bd);cases ar:p r with
  | true=>
   rw [List.filter_cons_of_pos ar];obtain ⟨aU,aX⟩:=aed (r:=r.2) G V;exact aM _ _ aU aX ak
  | false=>
   rw [List.filter_cons_of_neg (by grind)];have U:=h r (List.mem_cons_self) ar;exact aM _ _ (λt aL=>(G t aL).trans (Sa (U.1 t aL)).symm) (λb aa=>(V b aa).trans (tD (U.2 b aa)).symm) ak
theorem aef {r:eN}:∀ (l:List eN) (s:aB),(∀ x∈l,(∀ t∈r.nK,t ∉ x.nK)/\∀ b∈r.mQ,b ∉ x.mQ)->jJ l (r.h6 s)=r.h6 (jJ l s):=by
 intro l;induction l with
 | nil=>intro s _;rfl
 | cons x l aM=>
  intro s h;have aj:=h x (List.mem_cons_self);show jJ l (x.h6 (r.h6 s))=r.h6 (jJ l (x.h6 s));rw [<-aeb aj.1 aj.2 s];grind
end Go.Fer
namespace Go.Fer
open Go.RowKit
def iB:Nat->List eN->List (Nat×eN)
 | _,[]=>[]
 | n,r::l=>(n,r)::iB (n+1) l
theorem Sb:∀ (l m:List eN) (n:Nat),iB n (l++m)=iB n l++iB (n+l.length) m
 | [],m,n=>by rfl
 | r::l,m,n=>by simp only [List.cons_append,iB,Sb l m (n+1),List.length_cons];grind
theorem Ch:∀ (l:List eN) (n:Nat),(iB n l).map (·.2)=l
 | [],_=>rfl
 | r::l,n=>by simp only [iB,List.map_cons,Ch l (n+1)]
theorem zi:∀ {l:List eN} {n j:Nat} {x:eN},(j,x)∈iB n l->n<=j/\l[j - n]?=some x
 | r::l,n,j,x,h=>by
  simp only [iB,List.mem_cons,Prod.mk.injEq] at h;rcases h with ⟨rfl,rfl⟩ | h
  ·simp
  ·obtain ⟨G,V⟩:=zi h;grind
 | [],_,_,_,h=>by cases h
def jm (l:List eN) (s:aB) (f:Nat->Bool):aB:=jJ (((iB 0 l).filter λp=>f p.1).map (·.2)) s
theorem Sc (l m:List eN) (s:aB):jJ (l++m) s=jJ m (jJ l s):=by simp [jJ]
theorem KG {a b:eN} (h:a.apart b=true):(∀ t∈a.nK,t ∉ b.ku/\t ∉ b.nK)/\(∀ t∈a.ku,t ∉ b.nK)/\(∀ x∈a.mQ,x ∉ b.tC/\x ∉ b.mQ)/\∀ x∈a.tC,x ∉ b.mQ:=by
 simp only [eN.apart,Bool.and_eq_true] at h;obtain ⟨⟨⟨G,V⟩,ah⟩,a7⟩:=h;refine ⟨λt aL=>?_,λt aL=>Fw V aL,λx aj=>?_,λx aj=>Fw a7 aj⟩
 ·have:=Fw G aL;grind
 ·have:=Fw ah aj;grind
theorem Sd {l:List eN} {s:aB} {f:Nat->Bool} {i:Nat} {r:eN} (M:l[i]?=some r) (aw:f i=false)
  (gG:∀ j x,j<i->l[j]?=some x->f j=false->x.apart r=true) (tE:∀ j x,i<j->l[j]?=some x->f j=true->r.apart x=true) :
  wX r.ku (jm l s f) (jJ (l.take i) s)/\wY r.tC (jm l s f) (jJ (l.take i) s)/\jm l s (λj=>if j=i then true else f j)=r.h6 (jm l s f):=by
 obtain ⟨ch,eT⟩:=List.getElem?_eq_some_iff.1 M;have hlen:(l.take i).length=i:=by grind
 have Se:iB 0 l=iB 0 (l.take i)++(i,r)::iB (i+1) (l.drop (i+1)):=by
  have G:l=l.take i++r::l.drop (i+1):=by
   have:=List.take_append_drop i l;rw [List.drop_eq_getElem_cons ch,eT] at this;grind
  have V:=Sb (l.take i) (r::l.drop (i+1)) 0;rw [<-G,hlen] at V;simpa [iB] using V
 have aeg:∀ p∈iB 0 (l.take i),p.1<i/\l[p.1]?=some p.2:=by
  rintro ⟨j,x⟩ ar;obtain ⟨_,V⟩:=zi ar;grind
 have awA:∀ p∈iB (i+1) (l.drop (i+1)),i<p.1/\l[p.1]?=some p.2:=by
  rintro ⟨j,x⟩ ar;obtain ⟨G,V⟩:=zi ar;grind
 have Sf:∀ x∈((iB (i+1) (l.drop (i+1))).filter λp=>f p.1).map (·.2),r.apart x=true:=by
  grind
 have ij:jm l s f=jJ (((iB (i+1) (l.drop (i+1))).filter λp=>f p.1).map (·.2)) (jJ (((iB 0 (l.take i)).filter λp=>f p.1).map (·.2)) s):=by
  unfold jm;rw [Se,List.filter_append,List.filter_cons_of_neg (by grind),List.map_append,Sc]
 have qV:=aec (R:=r.ku) (B:=r.tC) (((iB (i+1) (l.drop (i+1))).filter λp=>f p.1).map (·.2)) (jJ (((iB 0 (l.take i)).filter λp=>f p.1).map (·.2)) s)
  (λx aj=>by
   have:=KG (Sf x aj);grind)
 have qW:=aee (R:=r.ku) (B:=r.tC) (λp=>f p.1) (iB 0 (l.take i)) s s (λ_ _=>rfl) (λ_ _=>rfl) (λp ar aeh=>by
  obtain ⟨G,V⟩:=aeg p ar;have:=KG (gG p.1 p.2 G V aeh);grind)
 rw [Ch] at qW;refine ⟨λt aL=>by rw [ij];exact (qV.1 t aL).trans (qW.1 t aL),λb aa=>by rw [ij];exact (qV.2 b aa).trans (qW.2 b aa),?_⟩;rw [ij];unfold jm;have aF:(iB 0 (l.take i)).filter (λp=>if p.1=i then true else f p.1)=(iB 0 (l.take i)).filter λp=>f p.1:=by
  apply List.filter_congr;grind
 have bB:(iB (i+1) (l.drop (i+1))).filter (λp=>if p.1=i then true else f p.1)=(iB (i+1) (l.drop (i+1))).filter λp=>f p.1:=by
  apply List.filter_congr;grind
 rw [Se,List.filter_append,List.filter_cons_of_pos (by simp),aF,bB,List.map_append,Sc];show jJ _ (r.h6 _)=_;refine aef _ _ λx aj=>?_;have:=KG (Sf x aj);grind
theorem w1 {p:Nat->Prop}:∀ (ops:List Oper) (acc:List (List Nat)),(∀ j i,i∈acc.getD j []->p j->p i)->(∀ j o,ops[j]?=some o->∀ i∈h7 o,p (acc.length+j)->p i)->
  ∀ j i,i∈(ops.foldl zf acc).getD j []->p j->p i:=by
 intro ops;induction ops with
 | nil=>simp
 | cons o ops aM=>
  intro acc h ay;refine aM (zf acc o) (λj i M aH=>?_) λj hP j' i M aH=>ay (j+1) hP (by grind) i M (by
   have:(zf acc o).length=acc.length+1:=by simp [zf]
   grind)
  unfold zf at M;rw [List.getD_eq_getElem?_getD,List.getElem?_append] at M;split at M
  ·grind
  ·rename_i ch;by_cases e:j=acc.length
   ·subst e;simp only [Nat.sub_self,List.getElem?_cons_zero,Option.getD_some] at M;have M:=(KD M).resolve_left (by simp);simp only [List.mem_flatMap,List.mem_cons] at M;obtain ⟨k,ao,M⟩:=M;have u0:=ay 0 o (by simp) k ao (by omega);grind
   grind
theorem Sg {aR:dE} {T:Nat->ad} {bg:Nat->Option aO} {ops:Array Oper}:∀ (os:List Oper) (s:aB) {l:List eN} {s':aB},wW aR T bg ops os s=some (l,s')->
  l.length=os.length/\s'=jJ l s/\∀ i o,os[i]?=some o->∃ r,l[i]?=some r/\uZ aR T bg ops (jJ (l.take i) s) o=some r:=by
 intro os;induction os with
 | nil=>intro s l s' h;cases h;exact ⟨rfl,rfl,λi o h=>by cases h⟩
 | cons o os aM=>
  intro s l s' h;simp only [wW] at h;split at h
  ·cases h
  ·rename_i r U;split at h
   ·cases h
   ·rename_i dG awB ak;cases h;obtain ⟨G,V,ah⟩:=aM _ ak;refine ⟨by grind,V,λi hP j'=>?_⟩;cases i with
    | zero=>
     simp only [List.getElem?_cons_zero,Option.some.injEq] at j';subst j';exact ⟨r,by simp,U⟩
    | succ i=>
     obtain ⟨pV,aU,aX⟩:=ah i hP (by grind);exact ⟨pV,by grind,aX⟩
theorem KH {ops:Array Oper} {f iy:Nat->aI} {g:Option (Nat×Bool)} (h:∀ t∈Fv ops g,f t=iy t):kt f ops g=kt iy ops g:=by
 unfold kt;cases g with
 | none=>rfl
 | some p=>
  obtain ⟨j,want⟩:=p;simp only;cases aH:ops[j]? with
  | none=>rfl
  | some o=>
   simp only;cases ay:o.dst with
   | none=>rfl
   | some d=>
    simp only;rw [h d (by simp [Fv,aH,ay])]
theorem Sh {aR:dE} {T:Nat->ad} {bg:Nat->Option aO} {ops:Array Oper} {s s':aB} {o:Oper} {r:eN} (h:uZ aR T bg ops s o=some r) (G:wX r.ku s' s) (V:wY r.tC s' s):uZ aR T bg ops s' o=some r:=by
 have Si:r.ku=Cc ops o/\r.tC=(bt aR T bg (a_ aR s.az) o).looks s.ab:=by
  unfold uZ at h;grind
 rw [Si.1] at G;rw [Si.2] at V;have kL:∀ x∈o.op.operands.toList,a_ aR s'.az x=a_ aR s.az x:=by
  intro x aj;cases x with
  | tmp t=>
   refine G t ?_;simp only [Cc,List.mem_append];exact .inr (List.mem_filterMap.2 ⟨.tmp t,aj,rfl⟩)
  | _=>rfl
 have aF:kt s'.az ops o.guard=kt s.az ops o.guard:=KH λt aL=>G t (by simp [Cc,aL]);have bB:bt aR T bg (a_ aR s'.az) o=bt aR T bg (a_ aR s.az) o:=ad9 kL;have di:=aq.QV (H:=s.ab) (H':=s'.ab) (bt aR T bg (a_ aR s.az) o) V;have gv:r1 (a_ aR s'.az) o=r1 (a_ aR s.az) o:=by
  unfold r1;grind
 have h1:mP (a_ aR s'.az) o=mP (a_ aR s.az) o:=by
  unfold mP;cases ag:o.op with
  | binOp op ty x y t=>
   rw [ag] at kL;simp only;rw [kL x (by simp [Op.operands])]
  | load ty x=>rw [ag] at kL;simp only;rw [kL x (by simp [Op.operands])]
  | store ty x y=>rw [ag] at kL;simp only;rw [kL x (by simp [Op.operands])]
  | call c=>
   obtain ⟨callee,args,dj⟩:=c;rw [ag] at kL;cases callee with
   | builtin b=>
    have cR:∀ x∈args.toList,a_ aR s'.az x=a_ aR s.az x:=λx aj=>kL x (by simp [Op.operands,Call.operands];simp_all);simp only;unfold Ft;grind
   | _=>rfl
  | _=>rfl
 unfold uZ at h ⊢;simp_all
end Go.Fer
namespace Go.Fer
open Go.RowKit
universe u
def A.fail {β:Type}:A β:=⟨False,λ_=>False⟩
inductive bX where
 | undef
 | val (t:ad)
 | dW (t:ad)
 | a1 (b off:Nat)
 | an (b:Nat)
 | sub (b:Nat)
 | fb (b:Nat)
 | j0 (b:Nat)
 | df
 | iu (k:FuncId) (fP:z8')
 | aW (aN:ad)
 | g_
 | hD (bs:List Nat)
 | iP (b:Nat)
 deriving DecidableEq
inductive b4 where
 | cells (t:ad) (l:List bX)
 | bj (e:ad)
 | hA (e:ad)
 | mp (k v:ad)
 | iQ (k v:ad)
 | fV (t:ad)
 | gD (t:ad)
 | cq (k v:ad)
 | f' (e:ad) (t:bX)
def bX.cons (t:bX) (R:Type):Type:=
 match t with
 | .val t=>t.ai×R
 | .dW t=>t.ai×R
 | .sub _=>(Nat×Nat)×R
 | .aW aN=>(Nat×(List aN.ai->Prop)×List aN.ai×Bool)×R
 | .g_=>Nat×R
 | .iP _=>Nat×R
 | _=>R
def p9:List bX->Type->Type
 | [],R=>R
 | t::l,R=>t.cons (p9 l R)
def b4.cons (t:b4) (R:Type):Type:=
 match t with
 | .cells _ l=>p9 l R
 | .bj e=>List e.ai×R
 | .hA e=>List e.ai×R
 | .mp k v=>List (k.ai×v.ai)×R
 | .iQ k v=>List (k.ai×v.ai)×R
 | .fV t=>t.ai×R
 | .gD t=>t.ai×R
 | .cq k v=>(Option (k.ai×v.ai)×List (k.ai×v.ai))×R
 | .f' e t=>(List e.ai×Nat)×t.cons R
def b4.Ci:b4->Bool
 | .cells _ _ | .bj _ | .mp _ _ | .fV _ | .cq _ _ | .f' _ _=>true
 | _=>false
def b4.Fy (t u:b4):Bool:=
 match t,u with
 | .cells _ _,.cells _ _ | .cells _ _,.fV _ | .fV _,.cells _ _ | .fV _,.fV _ | .gD _,.cells _ _ | .gD _,.fV _=>true
 | .mp _ _,.mp _ _ | .iQ _ _,.mp _ _=>true
 | .bj e,.bj a8=>decide (e=a8)
 | .hA _,.bj _=>true
 | _,_=>false
structure dH where
 bT:List (Nat×bX)
 bE:List (Nat×b4)
def pc:List (Nat×b4)->Type
 | []=>Unit
 | p::l=>p.2.cons (pc l)
def oo:List (Nat×bX)->Type->Type
 | [],R=>R
 | p::l,R=>p.2.cons (oo l R)
def dH.ai (sh:dH):Type:=oo sh.bT (pc sh.bE)
def u1 (g:Nat->Nat×Nat) (fP:z8'):Nat->aI:=hb (fP.map λp=>.a1 (g p.1).1 (g p.1).2 p.2)
def u2 (g:Nat->Nat×Nat) (bs:List Nat):Nat->aI:=hb (bs.map λb=>.an (g b).1 (g b).2)
def bX.av (g:Nat->Nat×Nat) (t:bX) {R:Type} (x:t.cons R):aI×R:=
 match t,x with
 | .undef,x=>(.undef,x)
 | .val t,x=>(.val t x.1,x.2)
 | .dW t,x=>(.dW t x.1,x.2)
 | .a1 b off,x=>(.a1 (g b).1 (g b).2 off,x)
 | .an b,x=>(.an (g b).1 (g b).2,x)
 | .sub b,x=>(.sub (g b).1 (g b).2 x.1.1 x.1.2,x.2)
 | .fb b,x=>(.fb (g b).1 (g b).2,x)
 | .j0 b,x=>(.j0 (g b).1 (g b).2,x)
 | .df,x=>(.df,x)
 | .iu k fP,x=>(.iu k fP.length (u1 g fP),x)
 | .aW aN,x=>(.aW x.1.1 aN x.1.2.1 x.1.2.2.1 x.1.2.2.2,x.2)
 | .g_,x=>(.g_ x.1,x.2)
 | .hD bs,x=>(.agg bs.length (u2 g bs),x)
 | .iP b,x=>(.iP (g b).1 (g b).2 x.1,x.2)
def pd (g:Nat->Nat×Nat):(l:List bX)->{R:Type}->p9 l R->List aI×R
 | [],_,x=>([],x)
 | t::l,_,x=>let (a,y):=t.av g x;let (as,z):=pd g l y;(a::as,z)
def b4.body (g:Nat->Nat×Nat) (t:b4) {R:Type} (x:t.cons R):bQ×R:=
 match t,x with
 | .cells t l,x=>let (as,y):=pd g l x;(.cells t (hb as),y)
 | .bj e,x=>(.bj e x.1,x.2)
 | .hA e,x=>(.hA e x.1,x.2)
 | .mp k v,x=>(.mp k v x.1,x.2)
 | .iQ k v,x=>(.iQ k v x.1,x.2)
 | .fV t,x=>(.cells t (hb (nB t x.1)),x.2)
 | .gD t,x=>(.gD t x.1,x.2)
 | .cq k v,x=>(.cq k v x.1.1 x.1.2,x.2)
 | .f' e t,x=>let (a,y):=t.av g x.2;(.f' e x.1.1 x.1.2 a,y)
def eA (g:Nat->Nat×Nat):(l:List (Nat×bX))->{R:Type}->oo l R->List (Nat×aI)×R
 | [],_,x=>([],x)
 | p::l,_,x=>let (a,y):=p.2.av g x;let (as,z):=eA g l y;((p.1,a)::as,z)
def hg (g:Nat->Nat×Nat):(l:List (Nat×b4))->pc l->List (Nat×bQ)
 | [],_=>[]
 | p::l,x=>let (a,y):=p.2.body g x;(p.1,a)::hg g l y
def fo:List (Nat×aI)->Nat->aI
 | [],_=>.undef
 | p::l,i=>if i=p.1 then p.2 else fo l i
def eO:List (Nat×bQ)->Nat->bL
 | [],_=>⟨0,.fw⟩
 | p::l,i=>if i=p.1 then ⟨0,p.2⟩ else eO l i
def Sj (aei:List (Nat×aI)) (bs:List (Nat×bQ)):aB:=⟨fo aei,eO bs⟩
def c7 (b:Nat):Nat×Nat:=(b,0)
def dH.st (sh:dH) (D:sh.ai):aB:=
 Sj (eA c7 sh.bT D).1 (hg c7 sh.bE (eA c7 sh.bT D).2)
def w2 (H:Nat->bL) (t:ad) (av:aI) {R:Type} (r:Option (R×List Nat)):Option ((t.ai×R)×List Nat):=
 match (dA t av).run H with
 | some (x,l)=>match r with
  | some (y,m)=>some ((x,y),l++m)
  | none=>none
 | none=>none
def KI (t:ad) (av:aI) {R:Type} (r:Option (R×List Nat)):Option ((t.ai×R)×List Nat):=
 match av with
 | .dW cU x=>match r with
  | some (y,m)=>if h:cU=t then some ((h ▸ x,y),m) else none
  | none=>none
 | _=>none
def KJ (H:Nat->bL) (b:Nat) (av:aI) {R:Type} (r:Option (R×List Nat)):Option (((Nat×Nat)×R)×List Nat):=
 match r with
 | some (y,m)=>match av with
  | .an bf g=>if (bf == b&&g == (H b).gen&&(H b).body.fc)=true then some (((0,(H b).body.len),y),m) else none
  | .sub bf g aZ M=>if (bf == b&&g == (H b).gen)=true then some (((aZ,M),y),m) else none
  | _=>none
 | none=>none
def KK (aN:ad) (av:aI) {R:Type} (r:Option (R×List Nat)):Option (((Nat×(List aN.ai->Prop)×List aN.ai×Bool)×R)×List Nat):=
 match av with
 | .aW l kv L n st=>match r with
  | some (y,m)=>if h:kv=aN then some (((l,h ▸ L,h ▸ n,st),y),m) else none
  | none=>none
 | _=>none
def KL (av:aI) {R:Type} (r:Option (R×List Nat)):Option ((Nat×R)×List Nat):=
 match av with
 | .g_ l=>match r with
  | some (y,m)=>some ((l,y),m)
  | none=>none
 | _=>none
def KM (H:Nat->bL) (b:Nat) (av:aI) {R:Type} (r:Option (R×List Nat)):Option ((Nat×R)×List Nat):=
 match av with
 | .iP bf g i=>match r with
  | some (y,m)=>if (bf == b&&g == (H b).gen)=true then some ((i,y),m) else none
  | none=>none
 | _=>none
def Fz (H:Nat->bL) (b off:Nat) (av:aI):Bool:=
 match av with
 | .a1 bf g aej=>bf == b&&aej == off&&g == (H b).gen
 | _=>false
def FA (H:Nat->bL) (b:Nat) (av:aI):Bool:=
 match av with
 | .an bf g=>bf == b&&g == (H b).gen
 | _=>false
def KN (H:Nat->bL) (b:Nat) (av:aI):Bool:=
 match av with
 | .fb bf g=>bf == b&&g == (H b).gen
 | _=>false
def KO (H:Nat->bL) (b:Nat) (av:aI):Bool:=
 match av with
 | .j0 bf g=>bf == b&&g == (H b).gen
 | _=>false
def KP (av:aI):Bool:=
 match av with
 | .df=>true
 | _=>false
def KQ (H:Nat->bL) (f:Nat->Nat) (k:FuncId) (fP:z8') (av:aI):Bool:=
 match av with
 | .iu k' n cW=>k' == k&&n == fP.length&&(List.range n).all λi=>match fP[i]? with
  | some p=>Fz H (f p.1) p.2 (cW i)
  | none=>false
 | _=>false
def KR (H:Nat->bL) (f:Nat->Nat) (bs:List Nat) (av:aI):Bool:=
 match av with
 | .agg n h=>n == bs.length&&(List.range n).all λi=>match bs[i]? with
  | some b=>FA H (f b) (h i)
  | none=>false
 | _=>false
def u3 {al:Type} (b:Bool) (r:Option al):Option al:=match b with | true=>r | false=>none
def bX.iX (H:Nat->bL) (f:Nat->Nat) (t:bX) (av:aI) {R:Type} (r:Option (R×List Nat)):Option (t.cons R×List Nat):=
 match t with
 | .undef=>r
 | .val t=>w2 H t av r
 | .dW t=>KI t av r
 | .a1 b off=>u3 (Fz H (f b) off av) r
 | .an b=>u3 (FA H (f b) av) r
 | .sub b=>KJ H (f b) av r
 | .fb b=>u3 (KN H (f b) av) r
 | .j0 b=>u3 (KO H (f b) av) r
 | .df=>u3 (KP av) r
 | .iu k fP=>u3 (KQ H f k fP av) r
 | .aW aN=>KK aN av r
 | .g_=>KL av r
 | .hD bs=>u3 (KR H f bs av) r
 | .iP b=>KM H (f b) av r
def zj (H:Nat->bL) (f:Nat->Nat):(l:List bX)->(Nat->aI)->Nat->{R:Type}->Option (R×List Nat)->Option (p9 l R×List Nat)
 | [],_,_,_,r=>r
 | t::l,c,i,_,r=>t.iX H f (c i) (zj H f l c (i+1) r)
def KS (H:Nat->bL) (f:Nat->Nat) (t:ad) (l:List bX) (b:bQ) {R:Type} (r:Option (R×List Nat)):Option (p9 l R×List Nat):=
 match b with
 | .cells cU c=>if cU=t/\t.size=l.length then zj H f l c 0 r else none
 | _=>none
def KT (e:ad) (b:bQ) {R:Type} (r:Option (R×List Nat)):Option ((List e.ai×R)×List Nat):=
 match b with
 | .bj a8 xs=>match r with
  | some (y,m)=>if h:a8=e then some ((h ▸ xs,y),m) else none
  | none=>none
 | _=>none
def KU (k v:ad) (b:bQ) {R:Type} (r:Option (R×List Nat)):Option ((List (k.ai×v.ai)×R)×List Nat):=
 match b with
 | .mp k' h2 es=>match r with
  | some (y,m)=>if h:k'=k/\h2=v then some ((h.1 ▸ h.2 ▸ es,y),m) else none
  | none=>none
 | _=>none
def KV (k v:ad) (b:bQ) {R:Type} (r:Option (R×List Nat)):Option (((Option (k.ai×v.ai)×List (k.ai×v.ai))×R)×List Nat):=
 match b with
 | .cq k' h2 c es=>match r with
  | some (y,m)=>if h:k'=k/\h2=v then some (((h.1 ▸ h.2 ▸ c,h.1 ▸ h.2 ▸ es),y),m) else none
  | none=>none
 | _=>none
def KW (H:Nat->bL) (f:Nat->Nat) (e:ad) (t:bX) (b:bQ) {R:Type} (r:Option (R×List Nat)):Option (((List e.ai×Nat)×t.cons R)×List Nat):=
 match b with
 | .f' a8 xs i v=>match t.iX H f v r with
  | some (y,m)=>if h:a8=e then some (((h ▸ xs,i),y),m) else none
  | none=>none
 | _=>none
def KX (H:Nat->bL) (t:ad) (b:bQ) {R:Type} (r:Option (R×List Nat)):Option ((t.ai×R)×List Nat):=
 match b with
 | .cells cU f=>if cU=t then w2 H t (.agg t.size f) r else none
 | _=>none
def KY (H:Nat->bL) (t:ad) (b:Nat) {R:Type} (r:Option (R×List Nat)):Option ((t.ai×R)×List Nat):=
 match (dA (.bI t) (.a1 b (H b).gen 0)).run H with
 | some (some x,l)=>match r with
  | some (y,m)=>some ((x,y),l++m)
  | none=>none
 | _=>none
def b4.iX (H:Nat->bL) (f:Nat->Nat) (t:b4) (b:Nat) {R:Type} (r:Option (R×List Nat)):Option (t.cons R×List Nat):=
 match t with
 | .cells t l=>KS H f t l (H b).body r
 | .bj e=>KT e (H b).body r
 | .hA e=>w2 H (.slice e) (.an b (H b).gen) r
 | .mp k v=>KU k v (H b).body r
 | .iQ k v=>w2 H (.map k v) (.fb b (H b).gen) r
 | .fV t=>KX H t (H b).body r
 | .gD t=>KY H t b r
 | .cq k v=>KV k v (H b).body r
 | .f' e t=>KW H f e t (H b).body r
def w3 (H:Nat->bL) (f:Nat->Nat):(l:List (Nat×b4))->Option (pc l×List Nat)
 | []=>some ((),[])
 | p::l=>p.2.iX H f (f p.1) (w3 H f l)
def w4 (H:Nat->bL) (f:Nat->Nat):(l:List (Nat×bX))->(Nat->aI)->{R:Type}->Option (R×List Nat)->Option (oo l R×List Nat)
 | [],_,_,r=>r
 | p::l,c,_,r=>p.2.iX H f (c p.1) (w4 H f l c r)
def dH.oq (sh:dH):List Nat:=sh.bE.filterMap λp=>if p.2.Ci then some p.1 else none
def dH.zk (sh:dH) (f:Nat->Nat) (s:aB):Option (sh.ai×List Nat):=
 match w4 s.ab f sh.bT s.az (w3 s.ab f sh.bE) with
 | some (D,bW)=>if sh.oq.all (λb=>!bW.contains (f b))=true then some (D,bW) else none
 | none=>none
def KZ:List (Nat×b4)->Nat->Option b4
 | [],_=>none
 | p::l,b=>if b=p.1 then some p.2 else KZ l b
def K1 (s:aB) (i b bf g':Nat):aB:=
 match decide (bf≠b/\g'=(s.ab bf).gen),(s.ab bf).body with
 | true,.bj e xs=>⟨λj=>if j=i then .an b ((s.ab b).gen+1) else s.az j,λj=>if j=b then ⟨(s.ab b).gen+1,.bj e xs⟩ else if j=bf then ⟨(s.ab bf).gen+1,.fw⟩ else s.ab j⟩
 | _,_=>s
def K2 (bs:List (Nat×b4)) (s:aB) (i b:Nat):aB:=
 match s.az i,KZ bs b with
 | .df,some (.bj e)=>⟨λj=>if j=i then .an b ((s.ab b).gen+1) else s.az j,(s.cw b ⟨(s.ab b).gen+1,.bj e []⟩).ab⟩
 | .an bf g',some (.bj _)=>K1 s i b bf g'
 | _,_=>s
def K3 (bs:List (Nat×b4)) (s:aB) (c j b:Nat):aB:=
 match (s.ab c).body with
 | .cells t f=>match f j,(s.ab b).body,KZ bs b with
  | .df,.fw,some (.bj e)=>(s.cw b ⟨(s.ab b).gen+1,.bj e []⟩).cw c ⟨(s.ab c).gen,.cells t λq=>if q=j then .an b ((s.ab b).gen+1) else f q⟩
  | _,_,_=>s
 | _=>s
def FB (bs:List (Nat×b4)):List (Nat×bX)->aB->aB
 | [],s=>s
 | p::l,s=>FB bs l (match p.2 with | .an b=>K2 bs s p.1 b | _=>s)
def FC (bs:List (Nat×b4)) (c:Nat):List bX->Nat->aB->aB
 | [],_,s=>s
 | t::l,j,s=>FC bs c l (j+1) (match t with | .an b=>K3 bs s c j b | _=>s)
def FD (bs:List (Nat×b4)):List (Nat×b4)->aB->aB
 | [],s=>s
 | p::l,s=>FD bs l (match p.2 with | .cells _ ts=>FC bs p.1 ts 0 s | _=>s)
def dH.FE (sh:dH) (s:aB):aB:=FD sh.bE sh.bE (FB sh.bE sh.bT s)
def b4.Sk:b4->Bool
 | .bj _ | .hA _ | .f' _ _=>true
 | _=>false
def dH.FF (sh:dH) (s:aB):Bool:=sh.bE.all λp=>!(decide (wA<=p.1)&&p.2.Sk)||decide ((s.ab p.1).gen=0)
def dH.iX (sh:dH) (s:aB):Option (sh.ai):=
 match sh.FF (sh.FE s) with
 | true=>(sh.zk (λb=>b) (sh.FE s)).map (·.1)
 | false=>none
def dH.mR {β:Type} (sh:dH) (s:aB) (k:sh.ai->A β):A β:=
 match sh.iX s with
 | some D=>k D
 | none=>A.fail
def bX.w5 (t:bX) {R:Type} (r:R):t.cons R:=
 match t with
 | .val t=>(t.db,r)
 | .dW t=>(t.db,r)
 | .sub _=>((0,0),r)
 | .aW _=>((0,λ_=>False,[],false),r)
 | .g_=>(0,r)
 | .iP _=>(0,r)
 | .undef | .a1 _ _ | .an _ | .fb _ | .j0 _ | .df | .iu _ _ | .hD _=>r
def Sl:(l:List bX)->{R:Type}->R->p9 l R
 | [],_,r=>r
 | t::l,_,r=>t.w5 (Sl l r)
def b4.w5 (t:b4) {R:Type} (r:R):t.cons R:=
 match t with
 | .cells _ l=>Sl l r
 | .bj _=>([],r)
 | .hA _=>([],r)
 | .mp _ _=>([],r)
 | .iQ _ _=>([],r)
 | .fV t=>(t.db,r)
 | .gD t=>(t.db,r)
 | .cq _ _=>((none,[]),r)
 | .f' _ t=>(([],0),t.w5 r)
def Sm:(l:List (Nat×b4))->pc l
 | []=>()
 | p::l=>p.2.w5 (Sm l)
def Sn:(l:List (Nat×bX))->{R:Type}->R->oo l R
 | [],_,r=>r
 | p::l,_,r=>p.2.w5 (Sn l r)
def dH.w5 (sh:dH):sh.ai:=Sn sh.bT (Sm sh.bE)
structure hE where
 ts:ad
 aW:ad
 sh:ts.ai->A aW.ai
 dR:Bool
def aO.du (c:aO):hE:=⟨c.ts,c.aW,c.sh,true⟩
def A.Cj {al:Type} (m:A al):Prop:=∀ x y,m.bR x->m.bR y->x=y
open Classical in
def A.val {al:Type} (m:A al) (d:al):al:=if h:∃ x,m.bR x then h.choose else d
def hE.FG (c:hE):aO:=⟨c.ts,c.aW,λx=>(c.sh x).cr,λx=>(c.sh x).val c.aW.db⟩
structure cG where
 ck:dH
 bR:dH
 kx:z9'
 ka:Nat
 sh:ck.ai->A bR.ai
structure zl where
 ts:ad
 aN:ad
 pre:ts.ai->Prop
 seq:ts.ai->List aN.ai
inductive e1 where
 | du (c:hE)
 | e7 (c:cG)
 | cq (c:zl)
 | K4 (c:hE)
 | FH (c:cG) (sh:Nat->c.ck.ai->A c.bR.ai) (ids:List Nat)
 | ky (c:aO)
def FI (bg:Nat->Option aO) (Ψ:Nat->Option e1) (k:Nat):Option aO:=
 match Ψ k with
 | some (.du c)=>match c.dR&&!nD c.aW with
  | true=>some c.FG
  | false=>none
 | some (.ky c)=>some c
 | some _=>none
 | none=>bg k
def K5 (bg:Nat->Option aO) (Ψ:Nat->Option e1) (k:Nat):Option hE:=
 match Ψ k with
 | some (.du c)=>some c
 | some _=>none
 | none=>(bg k).bind λc=>if nD c.aW=true then none else some c.du
structure hS where
 al:Type
 d:al
 b9:Prop
 m:A al
 st:al->aB
 Ck:Option (Bool->al->aB)
def qX (s:aB) (o:Oper) (aW:ad) (bW:List Nat) (v:aI):aB:=(if aW.pure then s else s.cy bW).set o.dst v
def Cl (aR:dE) (s:aB) (o:Oper) (args:List Operand) (du:hE):Option hS:=
 match (iS du.ts ((args.map (a_ aR s.az)).map λv=>(use v).2)).run s.ab with
 | some (x,bW)=>some ⟨du.aW.ai,du.aW.db,jE (args.map (a_ aR s.az)),du.sh x,λy=>qX s o du.aW bW (qI du.aW y),some λg y=>qX s o du.aW bW (.hz g (qI du.aW y))⟩
 | none=>none
def FJ (aR:dE) (s:aB) (o:Oper) (args:List Operand) (du:hE):Option hS:=
 match (iS du.ts ((args.map (a_ aR s.az)).map λv=>(use v).2)).run s.ab with
 | some (x,_)=>some ⟨du.aW.ai,du.aW.db,jE (args.map (a_ aR s.az)),du.sh x,λy=>s.set o.dst (qI du.aW y),none⟩
 | none=>none
def Cm (aR:dE) (s:aB) (o:Oper) (t:Nat) (args:List Operand):Option hS:=
 match use (s.az t) with
 | (b9,.val (.fn a b) f)=>match (iS a ((args.map (a_ aR s.az)).map λv=>(use v).2)).run s.ab with
  | some (x,bW)=>some ⟨b.ai,b.db,b9/\jE (args.map (a_ aR s.az)),f x,λy=>qX s o b bW (qI b y),some λg y=>qX s o b bW (.hz g (qI b y))⟩
  | none=>none
 | _=>none
def Sp (t:bX) (av:aI):z8':=
 match t,av with
 | .a1 bf _,.a1 b _ _=>[(bf,b)]
 | .an bf,.an b _=>[(bf,b)]
 | .sub bf,.an b _=>[(bf,b)]
 | .sub bf,.sub b _ _ _=>[(bf,b)]
 | .fb bf,.fb b _=>[(bf,b)]
 | .j0 bf,.j0 b _=>[(bf,b)]
 | .iu _ fP,.iu _ _ cW=>(List.range fP.length).filterMap λi=>match fP[i]?,cW i with
  | some p,.a1 b _ _=>some (p.1,b)
  | _,_=>none
 | _,_=>[]
def Sq:List bX->(Nat->aI)->Nat->z8'
 | [],_,_=>[]
 | t::l,c,i=>Sp t (c i)++Sq l c (i+1)
def K6:z8'->Nat->Option Nat
 | [],_=>none
 | p::l,b=>if b=p.1 then some p.2 else K6 l b
def Sr (H:Nat->bL):List (Nat×b4)->z8'->z8'
 | [],m=>m
 | p::l,m=>Sr H l (m++match p.2,K6 m p.1 with
  | .cells _ ts,some b=>(match (H b).body with | .cells _ c=>Sq ts c 0 | _=>[])
  | _,_=>[])
def aek (sh:dH) (s:aB):z8':=Sr s.ab sh.bE (sh.bT.flatMap λp=>Sp p.2 (s.az p.1))
def r2 (s:aB) (avs:List aI):aB:=⟨λi=>if i=b5 then s.az b5 else if i<avs.length then avs.getD i .undef else .undef,s.ab⟩
def mS:Nat:=99999
def r3 (s:aB) (d:Nat) (f:Nat->Nat) (ins:List Nat):List (Nat×b4)->Nat->z6'
 | [],_=>[]
 | p::l,j=>(if ins.contains p.1 then (p.1,(f p.1,match p.2 with
   | .cells _ _ | .fV _ | .mp _ _ | .gD _ | .iQ _ _=>(s.ab (f p.1)).gen
   | .bj _=>if wA<=p.1 then (s.ab (f p.1)).gen else (s.ab (f p.1)).gen+1
   | _=>(s.ab (f p.1)).gen+1)) else (p.1,(50000+10*d+j,(s.ab (50000+10*d+j)).gen+1)))::r3 s d f ins l (j+1)
def hT:z6'->Nat->Nat×Nat
 | [],_=>(mS,0)
 | p::l,b=>if b=p.1 then p.2 else hT l b
def pe:z9'->(Nat->aI)->Nat->List aI
 | [],_,_=>[]
 | none::l,c,i=>c i::pe l c (i+1)
 | some n::l,c,i=>.agg n (λj=>c (i+j))::pe l c (i+n)
def K7 (l:List aI):aI:=
 match l with
 | [v]=>v
 | l=>.pW l.length (hb l)
def w6 (s:aB) (c:cG) (f:Nat->Nat) (cc:z6') (bn:c.bR.ai):aB:=
 ⟨λi=>if i=b5 then (if c.bR.bT.any (λp=>p.1 == b5) then fo (eA (hT cc) c.bR.bT bn).1 b5 else if c.ck.bT.any (λp=>p.1 == b5) then .undef else s.az b5) else s.az i,λb=>match cc.find? (λp=>p.2.1 == b) with
  | some p=>⟨p.2.2,(eO (hg (hT cc) c.bR.bE (eA (hT cc) c.bR.bT bn).2) p.1).body⟩
  | none=>if (c.ck.oq.map f).contains b then ⟨(s.ab b).gen+1,.fw⟩ else s.ab b⟩
def ael (s:aB) (o:Oper) (c:cG) (f:Nat->Nat) (cc:z6') (bn:c.bR.ai):aB:=
 aB.set (w6 s c f cc bn) o.dst (K7 (pe c.kx (fo (eA (hT cc) c.bR.bT bn).1) 0))
def FK (l:List Nat):Bool:=decide l.Nodup
def Cn (c:cG) (f:Nat->Nat) (dO:aB) (cc:z6') (d n:Nat):Bool:=
  decide (d < 4000) && decide (c.bR.bE.length <= 10) && FK (c.ck.bE.map (·.1)) && FK (c.ck.bE.map λp => f p.1) && FK (cc.map (·.1)) && FK (cc.map (·.2.1)) && (c.ck.bE.map (·.1)).all (λb => decide (eP <= b))
        &&!(cc.map (·.2.1)).contains mS&&(match (dO.ab mS).body with | .fw=>true | _=>false)&&c.bR.bE.all (λp=>c.ck.bE.all λq=>!(p.1 == q.1&&q.2.Ci)||p.2.Fy q.2)&&(decide (n=c.ka)&&decide (n<=eP))
def qY (aR:dE) (s:aB) (args:List Operand):List aI:=(args.map (a_ aR s.az)).map λv=>(use v).2
def qZ (c:cG) (eE:aB) (b:Nat):Nat:=(K6 (aek c.ck eE) b).getD mS
def w7 (aR:dE) (s:aB) (o:Oper) (args:List Operand) (c:cG):Option hS:=
 match c.ck.zk (qZ c (r2 s (qY aR s args))) (r2 s (qY aR s args)) with
 | some (D,bW)=>match Cn c (qZ c (r2 s (qY aR s args))) (s.cy bW) (r3 (s.cy bW) (o.dst.getD 0) (qZ c (r2 s (qY aR s args))) c.ck.oq c.bR.bE 0) (o.dst.getD 0) args.length with
  | true=>some ⟨c.bR.ai,c.bR.w5,jE (args.map (a_ aR s.az)),c.sh D,λbn=>ael (s.cy bW) o c (qZ c (r2 s (qY aR s args))) (r3 (s.cy bW) (o.dst.getD 0) (qZ c (r2 s (qY aR s args))) c.ck.oq c.bR.bE 0) bn,none⟩
  | false=>none
 | none=>none
def Ss:Nat:=999999
def St (c:cG) (sh:Nat->c.ck.ai->A c.bR.ai) (ids:List Nat) (n:Option Nat):cG:={ c with sh:=λD=>A.ae (∃ k∈ids,n=some k) (sh (n.getD 0) D) }
def FL (aR:dE) (Ψ:Nat->Option e1) (s:aB) (o:Oper) (t:Nat) (args:List Operand):Option hS:=
 match s.az t with
 | .val .ej n=>match Ψ Ss with
  | some (.FH c sh ids)=>w7 aR s o args (St c sh ids n)
  | _=>none
 | _=>none
def FM (aR:dE) (s:aB) (o:Oper) (t:Nat) (args:List Operand):Option hS:=
 match s.az t,s.az b5 with
 | .g_ dG,.aW l aN L n st=>match (iS aN ((args.map (a_ aR s.az)).map λv=>(use v).2)).run s.ab with
  | some (x,bW)=>some ⟨Bool,false,jE (args.map (a_ aR s.az)),A.ae (dG=l/\st=false/\∃ T,L (n++x::T)) (A.any λ_=>True),λb=>aB.set ⟨λi=>if i=b5 then .aW l aN L (n++[x]) (!b) else s.az i,(s.cy bW).ab⟩ o.dst (.val .bool b),none⟩
  | none=>none
 | _,_=>none
def FN (aR:dE) (T:Nat->ad) (s:aB) (o:Oper) (ty:TypeId) (x:Operand):Option hS:=
 match T ty,o.dst with
 | .map k v,some d=>match use (a_ aR s.az x) with
  | (b9,av)=>match (dA (.map k v) av).run s.ab with
   | some (es,bW)=>if bW.contains d then none else
    some ⟨Unit,(),b9,A.pure (),λ_=>((s.cy bW).cw d ⟨(s.ab d).gen+1,.cq k v none es⟩).set o.dst (.j0 d ((s.ab d).gen+1)),none⟩
   | none=>none
 | _,_=>none
def FO {al:Type} (l:List al):A (Option Nat):=⟨True,λx=>match x with | none=>l=[] | some i=>i<l.length⟩
def Su (i:Option Nat):Nat:=match i with | none=>0 | some _=>2
def nL {al:Type} (c:Option al) (cm:List al) (i:Option Nat):Option al:=match i with | none=>c | some i=>cm[i]?
def Co {al:Type} (cm:List al) (i:Option Nat):List al:=match i with | none=>cm | some i=>cm.eraseIdx i
def FP (aR:dE) (s:aB) (o:Oper) (x:Operand) (str:Bool):Option hS:=
 match str,a_ aR s.az x with
 | false,.j0 b g=>if (s.ab b).gen=g then (match (s.ab b).body with
  | .cq k v c cm=>some ⟨Option Nat,none,True,FO cm,λi=>(s.cw b ⟨g,.cq k v (nL c cm i) (Co cm i)⟩).set o.dst (.pW (Nat.succ (Su i)) (hb [.val .bool i.isSome])),none⟩
  | _=>none) else none
 | _,_=>none
def FQ (aR:dE) (s:aB) (o:Oper) (x:Operand):Option hS:=
 match a_ aR s.az x with
 | .j0 b g=>if (s.ab b).gen=g then (match (s.ab b).body with
  | .cq k v c _=>some ⟨Unit,(),True,A.ae (c.isSome=true) (A.pure ()),λ_=>s.set o.dst (.pW 2 (hb [.val k ((c.map (·.1)).getD k.db),.val v ((c.map (·.2)).getD v.db)])),none⟩
  | _=>none) else none
 | _=>none
def Cp (aR:dE) (T:Nat->ad) (s:aB) (o:Oper) (op:BinOp) (ty:TypeId) (x y:Operand):Option hS:=
 match T ty,a_ aR s.az y with
 | .slice e,.df=>match (dA (.slice e) (use (a_ aR s.az x)).2).run s.ab with
  | some (xs,_)=>match op with
   | .eql=>some ⟨Bool,false,(use (a_ aR s.az x)).1,A.any λb=>b=true->xs=[],λb=>s.set o.dst (.val .bool b),none⟩
   | .neq=>some ⟨Bool,false,(use (a_ aR s.az x)).1,A.any λb=>b=true->xs=[],λb=>s.set o.dst (.val .bool (!b)),none⟩
   | _=>none
  | none=>none
 | _,_=>none
def q0 (aR:dE) (T:Nat->ad) (bg:Nat->Option aO) (Ψ:Nat->Option e1) (s:aB) (o:Oper):Option hS:=
 match o.op with
 | .call c=>match c.callee with
  | .value f=>match f with
   | .func k=>match Ψ k with
    | some (.e7 c')=>w7 aR s o c.args.toList c'
    | some (.K4 c')=>FJ aR s o c.args.toList c'
    | _=>match K5 bg Ψ k with
     | some du=>Cl aR s o c.args.toList du
     | none=>none
   | .tmp t=>match Cm aR s o t c.args.toList with
    | some r=>some r
    | none=>match FL aR Ψ s o t c.args.toList with
     | some r=>some r
     | none=>FM aR s o t c.args.toList
   | _=>none
  | _=>none
 | .range ty x=>FN aR T s o ty x
 | .next x str=>FP aR s o x str
 | .entry x=>FQ aR s o x
 | .binOp op ty x y _=>Cp aR T s o op ty x y
 | _=>none
def cg {al:Type} (g:Bool) (m:A al) (d:al):A al:=if g=true then m else A.pure d
def r4 {β:Type} (b:Bool) (p:Prop) (m:A β):A β:=match b with | true=>m | false=>A.ae p m
def Cq (o:Oper) (e4:aI) (l:List (Nat×bL)):Option (List (Nat×bL)×aI):=
 match l with
 | []=>some ([],e4)
 | p::dG=>match o.op with
  | .makeFunc ..=>some (p::dG,e4)
  | .buildSlice _ n _=>match dG,e4,p.2.body with
   | [],.an bf g',.bj e xs=>if (bf=p.1/\g'=p.2.gen)/\n≠0 then some ([(p.1,⟨p.2.gen,.fw⟩)],.val (.slice e) xs) else none
   | _,_,_=>none
  | _=>none
def Sv (hB:List (Nat×bL)) (e4:aI):aI:=
 match e4 with
 | .an b _=>match hB.find? (λp=>p.1 == b) with
  | some (_,⟨_,.bj e xs⟩)=>.val (.slice e) xs
  | _=>e4
 | _=>e4
abbrev pf:=List (Nat×(Nat×Bool))
def r5 (ops:Array Oper) (j d:Nat):Bool:=match ops[j]? with | some o=>(match o.dst with | some e=>e == d | none=>false) | none=>false
def aem (tg:pf) (t:Nat) (k:Nat×Bool):Bool:=tg.any λp=>p.1 == t&&(p.2.1 == k.1&&p.2.2 == k.2)
def w8 (ops:Array Oper) (tg:pf) (o:Oper):pf:=
 match o.dst with
 | none=>tg
 | some d=>match o.guard with
  | some k=>if r5 ops k.1 d=true then tg.filter λp=>p.1 != d&&!r5 ops p.2.1 d else (d,k)::tg.filter λp=>p.1 != d&&!r5 ops p.2.1 d
  | none=>tg.filter λp=>p.1 != d&&!r5 ops p.2.1 d
def w9 (aK:Operand->aI) (tg:pf) (gk:Option (Nat×Bool)) (x:Operand):Bool:=
 !(aK x).zd||(match x,gk with | .tmp t,some k=>aem tg t k | _,_=>false)
def FR (ops:Array Oper) (tg:pf) (c x:Operand) (want:Bool):Bool:=
 match c,x with
 | .tmp c,.tmp t=>tg.any λp=>p.1 == t&&(r5 ops p.2.1 c&&p.2.2 == want)
 | _,_=>false
def K8 (aK:Operand->aI) (tg:pf) (gk:Option (Nat×Bool)) (o:Oper):Bool:=o.op.operands.toList.all (w9 aK tg gk)
def zm (aK:Operand->aI) (ops:Array Oper) (tg:pf) (gk:Option (Nat×Bool)) (o:Oper):Bool:=
 match o.op with
 | .pick c a b=>w9 aK tg gk c&&((w9 aK tg gk a||FR ops tg c a true)&&(w9 aK tg gk b||FR ops tg c b false))
 | _=>K8 aK tg gk o
def K9 (aK:Operand->aI) (tg:pf) (gk:Option (Nat×Bool)) (o:Oper) (e4:aI):Bool:=
 !e4.zd||(match o.op with | .move x=>w9 aK tg gk x | _=>false)
def h8:Operand->Option Nat
 | .tmp t=>some t
 | _=>none
def zn (o gw kN:Oper):Option (Oper×Nat×Nat):=
 match o.op with
 | .mapEntry ty m x=>match gw.op with
  | .extract e 1=>match kN.op with
   | .entryStore mG dw a8 y=>match o.dst,gw.dst,kN.dst with
    | some d1,some d2,none=>if h8 e=some d1/\h8 a8=some d2/\mG=ty/\(h8 dw).isSome=true/\h8 dw=h8 m/\(h8 y).isSome=true/\h8 m≠some d1/\h8 m≠some d2/\h8 y≠some d1/\h8 y≠some d2/\o.guard.isNone=true/\gw.guard.isNone=true/\kN.guard.isNone=true
     then some ({ kN with op:=.mapUpdate ty m x y },d1,d2) else none
    | _,_,_=>none
   | _=>none
  | _=>none
 | _=>none
def zo (o:Oper) (os:List Oper):Option (Oper×Nat×Nat):=
 match os with
 | gw::kN::_=>zn o gw kN
 | _=>none
def FT {β:Type}:Nat->Int->(Nat->A β)->A β
 | 0,_,_=>A.fail
 | 1,_,k=>k 0
 | n+2,v,k=>if v=((n+1:Nat):Int) then k (n+1) else FT (n+1) v k
theorem Sw {β:Type} {O:β->Prop} {k:Nat->A β} {v:Int}:∀ {n:Nat},A.cv (FT n v k) O->0<=v->v<(n:Int)->A.cv (k v.toNat) O
 | 0,h,_,_=>h.1.elim
 | 1,h,aY,G=>by
  have:v.toNat=0:=by omega
  rw [this];exact h
 | n+2,h,aY,G=>by
  unfold FT at h;split at h
  ·grind
  ·exact Sw h aY (by omega)
def me {β:Type} (aR:dE) (T:Nat->ad) (bg:Nat->Option aO) (Ψ:Nat->Option e1) (ops:Array Oper):List Oper->pf->aB->(aB->A β)->A β
 | [],_,s,k=>k s
 | o::os,tg,s,k=>
  match zo o os with
  | some (kc,d1,d2)=>match os with
   | _::_::aen=>match (bt aR T bg (a_ aR s.az) kc).run s.ab with
    | some res=>A.ae res.b9 (A.ae res.c (me aR T bg Ψ ops aen [] (((s.h5 none res).set (some d1) .undef).set (some d2) .undef) k))
    | none=>A.fail
   | _=>A.fail
  | none=>
  match kt s.az ops o.guard with
  | none=>A.fail
  | some none=>match (bt aR T bg (a_ aR s.az) o).run s.ab with
   | some res=>r4 (zm (a_ aR s.az) ops tg none o) res.b9 (r4 (mP (a_ aR s.az) o) res.c (me aR T bg Ψ ops os (w8 ops tg o) (s.h5 o.dst res) k))
   | none=>match q0 aR T bg Ψ s o with
    | some b'=>r4 (r1 (a_ aR s.az) o) b'.b9 (A.bind b'.m λy=>me aR T bg Ψ ops os [] (b'.st y) k)
    | none=>A.fail
  | some (some g)=>match (bt aR T bg (a_ aR s.az) o).run s.ab with
   | some ⟨b9,c,e4,hB⟩=>match Cq o e4 hB with
    | some (w_,r6)=>r4 (zm (a_ aR s.az) ops tg o.guard o&&(mP (a_ aR s.az) o&&K9 (a_ aR s.az) tg o.guard o r6)) (g=true->b9/\(c/\(use r6).1)) (me aR T bg Ψ ops os (w8 ops tg o) ((s.fU w_).set o.dst (.hz g (use r6).2)) k)
    | none=>if g=true then A.ae b9 (A.ae c (me aR T bg Ψ ops os [] (s.h5 o.dst ⟨b9,c,e4,hB⟩) k)) else me aR T bg Ψ ops os [] (s.set o.dst (.hz false (Sv hB (use e4).2))) k
   | none=>match q0 aR T bg Ψ s o with
    | some b'=>match b'.Ck with
     | some gs=>r4 (K8 (a_ aR s.az) tg o.guard o) (g=true->b'.b9) (A.bind (cg g b'.m b'.d) λy=>me aR T bg Ψ ops os (w8 ops tg o) (gs g y) k)
     | none=>if g=true then A.ae b'.b9 (A.bind b'.m λy=>me aR T bg Ψ ops os [] (b'.st y) k) else me aR T bg Ψ ops os [] (s.set o.dst (.hz false (use ((b'.st b'.d).az (o.dst.getD 0))).2)) k
    | none=>A.fail
def Cr {β:Type}:List Prop->A β->A β
 | [],m=>m
 | p::l,m=>A.ae p (Cr l m)
def zp (cl:List (List Nat)):Nat->Nat
 | 0=>0
 | n+1=>if (List.range n).all (λi=>(cl.getD n []).contains i)=true then zp cl n else n+1
def K_ (gy ik hF iC lO:Oper):Bool:=
 match gy.op,ik.op,hF.op with
 | .lookup ty m x false,.binOp .add _ (.tmp t) (.const (.int k c)) _,.mapEntry mG dw dJ=>match gy.dst,ik.dst,zn hF iC lO with
  | some ed,some fD,some (_,d1,d2)=>decide (t=ed/\mG=ty/\fL k c/\h8 dw=h8 m/\h8 dJ=h8 x/\ed≠fD/\ed≠d1/\ed≠d2/\fD≠d1/\fD≠d2/\d1≠d2/\
    (h8 m).isSome=true/\(h8 x).isSome=true/\h8 m≠some ed/\h8 m≠some fD/\h8 m≠some d1/\h8 m≠some d2/\h8 x≠some ed/\h8 x≠some fD/\h8 x≠some d1/\h8 x≠some d2/\gy.guard.isNone=true/\ik.guard.isNone=true)
  | _,_,_=>false
 | _,_,_=>false
def FU (ops:List Oper):Bool:=
 match ops.drop (ops.length - 5) with
 | [gy,ik,hF,iC,lO]=>K_ gy ik hF iC lO&&(Cg ops&&((List.range 5).all λq=>(List.range (ops.length - 5)).all λi=>((ih ops).getD (ops.length - 5+q) []).contains i)&&
   ((ih ops).getD (ops.length - 5+1) []).contains (ops.length - 5)&&((ih ops).getD (ops.length - 5+3) []).contains (ops.length - 5+2)&&((List.range 4).all λq=>((ih ops).getD (ops.length - 5+4) []).contains (ops.length - 5+q))&&
   (h7 hF).all (λi=>decide (i<ops.length - 5))&&(h7 iC).all (λi=>decide (i<ops.length - 5)||decide (i=ops.length - 5+2)))
 | _=>false
def lP (ops:List Oper):Nat:=if FU ops=true then ops.length - 5 else zp (ih ops) ops.length
def A.aeo {al:Type} (l:List (A al)):A al:=⟨∀ m∈l,m.cr,λx=>∃ m∈l,m.bR x⟩
def u4 (ops:List Oper) (done:List Nat):List Nat:=(List.range ops.length).filter λi=>!done.contains i&&match ops[i]? with | some o=>(h7 o).all λj=>done.contains j | none=>false
def q1 (ops:List Oper):Nat->List Nat->List (List Nat)
 | 0,_=>[[]]
 | f+1,done=>match u4 ops done with
  | []=>[[]]
  | l=>l.flatMap λi=>(q1 ops f (i::done)).map (i::·)
def FV (ops:List Oper):Nat->List Nat->Bool
 | 0,done=>(u4 ops done).isEmpty
 | f+1,done=>(u4 ops done).all λi=>FV ops f (i::done)
def FW {β:Type} (aR:dE) (T:Nat->ad) (bg:Nat->Option aO) (Ψ:Nat->Option e1) (ops:Array Oper) (o:Oper) (s:aB) (k:aB->A β):A β:=
 match o.guard with
 | some _=>A.fail
 | none=>match (bt aR T bg (a_ aR s.az) o).run s.ab with
  | some res=>r4 (zm (a_ aR s.az) ops [] none o) res.b9 (r4 (mP (a_ aR s.az) o) res.c (k (s.h5 o.dst res)))
  | none=>match q0 aR T bg Ψ s o with
   | some b'=>r4 (r1 (a_ aR s.az) o) b'.b9 (A.bind b'.m λy=>k (b'.st y))
   | none=>A.fail
def zq {β:Type} (aR:dE) (T:Nat->ad) (bg:Nat->Option aO) (Ψ:Nat->Option e1) (ops:Array Oper):List Nat->aB->(aB->A β)->A β
 | [],s,k=>k s
 | i::b_,s,k=>match ops[i]? with
  | some o=>FW aR T bg Ψ ops o s λs'=>zq aR T bg Ψ ops b_ s' k
  | none=>A.fail
def Sx {β:Type} (aR:dE) (T:Nat->ad) (bg:Nat->Option aO) (Ψ:Nat->Option e1) (ops:Array Oper) (s:aB) (k:aB->A β):A β:=
 match FV ops.toList ops.size [] with
 | true=>A.aeo ((q1 ops.toList ops.size []).map λl=>zq aR T bg Ψ ops l s k)
 | false=>A.fail
def zr {β:Type} (aR:dE) (T:Nat->ad) (bg:Nat->Option aO) (Ψ:Nat->Option e1) (ops:Array Oper) (s:aB) (k:aB->A β):A β:=
 match wW aR T bg ops ops.toList s with
 | some (l,s')=>match zg ops.toList l with
  | true=>Cr (l.flatMap eN.cs) (k s')
  | false=>A.fail
 | none=>match wW aR T bg ops (ops.toList.take (lP ops.toList)) s with
  | some (l,s')=>match zg (ops.toList.take (lP ops.toList)) l&&Cg ops.toList with
   | true=>Cr (l.flatMap eN.cs) (me aR T bg Ψ ops (ops.toList.drop (lP ops.toList)) [] s' k)
   | false=>A.fail
  | none=>Sx aR T bg Ψ ops s k
def lb (ops:List Oper):List Oper:=
 match ops with
 | []=>[]
 | o::l=>o::l.map λp=>{ p with after:=p.after.push ⟨0,.phase⟩ }
def K' (ops:Array Oper):Bool:=
 match ops.toList with
 | []=>false
 | o::l=>(match o.op with | .move _=>true | _=>false)&&(o.guard.isNone&&(o.after.isEmpty&&(Region.noSelect ops&&l.all λp=>(h7 p).contains 0||o.apart ops p)))
inductive dq where
 | eM
 | seq (a b:dq)
 | join (sh:dH) (a b:dq)
 | cond (a b:dq)
 | block (a:dq)
 | loop (sh:dH) (a:dq)
 | scope (a:dq)
 | range (sh rin rout:dH) (a b:dq)
 | nM (a b:dq)
 | split (i off n:Nat) (a:dq)
 | num (i n:Nat) (a:dq)
 | mK (i:Nat) (a:dq)
 | Cs (b:Nat) (a:dq)
 | FX
def dq.ee:dq->Bool
 | .eM=>true
 | .seq a b=>a.ee&&b.ee
 | .join _ a b=>a.ee&&b.ee
 | .cond a b=>a.ee&&b.ee
 | .block a=>a.ee
 | .loop _ a=>a.ee
 | .scope a=>a.ee
 | .range ..=>false
 | .nM a b=>a.ee&&b.ee
 | .split _ _ _ a=>a.ee
 | .num _ _ a=>a.ee
 | .mK _ a=>a.ee
 | .Cs _ a=>a.ee
 | .FX=>false
def dq.ot:dq->Bool
 | .nM ..=>true
 | .eM=>true
 | _=>false
inductive dd where
 | normal
 | exit (id:Nat)
 | ret
def dd.pg:dd->Exit
 | .normal=>.normal
 | .exit id=>.exit id
 | .ret=>.ret
open A (W)
def Sy {β:Type} (k:dd->aB->A β) (f:aB->A β) (e:dd) (s:aB):A β:=
 match e with
 | .normal=>f s
 | .exit id=>k (.exit id) s
 | .ret=>k .ret s
def xa {D β:Type} (k:dd->aB->A β) (f:aB->A (W D β)) (e:dd) (s:aB):A (W D β):=
 match e with
 | .normal=>f s
 | .exit id=>A.bind (k (.exit id) s) λr=>A.pure (.done r)
 | .ret=>A.bind (k .ret s) λr=>A.pure (.done r)
def Sz {β:Type} (id:Nat) (k:dd->aB->A β) (e:dd) (s:aB):A β:=
 match e with
 | .normal=>k .normal s
 | .exit FY=>if FY=id then k .normal s else k (.exit FY) s
 | .ret=>k .ret s
def W.bC {D β:Type} (f:D->A β) (st:W D β):A β:=
 match st with
 | .next x=>f x
 | .done r=>A.pure r
def SA {β:Type} (v:aI) (m n:A β):A β:=
 match v with
 | .val .bool t=>if t=true then m else n
 | .hz g (.val .bool t)=>A.ae (g=true) (if t=true then m else n)
 | _=>A.fail
def p_ (s:aB) (i off:Nat):Option (Int×(Nat->aB)):=
 match s.az i with
 | .a1 b _ o=>match (s.ab b).body with
  | .cells t f=>match f (o+off) with
   | .val (.int tF) x=>some (x,λj=>⟨s.az,λbf=>if bf=b then ⟨(s.ab b).gen,.cells t λq=>if q=o+off then .val (.int tF) (j:Int) else f q⟩ else s.ab bf⟩)
   | _=>none
  | _=>none
 | _=>none
theorem aep {s:aB} {i off:Nat} {x:Int} {f:Nat->aB} (h:p_ s i off=some (x,f)) (aY:0<=x):f x.toNat=s:=by
 unfold p_ at h;split at h
 ·rename_i b g o aG;split at h
  ·rename_i t iy aa;split at h
   ·rename_i tF dJ aj;simp only [Option.some.injEq,Prod.mk.injEq] at h;obtain ⟨rfl,rfl⟩:=h;have cX:((dJ.toNat:Nat):Int)=dJ:=by omega
    have aF:(λq=>if q=o+off then aI.val (.int tF) (show (ad.int tF).ai from ((dJ.toNat:Nat):Int)) else iy q)=iy:=by
     grind
    have bB:(λbf=>if bf=b then (⟨(s.ab b).gen,.cells t iy⟩:bL) else s.ab bf)=s.ab:=by
     funext q;split
     ·rename_i e;rw [e,<-aa]
     ·rfl
    simp_all
   grind
  grind
 grind
def q2 (s:aB) (i:Nat):Option (Int×(Nat->aB)):=
 match s.az i with
 | .val (.int tF) x=>some (x,λn=>⟨λj=>if j=i then .val (.int tF) (n:Int) else s.az j,s.ab⟩)
 | _=>none
theorem aeq {s:aB} {i n:Nat} {x:Int} {f:Nat->aB} (h:q2 s i=some (x,f)) (aY:x=(n:Int)):f n=s:=by
 unfold q2 at h;split at h
 ·rename_i tF dJ aG;simp only [Option.some.injEq,Prod.mk.injEq] at h;obtain ⟨rfl,rfl⟩:=h;have aF:(λj=>if j=i then aI.val (.int tF) (show (ad.int tF).ai from (n:Int)) else s.az j)=s.az:=by
   grind
  simp_all
 grind
def La (s:aB) (i:Nat):Option aB:=
 match s.az i with
 | .n' b g n off=>match (s.ab b).body,off with
  | .bj (.st (.slice e)) xs,0=>if g=(s.ab b).gen then some ⟨λj=>if j=i then .iP b g n else s.az j,λbf=>if bf=b then ⟨g,.f' (.st (.slice e)) xs n (.val (.slice e) (xs.getD n []))⟩ else s.ab bf⟩ else none
  | _,_=>none
 | _=>none
def Lb (s:aB) (b:Nat):Option aB:=
 match (s.ab b).body with
 | .f' (.st (.slice e)) xs n v=>match (dA (.slice e) v).run s.ab with
  | some (y,bW)=>if bW.contains b then none else some ((s.cy bW).cw b ⟨(s.ab b).gen,.bj (.st (.slice e)) (xs.set n y)⟩)
  | none=>none
 | _=>none
def jK {D al:Type} (body:D->al->A (dd×D)):List al->D->A (dd×D)
 | [],D=>A.pure (.normal,D)
 | x::xs,D=>A.bind (body D x) λp=>match p.1 with
  | .normal=>jK body xs p.2
  | .exit id=>A.pure (.exit id,p.2)
  | .ret=>A.pure (.ret,p.2)
def zt (aN:ad) (x:aN.ai):List Tmp->Nat->(Nat->aI)->Nat->aI
 | [],_,f=>f
 | p::ps,i,f=>zt aN x ps (i+1) (λj=>if j=p then kp aN x i else f j)
def xb (s:aB) (aN:ad) (x:aN.ai) (ps:List Tmp):aB:=⟨λi=>if i=b5 then s.az b5 else zt aN x ps 0 s.az i,s.ab⟩
def u5 (rin rout:dH):cG:=⟨rin,rout,[],0,λ_=>A.fail⟩
def tG {bn:Type} (sh rin rout:dH) (aN:ad) (ps:List Tmp) (D:sh.ai) (x:aN.ai) (run:aB->A (bn×rout.ai)):A (bn×sh.ai):=
 match rin.zk (qZ (u5 rin rout) (xb (sh.st D) aN x ps)) (xb (sh.st D) aN x ps) with
 | some (aK,bW)=>match Cn (u5 rin rout) (qZ (u5 rin rout) (xb (sh.st D) aN x ps)) ((sh.st D).cy bW) (r3 ((sh.st D).cy bW) 0 (qZ (u5 rin rout) (xb (sh.st D) aN x ps)) rin.oq rout.bE 0) 0 0 with
  | true=>A.bind (run (rin.st aK)) λp=>sh.mR (w6 ((sh.st D).cy bW) (u5 rin rout) (qZ (u5 rin rout) (xb (sh.st D) aN x ps)) (r3 ((sh.st D).cy bW) 0 (qZ (u5 rin rout) (xb (sh.st D) aN x ps)) rin.oq rout.bE 0) p.2) λiD=>A.pure (p.1,iD)
  | false=>A.fail
 | none=>A.fail
def nN (sh rout:dH) (aN:ad) (ps:List Tmp) (nt:Nat):Bool:=
 rout.bT.isEmpty&&!sh.bT.any (λp=>p.1 == b5)&&decide (aN≠.cQ)&&decide (ps.length=j3 aN)&&ps.all λp=>decide (p<nt)
def FZ {β:Type} (f:aB->A β) (e:dd) (s:aB):A β:=
 match e with
 | .normal=>f s
 | .exit _=>A.fail
 | .ret=>A.fail
def r7 {β:Type} (n:A β) (x:Nat->A β) (r:A β) (e:dd):A β:=
 match e with
 | .normal=>n
 | .exit id=>x id
 | .ret=>r
def Lc {β:Type} (k:dd->aB->A β) (e:dd) (s:aB):A β:=r7 (k .normal s) (λid=>k (.exit id) s) (k .ret s) e
theorem SB {β:Type} (k:dd->aB->A β) (e:dd) (s:aB):Lc k e s=k e s:=by cases e<;>rfl
def eG (aR:dE) (T:Nat->ad) (bg:Nat->Option aO) (Ψ:Nat->Option e1):dq->{β:Type}->Code->aB->(dd->aB->A β)->A β
 | .seq a b,_,c,s,k=>match c with
  | .seq x y=>eG aR T bg Ψ a x s (Sy k λs'=>eG aR T bg Ψ b y s' k)
  | _=>A.fail
 | .join sh a b,β,c,s,k=>match c with
  | .seq x y=>A.bind (eG aR T bg Ψ a (β:=W sh.ai β) x s (xa k λs'=>sh.mR s' λD=>A.pure (.next D))) (W.bC λD=>eG aR T bg Ψ b y (sh.st D) k)
  | _=>A.fail
 | .cond a b,_,c,s,k=>match c with
  | .cond c x y=>SA (a_ aR s.az c) (eG aR T bg Ψ a x s k) (eG aR T bg Ψ b y s k)
  | _=>A.fail
 | .block a,_,c,s,k=>match c with
  | .block id c=>eG aR T bg Ψ a c s (Sz id k)
  | _=>A.fail
 | .loop sh a,β,c,s,k=>match c with
  | .loop c=>sh.mR s λD=>A.loop (λD=>eG aR T bg Ψ a (β:=W sh.ai β) c (sh.st D) (xa k λs'=>sh.mR s' λiD=>A.pure (.next iD))) D
  | _=>A.fail
 | .nM a b,_,c,s,k=>match c with
  | .loop x=>match b.ot with
   | true=>eG aR T bg Ψ a x s (Sy k λs'=>eG aR T bg Ψ b (.loop x) s' k)
   | false=>A.fail
  | _=>A.fail
 | .scope a,_,c,s,k=>match c with
  | .scope c=>eG aR T bg Ψ a c s k
  | _=>A.fail
 | .num i n a,_,c,s,k=>match q2 s i with
  | some (x,f)=>A.ae (x=(n:Int)) (eG aR T bg Ψ a c (f n) k)
  | none=>A.fail
 | .mK i a,_,c,s,k=>match La s i with
  | some s'=>eG aR T bg Ψ a c s' k
  | none=>A.fail
 | .Cs b a,_,c,s,k=>match Lb s b with
  | some s'=>eG aR T bg Ψ a c s' k
  | none=>A.fail
 | .split i off n a,_,c,s,k=>match p_ s i off with
  | some (x,f)=>A.ae (0<=x/\x<(n:Int)) (FT n x λj=>eG aR T bg Ψ a c (f j) k)
  | none=>A.fail
 | .range sh rin rout a b,_,c,s,k=>match c with
  | .rangeFunc g ps assign body=>match a_ aR s.az g with
   | .rK q3 n eS=>match Ψ q3 with
    | some (.cq ic)=>match (iS ic.ts ((List.range n).map eS)).run s.ab with
     | some (x,bW)=>match nN sh rout ic.aN ps.toList eP&&(a.ee&&b.ee) with
      | true=>sh.mR (s.cy bW) λD=>A.ae (ic.pre x) (A.bind (jK (λD y=>tG sh rin rout ic.aN ps.toList D y λeE=>
       eG aR T bg Ψ a (β:=dd×rout.ai) assign eE (FZ λdO=>eG aR T bg Ψ b body dO λe eH=>rout.mR eH λbn=>A.pure (e,bn))) (ic.seq x) D) λp=>Lc k p.1 (sh.st p.2))
      | false=>A.fail
     | none=>A.fail
    | _=>A.fail
   | .val (.cq aN) S=>match nN sh rout aN ps.toList eP&&(a.ee&&b.ee) with
    | true=>sh.mR s λD=>A.bind (A.any S) λL=>A.bind (jK (λD y=>tG sh rin rout aN ps.toList D y λeE=>
     eG aR T bg Ψ a (β:=dd×rout.ai) assign eE (FZ λdO=>eG aR T bg Ψ b body dO λe eH=>rout.mR eH λbn=>A.pure (e,bn))) L D) λp=>Lc k p.1 (sh.st p.2)
    | false=>A.fail
   | _=>A.fail
  | _=>A.fail
 | .FX,_,c,s,k=>match c with
  | .region _ ops draw=>match draw&&K' ops with
   | true=>zr aR T (FI bg Ψ) Ψ (lb ops.toList).toArray s (k .normal)
   | false=>A.fail
  | _=>A.fail
 | .eM,_,c,s,k=>match c with
  | .region _ ops draw=>match draw with
   | true=>zr aR T (FI bg Ψ) Ψ ops s (k .normal)
   | false=>me aR T bg Ψ ops ops.toList [] s (k .normal)
  | .skip=>k .normal s
  | .label _=>k .normal s
  | .exit id=>k (.exit id) s
  | .ret=>k .ret s
  | _=>A.fail
def ld (nt:Nat):Code->Bool
 | .region _ ops _=>ops.toList.all λo=>k_ o nt
 | .seq a b=>ld nt a&&ld nt b
 | .cond _ a b=>ld nt a&&ld nt b
 | .block _ a=>ld nt a
 | .loop a=>ld nt a
 | .scope a=>ld nt a
 | .rangeFunc _ ps a b=>ps.toList.all (λp=>decide (p<nt))&&(ld nt a&&ld nt b)
 | .skip=>true
 | .label _=>true
 | .exit _=>true
 | .ret=>true
 | _=>false
end Go.Fer
