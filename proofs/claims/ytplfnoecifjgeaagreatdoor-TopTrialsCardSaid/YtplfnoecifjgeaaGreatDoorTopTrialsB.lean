/- Part 2 of the proof of TopTrials: shallow programs of Go functions, and what they compute. No condition. -/
import Derived.Test.YtplfnoecifjgeaaGreatDoorTopTrialsA
import Derived.Laws.BytesString
noncomputable section
set_option linter.unusedVariables false
set_option linter.unusedSimpArgs false
namespace Go.Fer
open Go.RowKit
theorem Co{p:Addr}(h:p.spot=none)(n:Nat):p.add n=⟨p.block,p.off+n,none⟩:=by
 obtain⟨b,o,sp⟩:=p;simp only at h;subst h;exact ve b o n
theorem Kv{e:ad}{xs:List e.ai}{i:Int}(E:0<=i)(U:i<(xs.length:Int)):kP e xs i=xs[i.toNat]'(by omega):=by
 unfold kP;grind
section
variable {C:b'} {T:Nat->ad} {bg:Nat->Option aL} {o:Oper} {s:aA} {res:eC}
theorem Kw{P:Program}{w:World}{e:ad}{ty:TypeId}(h:b_ P (.slice e) ty){p:Addr}(ao:p.spot=none){n cap:Nat}{k:IntKind}{i:Int}(E:0<=i)(U:i<(n:Int)) :
  (Instr.indexAt ty (.slice (some p) n cap) (.int k i)).run P w=.ok (.pointer (some ⟨p.block,p.off+i.toNat*e.size,none⟩)) w:=by
 obtain⟨j,aF,ja,_⟩:=h.sl;simp[Instr.indexAt,asIntOf,dD aF,E,U,ja.size,Co ao]
theorem adR(aV:dU C.P T){ty:TypeId}{x i:Operand}(bh:∀ i,o.dst=some i->i<C.nt)(af:o.op=.indexAddr ty x i)(h:(bx C.aN T bg (a8 C.aN s.ay) o).run s.aa=some res):cK C o s res:=by
 simp only[bx,af]at h;split at h
 ·rename_i bH k n aI G;have dq:=aV.b7 aI (by simp);simp only[bO,ar.e5,Option.bind_eq_some_iff,ar.bN,Option.some.injEq]at h;obtain⟨⟨c,v⟩,hi,rfl⟩:=h;refine cK.pure (by grind) bh λa w κ F M be hc=>?_;have ah:bC C.P s.aa κ F w (use (a8 C.aN s.ay x)).2 (a.eval x):=cP M x rfl be.1;have U:=ou (cP M i rfl be.2) G;have zr:∀ (xs:List bH.ai),bJ C.P (.slice bH) F w [a.eval x] xs->0<=n/\n<(xs.length:Int)->∃ r,(execOp a.eval o).run C.P w=.ok (.value r) w/\bC C.P s.aa κ F w (.dW bH (kP bH xs n)) r:=by
   intro xs hT aB;obtain⟨a',cap,ax,m1,m2,m3,m4⟩:=hT;have ax:=(List.cons.inj ax).1;cases a' with
   | none=>grind
   | some p=>
    obtain⟨ec,ef,jm⟩:=m4 p rfl (by omega);obtain⟨bk,d1,d2⟩:=jm n.toNat (by omega);refine⟨_,by simp[execOp,af,ax,U.1,Kw dq ef aB.1 aB.2],⟨p.block,p.off+n.toNat*bH.size,none⟩,bk,rfl,d1,?_⟩;rw[Kv aB.1 aB.2];exact d2
  unfold RA at hi;split at hi
  ·rename_i e xs e';simp only[ar.bN]at hi;split at hi
   ·rename_i he;subst he;simp only[Option.some.injEq,Prod.mk.injEq]at hi;obtain⟨rfl,rfl⟩:=hi;rw[e']at ah;exact zr xs ((dV rfl).1 ah).2 hc
   grind
  ·rename_i b g e';rw[e']at ah;simp only[ar.e4,ar.bN]at hi;split at hi
   ·rename_i aC;have aT:=M.bE b;unfold cG at aT;split at hi
    ·rename_i e xs bT;split at hi
     ·rename_i he;subst he;simp only[Option.some.injEq,Prod.mk.injEq]at hi;obtain⟨rfl,rfl⟩:=hi;have ae:=ah.2 aC.symm (by rw[bT];rfl);rw[bT]at ae aT;have vl:(κ b).e9=false:=by
       cases aB:(κ b).e9 with
       | false=>rfl
       | true=>rw[aT.1 aB]at hc;grind
      simp only[bD.slice,vl,Bool.false_eq_true,if_false,bR.len]at ae;refine⟨_,by simp[execOp,af,ae,U.1,Kw dq (p:=⟨(κ b).aa,(κ b).off,none⟩) rfl hc.1 hc.2];rfl,⟨ah.1.1,rfl⟩,λ_ _=>?_⟩;rw[bT];exact⟨by simp only[bR.len];omega,vl,rfl⟩
     grind
    ·rename_i e xs bT;split at hi
     ·rename_i he;subst he;simp only[Option.some.injEq,Prod.mk.injEq]at hi;obtain⟨rfl,rfl⟩:=hi;have ae:=ah.2 aC.symm (by rw[bT];rfl);rw[bT]at ae aT;simp only[bR.len]at ae;refine zr xs ?_ hc;rw[ae];exact aT
     grind
    grind
   grind
  ·rename_i b g aZ G e';rw[e']at ah;simp only[ar.e4,ar.bN]at hi;split at hi
   ·rename_i aC;have aT:=M.bE b;unfold cG at aT;split at hi
    ·rename_i e xs bT;split at hi
     ·rename_i he;subst he;simp only[Option.some.injEq,Prod.mk.injEq]at hi;obtain⟨rfl,rfl⟩:=hi;obtain⟨⟨aQ,aS⟩,bP⟩:=ah.2 aC.symm (by rw[bT];rfl);rw[bT]at aS bP aT;simp only[bR.len,bR.e3]at aS bP;rcases bP with⟨aB,_⟩ | ⟨aB,mu,ae,hR,gG⟩
      ·rw[aT.1 aB]at aS;grind
      ·obtain⟨cs,hU,bF,c2,c3,c4,c5⟩:=aT.2 aB;refine⟨_,by simp[execOp,af,ae,U.1,Kw dq (p:=⟨(κ b).aa,mu,none⟩) rfl hc.1 hc.2];rfl,⟨ah.1.1,rfl⟩,λ_ _=>?_⟩;rw[bT];refine⟨by simp only[bR.len];omega,aB,?_⟩;rw[gG (by omega)];simp only[bR.e3,Nat.add_mul];grind
     grind
    ·rename_i e xs bT;split at hi
     ·rename_i he;subst he;simp only[Option.some.injEq,Prod.mk.injEq]at hi;obtain⟨rfl,rfl⟩:=hi;obtain⟨⟨aQ,aS⟩,bP⟩:=ah.2 aC.symm (by rw[bT];rfl);rw[bT]at aS bP aT;simp only[bR.len,bR.e3]at aS bP;have hlen:((xs.take G).drop aZ).length=G - aZ:=by grind
      obtain⟨r,b5,cw⟩:=zr ((xs.take G).drop aZ) (Fx aT aQ aS bP) (by omega);refine⟨r,b5,?_⟩;have ax:kP e ((xs.take G).drop aZ) n=kP e xs ((aZ:Int)+n):=by
       rw[Kv hc.1 (by omega),Kv (by omega) (by omega)];grind
      grind
     grind
    grind
   grind
  ·simp_all
  ·cases hi
 ·rename_i m bH k n aI G;split at h
  ·rename_i dy a7 xs e';split at h
   ·rename_i he;obtain⟨rfl,rfl⟩:=he;simp only[bO,ar.bN,Option.some.injEq]at h;subst h;refine cK.pure (by grind) bh λa w κ F M be hc=>?_;have ah:bC C.P s.aa κ F w (use (a8 C.aN s.ay x)).2 (a.eval x):=cP M x rfl be.1;rw[e']at ah;have U:=ou (cP M i rfl be.2) G;obtain⟨j,aF,q0,_⟩:=(aV.b7 aI (by simp)).bj;obtain⟨p,bk,ae,cW,nP⟩:=ah;obtain⟨bF,c2,c3,rfl,aO,cF⟩:=Kj nP (i:=n.toNat) (by omega);refine⟨.pointer (some ⟨p.block,p.off+n.toNat*a7.size,none⟩),?_,⟨p.block,p.off+n.toNat*a7.size,none⟩,c2,rfl,⟨cW.1,rfl,λq bt=>?_⟩,cF⟩
    ·simp[execOp,af,Instr.indexAt,ae,U.1,asIntOf,dD aF,hc.1,hc.2,q0.size,Co cW.2.1,Instr.sureAddr]
    ·have:=cW.2.2 (bF.length+q) (by grind);grind
   ·cases h
  ·rename_i b g off e';simp only[ar.e4,ar.bN]at h;split at h
   ·rename_i bl;simp only[Bool.and_eq_true,decide_eq_true_eq]at bl;simp only[Option.some.injEq]at h;subst h;refine cK.pure (by grind) bh λa w κ F M be hc=>?_;have E:bC C.P s.aa κ F w (use (a8 C.aN s.ay x)).2 (a.eval x):=cP M x rfl be.1;rw[e']at E;have U:=ou (cP M i rfl be.2) G;have ag:=E.2 bl.1.symm bl.2;obtain⟨j,aF,q0,_⟩:=(aV.b7 aI (by simp)).bj;exact⟨_,by simp[execOp,af,Instr.indexAt,ag,U.1,asIntOf,dD aF,hc.1,hc.2,q0.size,Co (p:=⟨(κ b).aa,off,none⟩) rfl,Instr.sureAddr],⟨E.1.1,rfl⟩,λ_ _=>rfl⟩
   grind
  ·cases h
 ·cases h
theorem Cp{a:Act}{w:World}{κ:Nat->bD}{F:Nat->Prop}(M:bm C s a w κ F){x:Option Operand}{p:Prop}{n:Option Int}(h:lg (a8 C.aN s.ay) x=some (p,n))(ao:p) :
  (x=none/\n=none)\/∃ y k m,x=some y/\n=some m/\a.eval y=.int k m:=by
 cases x with
 | none=>simp only[lg,Option.some.injEq,Prod.mk.injEq]at h;grind
 | some y=>
  simp only[lg]at h;split at h
  ·rename_i q k m hu;simp only[Option.some.injEq,Prod.mk.injEq]at h;obtain⟨rfl,rfl⟩:=h;exact .inr ⟨y,k,m,rfl,rfl,(gV.1 (cP M y hu ao)).1⟩
  grind
theorem R4{P:Program}{w:World}{isS:Bool}{len cap:Nat}{aZ G:Option Value}{l h:Option Int}(aj:(aZ=none/\l=none)\/∃ k m,aZ=some (.int k m)/\l=some m)(cW:(G=none/\h=none)\/∃ k m,G=some (.int k m)/\h=some m)
  (E:0<=ds l) (U:ds l<=fA len h) (ag:fA len h<=(cap:Int)) (_h4:len<=cap):(Instr.sliceBounds isS len cap aZ G none).run P w=.ok ((ds l).toNat,(fA len h).toNat,cap) w:=by
 rcases aj with⟨rfl,rfl⟩ | ⟨k,m,rfl,rfl⟩<;>rcases cW with⟨rfl,rfl⟩ | ⟨k',dy,rfl,rfl⟩<;>simp only[ds,fA]at E U ag ⊢
 ·rfl
 ·have:0<=dy/\dy<=(cap:Int):=by omega
  simp[Instr.sliceBounds,Instr.sliceBound,asIntOf,this]
 ·have:0<=m/\m<=(len:Int):=by omega
  simp[Instr.sliceBounds,Instr.sliceBound,asIntOf,this]
 ·have ax:0<=dy/\dy<=(cap:Int):=by omega
  have aO:0<=m/\m<=dy:=by omega
  have cF:max dy 0=dy:=by omega
  simp[Instr.sliceBounds,Instr.sliceBound,asIntOf,ax,aO,cF]
theorem adS{l h:Option Int}{n m:Nat}(R5:n<=m):B6 l h n m<=m:=by
 unfold B6;grind
theorem adT(aV:dU C.P T){ty:TypeId}{x:Operand}{aZ G:Option Operand}(bh:∀ i,o.dst=some i->i<C.nt)(af:o.op=.slice ty x aZ G none)(h:(bx C.aN T bg (a8 C.aN s.ay) o).run s.aa=some res):cK C o s res:=by
 simp only[bx,af,Option.isSome_none,Bool.false_eq_true,if_false,FA]at h;split at h
 ·rename_i ol l qV lT qb Kx;have aw:∀ c,o.op≠.defer c:=by grind
  have r6:∀ (a:Act) (w:World) κ F,bm C s a w κ F->ol->qV->((aZ.map a.eval=none/\l=none)\/∃ k m,aZ.map a.eval=some (.int k m)/\l=some m)/\((G.map a.eval=none/\lT=none)\/∃ k m,G.map a.eval=some (.int k m)/\lT=some m):=by
   intro a w κ F M Cq Cr;constructor
   ·rcases Cp M qb Cq with⟨rfl,rfl⟩ | ⟨y,k,m,rfl,rfl,e⟩
    ·exact .inl ⟨rfl,rfl⟩
    ·exact .inr ⟨k,m,by simp[e],rfl⟩
   ·rcases Cp M Kx Cr with⟨rfl,rfl⟩ | ⟨y,k,m,rfl,rfl,e⟩
    ·exact .inl ⟨rfl,rfl⟩
    ·exact .inr ⟨k,m,by simp[e],rfl⟩
  split at h
  ·rename_i bH aI;have dq:=aV.b7 aI (by simp);obtain⟨j,aF,ja,oy⟩:=dq.sl;simp only[ar.e5,Option.bind_eq_some_iff]at h;obtain⟨⟨c,v⟩,fX,h⟩:=h;simp only[bO,ar.bN,Option.some.injEq]at h;subst h;have runs:∀ (a:Act) (w:World) κ F,bm C s a w κ F->ol->qV->∀ (q:Option Addr) (n cap:Nat),a.eval x=.slice q n cap->n<=cap->0<=ds l/\ds l<=fA n lT/\fA n lT<=(cap:Int)->
     (execOp a.eval o).run C.P w=.ok (.value (.slice (if cap=(ds l).toNat then q else q.map (·.add ((ds l).toNat*bH.size))) ((fA n lT).toNat - (ds l).toNat) (cap - (ds l).toNat))) w:=by
    intro a w κ F M Cq Cr q n cap ae aB hc;obtain⟨dO,e1⟩:=r6 a w κ F M Cq Cr;have:=R4 (P:=C.P) (w:=w) (isS:=true) dO e1 hc.1 hc.2.1 hc.2.2 aB;simp[execOp,af,ae,Instr.sliceAt,Instr.slice,dD aF,this,ja.size]
   unfold RB at fX;split at fX
   ·rename_i e xs e';simp only[ar.bN]at fX;split at fX
    ·rename_i he;subst he;simp only[Option.some.injEq,Prod.mk.injEq]at fX;obtain⟨rfl,rfl⟩:=fX;refine cK.pure aw bh λa w κ F M be hc=>?_;have ah:bC C.P s.aa κ F w (use (a8 C.aN s.ay x)).2 (a.eval x):=cP M x rfl be.1;rw[e']at ah;obtain⟨_,a',cap,ax,m1,m2,m3,m4⟩:=(dV rfl).1 ah;have ax:=(List.cons.inj ax).1;refine⟨_,runs a w κ F M be.2.1 be.2.2 a' xs.length cap ax m1 ⟨hc.1,hc.2.1,by omega⟩,(dV rfl).2 ⟨rfl,?_⟩⟩;have hlen:((xs.take (fA xs.length lT).toNat).drop (ds l).toNat).length=(fA xs.length lT).toNat - (ds l).toNat:=by
      simp;omega
     refine⟨_,_,by rw[hlen],by omega,by omega,?_,λp ao u'=>?_⟩
     ·intro aB;split at aB
      ·omega
      ·cases a' with
       | none=>have:=m3 rfl;omega
       | some q=>cases aB
     ·cases a' with
      | none=>split at ao<;>cases ao
      | some q=>
       obtain⟨ec,ef,jm⟩:=m4 q rfl (by omega);have bt:∃ d,p=⟨q.block,q.off+d,none⟩/\(d=(ds l).toNat*e.size\/cap=(ds l).toNat):=by
        split at ao
        ·omega
        ·simp only[Option.map_some,Option.some.injEq]at ao;rw[Co ef]at ao;grind
       obtain⟨d,rfl,w6⟩:=bt;refine⟨ec,rfl,λi G=>?_⟩;rw[hlen]at G;obtain⟨bk,d1,d2⟩:=jm ((ds l).toNat+i) (by omega);rcases w6 with rfl | xh
       ·refine⟨bk,⟨d1.1,rfl,λk an=>?_⟩,?_⟩
        ·have:=d1.2.2 k an;rw[Nat.add_mul]at this;rw[show q.off+(ds l).toNat*e.size+i*e.size=q.off+((ds l).toNat*e.size+i*e.size) from by omega];exact this
        ·have aO:((xs.take (fA xs.length lT).toNat).drop (ds l).toNat)[i]'(by rw[hlen];exact G)=xs[(ds l).toNat+i]'(by omega):=by simp
         rw[aO];exact d2
       ·omega
    grind
   ·rename_i e';simp only[ar.bN,Option.some.injEq,Prod.mk.injEq]at fX;obtain⟨rfl,rfl⟩:=fX;refine cK.pure aw bh λa w κ F M be hc=>?_;have ah:bC C.P s.aa κ F w (use (a8 C.aN s.ay x)).2 (a.eval x):=cP M x rfl be.1;rw[e']at ah;simp only[bC]at ah;have jJ:0<=ds l/\ds l<=fA 0 lT/\fA 0 lT<=((0:Nat):Int):=hc;have c7:=runs a w κ F M be.2.1 be.2.2 none 0 0 ah (Nat.le_refl _) jJ;have aY:(fA 0 lT).toNat=0:=by omega
    rw[aY]at c7;refine⟨_,c7,?_⟩;simp only[bC];simp
   ·rename_i b g e';simp only[ar.e4,ar.bN]at fX;split at fX
    ·rename_i bl;simp only[Bool.and_eq_true,decide_eq_true_eq,beq_iff_eq]at bl;obtain⟨⟨aC,fa⟩,Cg⟩:=bl;simp only[Option.some.injEq,Prod.mk.injEq]at fX;obtain⟨rfl,rfl⟩:=fX;refine cK.pure aw bh λa w κ F M be hc=>?_;have ah:bC C.P s.aa κ F w (use (a8 C.aN s.ay x)).2 (a.eval x):=cP M x rfl be.1;rw[e']at ah;have ae:=ah.2 aC.symm fa;obtain⟨ec,ef⟩:=zm M fa;cases aB:(κ b).e9 with
     | true=>
      have aY:=ec aB;simp only[bD.slice,aB,if_true]at ae;rw[aY]at hc;have c7:=runs a w κ F M be.2.1 be.2.2 none 0 0 ae (Nat.le_refl _) hc;refine⟨_,c7,⟨ah.1.1,by rfl⟩,λ_ _=>⟨by grind,.inl ⟨aB,?_⟩⟩⟩;grind
     | false=>
      have xh:=Kk M fa aB;simp only[bD.slice,aB,Bool.false_eq_true,if_false]at ae;have c7:=runs a w κ F M be.2.1 be.2.2 _ _ _ ae xh ⟨hc.1,hc.2.1,by omega⟩;refine⟨_,c7,⟨ah.1.1,by rfl⟩,λ_ _=>⟨by omega,.inr ⟨aB,?_⟩⟩⟩;rw[<-Cg];by_cases lR:(κ b).cap=(ds l).toNat
      ·grind
      ·rw[if_neg lR];simp only[Option.map_some,ve];simp
    grind
   ·rename_i b g fi aY e';simp only[ar.e4,ar.bN]at fX;split at fX
    ·rename_i bl;simp only[Bool.and_eq_true,decide_eq_true_eq,beq_iff_eq]at bl;obtain⟨⟨aC,fa⟩,Cg⟩:=bl;simp only[Option.some.injEq,Prod.mk.injEq]at fX;obtain⟨rfl,rfl⟩:=fX;refine cK.pure aw bh λa w κ F M be hc=>?_;have ah:bC C.P s.aa κ F w (use (a8 C.aN s.ay x)).2 (a.eval x):=cP M x rfl be.1;rw[e']at ah;obtain⟨⟨aQ,aS⟩,bP⟩:=ah.2 aC.symm fa;obtain⟨ec,ef⟩:=zm M fa;have se:B6 l lT (aY - fi) ((s.aa b).body.len - fi)<=(s.aa b).body.len - fi:=adS (by omega);revert hc se;generalize B6 l lT (aY - fi) ((s.aa b).body.len - fi)=lim;intro hc se;rcases bP with⟨aB,ae⟩ | ⟨aB,mu,ae,hR,gG⟩
     ·have Ky:=ec aB;have bH:aY - fi=0:=by omega
      have elim:lim=0:=by omega
      rw[bH,elim]at hc;grind
     ·have xh:=Kk M fa aB;have c7:=runs a w κ F M be.2.1 be.2.2 _ _ _ ae (by omega) ⟨hc.1,hc.2.1,by omega⟩;refine⟨_,c7,⟨ah.1.1,by rfl⟩,λ_ _=>⟨by omega,.inr ⟨aB,?_⟩⟩⟩;rw[<-Cg];rw[<-Cg]at c7;have ax:(fA (aY - fi) lT).toNat - (ds l).toNat=fi+(fA (aY - fi) lT).toNat - (fi+(ds l).toNat):=by omega
      have aO:(κ b).cap - fi - (ds l).toNat=(κ b).cap - (fi+(ds l).toNat):=by omega
      rw[ax,aO];have cF:(fi+(ds l).toNat)*(s.aa b).body.e3=fi*(s.aa b).body.e3+(ds l).toNat*(s.aa b).body.e3:=Nat.add_mul _ _ _;by_cases lR:(κ b).cap - fi=(ds l).toNat
      ·rw[if_pos lR];exact⟨_,rfl,by omega,λh=>by omega⟩
      ·rw[if_neg lR];simp only[Option.map_some,ve];exact⟨_,rfl,by omega,λh=>by omega⟩
    grind
   ·cases fX
  ·rename_i aI;have dq:=(aV.b7 aI (by simp)).str;split at h
   ·rename_i c v fX;simp only[bO,ar.bN,Option.some.injEq]at h;subst h;unfold RC at fX;split at fX
    ·rename_i xs e';simp only[Option.some.injEq,Prod.mk.injEq]at fX;obtain⟨rfl,rfl⟩:=fX;refine cK.pure aw bh λa w κ F M be hc=>?_;have ah:bC C.P s.aa κ F w (use (a8 C.aN s.ay x)).2 (a.eval x):=cP M x rfl be.1;rw[e']at ah;obtain⟨ae,cc⟩:=mh.1 ah;obtain⟨dO,e1⟩:=r6 a w κ F M be.2.1 be.2.2;have aE:ByteArray.size ⟨xs.toArray⟩=xs.length:=by rfl
     have:=R4 (P:=C.P) (w:=w) (isS:=false) (len:=xs.length) (cap:=xs.length) dO e1 hc.1 hc.2.1 hc.2.2 (Nat.le_refl _);refine⟨.string ⟨((xs.take (fA xs.length lT).toNat).drop (ds l).toNat).toArray⟩,?_,mh.2 ⟨rfl,by grind⟩⟩;simp only[execOp,af,ae,Instr.sliceAt,Instr.slice,Sem.run_bind,dD dq,Result.andThen_ok,Option.map_none,Option.isSome_none,Bool.false_eq_true,if_false,aE,this,Sem.run_pure];have he:ByteArray.extract ⟨xs.toArray⟩ (ds l).toNat (fA xs.length lT).toNat=⟨((xs.take (fA xs.length lT).toNat).drop (ds l).toNat).toArray⟩:=by
      apply ByteArray.ext;rw[ByteArray.data_extract];grind
     rw[he]
    grind
   ·cases h
  ·cases h
 ·cases h
end
end Go.Fer
namespace Go.Fer
open Go.RowKit
def gx(P:Program)(e:ad)(F:Nat->Prop)(w:World)(all:List Value)(xs:List e.ai):Prop:=
 all.length=xs.length*e.size/\∀ i (h:i<xs.length),bJ P e F w ((all.drop (i*e.size)).take e.size) xs[i]
theorem gx.append{P:Program}{e:ad}{F:Nat->Prop}{w:World}{l m:List Value}{xs ys:List e.ai}(h:gx P e F w l xs)(k:gx P e F w m ys):gx P e F w (l++m) (xs++ys):=by
 refine⟨by simp[h.1,k.1,Nat.add_mul],λi G=>?_⟩;by_cases ah:i<xs.length
 ·have ax:(xs++ys)[i]=xs[i]:=List.getElem_append_left ah;rw[ax];have hle:(i+1)*e.size<=xs.length*e.size:=Nat.mul_le_mul_right _ (by omega);rw[Nat.add_mul,Nat.one_mul]at hle;have:((l++m).drop (i*e.size)).take e.size=(l.drop (i*e.size)).take e.size:=by
   rw[List.drop_append_of_le_length (by rw[h.1];omega),List.take_append_of_le_length (by simp[h.1];omega)]
  rw[this];exact h.2 i ah
 ·have dL:i - xs.length<ys.length:=by grind
  have ax:(xs++ys)[i]=ys[i - xs.length]:=List.getElem_append_right (by omega);rw[ax];have hm:i*e.size=xs.length*e.size+(i - xs.length)*e.size:=by rw[<-Nat.add_mul];grind
  have:(l++m).drop (i*e.size)=m.drop ((i - xs.length)*e.size):=by
   rw[hm,<-h.1,List.drop_append,List.drop_of_length_le (by omega)];simp
  rw[this];exact k.2 _ dL
theorem gx.Cs{P:Program}{e:ad}{F:Nat->Prop}{w:World}{all pre post:List Value}{cs:Array Value}{xs:List e.ai}(h:gx P e F w all xs)(hc:cs.toList=pre++(all++post)):lL P e F w cs pre.length xs:=by
 intro i G;have hle:(i+1)*e.size<=xs.length*e.size:=Nat.mul_le_mul_right _ (by omega);rw[Nat.add_mul,Nat.one_mul]at hle;refine⟨_,λj aF=>?_,h.2 i G⟩;have fW:j<e.size:=by grind
 rw[<-Array.getElem?_toList,hc,List.getElem?_append_right (by omega),List.getElem?_append_left (by grind)];grind
theorem FT{P:Program}{e:ad}{F:Nat->Prop}{w:World}:∀ {xs:List e.ai} {p:Addr},(0<xs.length->p.spot=none)->(∀ i (h:i<xs.length),∃ bk,kx w ⟨p.block,p.off+i*e.size,none⟩ bk/\bJ P e F w bk xs[i])->
  ∃ all,gx P e F w all xs/\kx w p all
 | [],p,ao,_=>⟨[],⟨by simp,λi G=>by grind⟩,λh=>by grind,λj aF=>by grind⟩
 | x::xs,p,ao,h=>by
  obtain⟨bk,d1,d2⟩:=h 0 (by simp);have vk:=hP e d2;obtain⟨all,b9,a2⟩:=FT (P:=P) (F:=F) (w:=w) (xs:=xs) (p:=⟨p.block,p.off+e.size,none⟩) (λ_=>rfl) (λi G=>by
   obtain⟨R3,aQ,aS⟩:=h (i+1) (by grind);grind)
  refine⟨bk++all,?_,λ_=>ao (by simp),λj aF=>?_⟩
  ·have E:gx P e F w bk [x]:=⟨by grind,λi G=>by
    have:i=0:=by grind
    subst this;grind⟩
   exact E.append b9
  ·rcases Nat.lt_or_ge j bk.length with E | E
   ·rw[List.getElem_append_left E];have:=d1.2 j E;grind
   ·rw[List.getElem_append_right E];have:=a2.2 (j - bk.length) (by grind);grind
section
variable {C:b'} {T:Nat->ad} {bg:Nat->Option aL} {o:Oper} {s:aA} {res:eC}
theorem sf{a:Act}{w:World}{κ:Nat->bD}{F:Nat->Prop}(M:bm C s a w κ F){e:ad}{av:aH}{v:Value}{ys:List e.ai}{l:List Nat}(h:(dC (.slice e) av).run s.aa=some (ys,l))(ae:bC C.P s.aa κ F w av v) :
  ∃ q cap,v=.slice q ys.length cap/\((q=none/\ys=[]/\cap=0)\/∃ p all,q=some p/\gx C.P e F w all ys/\kx w p all):=by
 have zr:∀ {xs:List e.ai},bJ C.P (.slice e) F w [v] xs->∃ q cap,v=.slice q xs.length cap/\((q=none/\xs=[]/\cap=0)\/∃ p all,q=some p/\gx C.P e F w all xs/\kx w p all):=by
  intro xs ah;obtain⟨q,cap,ax,m1,m2,m3,m4⟩:=ah;refine⟨q,cap,(List.cons.inj ax).1,?_⟩;cases q with
  | none=>
   simp_all
  | some p=>
   obtain⟨all,b9,a2⟩:=FT (P:=C.P) (F:=F) (w:=w) (xs:=xs) (p:=p) (λh=>(m4 p rfl (by omega)).2.1) (λi G=>let ⟨bk,d1,d2⟩:=(m4 p rfl (by omega)).2.2 i G;⟨bk,d1.Kb,d2⟩);grind
 cases av with
 | val cY y=>
  simp only[dC,ar.bN,Option.map_eq_some_iff,Prod.mk.injEq]at h;obtain⟨z,bl,rfl,_⟩:=h;exact zr (((dV rfl).1 (Fw bl ae)).2)
 | cv=>
  simp only[dC,kr,ad.eF,if_true,dX,ar.bN,Option.some.injEq,Prod.mk.injEq]at h;obtain⟨rfl,_⟩:=h;simp only[bC]at ae;grind
 | al b g=>
  simp only[dC,kr,ad.eF,if_true,dX,ar.e4,ar.bN]at h;split at h
  ·rename_i aC;have aT:=M.bE b;unfold cG at aT;split at h
   ·rename_i a7 xs bT;simp only[Option.map_eq_some_iff,Prod.mk.injEq]at h;obtain⟨z,bl,rfl,_⟩:=h;obtain⟨q1,rfl⟩:=kO bl;cases q1;have tM:=ae.2 aC.symm (by rw[bT];rfl);rw[bT]at tM aT;simp only[bR.len]at tM;cases aB:(κ b).e9 with
    | true=>
     have hT:=aT.1 aB;subst hT;simp only[bD.slice,aB,if_true]at tM;grind
    | false=>
     obtain⟨cs,hU,bF,c2,c3,c4,c5⟩:=aT.2 aB;simp only[bD.slice,aB,Bool.false_eq_true,if_false]at tM;obtain⟨all,b9,a2⟩:=FT (P:=C.P) (F:=F) (w:=w) (xs:=xs) (p:=⟨(κ b).aa,(κ b).off,none⟩) (λ_=>rfl) (λi G=>by
      obtain⟨bk,d1,d2⟩:=c5 i G;exact⟨bk,⟨λ_=>rfl,λj aF=>by rw[vg bF];grind⟩,d2⟩)
     grind
   ·rename_i a7 xs bT;simp only[Option.map_eq_some_iff,Prod.mk.injEq]at h;obtain⟨z,bl,rfl,_⟩:=h;obtain⟨q1,rfl⟩:=kO bl;cases q1;have tM:=ae.2 aC.symm (by rw[bT];rfl);rw[bT]at tM aT;simp only[bR.len]at tM;simp only[jC]at aT;grind
   grind
  grind
 | sub b g aZ G=>
  simp only[dC,kr,ad.eF,if_true,dX,ar.e4,ar.bN]at h;split at h
  ·rename_i aC;have aT:=M.bE b;unfold cG at aT;split at h
   ·rename_i a7 xs bT;simp only[Option.map_eq_some_iff,Prod.mk.injEq]at h;obtain⟨z,bl,rfl,_⟩:=h;obtain⟨q1,rfl⟩:=kO bl;cases q1;obtain⟨⟨aQ,aS⟩,bP⟩:=ae.2 aC.symm (by rw[bT];rfl);rw[bT]at aS bP aT;simp only[bR.len,bR.e3]at aS bP;have hlen:((xs.take G).drop aZ).length=G - aZ:=by grind
    rcases bP with⟨aB,tM⟩ | ⟨aB,mu,tM,hR,gG⟩
    ·have hT:=aT.1 aB;grind
    ·obtain⟨cs,hU,bF,c2,c3,c4,c5⟩:=aT.2 aB;obtain⟨all,b9,a2⟩:=FT (P:=C.P) (F:=F) (w:=w) (xs:=(xs.take G).drop aZ) (p:=⟨(κ b).aa,mu,none⟩) (λ_=>rfl) (λi dL=>by
      rw[hlen]at dL;obtain⟨bk,d1,d2⟩:=c5 (aZ+i) (by omega);refine⟨bk,⟨λ_=>rfl,λj aF=>?_⟩,?_⟩
      ·rw[vg bF,<-d1 j aF];grind
      grind)
     grind
   ·rename_i a7 xs bT;simp only[Option.map_eq_some_iff,Prod.mk.injEq]at h;obtain⟨z,bl,rfl,_⟩:=h;obtain⟨q1,rfl⟩:=kO bl;cases q1;obtain⟨⟨aQ,aS⟩,bP⟩:=ae.2 aC.symm (by rw[bT];rfl);rw[bT]at aS bP aT;exact zr (Fx aT aQ aS bP)
   grind
  grind
 | dW cY y=>simp[dC,kr,ad.eF,dX,ar.none]at h
 | jB u=>simp[dC,kr,ad.eF,dX,B2]at h
 | _=>simp[dC,kr,ad.eF,dX,ar.none]at h
theorem zt{P:Program}{w:World}{e:ad}{q:Option Addr}{n cap:Nat}{xs:List e.ai}{F:Nat->Prop}(aB:n=xs.length)(h:(q=none/\xs=[]/\cap=0)\/∃ p all,q=some p/\gx P e F w all xs/\kx w p all) :
  ∃ all,(Builtin.firstCells e.size n (.slice q n cap)).run P w=.ok all.toArray w/\gx P e F w all xs:=by
 subst aB;rcases h with⟨rfl,rfl,rfl⟩ | ⟨p,all,rfl,b9,a2⟩
 ·exact⟨[],by rfl,by simp[gx]⟩
 ·refine⟨all,?_,b9⟩;simp only[Builtin.firstCells];rw[<-b9.1];exact FH a2
theorem adU(n:Nat):∀ (k c:Nat),Builtin.growBy n k c<=max c (2*n+768):=by
 intro k;induction k with
 | zero=>intro c;simp only[Builtin.growBy];omega
 | succ k aK=>
  intro c;simp only[Builtin.growBy];grind
theorem adV{FU cap:Nat}(h:cap<FU):Builtin.nextslicecap FU cap<=2*FU+768:=by
 unfold Builtin.nextslicecap;split
 ·omega
 ·split
  ·omega
  ·have:=adU FU 4 cap;omega
theorem adW{z:Array Value}{n k:Nat}(h:z.size=k):(Builtin.zeroCells z n).size=n*k:=by simp[Builtin.zeroCells,h]
theorem adX{P:Program}{w:World}{e:ad}{ty mR:TypeId}{F:Nat->Prop}(h:b_ P (.slice e) ty)(dt:b_ P (.slice e) mR\/∃ a7,b_ P (.slice a7) mR){q q':Option Addr}{cap cap':Nat}{xs ys:List e.ai}
  (ah:(q=none/\xs=[]/\cap=0)\/∃ p all,q=some p/\gx P e F w all xs/\kx w p all) (aR:(q'=none/\ys=[]/\cap'=0)\/∃ p all,q'=some p/\gx P e F w all ys/\kx w p all)
  (hc:cap<xs.length+ys.length) (aj:bQ (xs.length+ys.length)) (rt:TypeId) :
  ∃ jK q2 cs,(Builtin.append_ #[ty,mR] rt #[.slice q xs.length cap,.slice q' ys.length cap']).run P w=.ok (.slice (some ⟨w.heap.size,0,none⟩) (xs.length+ys.length) q2) (w.drew.alloc (.cells cs jK))/\
   q2<2 ^ 63/\xs.length+ys.length<=q2/\cs.size=q2*e.size/\lL P e F w cs 0 (xs++ys):=by
 obtain⟨jK,aF,ja,oy⟩:=h.sl;obtain⟨j_,fW⟩:∃ j_,P.underlying mR=some (.slice j_):=by
  rcases dt with dt | ⟨a7,dt⟩
  ·obtain⟨j_,k,_⟩:=dt.sl;grind
  ·obtain⟨j_,k,_⟩:=dt.sl;grind
 obtain⟨i,z,i1,i2,i3,i4,i5,i6⟩:=kt ja.ks;have bl:=(Ck e (P:=P) i5).2;have adY:∀ t:Nat,xs.length+ys.length<=xs.length+ys.length+t % (2 ^ 63 - (xs.length+ys.length))/\xs.length+ys.length+t % (2 ^ 63 - (xs.length+ys.length))<2 ^ 63:=by
  intro t;unfold bQ at aj;have:t % (2 ^ 63 - (xs.length+ys.length))<2 ^ 63 - (xs.length+ys.length):=Nat.mod_lt _ (by omega);omega
 generalize Kz:xs.length+ys.length+(w.tape w.drawn (.appendCap (xs.length+ys.length) cap jK)) % (2 ^ 63 - (xs.length+ys.length))=q2;have KA:=adY (w.tape w.drawn (.appendCap (xs.length+ys.length) cap jK));rw[Kz]at KA;have R6:∀ {p:Addr} {all:List Value},kx w p all->kx w.drew p all:=λh=>h;have R7:∀ {all:List Value} {zs:List e.ai},gx P e F w all zs->gx P e F w.drew all zs:=λh=>⟨h.1,λi G=>ff e (F:=F) (F':=F) (w:=w) (w':=w.drew) (λ_ M=>M) ⟨Nat.le_refl _,λ_ _=>rfl⟩ (h.2 i G)⟩
 have nO:(q=none/\xs=[]/\cap=0)\/∃ p all,q=some p/\gx P e F w.drew all xs/\kx w.drew p all:=ah.imp id λ⟨p,all,a,b,c⟩=>⟨p,all,a,R7 b,R6 c⟩
 have Ct:(q'=none/\ys=[]/\cap'=0)\/∃ p all,q'=some p/\gx P e F w.drew all ys/\kx w.drew p all:=aR.imp id λ⟨p,all,a,b,c⟩=>⟨p,all,a,R7 b,R6 c⟩
 obtain⟨vm,hR,gG⟩:=zt (P:=P) (w:=w.drew) (cap:=cap) rfl nO;obtain⟨eA,ec,ef⟩:=zt (P:=P) (w:=w.drew) (cap:=cap') rfl Ct;refine⟨jK,q2,vm.toArray++eA.toArray++Builtin.zeroCells z.cells (q2 - (xs.length+ys.length)),?_,KA.2,KA.1,?_,?_⟩
 ·have W:=adV hc;have q3:Builtin.nextslicecap (xs.length+ys.length) cap*i.bytes<=281474976710656:=by
   unfold bQ at aj;calc Builtin.nextslicecap (xs.length+ys.length) cap*i.bytes<=(2*4294967296+768)*1024:=Nat.mul_le_mul (by omega) i3
    _<=281474976710656:=by decide
  have zu:¬((xs.length+ys.length:Nat):Int) > IntKind.i64.max:=by
   unfold bQ at aj;have:IntKind.i64.max=9223372036854775807:=by decide
   omega
  have adZ:¬Builtin.nextslicecap (xs.length+ys.length) cap*i.bytes > 2 ^ 48:=by
   omega
  have R8:(Question.appendCap (xs.length+ys.length) cap jK).cut (w.tape w.drawn (.appendCap (xs.length+ys.length) cap jK))=q2:=by
   rw[<-Kz];rfl
  have ad0:(Question.appendCap (xs.length+ys.length) cap jK).forced=false:=rfl;simp only[Builtin.append_,List.getElem?_toArray,List.getElem?_cons_zero,List.getElem?_cons_succ,Sem.run_bind,dD aF,dD fW,Result.andThen_ok,r' i1,i2,Sem.run_pure,Builtin.lenOf,Bool.false_eq_true,if_false,if_neg (show ¬xs.length+ys.length<=cap by omega),zu,false_and,FF i1,adZ,run_choose,ad0,R8,run_askRoom,Bool.not_false,if_true,World.drew_eq,hR,ec,qX i1 i4];rfl
 ·have E:=gG.1;have U:=ef.1;simp only[Array.size_append,List.size_toArray,adW bl,E,U];rw[<-Nat.add_mul,<-Nat.add_mul];grind
 ·have jl:=gG.append ef;have ad1:gx P e F w (vm++eA) (xs++ys):=⟨jl.1,λi G=>ff e (F:=F) (F':=F) (w:=w.drew) (w':=w) (λ_ M=>M) ⟨Nat.le_refl _,λ_ _=>rfl⟩ (jl.2 i G)⟩
  exact ad1.Cs (pre:=[]) (post:=(Builtin.zeroCells z.cells (q2 - (xs.length+ys.length))).toList) (by simp)
end
end Go.Fer
namespace Go.Fer
open Go.RowKit
section
variable {C:b'} {T:Nat->ad} {bg:Nat->Option aL} {o:Oper} {s:aA} {res:eC}
theorem bm.Cu{a:Act}{w w':World}{κ:Nat->bD}{F:Nat->Prop}(h:bm C s a w κ F){b g:Nat}{e:ad}{zs:List e.ai}{k:bD}(aC:(s.aa b).gen<g)(ln:k.e9=true\/k.aa=w.heap.size)(cf:w.heap.size<=w'.heap.size)
  (nR:∀ r,r<w.heap.size->w'.heap[r]?=w.heap[r]?) (cc:k.e9=false->k.aa<w'.heap.size) (hc:dd w w')
  (bT:∀ H κ',jC C.P H κ' F w' k (.bj e zs)):bm C (s.cz b ⟨g,.bj e zs⟩) a w' (λi=>if i=b then k else κ i) F:=by
 have aj:fr s.aa κ (λi=>if i=b then (⟨g,.bj e zs⟩:bK) else s.aa i) (λi=>if i=b then k else κ i):=y7 aC λbf dc=>by grind
 have he:c6 F w w':=⟨cf,λr M=>nR r (h.db r M)⟩
 refine h.move (H':=λi=>if i=b then (⟨g,.bj e zs⟩:bK) else s.aa i) aj (λ_ M=>M) (λ_ M=>.inl M) cf (λr M _=>nR r M) hc (λ_=>?_) ?_ ?_ (λr M=>Nat.lt_of_lt_of_le (h.db r M) cf) (y8 (.inr ⟨rfl,rfl⟩) λbf dc=>by grind)
 ·intro i;by_cases G:i=b
  ·subst G;simp only[cG,if_true];grind
  ·exact cG.lf (h.bE i) aj (λ_ M=>M) he (by grind) (by grind) λaf=>nR _ (h.al i af).1
 ·intro i G;by_cases eM:i=b
  ·subst eM;simp only[if_true,bR.b1,Bool.not_eq_true']at G ⊢;have an:=ln.resolve_left (by grind);refine⟨cc G,λaq=>?_,.inr (by omega)⟩;have:=h.db _ aq;omega
  ·simp only[if_neg eM]at G ⊢;have:=h.al i G;grind
 ·intro i j G aF a7;by_cases eM:i=b<;>by_cases mj:j=b
  ·omega
  ·simp only[if_pos eM,if_neg mj,bR.b1,Bool.not_eq_true']at G aF a7;have an:=ln.resolve_left (by grind);have:=(h.al j aF).1;omega
  ·simp only[if_neg eM,if_pos mj,bR.b1,Bool.not_eq_true']at G aF a7;have an:=ln.resolve_left (by grind);have:=(h.al i G).1;omega
  ·simp only[if_neg eM,if_neg mj]at G aF a7;exact h.inj i j G aF a7
theorem ad2(s:aA)(b:Nat)(x y:bK):(s.cz b x).cz b y=s.cz b y:=by
 unfold aA.cz;grind
theorem bm.ad3{a:Act}{w:World}{κ:Nat->bD}{F:Nat->Prop}(h:bm C s a w κ F){b:Nat}{e:ad}{xs:List e.ai}(W:(s.aa b).body=.bj e xs){aZ G:Nat}(E:aZ<=G)(U:G<=xs.length){v:Value}(aE:Fv (κ b) e.size aZ G v) :
  ∃ κ',bm C (s.cz b ⟨(s.aa b).gen+1,.bj e ((xs.take G).drop aZ)⟩) a w κ' F/\v=(κ' b).slice ((xs.take G).drop aZ).length:=by
 have hlen:((xs.take G).drop aZ).length=G - aZ:=by grind
 have gw:∀ κ':Nat->bD,(∀ bf,bf≠b->κ' bf=κ bf)->fr s.aa κ (λi=>if i=b then (⟨(s.aa b).gen+1,.bj e ((xs.take G).drop aZ)⟩:bK) else s.aa i) κ':=
  λκ' B0=>y7 (Nat.lt_succ_self _) B0
 have aT:=h.bE b;unfold cG at aT;rw[W]at aT;rcases aE with⟨aB,rfl⟩ | ⟨aB,o,rfl,hR,gG⟩
 ·have hT:=aT.1 aB;subst hT;refine⟨κ,?_,by simp[bD.slice,aB]⟩;refine h.move (H':=λi=>if i=b then (⟨(s.aa b).gen+1,.bj e ((([]:List e.ai).take G).drop aZ)⟩:bK) else s.aa i) (gw κ λ_ _=>rfl) (λ_ M=>M) (λ_ M=>.inl M) (Nat.le_refl _) (λ_ _ _=>rfl) (dd.refl _) (λ_=>?_) ?_ ?_ h.db (y8 (.inr ⟨rfl,rfl⟩) λ_ _=>rfl)
  ·intro i;by_cases G:i=b
   ·subst G;simp only[cG,if_true];exact⟨λ_=>by simp,λh=>by grind⟩
   ·exact cG.lf (h.bE i) (gw κ λ_ _=>rfl) (λ_ M=>M) (c6.refl _ _) (by grind) rfl λ_=>rfl
  ·intro i G;by_cases eM:i=b
   ·subst eM;simp[bR.b1,aB]at G
   ·simp only[if_neg eM]at G;exact⟨(h.al i G).1,(h.al i G).2.1,.inl ⟨i,G,rfl⟩⟩
  ·intro i j G aF a7;by_cases eM:i=b
   ·subst eM;simp[bR.b1,aB]at G
   ·by_cases mj:j=b
    ·subst mj;simp[bR.b1,aB]at aF
    ·simp only[if_neg eM,if_neg mj]at G aF;exact h.inj i j G aF a7
 ·obtain⟨cs,hU,bF,c2,c3,c4,c5⟩:=aT.2 aB;let k':bD:=⟨(κ b).aa,o,(κ b).cap - aZ,false⟩
  let κ':Nat->bD:=λi=>if i=b then k' else κ i
  have Cv:∀ bf,bf≠b->κ' bf=κ bf:=λbf h=>if_neg h;have zv:κ' b=k':=if_pos rfl;have gr:=h.al b (by rw[W];simp[bR.b1,aB]);refine⟨κ',?_,by rw[zv,hlen];rfl⟩;refine h.move (H':=λi=>if i=b then (⟨(s.aa b).gen+1,.bj e ((xs.take G).drop aZ)⟩:bK) else s.aa i) (gw κ' Cv) (λ_ M=>M) (λ_ M=>.inl M) (Nat.le_refl _) (λ_ _ _=>rfl) (dd.refl _) (λ_=>?_) ?_ ?_ h.db (y8 (.inr ⟨rfl,rfl⟩) Cv)
  ·intro i;by_cases dL:i=b
   ·subst dL;simp only[cG,if_true,zv];have hmul:aZ*e.size<=(κ i).cap*e.size:=Nat.mul_le_mul_right _ (by omega);refine⟨λh=>(by cases h),λ_=>⟨cs,hU,bF,?_,by grind,by grind,λj aF=>?_⟩⟩
    ·simp only[k'];rw[Nat.sub_mul];omega
    ·rw[hlen]at aF;obtain⟨bk,d1,d2⟩:=c5 (aZ+j) (by omega);grind
   ·exact cG.lf (h.bE i) (gw κ' Cv) (λ_ M=>M) (c6.refl _ _) (by grind) (Cv i dL) λ_=>rfl
  ·intro i dL;by_cases eM:i=b
   ·subst eM;rw[zv];exact⟨gr.1,gr.2.1,.inl ⟨i,by rw[W];simp[bR.b1,aB],rfl⟩⟩
   ·simp only[if_neg eM]at dL;rw[Cv i eM]at dL ⊢;exact⟨(h.al i dL).1,(h.al i dL).2.1,.inl ⟨i,dL,rfl⟩⟩
  ·intro i j dL aF a7;have R9:∀ i,(κ' i).aa=(κ i).aa:=λi=>by
    grind
   have cb:∀ i,((if i=b then (⟨(s.aa b).gen+1,.bj e ((xs.take G).drop aZ)⟩:bK) else s.aa i).body.b1 (κ' i)=true)->(s.aa i).body.b1 (κ i)=true:=λi G=>by
    by_cases eM:i=b
    ·subst eM;rw[W];simp[bR.b1,aB]
    grind
   rw[R9,R9]at a7;exact h.inj i j (cb i dL) (cb j aF) a7
theorem lL.lb{P:Program}{e:ad}{F:Nat->Prop}{w w':World}{cs:Array Value}{off:Nat}{xs:List e.ai}(h:lL P e F w cs off xs)(he:c6 F w w'):lL P e F w' cs off xs:=h.mono (λ_ M=>M) he
theorem ad4(aV:dU C.P T){args:Array Operand}{dp:Array TypeId}(bh:∀ i,o.dst=some i->i<C.nt)(af:o.op=.call { callee:=.builtin .append,args:=args,argTypes:=dp })(h:(B8 T (a8 C.aN s.ay) o.dst args.toList dp.toList).run s.aa=some res):cK C o s res:=by
 obtain⟨args⟩:=args;obtain⟨dp⟩:=dp;have aw:∀ c,o.op≠.defer c:=by grind
 simp only[B8]at h;split at h
 ·rename_i x y t u;split at h
  ·rename_i e aO aI hu;have dq:=aV.b7 aI (by simp);have vi:=aV.b7 hu (by simp);obtain⟨jK,aF,ja,oy⟩:=dq.sl;obtain⟨ad5,fW,_⟩:=vi.sl;obtain⟨inf,z,i1,i2,i3,i4,i5,i6⟩:=kt ja.ks;have mS:∀ (a:Act) (w w':World) v,(Builtin.append_ #[t,u] o.type #[a.eval x,a.eval y]).run C.P w=.ok v w'->(execOp a.eval o).run C.P w=.ok (.value v) w':=by
    intro a w w' v ae;refine xe af ?_;simp[builtin,ae]
   have main:∀ (s:aA) (a:Act) (w:World) (κ:Nat->bD) (F:Nat->Prop) (Q:Exit->Act->World->Prop) (b g:Nat) (xs ys:List e.ai),bm C s a w κ F->
     (∃ q cap,a.eval y=.slice q ys.length cap/\((q=none/\ys=[]/\cap=0)\/∃ p all,q=some p/\gx C.P e F w all ys/\kx w p all))->
     (s.aa b).gen<g->(∃ q cap,a.eval x=.slice q xs.length cap/\((q=none/\xs=[]/\cap=0)\/∃ p all,q=some p/\gx C.P e F w all xs/\kx w p all))->
     (∀ q cap,a.eval x=.slice q xs.length cap->q≠none->xs.length+ys.length<=cap->(s.aa b).body=.bj e xs/\(κ b).e9=false/\q=some ⟨(κ b).aa,(κ b).off,none⟩/\cap=(κ b).cap)->bQ (xs.length+ys.length)->
     o.wpIn (dT C.r) 0 C.P a w (λa' w'=>cu C ((s.cz b ⟨g,.bj e (xs++ys)⟩).set o.dst (.al b g)) a' w') Q:=by
    intro s a w κ F Q b g xs ys M nS KB sg ad6 hlen;obtain⟨q,cap,sg,KC⟩:=sg;obtain⟨q',cap',tN,nS⟩:=nS;have KD:∀ (κ':Nat->bD) (v:Value) (w':World),bm C (s.cz b ⟨g,.bj e (xs++ys)⟩) a w' κ' F->v=(κ' b).slice (xs++ys).length->cu C ((s.cz b ⟨g,.bj e (xs++ys)⟩).set o.dst (.al b g)) (a.put o.dst v) w':=by
     intro κ' v w' bc ae;refine⟨κ',F,bm.set bc bh ⟨⟨by simp[aA.cz],?_⟩,λ_ _=>?_⟩⟩
     ·rw[ae];unfold bD.slice;split<;>rfl
     ·rw[ae];simp[aA.cz,bR.len]
    by_cases xi:xs.length+ys.length<=cap
    ·cases bt:q with
     | none=>
      subst bt;obtain⟨ad7,u'⟩:xs=[]/\cap=0:=by
       grind
      subst ad7;subst u';have KE:ys=[]:=by grind
      subst KE;obtain⟨eA,ec,ef⟩:=zt (P:=C.P) (w:=w) (cap:=cap') rfl nS;have c7:(Builtin.append_ #[t,u] o.type #[a.eval x,a.eval y]).run C.P w=.ok (.slice none 0 0) w:=by
       rw[sg,tN];simp only[List.length_nil]at ec ⊢;simp[Builtin.append_,dD aF,dD fW,r' i1,Builtin.lenOf];rw[i2,ec];simp
      refine hv aw (mS a w w _ c7) (KD _ _ _ (M.Cu (k:=⟨0,0,0,true⟩) KB (.inl rfl) (Nat.le_refl _) (λ_ _=>rfl) (λh=>by cases h) (dd.refl _) λH κ'=>⟨λ_=>rfl,λh=>by cases h⟩) ?_);simp[bD.slice]
     | some FV=>
      obtain⟨W,vl,ao,xh⟩:=ad6 q cap sg (by grind) xi;rw[bt]at ao;have ao:=Option.some.inj ao;subst ao;subst xh;have aT:=M.bE b;unfold cG at aT;rw[W]at aT;obtain⟨cs,hU,bF,c2,c3,c4,c5⟩:=aT.2 vl;obtain⟨eA,ec,ef⟩:=zt (P:=C.P) (w:=w) (cap:=cap') rfl nS;have pd:=ef.1;have nQ:∀ v∈eA,v.oneCell'=true:=by
       intro v ae;obtain⟨j,aF,rfl⟩:=List.mem_iff_getElem.1 ae;have ll:0<e.size:=Nat.pos_of_ne_zero oy;have hdiv:j / e.size<ys.length:=(Nat.div_lt_iff_lt_mul ll).2 (by omega);have nP:=ef.2 (j / e.size) hdiv;have iB:=y' (P:=C.P) (H:=λ_=>⟨0,.fz⟩) (κ:=λ_=>⟨0,0,0,true⟩) e nP;have zw:=Nat.mod_lt j ll;have ad8:j / e.size*e.size+j % e.size=j:=Nat.div_add_mod' j e.size;have Cw:((eA.drop (j / e.size*e.size)).take e.size).length=e.size:=hP e nP;have:=(iB.kP (j % e.size) (by rw[iB.len,Cw];omega)).2;grind
      have ad9:(κ b).off+xs.length*e.size+0+eA.length<=cs.size:=by
       rw[pd];have:(xs.length+ys.length)*e.size<=(κ b).cap*e.size:=Nat.mul_le_mul_right _ xi;grind
      obtain⟨w',di,b5,cw,eg,lk,ky,mo⟩:=vh (P:=C.P) eA ((κ b).off+xs.length*e.size) 0 w cs bF ad9 nQ;have c7:(Builtin.append_ #[t,u] o.type #[a.eval x,a.eval y]).run C.P w=.ok (.slice (some ⟨(κ b).aa,(κ b).off,none⟩) (xs.length+ys.length) (κ b).cap) w':=by
       rw[sg,tN,bt];simp only[Builtin.append_,List.getElem?_toArray,List.getElem?_cons_zero,List.getElem?_cons_succ,Sem.run_bind,dD aF,dD fW,Result.andThen_ok,r' i1,i2,Sem.run_pure,Builtin.lenOf,Bool.false_eq_true,if_false,if_pos xi,Bool.not_false,if_true,ec,ve];simp only[b5,Result.andThen_ok]
      have gw:fr s.aa κ (λi=>if i=b then (⟨g,.bj e (xs++ys)⟩:bK) else s.aa i) κ:=y7 KB λ_ _=>rfl;refine hv aw (mS a w w' _ c7) (KD κ _ _ (M.o9 (b:=b) (by rw[W];simp[bR.b1,vl]) (by simp[bR.b1,vl]) gw (λh=>by cases h) (λh=>by cases h) lk ky mo λH mU cc he=>?_) (by simp[bD.slice,vl]));refine⟨λh=>(by grind),λ_=>?_⟩;have FQ:di.size=cs.size:=by
       rw[<-Array.length_toList,eg];grind
      refine⟨di,hU,cw,by omega,by grind,c4,λi G=>?_⟩;simp only[Nat.add_zero]at eg;have gN:(cs.toList.take ((κ b).off+xs.length*e.size)).length=(κ b).off+xs.length*e.size:=by grind
      by_cases R_:i<xs.length
      ·obtain⟨bk,d1,d2⟩:=c5 i R_;have ax:(xs++ys)[i]=xs[i]:=List.getElem_append_left R_;rw[ax];refine⟨bk,λk an=>?_,ff e (λ_ M=>M) he d2⟩;have R':=hP e d2;have hle:(i+1)*e.size<=xs.length*e.size:=Nat.mul_le_mul_right _ (by omega);rw[Nat.add_mul]at hle;rw[<-Array.getElem?_toList,eg,List.getElem?_append_left (by omega),List.getElem?_take,if_pos (by omega)];grind
      ·have dL:i - xs.length<ys.length:=by grind
       have ax:(xs++ys)[i]=ys[i - xs.length]:=List.getElem_append_right (by omega);rw[ax];have Cx:=ef.Cs (pre:=cs.toList.take ((κ b).off+xs.length*e.size)) (post:=cs.toList.drop ((κ b).off+xs.length*e.size+eA.length)) eg;obtain⟨bk,d1,d2⟩:=Cx (i - xs.length) dL;refine⟨bk,λk an=>?_,ff e (λ_ M=>M) he d2⟩;have:=d1 k an;rw[gN]at this;rw[<-this];congr 1;have:i*e.size=xs.length*e.size+(i - xs.length)*e.size:=by rw[<-Nat.add_mul];grind
       omega
    ·obtain⟨ad_,q2,cs,b5,cw,eg,lk,ky⟩:=adX (P:=C.P) (w:=w) (F:=F) (cap:=cap) (cap':=cap') dq (.inr ⟨aO,vi⟩) KC nS (by omega) hlen o.type;rw[<-sg,<-tN]at b5;refine hv aw (mS a w _ _ b5) (KD _ _ _ (M.Cu (k:=⟨w.heap.size,0,q2,false⟩) KB (.inr rfl) (by simp) (λr M=>?_) (λ_=>by simp) ⟨rfl,rfl,rfl⟩ λH κ'=>⟨λh=>(by cases h),λ_=>⟨cs,ad_,?_,by grind,by grind,cw,?_⟩⟩) ?_)
     ·exact o8 w.drew _ M
     ·exact p4 w.drew _
     ·exact ky.lb ⟨by simp,λr bc=>o8 w.drew _ (M.db r bc)⟩
     ·simp[bD.slice]
   simp only[J9]at h;split at h
   ·rename_i b g e';simp only[ar.e4]at h;split at h
    ·rename_i a7 xs bT;split at h
     ·rename_i q4;subst q4;simp only[ar.e5,Option.bind_eq_some_iff,ar.bN,Option.some.injEq]at h;obtain⟨⟨ys,l⟩,j9,rfl⟩:=h;have aC:(s.aa b).gen=g/\(s.aa b).body=.bj a7 xs:=by
       grind
      intro a w κ F Q M be hc;have ah:bC C.P s.aa κ F w (use (a8 C.aN s.ay x)).2 (a.eval x):=cP M x rfl be.1;have nO:=ah;rw[e']at nO;have ae:=nO.2 aC.1.symm (by rw[aC.2];rfl);rw[aC.2]at ae;simp only[bR.len]at ae;have hT:(dC (.slice a7) (use (a8 C.aN s.ay x)).2).run s.aa=some (xs,[b]):=by
       rw[e'];simp[dC,kr,ad.eF,dX,aC.1,aC.2,eT]
      refine main s a w κ F Q b (g+1) xs ys M (sf M j9 (cP M y rfl be.2)) (by omega) (sf M hT ah) (λq cap bt KF _=>?_) hc;rw[ae]at bt;cases aB:(κ b).e9 with
      | true=>
       simp only[bD.slice,aB,if_true,Value.slice.injEq]at bt;grind
      | false=>
       simp only[bD.slice,aB,Bool.false_eq_true,if_false,Value.slice.injEq]at bt;grind
     ·cases h
    ·cases h
   ·rename_i b g aZ G e';simp only[ar.e4]at h;split at h
    ·rename_i a7 xs bT;split at h
     ·rename_i q4;subst q4;simp only[ar.e5,Option.bind_eq_some_iff,ar.bN,Option.some.injEq]at h;obtain⟨⟨ys,l⟩,j9,rfl⟩:=h;have aC:(s.aa b).gen=g/\(s.aa b).body=.bj a7 xs:=by
       grind
      intro a w κ F Q M be hc;have ah:bC C.P s.aa κ F w (use (a8 C.aN s.ay x)).2 (a.eval x):=cP M x rfl be.1;rw[e']at ah;obtain⟨⟨aQ,aS⟩,bP⟩:=ah.2 aC.1.symm (by rw[aC.2];rfl);rw[aC.2]at aS bP;simp only[bR.len,bR.e3]at aS bP;obtain⟨κ',bc,ae⟩:=M.ad3 aC.2 aQ aS bP;have nS:=sf M j9 (cP M y rfl be.2);have Sa:(s.cz b ⟨(s.aa b).gen+1,.bj a7 ((xs.take G).drop aZ)⟩).aa b=⟨(s.aa b).gen+1,.bj a7 ((xs.take G).drop aZ)⟩:=by simp[aA.cz]
      have hT:(dC (.slice a7) (.al b (g+1))).run (s.cz b ⟨(s.aa b).gen+1,.bj a7 ((xs.take G).drop aZ)⟩).aa=some ((xs.take G).drop aZ,[b]):=by
       simp[dC,kr,ad.eF,dX,aA.cz,aC.1,eT]
      have KC:bC C.P (s.cz b ⟨(s.aa b).gen+1,.bj a7 ((xs.take G).drop aZ)⟩).aa κ' F w (.al b (g+1)) (a.eval x):=by
       refine⟨⟨by grind,ah.1.2⟩,λ_ _=>?_⟩;rw[Sa];exact ae
      have:=main (s.cz b ⟨(s.aa b).gen+1,.bj a7 ((xs.take G).drop aZ)⟩) a w κ' F Q b (g+2) ((xs.take G).drop aZ) ys bc nS (by grind) (sf bc hT KC) (λq cap bt KF _=>?_) hc
      ·rw[ad2]at this;exact this
      ·rw[ae]at bt;cases aB:(κ' b).e9 with
       | true=>
        simp only[bD.slice,aB,if_true,Value.slice.injEq]at bt;grind
       | false=>
        simp only[bD.slice,aB,Bool.false_eq_true,if_false,Value.slice.injEq]at bt;grind
     ·cases h
    ·cases h
   ·rename_i e';simp only[ar.e5,Option.bind_eq_some_iff]at h;obtain⟨⟨ys,l⟩,j9,h⟩:=h;obtain⟨b,W,an⟩:=qZ h;simp only[Option.some.injEq]at an;subst an;intro a w κ F Q M be hc;have ah:bC C.P s.aa κ F w (use (a8 C.aN s.ay x)).2 (a.eval x):=cP M x rfl be.1;rw[e']at ah;simp only[bC]at ah;have:=main s a w κ F Q b ((s.aa b).gen+1) [] ys M (sf M j9 (cP M y rfl be.2)) (Nat.lt_succ_self _) ⟨none,0,ah,.inl ⟨rfl,rfl,rfl⟩⟩ (λq cap bt KF _=>by grind) (by grind);exact this
   ·rename_i a7 xs e';split at h
    ·rename_i q4;subst q4;simp only[ar.e5,Option.bind_eq_some_iff]at h;obtain⟨⟨ys,l⟩,j9,h⟩:=h;obtain⟨b,W,an⟩:=qZ h;simp only[Option.some.injEq]at an;subst an;intro a w κ F Q M be hc;have ah:bC C.P s.aa κ F w (use (a8 C.aN s.ay x)).2 (a.eval x):=cP M x rfl be.1;rw[e']at ah;obtain⟨Ks,Ci,FR⟩:=ah;have hT:(dC (.slice a7) (.val (.slice a7) xs)).run s.aa=some (xs,[]):=by
      simp[dC,eT]
     exact main s a w κ F Q b ((s.aa b).gen+1) xs ys M (sf M j9 (cP M y rfl be.2)) (Nat.lt_succ_self _) (sf M hT Ks) (λq cap bt KF xi=>by
      grind) hc.2
    ·cases h
   ·cases h
  ·cases h
 ·cases h
theorem ad'{P:Program}{F:Nat->Prop}{w:World}{all:List Value}{ys:z1'}(h:gx P (.int .u8) F w all ys):all=ys.map (Value.int .u8):=by
 obtain⟨E,U⟩:=h;have E:all.length=ys.length:=E.trans (Nat.mul_one _);apply List.ext_getElem (by simpa using E);intro i G dL;have dA:i<ys.length:=by omega
 obtain⟨e,_⟩:=U i dA;have aE:ad.size (.int .u8)=1:=rfl;rw[aE,Nat.mul_one,List.drop_eq_getElem_cons G]at e;have:=(List.cons.inj e).1;rw[this];simp
theorem Sb:∀ (ys:z1') (s:ByteArray),ys.foldl (λr n=>r.push (UInt8.ofNat n.toNat)) s=⟨s.data++(vd ys).toArray⟩
 | [],s=>by simp[vd]
 | y::ys,s=>by
  rw[List.foldl_cons,Sb ys];refine congrArg ByteArray.mk ?_;apply Array.ext';simp[vd,ByteArray.push]
theorem aea(ys:z1'):ys.foldl (λr n=>r.push (UInt8.ofNat n.toNat)) ByteArray.empty=⟨(vd ys).toArray⟩:=by
 rw[Sb];refine congrArg ByteArray.mk ?_;apply Array.ext';simp[ByteArray.empty,ByteArray.emptyWithCapacity];rfl
theorem aeb(aV:dU C.P T){KG KH:TypeId}{x:Operand}(bh:∀ i,o.dst=some i->i<C.nt)(af:o.op=.convert KG KH x)(h:(bx C.aN T bg (a8 C.aN s.ay) o).run s.aa=some res):cK C o s res:=by
 simp only[bx,af]at h;split at h
 ·rename_i aQ k aS n t1 t2 ah;simp only[bO,ar.bN,Option.some.injEq]at h;subst h;refine cK.pure (by grind) bh λa w κ F M be _=>?_;have E:=ou (cP M x rfl be) ah;have ax:=(aV.b7 t1 (by simp)).int;have aO:=(aV.b7 t2 (by simp)).int;refine⟨.int k (k.wrap n),?_,gV.2 ⟨rfl,p8 _ _⟩⟩;simp[execOp,af,convert,dD ax,dD aO,E.1,Conv.intToInt]
 ·rename_i t1 t2;simp only[ar.e5,Option.bind_eq_some_iff,bO,ar.bN,Option.some.injEq]at h;obtain⟨⟨ys,l⟩,j9,rfl⟩:=h;refine cK.pure (by grind) bh λa w κ F M be _=>?_;have hu:=cP M x rfl be;obtain⟨q,cap,ae,nS⟩:=sf M j9 hu;have cc:ys.length<2 ^ 63:=by
   have E:=mm (F':=λ_=>True) M.bE (λ_ _=>trivial) j9 (λ_ _ _=>trivial) hu;obtain⟨_,U⟩:=(dV rfl).1 E;obtain⟨q',cap',ax,m1,m2,_⟩:=U;have aO:=(List.cons.inj (ax.symm.trans rfl)).1;omega
  obtain⟨jK,aF,ja,_⟩:=(aV.b7 t1 (by simp)).sl;have ax:=ja.int;have aO:=(aV.b7 t2 (by simp)).str;refine⟨.string ⟨(vd ys).toArray⟩,?_,mh.2 ⟨rfl,by simpa [vd]using cc⟩⟩;have hc:(convert KG KH (a.eval x)).run C.P w=.ok (.string ⟨(vd ys).toArray⟩) w:=by
   rw[ae,run_convert_bytes_string w KG KH jK q ys.length cap aF ax aO];rcases nS with⟨rfl,rfl,rfl⟩ | ⟨p,all,rfl,bb,oz⟩
   ·rfl
   ·have fU:all=ys.map (Value.int .u8):=ad' bb;have aj:=FH (P:=C.P) oz;rw[fU,List.length_map]at aj;rw[run_bytesToString w p ys.length cap ys aj];refine congrArg (λs=>Result.ok (Value.string s) w) ?_;exact aea ys
  simp[execOp,af,hc]
 ·cases h
end
end Go.Fer
namespace Go.Fer
open Go.RowKit
theorem h2.y_{P:Program}{k:FuncId}{ts aW:ad}{sh Sc:ts.ai->A aW.ai}(h:h2 P k ts aW sh)(aE:∀ x,A.le (sh x) (Sc x)):h2 P k ts aW Sc where
 enter:=h.enter
 iV:=λF w args x bp gu bb q5=>by
  obtain⟨E,U⟩:=aE x q5;exact (h.iV F w args x bp gu bb E).mono λe w' ⟨v,y,ax,aO,cF⟩=>⟨v,y,ax,U y aO,cF⟩
def aL.sh(c:aL)(x:c.ts.ai):A c.aW.ai:=A.dS (c.pre x) (c.g x)
def aec(P:Program)(k:FuncId)(ts:ad)(x:ts.ai)(e:ad)(ys:List e.ai):Prop:=
 ∀ (F:Nat->Prop) (w:World) (args:List Value),(∀ r,F r->r<w.heap.size)->nJ P F w->fq P ts F w args x->Calls P k args.toArray w λz w'=>∃ (b:bD) (F':Nat->Prop),z=.returned (b.slice ys.length)/\(∀ r,F r->F' r)/\(∀ r,F' r->F r\/(w.heap.size<=r/\r<w'.heap.size))/\
  (b.e9=true->ys=[])/\(b.e9=false->(w.heap.size<=b.aa/\b.aa<w'.heap.size/\¬F' b.aa)/\∃ cs T,w'.heap[b.aa]?=some (.cells cs T (0,0))/\b.off+b.cap*e.size<=cs.size/\ys.length<=b.cap/\b.cap<2 ^ 63/\lL P e F' w' cs b.off ys)/\Below w.heap.size w w'
def Cy(P:Program)(k:FuncId)(c:aL):Prop:=(∀ args w,(callFunc k args).run P w=.ok (.enter k args) w)/\∀ x,c.pre x->∀ y,B_ c.aW (c.g x)=some y->aec P k c.ts x y.1 y.2
def jn(P:Program)(bg:Nat->Option aL):Prop:=∀ k c,bg k=some c->(nM c.aW=false->h2 P k c.ts c.aW c.sh)/\(nM c.aW=true->Cy P k c)
theorem aed{t:ad}{y:t.ai}{z:(e:ad)×List e.ai}(h:B_ t y=some z):nM t=true:=by
 unfold B_ at h;unfold nM;split at h<;>simp_all
theorem aee{t:ad}{y:t.ai}(h:B_ t y=none):nM t=false:=by
 cases hc:nM t with
 | false=>rfl
 | true=>
  unfold nM at hc;split at hc
  ·cases h
  ·cases hc
theorem j'{t:ad}(aI:t.gF=true)(avs:List aH):iY t avs=(match avs with | [v]=>dC t v | _=>.none:ar (Option (t.ai×List Nat))):=by
 cases t<;>first
  | (cases aI;done)
  | (rcases avs with _ | ⟨v,_ | ⟨u,aD⟩⟩<;>rfl)
theorem vn{P:Program}{H:Nat->bK}{κ:Nat->bD}{F F':Nat->Prop}{w:World}(aT:∀ b,cG P H κ F w b)(bp:∀ r,F r->F' r):∀ (t:ad) {avs:List aH} {aD:List Value} {x:t.ai} {l:List Nat},(iY t avs).run H=some (x,l)->
  iX H κ F' l->avs.length=aD.length->(∀ i (h:i<avs.length) (dt:i<aD.length),bC P H κ F w avs[i] aD[i])->fq P t F' w aD x:=by
 have gF:∀ (t:ad),t.gF=true->∀ {avs:List aH} {aD:List Value} {x:t.ai} {l:List Nat},(match avs with | [v]=>dC t v | _=>.none:ar (Option (t.ai×List Nat))).run H=some (x,l)->
   iX H κ F' l->avs.length=aD.length->(∀ i (h:i<avs.length) (dt:i<aD.length),bC P H κ F w avs[i] aD[i])->fq P t F' w aD x:=by
  intro t aI avs aD x l h aj hlen fU;split at h
  ·rename_i v;match aD,hlen with
   | [u],_=>
    refine (r4 aI).2 ⟨u,rfl,mm aT bp h aj ?_⟩;exact fU 0 (by simp) (by simp)
  ·cases h
 intro t;induction t with
 | az a b fy eK=>
  intro avs aD x l h aj hlen fU;match avs,aD,hlen with
  | [],_,_=>simp[iY,ar.none]at h
  | v::avs,u::aD,hlen=>
   simp only[iY,ar.e5,Option.bind_eq_some_iff,ar.bN,Option.some.injEq,Prod.mk.injEq]at h;obtain⟨⟨y,m⟩,E,⟨z,dy⟩,U,rfl,rfl⟩:=h;refine BW.2 ⟨mm aT bp E aj.left (fU 0 (by simp) (by simp)),?_⟩;exact eK U aj.right (by grind) λi G dL=>by
    have:=fU (i+1) (by grind) (by grind);grind
 | cU=>
  intro avs aD x l h aj hlen fU;match avs,aD,hlen with
  | [],[],_=>exact⟨rfl,rfl⟩
  | _::_,_,_=>simp[iY,ar.none]at h
 | bool=>intro avs aD x l h;rw[j' rfl]at h;exact gF _ rfl h
 | int k=>intro avs aD x l h;rw[j' rfl]at h;exact gF (.int k) rfl h
 | str=>intro avs aD x l h;rw[j' rfl]at h;exact gF _ rfl h
 | st t _=>intro avs aD x l h;rw[j' rfl]at h;exact gF (.st t) rfl h
 | slice e _=>intro avs aD x l h;rw[j' rfl]at h;exact gF (.slice e) rfl h
 | array n e _=>intro avs aD x l h;rw[j' rfl]at h;exact gF (.array n e) rfl h
 | bI e _=>intro avs aD x l h;rw[j' rfl]at h;exact gF (.bI e) rfl h
 | map k v _ _=>intro avs aD x l h;rw[j' rfl]at h;exact gF (.map k v) rfl h
 | fn a b _ _=>intro avs aD x l h;rw[j' rfl]at h;exact gF (.fn a b) rfl h
 | ct a _=>intro avs aD x l h;rw[j' rfl]at h;exact gF (.ct a) rfl h
 | eu=>intro avs aD x l h;rw[j' rfl]at h;exact gF .eu rfl h
theorem qc{H:Nat->bK}:∀ (t:ad) {avs:List aH} {x:t.ai} {l:List Nat},(iY t avs).run H=some (x,l)->gM H l:=by
 have gF:∀ (t:ad),t.gF=true->∀ {avs:List aH} {x:t.ai} {l:List Nat},(match avs with | [v]=>dC t v | _=>.none:ar (Option (t.ai×List Nat))).run H=some (x,l)->gM H l:=by
  intro t _ avs x l h;split at h
  ·exact mT h
  ·cases h
 intro t;induction t with
 | az a b fy eK=>
  intro avs x l h;match avs with
  | []=>simp[iY,ar.none]at h
  | v::avs=>
   simp only[iY,ar.e5,Option.bind_eq_some_iff,ar.bN,Option.some.injEq,Prod.mk.injEq]at h;obtain⟨⟨y,m⟩,E,⟨z,dy⟩,U,rfl,rfl⟩:=h;exact (mT E).append (eK U)
 | cU=>
  intro avs x l h;match avs with
  | []=>
   simp only[iY,ar.bN,Option.some.injEq,Prod.mk.injEq]at h;rw[<-h.2];exact .nil H
  | _::_=>simp[iY,ar.none]at h
 | bool=>intro avs x l h;rw[j' rfl]at h;exact gF _ rfl h
 | int k=>intro avs x l h;rw[j' rfl]at h;exact gF (.int k) rfl h
 | str=>intro avs x l h;rw[j' rfl]at h;exact gF _ rfl h
 | st t _=>intro avs x l h;rw[j' rfl]at h;exact gF (.st t) rfl h
 | slice e _=>intro avs x l h;rw[j' rfl]at h;exact gF (.slice e) rfl h
 | array n e _=>intro avs x l h;rw[j' rfl]at h;exact gF (.array n e) rfl h
 | bI e _=>intro avs x l h;rw[j' rfl]at h;exact gF (.bI e) rfl h
 | map k v _ _=>intro avs x l h;rw[j' rfl]at h;exact gF (.map k v) rfl h
 | fn a b _ _=>intro avs x l h;rw[j' rfl]at h;exact gF (.fn a b) rfl h
 | ct a _=>intro avs x l h;rw[j' rfl]at h;exact gF (.ct a) rfl h
 | eu=>intro avs x l h;rw[j' rfl]at h;exact gF .eu rfl h
theorem aef{H:Nat->bK}{e:ad}{ps:List (Nat×aH)}:∀ (n i:Nat) {xs:List e.ai} {l:List Nat},(tE e ps i n).run H=some (xs,l)->gM H l:=by
 intro n;induction n with
 | zero=>intro i xs l h;cases h;exact .nil H
 | succ n aK=>
  intro i xs l h;simp only[tE,ar.e5,Option.bind_eq_some_iff,ar.bN,Option.some.injEq,Prod.mk.injEq]at h;obtain⟨⟨x,m⟩,E,⟨ys,dy⟩,U,rfl,rfl⟩:=h;refine gM.append ?_ (aK (i+1) U);split at E
  ·exact mT E
  ·simp only[ar.bN,Option.some.injEq,Prod.mk.injEq]at E;rw[<-E.2];exact .nil H
theorem Sd{P:Program}{F F':Nat->Prop}{w w':World}{t:ad}{aD:List Value}{x:t.ai}(aI:t.pure=true)(h:fq P t F w aD x):fq P t F' w' aD x:=⟨h.1,ac2 t aI h.2⟩
theorem tO{P:Program}{H:Nat->bK}{κ:Nat->bD}{F:Nat->Prop}{w:World}:∀ (t:ad) {aD:List Value} {y:t.ai},fq P t F w aD y->t≠.cU->aD.length=j6 t/\∀ i,i<j6 t->bC P H κ F w (ku t y i) (aD.getD i Go.undef):=by
 intro t;induction t with
 | az a b _ eK=>
  intro aD y h _;obtain⟨v,us,rfl,E,U⟩:=Fs h;by_cases W:b=.cU
  ·subst W;have:us=[]:=U.1;subst this;refine⟨rfl,λi G=>?_⟩;cases i with
   | zero=>exact E
   | succ i=>simp only[j6]at G;omega
  ·obtain⟨aQ,aS⟩:=eK U W;refine⟨by simp[j6,aQ],λi G=>?_⟩;cases i with
   | zero=>exact E
   | succ i=>
    have:=aS i (by simp only[j6]at G;omega);simpa [ku]using this
 | cU=>simp
 | _=>
  intro aD y h _;obtain⟨v,rfl,E⟩:=(r4 rfl).1 h;refine⟨rfl,λi G=>?_⟩;simp only[j6]at G;have:i=0:=by omega
  subst this;exact E
theorem Cz{P:Program}{H:Nat->bK}{κ:Nat->bD}{F:Nat->Prop}{w:World}{t:ad}{v:Value}{y:t.ai}(h:tx P t F w v y):bC P H κ F w (qU t y) v:=by
 have p2:=@tO P H κ F w;obtain⟨aD,E,U⟩:=h;cases t with
 | az a b=>
  simp only[y3]at E;obtain⟨aQ,aS⟩:=p2 (.az a b) U (by simp);exact⟨aD,E,aQ,aS⟩
 | cU=>exact E.1
 | _=>
  obtain⟨u,rfl,hu⟩:=(r4 rfl).1 U;have:v=u:=by simpa [y3,eq_comm]using E
  rw[this];exact hu
section
variable {C:b'} {T:Nat->ad} {bg:Nat->Option aL} {o:Oper} {s:aA} {res:eC}
theorem bm.grow{a:Act}{w w':World}{κ:Nat->bD}{F:Nat->Prop}(h:bm C s a w κ F)(W:Below w.heap.size w w'):bm C s a w' κ (u7 F w w'):=by
 have he:c6 F w w':=⟨W.size,λr M=>W.block r (h.db r M)⟩
 refine h.move (H':=s.aa) (fr.refl _ _) (λ_ M=>.inl M) (λr M=>M.imp id λM=>.inr M.1) W.size (λr M _=>W.block r M) ⟨W.os,W.tape,W.output⟩ (λ_=>?_) ?_ h.inj ?_ (λ_ _ h=>⟨rfl,h⟩)
 ·intro b;exact cG.lf (h.bE b) (fr.refl _ _) (λ_ M=>.inl M) he rfl rfl λaf=>W.block _ (h.al b af).1
 ·intro b af;have:=h.al b af;refine⟨Nat.lt_of_lt_of_le this.1 W.size,λaq=>?_,.inl ⟨b,af,rfl⟩⟩;rcases aq with aq | ⟨aq,_⟩
  ·exact this.2.1 aq
  ·omega
 ·intro r M;rcases M with M | ⟨_,M⟩
  ·exact Nat.lt_of_lt_of_le (h.db r M) W.size
  omega
theorem CA{r:Option Nat}{P:Program}{o:Oper}{a:Act}{w:World}{K:Act->World->Prop}{Q:Exit->Act->World->Prop}{f:FuncId}{args:Array Value}{R:Ending->World->Prop}(aw:∀ c,o.op≠.defer c)
  (h:(execOp a.eval o).run P w=.ok (.enter f args) w) (hc:Calls P f args w R) (an:∀ e w',R e w'->∃ v,e=.returned v/\K (a.put o.dst v) w'):o.wpIn (dT r) 0 P a w K Q:=by
 refine⟨λ_ _=>trivial,?_⟩;rw[zi aw,h];refine⟨λaE=>(by cases aE),?_⟩;have E:CallsIn Fence.wide 0 P f args w R:=callsIn_wide.2 hc;have U:CallsIn (dT r) 0 P f args w R:=by
  cases r with
  | none=>exact E
  | some l=>exact CallsIn.inRound l E
 refine U.mono λe w' he=>?_;grind
theorem Se{a:Act}{w:World}{κ:Nat->bD}{F:Nat->Prop}{ts:ad}(M:bm C s a w κ F){args:Array Operand}(be:jH (args.toList.map (a8 C.aN s.ay))){x:ts.ai}{l:List Nat}
  (ah:(iY ts ((args.toList.map (a8 C.aN s.ay)).map λv=>(use v).2)).run s.aa=some (x,l)):∃ F',(∀ r,F r->F' r)/\bm C (s.cB l) a w κ F'/\fq C.P ts F' w (args.toList.map a.eval) x:=by
 obtain⟨args⟩:=args;obtain⟨F',f1,bc,f2⟩:=bm.lj (qc ts ah) M;refine⟨F',f1,bc,vn M.bE f1 ts ah f2 (by simp) λi G dL=>?_⟩;simp only[List.getElem_map];have dA:i<args.length:=by grind
 have E:=sa be i (by grind);have ax:(args.map (a8 C.aN s.ay)).getD i .undef=a8 C.aN s.ay args[i]:=by grind
 rw[show (List.map (a8 C.aN s.ay) (⟨args⟩:Array Operand).toList)=args.map (a8 C.aN s.ay) from rfl,ax]at E;exact o' (j8 M args[i]) E
theorem Sf{a:Act}{w:World}{κ:Nat->bD}{F:Nat->Prop}{Q:Exit->Act->World->Prop}{K:Act->World->Prop}{k:FuncId}{ts aW:ad}{sh:ts.ai->A aW.ai}(M:bm C s a w κ F)(aq:h2 C.P k ts aW sh)
  (bh:∀ i,o.dst=some i->i<C.nt) {args:Array Operand} {dp:Array TypeId} (af:o.op=.call { callee:=.value (.func k),args:=args,argTypes:=dp }) (be:jH (args.toList.map (a8 C.aN s.ay))) {x:ts.ai} {l:List Nat}
  (ah:(iY ts ((args.toList.map (a8 C.aN s.ay)).map λv=>(use v).2)).run s.aa=some (x,l)) (aE:(sh x).cm)
  (an:∀ y w',(sh x).bL y->∀ v,cu C ((if aW.pure then s else s.cB l).set o.dst (qU aW y)) (a.put o.dst v) w'->K (a.put o.dst v) w'):o.wpIn (dT C.r) 0 C.P a w K Q:=by
 have aw:∀ c,o.op≠.defer c:=by grind
 obtain⟨args⟩:=args;have c7:(execOp a.eval o).run C.P w=.ok (.enter k (args.map a.eval).toArray) w:=by
  simp only[execOp,af,Sem.run_bind,resolve,Act.eval,Deferred.ofValue,Sem.run_pure,Result.andThen_ok,invoke];have:=aq.enter (args.map a.eval).toArray w;grind
 obtain⟨F',f1,bc,dY⟩:=Se M be ah;refine CA aw c7 (aq.iV F' w _ x bc.db bc.iA dY aE) λe w' ⟨v,y,he,aR,gv,W⟩=>⟨v,he,an y w' aR v ?_⟩
 by_cases ao:aW.pure=true
 ·rw[if_pos ao];have aC:=M.grow W;refine⟨κ,_,aC.set bh (Cz ?_)⟩;obtain⟨aD,dz,dP⟩:=gv;exact⟨aD,dz,Sd ao dP⟩
 ·rw[if_neg ao];have aC:=bc.grow W;exact⟨κ,_,aC.set bh (Cz gv)⟩
theorem bm.hG{a:Act}{w w':World}{κ:Nat->bD}{F F':Nat->Prop}(h:bm C s a w κ F){b g:Nat}{e:ad}{ys:List e.ai}{k:bD}(B1:b<eR)(aC:(s.aa b).gen<g)(W:Below w.heap.size w w')
  (bp:∀ r,F r->F' r) (tw:∀ r,F' r->F r\/(w.heap.size<=r/\r<w'.heap.size)) (E:k.e9=true->ys=[])
  (U:k.e9=false->(w.heap.size<=k.aa/\k.aa<w'.heap.size/\¬F' k.aa)/\∃ cs T,w'.heap[k.aa]?=some (.cells cs T (0,0))/\k.off+k.cap*e.size<=cs.size/\ys.length<=k.cap/\k.cap<2 ^ 63/\lL C.P e F' w' cs k.off ys) :
  bm C (s.cz b ⟨g,.bj e ys⟩) a w' (λi=>if i=b then k else κ i) F':=by
 have aj:fr s.aa κ (λi=>if i=b then ⟨g,.bj e ys⟩ else s.aa i) (λi=>if i=b then k else κ i):=y7 aC λbf dc=>by grind
 refine h.move (H':=λi=>if i=b then ⟨g,.bj e ys⟩ else s.aa i) aj bp (λr M=>(tw r M).imp id λh=>.inr h.1) W.size (λr M _=>W.block r M) ⟨W.os,W.tape,W.output⟩ (λhe=>?_) ?_ ?_ ?_ (y8 (.inl B1) λbf dc=>by grind)
 ·intro i;by_cases G:i=b
  ·subst G;simp only[cG,if_true];exact⟨E,λaB=>(U aB).2⟩
  ·refine cG.lf (h.bE i) aj bp he (by grind) (by grind) λaf=>?_;exact W.block _ (h.al i af).1
 ·intro i G;by_cases eM:i=b
  ·subst eM;simp only[if_true,bR.b1,Bool.not_eq_true']at G ⊢;obtain⟨⟨aQ,aS,bP⟩,_⟩:=U G;exact⟨aS,bP,.inr aQ⟩
  ·simp only[if_neg eM]at G ⊢;have:=h.al i G;refine⟨Nat.lt_of_lt_of_le this.1 W.size,λaq=>?_,.inl ⟨i,G,rfl⟩⟩;rcases tw _ aq with aq | aq
   ·exact this.2.1 aq
   ·omega
 ·intro i j G aF a7;by_cases eM:i=b<;>by_cases mj:j=b
  ·omega
  ·simp only[if_pos eM,if_neg mj,bR.b1,Bool.not_eq_true']at G aF a7;have:=(h.al j aF).1;have:=(U G).1.1;omega
  ·simp only[if_neg eM,if_pos mj,bR.b1,Bool.not_eq_true']at G aF a7;have:=(h.al i G).1;have:=(U aF).1.1;omega
  ·simp only[if_neg eM,if_neg mj]at G aF a7;exact h.inj i j G aF a7
 ·intro r M;rcases tw r M with dt | dt
  ·exact Nat.lt_of_lt_of_le (h.db r dt) W.size
  ·exact dt.2
theorem aeg(cC:jn C.P bg){k:FuncId}{args:Array Operand}{dp:Array TypeId}(bh:∀ i,o.dst=some i->i<C.nt)(af:o.op=.call { callee:=.value (.func k),args:=args,argTypes:=dp })(h:(bx C.aN T bg (a8 C.aN s.ay) o).run s.aa=some res):cK C o s res:=by
 simp only[bx,af,mQ,FC]at h;split at h
 ·rename_i c hc;simp only[ar.e5,Option.bind_eq_some_iff]at h;obtain⟨⟨x,l⟩,ah,h⟩:=h;split at h
  ·rename_i y aR;simp only[ar.run_bind]at h;obtain⟨d,aw,h⟩:=qZ h;split at h
   ·cases h
   rename_i tP;cases h;have tP:d ∉ l:=by simpa using tP
   have KI:=bh d aw;intro a w κ F Q M be gN;obtain⟨aQ,aS⟩:=(cC k c hc).2 (aed aR);obtain⟨F',f1,bc,dY⟩:=Se M be ah;have c7:(execOp a.eval o).run C.P w=.ok (.enter k (args.map a.eval)) w:=by
    simp only[execOp,af,Sem.run_bind,resolve,Act.eval,Deferred.ofValue,Sem.run_pure,Result.andThen_ok,invoke];have:=aQ (args.map a.eval) w;grind
   have jo:=aS x gN y aR F' w _ bc.db bc.iA dY;rw[show (args.toList.map a.eval).toArray=args.map a.eval from by rw[<-Array.toList_map,Array.toArray_toList]]at jo;refine CA (by grind) c7 jo λz w' ⟨b,en,bl,g1,ey,g3,g4,g5⟩=>⟨_,bl,?_⟩
   have zx:(s.cB l).aa d=s.aa d:=by simp[aA.cB,tP]
   have jl:=bc.hG (b:=d) (g:=(s.aa d).gen+1) (e:=y.1) (ys:=y.2) (k:=b) (Nat.lt_of_lt_of_le KI M.gq) (by rw[zx];omega) g5 g1 ey g3 g4;refine⟨λi=>if i=d then b else κ i,en,?_⟩;simp only[aA.h6];rw[Cj,tI];refine jl.set bh ⟨⟨by simp[aA.cz],by unfold bD.slice;split<;>rfl⟩,λ_ _=>by simp[aA.cz,bR.len]⟩
  rename_i aR;simp only[ar.run_bind,ar.bN,Option.some.injEq]at h;subst h;intro a w κ F Q M be gN;refine Sf M ((cC k c hc).1 (aee aR)) bh af be ah gN λy w' aR v ka=>?_;have aR:y=c.g x:=aR;subst aR;have e:∀ (r:ar (List (Nat×bK))),r=(if c.aW.pure then .ret [] else jG l)->s.gi (r.run s.aa)=(if c.aW.pure then s else s.cB l):=by
   intro r M;subst M;split
   ·rfl
   ·exact tI s l
  simp only[aA.h6];grind
 ·cases h
theorem Sg{P:Program}{H:Nat->bK}{κ:Nat->bD}{F F':Nat->Prop}{w:World}(aT:∀ b,cG P H κ F w b)(bp:∀ r,F r->F' r){e:ad}{zero:List Value}(bl:bJ P e F' w zero e.df){ps:List (Nat×aH)}{qs:List (Nat×Value)}(hlen:ps.length=qs.length)
  (fU:∀ i (h:i<ps.length) (dt:i<qs.length),ps[i].1=qs[i].1/\bC P H κ F w ps[i].2 qs[i].2):∀ (n i:Nat) {xs:List e.ai} {l:List Nat},(tE e ps i n).run H=some (xs,l)->
  iX H κ F' l->xs.length=n/\∀ j (h:j<xs.length),∃ bk,bJ P e F' w bk xs[j]/\(match qs.find? (λp=>p.1 == i+j) with | some q=>bk=q.2.cells.toList | none=>bk=zero):=by
 have find:∀ (ps:List (Nat×aH)) (qs:List (Nat×Value)),ps.length=qs.length->(∀ i (h:i<ps.length) (dt:i<qs.length),ps[i].1=qs[i].1/\bC P H κ F w ps[i].2 qs[i].2)->∀ i,(ps.find? (λp=>p.1 == i)=none/\qs.find? (λp=>p.1 == i)=none)\/∃ p q,ps.find? (λp=>p.1 == i)=some p/\qs.find? (λp=>p.1 == i)=some q/\bC P H κ F w p.2 q.2:=by
  intro ps;induction ps with
  | nil=>grind
  | cons p ps aK=>
   intro qs aj h i;cases qs with
   | nil=>grind
   | cons q qs=>
    have aY:=h 0 (by simp) (by simp);simp only[List.getElem_cons_zero]at aY;by_cases ao:p.1=i
    ·grind
    ·have bt:q.1≠i:=by omega
     have:=aK qs (by grind) (λj aF fW=>by have:=h (j+1) (by grind) (by grind);grind) i;grind
 intro n;induction n with
 | zero=>intro i xs l h _;cases h;simp
 | succ n aK=>
  intro i xs l h aj;simp only[tE,ar.e5,Option.bind_eq_some_iff,ar.bN,Option.some.injEq,Prod.mk.injEq]at h;obtain⟨⟨x,m⟩,E,⟨ys,dy⟩,U,rfl,rfl⟩:=h;obtain⟨aQ,aS⟩:=aK (i+1) U aj.right;refine⟨by grind,λj aF=>?_⟩;cases j with
  | zero=>
   rcases find ps qs hlen fU i with⟨f1,f2⟩ | ⟨p,q,f1,f2,f3⟩
   ·rw[f1]at E;simp only[ar.bN,Option.some.injEq,Prod.mk.injEq]at E;grind
   ·rw[f1]at E;refine⟨q.2.cells.toList,(mm aT bp E aj.left f3).2,?_⟩;grind
  | succ j=>
   obtain⟨bk,d1,d2⟩:=aS j (by grind);grind
end
end Go.Fer
namespace Go.Fer
open Go.RowKit
def si(d:Nat)(em:Bool)(xs:Array Value):List Field->Sem Unit
 | []=>pure ()
 | f::eU=>
  if f.name ≠ "_" then do
   let a <-part f.type xs f.offset
   Instr.checkKey em d f.type a
   si d em xs eU
  else si d em xs eU
theorem aeh{P:Program}(w:World)(em:Bool)(d:Nat)(t:TypeId)(xs:Array Value)(aI:P.underlying t=some (.struct (P.fieldsOf t))) :
  (Instr.checkKey em (d+1) t (.agg xs)).run P w=(si d em xs (P.fieldsOf t).toList).run P w:=by
 simp only[Instr.checkKey,Sem.run_bind,dD aI,Result.andThen_ok];rw[<-Array.forIn_toList];generalize (P.fieldsOf t).toList=eU;clear aI;induction eU generalizing w with
 | nil=>rfl
 | cons f eU aK=>
  simp only[List.forIn_cons,si,Sem.run_bind,Sem.run_ite];split
  ·generalize (part f.type xs f.offset).run P w=b5;cases b5 with
   | ok a cp=>
    simp only[Result.andThen_ok];generalize (Instr.checkKey em d f.type a).run P cp=cw;cases cw with
    | ok b c8=>
     simp_all
    | halt x c8=>rfl
   | halt x cp=>rfl
  simp_all
theorem CB{P:Program}{F:Nat->Prop}{w:World}{em:Bool}:∀ (t:ad) (d:Nat),t.kQ=true->t.j7<=d->
  (∀ {id:TypeId} {v:Value} {x:t.ai},b_ P t id->ev P t F w v x->(Instr.checkKey em d id v).run P w=.ok () w)/\
  (∀ {l:List Field} {off:Nat} {xs:Array Value} {p c q:List Value} {x:t.ai},cH P t (.inr (l,off))=true->xs.toList=p++(c++q)->p.length=off->bJ P t F w c x->
   (si d em xs l).run P w=.ok () w):=by
 intro t;induction t with
 | bool=>
  intro d _ aw;refine⟨λ{id v x} h E=>?_,λh=>by simp[cH]at h⟩;rw[fg.1 E];obtain⟨d,rfl⟩:∃ e,d=e+1:=⟨d - 1,by simp only[ad.j7]at aw;omega⟩
  unfold b_ at h;simp only[cH,Bool.and_eq_true]at h;obtain⟨_,h⟩:=h;split at h
  ·rename_i hu;simp[Instr.checkKey,dD hu]
  grind
 | int k=>
  intro d _ aw;refine⟨λ{id v x} h E=>?_,λh=>by simp[cH]at h⟩;rw[(gV.1 E).1];obtain⟨d,rfl⟩:∃ e,d=e+1:=⟨d - 1,by simp only[ad.j7]at aw;omega⟩
  simp[Instr.checkKey,dD (b_.int h)]
 | str=>
  intro d _ aw;refine⟨λ{id v x} h E=>?_,λh=>by simp[cH]at h⟩;rw[(mh.1 E).1];obtain⟨d,rfl⟩:∃ e,d=e+1:=⟨d - 1,by simp only[ad.j7]at aw;omega⟩
  simp[Instr.checkKey,dD (b_.str h)]
 | cU=>intro d h;cases h
 | slice e _=>intro d h;cases h
 | array n e _=>intro d h;cases h
 | bI e _=>intro d h;cases h
 | map k v _ _=>intro d h;cases h
 | fn a b _ _=>intro d h;cases h
 | ct a _=>intro d h;cases h
 | eu=>intro d h;cases h
 | az a b fy eK=>
  intro d hc aw;simp only[ad.kQ,Bool.and_eq_true]at hc;simp only[ad.j7]at aw;have Kf:=fy d hc.1 (by omega);have o6:=eK d hc.2 (by omega);refine⟨λh=>by unfold b_ at h;simp[cH]at h,?_⟩;intro l off xs p c q x h ah ao pb;simp only[bJ]at pb;obtain⟨bF,c2,rfl,aQ,aS⟩:=pb;have e2:=hP a aQ;have step : ∀ (f : Field) (cn : List Field), f.offset = off -> b_ P a f.type -> f.name ≠ "_" -> (si d em xs (f :: cn)).run P w = (si d em xs cn).run P w := by
   intro f cn af aq aB;obtain⟨v,b5,cw⟩:=qY (cs:=xs) (p:=p) (c:=bF) (q:=c2++q) aq (by grind) aQ;simp only[si,aB,ne_eq,not_false_eq_true,if_true,Sem.run_bind];rw[af,<-ao,b5,Result.andThen_ok,Kf.1 aq cw,Result.andThen_ok]
  match l,h with
  | [],h=>rfl
  | [f],h=>simp only[cH,Bool.false_eq_true]at h
  | [f,g],h=>
   simp only[cH,Bool.and_eq_true,beq_iff_eq,bne_iff_ne,ne_eq]at h;obtain⟨⟨⟨⟨E,U⟩,ag⟩,a6⟩,⟨⟨⟨bM,dn⟩,fT⟩,jh⟩⟩:=h;rw[step f [g] E U a6];obtain⟨v,b5,cw⟩:=qY (cs:=xs) (p:=p++bF) (c:=c2) (q:=q) dn (by grind) aS;have ax:(p++bF).length=g.offset:=by grind
   rw[ax]at b5;simp only[si,jh,ne_eq,not_false_eq_true,if_true,Sem.run_bind,b5,Result.andThen_ok,o6.1 dn cw,Sem.run_pure]
  | f::g::i::l,h=>
   simp only[cH,Bool.and_eq_true,beq_iff_eq,bne_iff_ne,ne_eq]at h;obtain⟨⟨⟨⟨E,U⟩,ag⟩,a6⟩,bM⟩:=h;rw[step f _ E U a6,o6.2 bM (p:=p++bF) (c:=c2) (q:=q) (by grind) (by grind) aS]
 | st t aK=>
  intro d hc aw;simp only[ad.j7]at aw;obtain⟨d,rfl⟩:∃ e,d=e+1:=⟨d - 1,by omega⟩
  refine⟨λ{id v x} h E=>?_,λh=>by simp[cH]at h⟩;have i:=aK d hc (by omega);obtain⟨ax,aO,cF,ee⟩:=h.Cc;obtain⟨⟨xs,rfl,hT⟩,pb⟩:=E;simp only[Value.cells,bJ]at pb;rw[aeh w em d id xs ee];rcases cF with cF | ⟨f,cF,dZ,ld,tG⟩ | ⟨rfl,cF⟩
  ·exact i.2 cF (p:=[]) (c:=xs.toList) (q:=[]) (by simp) rfl pb
  ·rw[cF];obtain⟨v,b5,cw⟩:=qY (cs:=xs) (p:=[]) (c:=xs.toList) (q:=[]) ld (by simp) pb;simp only[List.length_nil]at b5;simp only[si,tG,ne_eq,not_false_eq_true,if_true,Sem.run_bind,dZ,b5,Result.andThen_ok,i.1 ld cw,Sem.run_pure]
  ·cases hc
theorem KJ:∀ (t:ad),t.kQ=true->∀ (x y:t.ai),gL t x y=true<->x=y:=by
 intro t;induction t with
 | bool=>intro _ x y;simp[gL]
 | int k=>intro _ x y;simp[gL]
 | str=>intro _ x y;simp[gL]
 | st t aK=>intro h x y;exact aK h x y
 | az a b fy eK=>
  intro h x y;simp only[ad.kQ,Bool.and_eq_true]at h;simp only[gL,Bool.and_eq_true,fy h.1,eK h.2];grind
 | _=>intro h;cases h
def zy{k:ad}{β:Type}(x:k.ai)(es:List MapEntry)(xs:List (k.ai×β))(i:Nat)(r:Option (Nat×Value)):Prop:=
 (r=none/\∀ p∈xs,gL k x p.1=false)\/∃ j e p,es[j]?=some e/\xs[j]?=some p/\gL k x p.1=true/\(∀ j_ q,j_<j->xs[j_]?=some q->gL k x q.1=false)/\r=some (i+j,e.val)
theorem zy.next{k:ad}{β:Type}{x:k.ai}{e:MapEntry}{es:List MapEntry}{p:k.ai×β}{xs:List (k.ai×β)}{i:Nat}{r:Option (Nat×Value)}(h:zy x es xs (i+1) r)(ao:gL k x p.1=false):zy x (e::es) (p::xs) i r:=by
 rcases h with⟨E,U⟩ | ⟨j,a7,p',E,U,ag,a6,bM⟩
 ·exact .inl ⟨E,λq bt=>by
   grind⟩
 ·refine .inr ⟨j+1,a7,p',by grind,by grind,ag,λj_ q fW bt=>?_,by grind⟩;grind
theorem Sh{P:Program}{F:Nat->Prop}{w:World}{k:ad}{β:Type}(hc:k.kQ=true)(aB:k.j7<=10000){lo:TypeId}(an:b_ P k lo){tQ:Value}{x:k.ai}(ah:ev P k F w tQ x):∀ (es:List MapEntry) (xs:List (k.ai×β)) (i:Nat),es.length=xs.length->(∀ (j:Nat) (e:MapEntry) (p:k.ai×β),es[j]?=some e->xs[j]?=some p->ev P k F w e.key p.1)->∃ r,(Instr.findAsking lo tQ es i).run P w=.ok r w/\zy x es xs i r
 | [],[],i,_,_=>⟨none,rfl,.inl ⟨rfl,λp ao=>by cases ao⟩⟩
 | e::es,p::xs,i,aj,h=>by
  have aY:=h 0 e p rfl rfl;have he:=(Ke k 10000 hc aB).1 an ah aY;obtain⟨r,b5,cw⟩:=Sh (β:=β) hc aB an ah es xs (i+1) (by grind) λj a7 p' E U=>h (j+1) a7 p' (by grind) (by grind);cases bt:gL k x p.1 with
  | true=>
   refine⟨some (i,e.val),by simp[Instr.findAsking,Op.equal,Op.maxDepth,he,bt],.inr ⟨0,e,p,rfl,rfl,bt,λj_ q fW=>by omega,rfl⟩⟩
  | false=>exact⟨r,by simp[Instr.findAsking,Op.equal,Op.maxDepth,he,bt,b5],cw.next bt⟩
theorem Si{P:Program}{F:Nat->Prop}{w:World}{k:ad}{lo:TypeId}(an:b_ P k lo){d:TypeDesc}(aw:P.underlying lo=some d){u v:Value}{x y:k.ai}(hu:ev P k F w u x)(ae:ev P k F w v y){b:Bool}(h:Instr.sameNow d u v=some b):b=gL k x y:=by
 cases k with
 | bool=>
  rw[fg.1 hu,fg.1 ae]at h;cases d<;>simp only[Instr.sameNow,Option.some.injEq,reduceCtorEq]at h;rw[<-h];rfl
 | int k=>
  rw[(gV.1 hu).1,(gV.1 ae).1]at h;cases d<;>simp only[Instr.sameNow,if_true,Option.some.injEq,reduceCtorEq]at h;rw[<-h];rfl
 | str=>
  rw[(mh.1 hu).1,(mh.1 ae).1]at h;cases d<;>simp only[Instr.sameNow,Option.some.injEq,reduceCtorEq]at h;rw[<-h,beq_toListBytes,ByteArray.toList_eq,ByteArray.toList_eq];simp only[gL];grind
 | st t=>
  obtain⟨⟨us,rfl,_⟩,_⟩:=hu;cases d<;>cases v<;>simp[Instr.sameNow]at h
 | array n t=>
  obtain⟨⟨us,rfl,_⟩,_⟩:=hu;cases d<;>cases v<;>simp[Instr.sameNow]at h
 | cU=>exact hu.1.elim
 | az a b=>exact hu.1.elim
 | slice e=>
  obtain⟨_,a,cap,ax,_⟩:=(dV rfl).1 hu;obtain rfl:=(List.cons.inj ax).1;cases d<;>simp[Instr.sameNow]at h
 | bI e=>
  obtain⟨_,ah⟩:=(dV rfl).1 hu;rcases ah with⟨ax,_⟩ | ⟨p,y,bk,ax,_⟩<;>(obtain rfl:=(List.cons.inj ax).1;cases d<;>simp[Instr.sameNow]at h)
 | map k' h3=>
  obtain⟨_,ah⟩:=(dV rfl).1 hu;rcases ah with⟨ax,_⟩ | ⟨r,es,clk,ax,_⟩<;>(obtain rfl:=(List.cons.inj ax).1;cases d<;>simp[Instr.sameNow]at h)
 | fn a b=>
  obtain⟨i,z,E,U,ag,a6,bM,dn⟩:=kt an.ks;unfold b_ at an;simp only[cH,Bool.and_eq_true,aw]at an;cases d<;>simp[Instr.sameNow]at an h
 | ct a=>
  obtain⟨i,z,E,U,ag,a6,bM,dn⟩:=kt an.ks;unfold b_ at an;simp only[cH,Bool.and_eq_true,aw]at an;cases d<;>simp[Instr.sameNow]at an h
 | eu=>
  obtain⟨i,z,E,U,ag,a6,bM,dn⟩:=kt an.ks;unfold b_ at an;simp only[cH,Bool.and_eq_true,aw]at an;cases d<;>simp[Instr.sameNow]at an h
theorem Sj{P:Program}{F:Nat->Prop}{w:World}{k:ad}{β:Type}{lo:TypeId}(an:b_ P k lo){d:TypeDesc}(aw:P.underlying lo=some d){tQ:Value}{x:k.ai}(ah:ev P k F w tQ x):∀ (es:List MapEntry) (xs:List (k.ai×β)) (i:Nat) {r:Option (Nat×Value)},es.length=xs.length->(∀ (j:Nat) (e:MapEntry) (p:k.ai×β),es[j]?=some e->xs[j]?=some p->ev P k F w e.key p.1)->Instr.findNow d tQ es i=some r->zy x es xs i r
 | [],[],i,r,_,_,h=>by cases h;exact .inl ⟨rfl,λp ao=>by cases ao⟩
 | e::es,p::xs,i,r,aj,h,aq=>by
  have aY:=h 0 e p rfl rfl;simp only[Instr.findNow]at aq;split at aq
  ·rename_i aE;have:=Si an aw ah aY aE;cases aq;exact .inr ⟨0,e,p,rfl,rfl,this.symm,λj_ q fW=>by omega,rfl⟩
  ·rename_i aE;have:=Si an aw ah aY aE;exact (Sj an aw ah es xs (i+1) (by grind) (λj a7 p' E U=>h (j+1) a7 p' (by grind) (by grind)) aq).next this.symm
  grind
theorem b_.aei{P:Program}{t:ad}{id:TypeId}(h:b_ P t id)(hc:t.kQ=true):∃ d,P.underlying id=some d:=by
 cases t with
 | bool=>
  unfold b_ at h;simp only[cH,Bool.and_eq_true]at h;grind
 | int k=>exact⟨_,b_.int h⟩
 | str=>exact⟨_,b_.str h⟩
 | st t=>exact⟨_,h.Cc.2.2.2⟩
 | az a b=>unfold b_ at h;simp[cH]at h
 | _=>cases hc
theorem xj{P:Program}{F:Nat->Prop}{w:World}{k:ad}{β:Type}(hc:tF k=true){lo:TypeId}(an:b_ P k lo){tQ:Value}{x:k.ai}(ah:ev P k F w tQ x){es:List MapEntry}{xs:List (k.ai×β)}
  (aj:es.length=xs.length) (h:∀ (j:Nat) (e:MapEntry) (p:k.ai×β),es[j]?=some e->xs[j]?=some p->ev P k F w e.key p.1):∃ r,(Instr.findKey lo tQ es).run P w=.ok r w/\zy x es xs 0 r:=by
 simp only[tF,Bool.and_eq_true,decide_eq_true_eq]at hc;obtain⟨d,aw⟩:=an.aei hc.1;simp only[Instr.findKey,Sem.run_bind,dD aw,Result.andThen_ok];cases aB:Instr.findNow d tQ es 0 with
 | some r=>exact⟨r,rfl,Sj an aw ah es xs 0 aj h aB⟩
 | none=>exact Sh hc.1 (by omega) an ah es xs 0 aj h
theorem Sk{k v:ad}{es:List (k.ai×v.ai)}{x:k.ai}:∀ {j:Nat} {p:k.ai×v.ai},es[j]?=some p->gL k x p.1=true->(∀ j_ q,j_<j->es[j_]?=some q->gL k x q.1=false)->zd es x=some p.2/\∀ y,lP es x y=es.set j (p.1,y):=by
 induction es with
 | nil=>simp
 | cons q es aK=>
  intro j p E U ag;cases j with
  | zero=>
   simp at E;subst E;exact⟨by simp[zd,U],λy=>by simp[lP,U]⟩
  | succ j=>
   have aY:=ag 0 q (by omega) rfl;obtain⟨aQ,aS⟩:=aK (j:=j) (p:=p) (by grind) U λj_ q' fW tL=>ag (j_+1) q' (by omega) (by grind);exact⟨by simpa [zd,List.find?_cons,aY]using aQ,λy=>by simp[lP,aY,aS y]⟩
theorem Sl{k v:ad}{es:List (k.ai×v.ai)}{x:k.ai}(h:∀ p∈es,gL k x p.1=false):zd es x=none/\∀ y,lP es x y=es++[(x,y)]:=by
 induction es with
 | nil=>exact⟨rfl,λ_=>rfl⟩
 | cons q es aK=>
  have aY:=h q (by simp);obtain⟨aQ,aS⟩:=aK λp ao=>h p (by grind);exact⟨by simpa [zd,List.find?_cons,aY]using aQ,λy=>by simp[lP,aY,aS y]⟩
section
variable {C:b'} {T:Nat->ad} {bg:Nat->Option aL} {o:Oper} {s:aA} {res:eC}
theorem aej{P:Program}{F:Nat->Prop}{w:World}{v:ad}{z:Value}(ae:v.eF=true\/v.isAgg=true)(i5:j5 v z.cells.toList=some [])(i6:(∃ cs,z=.agg cs)<->v.isAgg=true):ev P v F w z v.df:=by
 obtain⟨c,e,ow,z2⟩:=vb (P:=P) (H:=λ_=>⟨0,.fz⟩) (κ:=λ_=>⟨0,0,0,true⟩) (F:=F) (w:=w) v i5;rw[List.append_nil]at e;refine⟨?_,by grind⟩;have aj:=hP v ow;rcases ae with ae | ae
 ·obtain⟨u,rfl,hu⟩:=BX ae ow;have FP:∀ cs,z≠.agg cs:=λcs bl=>by
   have:=i6.1 ⟨cs,bl⟩;cases v<;>simp[ad.eF,ad.isAgg]at ae this
  have bl:z.cells=#[z]:=by
   cases z<;>first | rfl | grind
  cases v<;>simp only[ad.eF,Bool.false_eq_true]at ae<;>exact bl
 ·obtain⟨cs,rfl⟩:=i6.2 ae;have a7:cs.toList=c:=e;cases v<;>simp only[ad.isAgg,Bool.false_eq_true]at ae
  ·exact⟨cs,rfl,by rw[<-Array.length_toList,a7,aj];rfl⟩
  ·exact⟨cs,rfl,by rw[<-Array.length_toList,a7,aj];rfl⟩
def KK(P:Program)(k v:ad)(F:Nat->Prop)(w:World)(ms:List MapEntry)(xs:List (k.ai×v.ai)):Prop:=
 ms.length=xs.length/\∀ (j:Nat) (e:MapEntry) (p:k.ai×v.ai),ms[j]?=some e->xs[j]?=some p->ev P k F w e.key p.1/\ev P v F w e.val p.2
theorem u9.es{P:Program}{k v:ad}{F:Nat->Prop}{w:World}{ms:Array MapEntry}{clk:Nat}{xs:List (k.ai×v.ai)}(h:u9 P k v F w ms clk xs):KK P k v F w ms.toList xs:=by
 obtain⟨E,U,ag,a6⟩:=h;refine⟨by omega,λj e p he ao=>?_⟩;obtain⟨aF,rfl⟩:=List.getElem?_eq_some_iff.1 ao;obtain⟨fW,rfl⟩:=List.getElem?_eq_some_iff.1 he;obtain⟨a,b,c,d,_⟩:=ag j aF (by omega);exact⟨⟨a,by grind⟩,c,by grind⟩
theorem aek{a:Act}{w:World}{κ:Nat->bD}{F:Nat->Prop}(M:bm C s a w κ F){k v:ad}{av:aH}{u:Value}{xs:List (k.ai×v.ai)}(h:(B' k v av).run s.aa=some xs)(hu:bC C.P s.aa κ F w av u) :
  (u=.map none/\xs=[])\/∃ r ms clk,u=.map (some r)/\w.heap[r]?=some (.map ms clk)/\KK C.P k v F w ms.toList xs:=by
 have cB:∀ {xs:List (k.ai×v.ai)},bJ C.P (.map k v) F w [u] xs->(u=.map none/\xs=[])\/∃ r ms clk,u=.map (some r)/\w.heap[r]?=some (.map ms clk)/\KK C.P k v F w ms.toList xs:=by
  intro xs ah;rcases ah with⟨ax,aO⟩ | ⟨r,ms,clk,ax,E,U,ag,a6,bM,dn⟩
  ·grind
  ·exact .inr ⟨r,ms,clk,(List.cons.inj ax).1,U,u9.es ⟨ag,a6,bM,dn⟩⟩
 cases av with
 | val t es=>
  simp only[B',ar.bN]at h;exact cB ((dV rfl).1 (Fw h hu)).2
 | jB x=>
  simp only[bC]at hu;subst hu;have ah:u=.map none/\xs=[]:=by
   unfold B' at h;split at h
   ·grind
   ·simp_all
   ·grind
   ·cases h
  grind
 | fJ b g=>
  simp only[B',ar.e4,ar.bN]at h;split at h
  ·rename_i aC;have aT:=M.bE b;unfold cG at aT;split at h
   ·rename_i k' h3 es W;obtain⟨e,rfl⟩:=kO h;cases e;rw[W]at aT;obtain⟨ms,clk,E,U⟩:=aT;exact .inr ⟨_,ms,clk,hu.2 aC.symm (by rw[W];rfl),E,U.es⟩
   ·rename_i k' h3 es W;obtain⟨e,rfl⟩:=kO h;cases e;rw[W]at aT;have:=hu.2 aC.symm (by rw[W];rfl);simp only[jC]at aT;grind
   grind
  grind
 | _=>cases h
theorem ael{ty:TypeId}{r:Option Operand}(bh:∀ i,o.dst=some i->i<C.nt)(af:o.op=.makeMap ty r)(h:(bx C.aN T bg (a8 C.aN s.ay) o).run s.aa=some res):cK C o s res:=by
 simp only[bx,af]at h;split at h
 ·cases h
 ·rename_i Sm;have Sm:r=none:=by simp_all
  subst Sm;split at h
  ·rename_i k v aI;obtain⟨b,aw,an⟩:=qZ h;simp only[Option.some.injEq]at an;subst an;intro a w κ F Q M _ _;have c7:(execOp a.eval o).run C.P w=.ok (.value (.map (some w.heap.size))) (w.alloc (.map #[] 0)):=by
    simp[execOp,af,Instr.makeMap]
   have E:=M.alloc (b:=b) (x:=⟨(s.aa b).gen+1,.mp k v []⟩) (M.fL (bh b aw)) (Nat.lt_succ_self _) (o:=.map #[] 0) (k:=⟨w.heap.size,0,0,false⟩) rfl λH κ' _ _ _=>
    ⟨#[],0,p4 _ _,rfl,by simp,λi G=>by simp,λi j G=>by simp⟩
   refine hv (by grind) c7 ⟨_,F,bm.set (s:=s.cz b _) E bh ⟨⟨by simp[aA.cz],rfl⟩,λ_ _=>by simp⟩⟩
  ·cases h
theorem aem(aV:dU C.P T){ty:TypeId}{m x:Operand}{ok:Bool}(bh:∀ i,o.dst=some i->i<C.nt)(af:o.op=.lookup ty m x ok)(h:(bx C.aN T bg (a8 C.aN s.ay) o).run s.aa=some res):cK C o s res:=by
 simp only[bx,af,ze]at h;split at h
 ·rename_i k v aI;split at h
  ·rename_i hc;simp only[Bool.and_eq_true,Bool.or_eq_true]at hc;obtain⟨i,j,G,mW,hi⟩:=(aV.b7 aI (by simp)).mp;simp only[ar.e5,Option.bind_eq_some_iff,bO,ar.bN,Option.some.injEq]at h;obtain⟨es,pc,⟨y,l⟩,aR,rfl⟩:=h;refine cK.pure (by grind) bh λa w κ F M be _=>?_;have hm:=cP M m rfl be.1;have ah:=Cf M aR (cP M x rfl be.2);obtain⟨inf,z,i1,i2,i3,i4,i5,i6⟩:=kt hi.ks;have hzero:ev C.P v F w z v.df:=aej hc.2 i5 i6;have fin:∀ (u:Value) (q:Option v.ai),ev C.P v F w u (q.getD v.df)->bC C.P s.aa κ F w (RE v q ok) (if ok=true then .tuple #[u,.bool q.isSome] else u):=by
    intro u q ag;cases ok with
    | true=>
     refine⟨[u,.bool q.isSome],rfl,rfl,λi G=>?_⟩;match i,G with
     | 0,_=>exact ag
     | 1,_=>exact fg.2 rfl
    | false=>exact ag
   have mi:tF k=true:=hc.1;have fk:k.kQ=true/\k.j7<=100:=by simpa [tF]using mi
   rcases aek M pc hm with⟨hu,aB⟩ | ⟨r,ms,clk,hu,hw,lp⟩
   ·subst aB;have ed:=(CB (em:=true) k 10000 fk.1 (by omega)).1 mW ah;obtain⟨f,f1,f2⟩:=xj (β:=v.ai) (xs:=[]) (es:=[]) mi mW ah rfl (λj e p h=>by cases h);rcases f2 with⟨rfl,_⟩ | ⟨j,e,p,E,_⟩
    ·refine⟨_,?_,fin z none hzero⟩;simp only[execOp,af,hu,Instr.lookup,Sem.run_bind,dD G,Result.andThen_ok,Sem.run_pure];simp only[show (#[]:Array MapEntry).isEmpty=true from rfl,ed,Result.andThen_ok,f1];cases ok<;>simp[qX i1 i4]
    grind
   ·have ed:=(CB (em:=ms.isEmpty) k 10000 fk.1 (by omega)).1 mW ah;obtain⟨f,f1,f2⟩:=xj (β:=v.ai) (xs:=es) (es:=ms.toList) mi mW ah lp.1 (λj e p E U=>by
     have:=(lp.2 j e p E U).1;exact⟨this.1,ff k (λ_ _=>trivial) (c6.refl F w) this.2⟩)
    have eV:(getObj r).run C.P w=.ok (.map ms clk) w:=by simp[getObj,Sem.run,hw]
    rcases f2 with⟨rfl,eO⟩ | ⟨j,e,p,E,U,ag,a6,rfl⟩
    ·refine⟨_,?_,by rw[(Sl eO).1];exact fin z none hzero⟩;simp only[execOp,af,hu,Instr.lookup,Sem.run_bind,dD G,Result.andThen_ok,Sem.run_pure,eV,ed,f1,qX i1 i4];rfl
    ·refine⟨_,?_,by rw[(Sk U ag a6).1];exact fin e.val (some p.2) (lp.2 j e p E U).2⟩;simp only[execOp,af,hu,Instr.lookup,Sem.run_bind,dD G,Result.andThen_ok,Sem.run_pure,eV,ed,f1];rfl
  ·cases h
 ·cases h
theorem KL(P:Program)(w:World)(vm eA:Value):∃ k' w',(Instr.keyThatStays vm eA).run P w=.ok k' w'/\(k'=eA\/k'=vm)/\(w'=w\/w'=w.drew):=by
 unfold Instr.keyThatStays;split
 ·exact⟨eA,w,rfl,.inl rfl,.inl rfl⟩
 ·have aq : (Question.extern "map.whichKeyStays" 2).forced = false := rfl;simp only[Sem.run_bind,run_choose,aq,Bool.false_eq_true,if_false,Result.andThen_ok];split
  ·exact⟨eA,_,rfl,.inl rfl,.inr rfl⟩
  ·exact⟨vm,_,rfl,.inr rfl,.inr rfl⟩
theorem sj{P:Program}{w:World}{r:Nat}{es:Array MapEntry}{clk:Nat}(h:w.heap[r]?=some (.map es clk))(o:Obj):(setObj r o).run P w=.ok () { w with heap:=w.heap.setIfInBounds r o }:=by
 simp[setObj,Sem.run,h]
theorem KM(aV:dU C.P T){ty:TypeId}{m x y:Operand}(KI:o.dst=none)(af:o.op=.mapUpdate ty m x y\/o.op=.insert ty m x y)(h:(bx C.aN T bg (a8 C.aN s.ay) o).run s.aa=some res):cK C o s res:=by
 have aw:∀ c,o.op≠.defer c:=by grind
 have kT:∀ aJ,bx C.aN T bg aJ o=qW T aJ ty m x y:=λaJ=>by rcases af with af | af<;>simp only[bx,af]
 have hex:∀ aJ w,(execOp aJ o).run C.P w=(do Instr.mapUpdate ty (aJ m) (aJ x) (aJ y);pure .skip:Sem Next).run C.P w:=λaJ w=>by rcases af with af | af<;>simp only[execOp,af]
 rw[kT]at h;simp only[qW]at h;split at h
 ·rename_i k v aI;obtain⟨lo,zz,G,mW,hi⟩:=(aV.b7 aI (by simp)).mp;split at h
  ·rename_i hc;split at h
   ·rename_i b g tR;simp only[ar.e5,Option.bind_eq_some_iff,ar.run_bind,ar.e4,ar.bN]at h;obtain⟨⟨dK,oq⟩,ah,⟨mX,ot⟩,aR,h⟩:=h;split at h
    ·rename_i aC;obtain⟨aC,p_⟩:=aC;have p_:b ∉ oq++ot:=by
      grind
     split at h
     ·rename_i k' h3 es W;simp only[Option.map_eq_some_iff]at h;obtain⟨Sn,pc,rfl⟩:=h;obtain⟨e,rfl⟩:=kO pc;cases e;intro a w κ F Q M be _;obtain⟨F',f1,bc,f2⟩:=bm.lj ((mT ah).append (mT aR)) M;have hm:bC C.P s.aa κ F w (use (a8 C.aN s.ay m)).2 (a.eval m):=cP M m rfl be.1;rw[tR]at hm;have kU:=hm.2 aC.symm (by rw[W];rfl);have tS:=mm M.bE f1 ah f2.left (cP M x rfl be.2.1);have FW:=mm M.bE f1 aR f2.right (cP M y rfl be.2.2);have pe:(s.cB (oq++ot)).aa b=s.aa b:=by simp only[aA.cB];grind
      have aT:=bc.bE b;unfold cG at aT;rw[pe,W]at aT;obtain⟨ms,clk,hw,tT⟩:=aT;have fk:k.kQ=true/\k.j7<=100:=by simpa [tF]using hc
      have ed:=(CB (em:=false) k 10000 fk.1 (by omega)).1 mW tS;have lp:=tT.es;obtain⟨f,dz,dP⟩:=xj (β:=v.ai) (xs:=es) (es:=ms.toList) hc mW tS lp.1 (λj e p E U=>(lp.2 j e p E U).1);have eV:(getObj (κ b).aa).run C.P w=.ok (.map ms clk) w:=by simp[getObj,Sem.run,hw]
      have mV:s.gi ((jG (oq++ot)).run s.aa++[(b,⟨(s.aa b).gen,.mp k v (lP es dK mX)⟩)])=(s.cB (oq++ot)).cz b ⟨(s.aa b).gen,.mp k v (lP es dK mX)⟩:=by
       rw[Cj,tI]
      have gw:fr (s.cB (oq++ot)).aa κ (λi=>if i=b then (⟨(s.aa b).gen,.mp k v (lP es dK mX)⟩:bK) else (s.cB (oq++ot)).aa i) κ:=
       qT (by rw[pe]) (λh=>by cases h) (λh=>by cases h) (λ_=>by rw[pe,W];rfl) (λh=>by cases h)
      obtain⟨ht,KN,FX,Sp⟩:=tT;have done:∀ (cp:World) (FY:Array MapEntry) (FZ:Nat),(cp=w\/cp=w.drew)->
        (execOp a.eval o).run C.P w=.ok .skip { cp with heap:=cp.heap.setIfInBounds (κ b).aa (.map FY FZ) }->
        (∀ {w'},c6 F' w w'->u9 C.P k v F' w' FY FZ (lP es dK mX))->
        o.wpIn (dT C.r) 0 C.P a w (λa' w'=>cu C (s.h6 o.dst ⟨(use (a8 C.aN s.ay m)).1/\(use (a8 C.aN s.ay x)).1/\(use (a8 C.aN s.ay y)).1,True,.undef,(jG (oq++ot)).run s.aa++[(b,⟨(s.aa b).gen,.mp k v (lP es dK mX)⟩)]⟩) a' w') Q:=by
       intro cp FY FZ lU c7 aen;have cW:cp.heap=w.heap:=by rcases lU with rfl | rfl<;>rfl
       have i':dd w cp:=by rcases lU with rfl | rfl<;>exact⟨rfl,rfl,rfl⟩
       refine FI aw c7 ⟨κ,F',?_⟩;simp only[aA.h6];rw[mV,KI];refine bc.o9 (b:=b) (x:=⟨(s.aa b).gen,.mp k v (lP es dK mX)⟩) (by rw[pe,W];rfl) rfl gw (λh=>by cases h) (λ_=>by rw[pe,W];rfl) (λr KO=>?_) (by grind) ⟨i'.os,i'.tape,i'.output⟩ λH _ _ he=>?_
       ·grind
       ·have cc:(κ b).aa<w.heap.size:=(Array.getElem?_eq_some_iff.1 hw).1;exact⟨FY,FZ,by grind,aen he⟩
      rcases dP with⟨rfl,eO⟩ | ⟨j,e,p,E,U,ag,a6,rfl⟩
      ·refine done w (ms.push { key:=a.eval x,val:=a.eval y,born:=clk }) (clk+1) (.inl rfl) ?_ λ{w'} he=>?_
       ·rw[hex];simp only[kU,Instr.mapUpdate,Sem.run_bind,dD G,Result.andThen_ok,eV,ed,dz,sj hw,Sem.run_pure]
       ·rw[(Sl eO).2];refine⟨by grind,?_,λi G dL=>?_,λi j G aF e=>?_⟩
        ·rw[List.map_append,List.nodup_append];refine⟨KN,by simp,λq bt q' tL=>?_⟩;obtain⟨p,ao,rfl⟩:=List.mem_map.1 bt;simp only[List.map_cons,List.map_nil,List.mem_singleton]at tL;subst tL;intro e;have:=eO p ao;rw[e,(KJ k fk.1 _ _).2 rfl]at this;grind
        ·by_cases qd:i<es.length
         ·obtain⟨aQ,aS,bP,gy,oA⟩:=FX i qd (by omega);have ax:(es++[(dK,mX)])[i]=es[i]:=List.getElem_append_left qd;have aO:(ms.push { key:=a.eval x,val:=a.eval y,born:=clk })[i]=ms[i]'(by omega):=Array.getElem_push_lt (by omega);rw[ax,aO];exact⟨aQ,ff k (λ_ h=>h) he aS,bP,ff v (λ_ h=>h) he gy,by omega⟩
         ·have aeo:i=es.length:=by grind
          subst aeo;have ax:(es++[(dK,mX)])[es.length]=(dK,mX):=by simp
          have aO:(ms.push { key:=a.eval x,val:=a.eval y,born:=clk })[es.length]={ key:=a.eval x,val:=a.eval y,born:=clk }:=by
           grind
          rw[ax,aO];exact⟨tS.1,ff k (λ_ h=>h) he tS.2,FW.1,ff v (λ_ h=>h) he FW.2,by simp⟩
        ·have born:∀ i (h:i<(ms.push { key:=a.eval x,val:=a.eval y,born:=clk }).size),(∃ dt:i<ms.size,(ms.push { key:=a.eval x,val:=a.eval y,born:=clk })[i]=ms[i])\/(i=ms.size/\((ms.push { key:=a.eval x,val:=a.eval y,born:=clk })[i]).born=clk):=by
          grind
         grind
      ·have aF:j<es.length:=(List.getElem?_eq_some_iff.1 U).1;have xk:j<ms.size:=by omega
       have KP:ms[j]=e:=by
        grind
       have mY:es[j]=p:=(List.getElem?_eq_some_iff.1 U).2;have aep:dK=p.1:=(KJ k fk.1 _ _).1 ag;obtain⟨jq,cp,b5,cw,eg⟩:=KL C.P w e.key (a.eval x);have lU:cp.heap[(κ b).aa]?=some (.map ms clk):=by rcases eg with rfl | rfl<;>exact hw
       refine done cp (ms.modify j λe=>{ e with key:=jq,val:=a.eval y }) clk eg ?_ λ{w'} he=>?_
       ·rw[hex];rw[Nat.zero_add]at dz;simp only[kU,Instr.mapUpdate,Sem.run_bind,dD G,Result.andThen_ok,eV,ed,dz];have nR:((ms[j]?).map (·.key)).getD (a.eval x)=e.key:=by
         grind
        rw[nR,b5];simp only[Result.andThen_ok,sj lU,Sem.run_pure]
       ·rw[(Sk U ag a6).2];refine⟨by grind,?_,λi G dL=>?_,λi j_ G fW a7=>?_⟩
        ·have:(es.set j (p.1,mX)).map (·.1)=es.map (·.1):=by
          apply List.ext_getElem?;grind
         grind
        ·have qd:i<es.length:=by grind
         have KQ:i<ms.size:=by omega
         obtain⟨aQ,aS,bP,gy,oA⟩:=FX i qd KQ;by_cases zA:j=i
         ·subst zA;have ax:(es.set j (p.1,mX))[j]=(p.1,mX):=by simp
          have aO:(ms.modify j λe=>{ e with key:=jq,val:=a.eval y })[j]={ key:=jq,val:=a.eval y,born:=ms[j].born }:=by grind
          rw[ax,aO];have vf:ev C.P k F' w jq p.1:=by
           rcases cw with rfl | rfl
           ·grind
           ·rw[<-KP,<-mY];exact⟨aQ,aS⟩
          exact⟨vf.1,ff k (λ_ h=>h) he vf.2,FW.1,ff v (λ_ h=>h) he FW.2,oA⟩
         ·have ax:(es.set j (p.1,mX))[i]=es[i]:=by grind
          have aO:(ms.modify j λe=>{ e with key:=jq,val:=a.eval y })[i]=ms[i]:=by grind
          rw[ax,aO];exact⟨aQ,ff k (λ_ h=>h) he aS,bP,ff v (λ_ h=>h) he gy,oA⟩
        grind
     grind
    grind
   ·cases h
  ·cases h
 ·cases h
end
end Go.Fer
namespace Go.Fer
open Go.RowKit
section
variable {C:b'} {T:Nat->ad} {bg:Nat->Option aL} {o:Oper} {s:aA} {res:eC}
theorem Sq{P:Program}{F:Nat->Prop}{w:World}{e:ad}{z:Value}(bM:j5 e z.cells.toList=some [])(n:Nat) :
  gx P e F w ((Array.range (n*e.size)).map (λi=>z.cells[i % z.cells.size]!)).toList (List.replicate n e.df):=by
 obtain⟨c,zB,ow,z2⟩:=vb (P:=P) (H:=λ_=>⟨0,.fz⟩) (κ:=λ_=>⟨0,0,0,true⟩) (F:=F) (w:=w) e bM;rw[List.append_nil]at zB;have tU:z.cells.size=e.size:=by rw[<-Array.length_toList,zB];exact hP e ow
 refine⟨by simp,λi G=>?_⟩;have dL:i<n:=by grind
 have hle:(i+1)*e.size<=n*e.size:=Nat.mul_le_mul_right _ (by omega);rw[Nat.add_mul]at hle;have:((((Array.range (n*e.size)).map (λi=>z.cells[i % z.cells.size]!)).toList.drop (i*e.size)).take e.size)=z.cells.toList:=by
  apply List.ext_getElem?;intro j;simp only[List.getElem?_take,List.getElem?_drop];split
  ·rename_i aF;have fW:j<z.cells.size:=by omega
   rw[Array.getElem?_toList,Array.getElem?_toList];have zw:(i*e.size+j) % z.cells.size=j:=by rw[tU,Nat.add_comm,Nat.add_mul_mod_self_right,Nat.mod_eq_of_lt aF]
   grind
  grind
 grind
theorem aeq{n:Int}(aY:0<=n)(E:n<=4294967296):IntKind.i64.wrap n=n:=by
 simp only[IntKind.wrap,IntKind.signed,IntKind.bits];grind
theorem aer(aV:dU C.P T){ty:TypeId}{l c:Operand}(bh:∀ i,o.dst=some i->i<C.nt)(af:o.op=.makeSlice ty l c)(h:(bx C.aN T bg (a8 C.aN s.ay) o).run s.aa=some res):cK C o s res:=by
 simp only[bx,af,FD]at h;split at h
 ·rename_i e aI;split at h
  ·rename_i n m aj hm;have dq:=aV.b7 aI (by simp);obtain⟨jK,aF,ja,oy⟩:=dq.sl;obtain⟨inf,z,i1,i2,i3,i4,i5,i6⟩:=kt ja.ks;obtain⟨b,aw,an⟩:=qZ h;simp only[Option.some.injEq]at an;subst an;intro a w κ F Q M be hc;have aes:=ou (cP M l rfl be.1) aj;have i':=ou (cP M c rfl be.2) hm;obtain⟨c0,rfl,bF⟩:0<=n/\n=m/\bQ n.toNat:=hc;unfold bQ at bF;obtain⟨k,rfl⟩:∃ k:Nat,n=k:=⟨n.toNat,by omega⟩
   simp only[Int.toNat_natCast]at bF;have hw:IntKind.i64.wrap (k:Int)=k:=aeq (by omega) (by omega);let cs:Array Value:=(Array.range (k*e.size)).map (λi=>z.cells[i % z.cells.size]!);have jl:gx C.P e F w cs.toList (List.replicate k e.df):=Sq i5 k;have axK:inf.bytes*k<=2 ^ 47:=by
    calc inf.bytes*k<=1024*4294967296:=Nat.mul_le_mul i3 (by omega)
     _<=2 ^ 47:=by decide
   have c7:(execOp a.eval o).run C.P w=.ok (.value (.slice (some ⟨w.heap.size,0,none⟩) k k)) (w.alloc (.cells cs jK)):=by
    have aet:¬((inf.bytes:Int)*(k:Int) > 2 ^ 48):=by
     omega
    have mZ:¬((k:Int)<0):=by omega
    have xi:¬(k*inf.bytes > roomBytes):=by
     have:roomBytes=2 ^ 47:=rfl;grind
    have vf:¬((k:Int) > (k:Int)):=by omega
    simp only[execOp,af,Instr.makeSlice,aes.1,i'.1,Sem.run_bind,dD aF,Result.andThen_ok,asInt,asIntOf,Sem.run_pure,FF i1,hw,aet,mZ,vf,decide_false,Bool.or_false,Bool.false_or,Bool.false_eq_true,if_false,run_askRoom,Int.toNat_natCast,r' i1,i2];by_cases sk:k*e.size=0
    ·have aeu:cs=#[]:=Array.eq_empty_of_size_eq_zero (by grind);rw[aeu];have aev:(Array.map (λ_:Nat=>(default:Value)) (Array.range 0))=#[]:=by simp
     simp[sk,newRow];rw[aev]
    ·simp[sk,qX i1 i4,newRow,cs]
   have ag:=M.Cu (b:=b) (g:=(s.aa b).gen+1) (zs:=List.replicate k e.df) (k:=⟨w.heap.size,0,k,false⟩) (w':=w.alloc (.cells cs jK)) (Nat.lt_succ_self _) (.inr rfl) (by simp) (λr M=>o8 w _ M) (λ_=>by simp) ⟨rfl,rfl,rfl⟩
    (λH κ'=>⟨λh=>(by cases h),λ_=>⟨cs,jK,p4 w _,by grind,by simp,by grind,(jl.Cs (pre:=[]) (post:=[]) (by simp)).lb (c6.alloc M.db _)⟩⟩)
   refine hv (by grind) c7 ⟨_,F,bm.set (s:=s.cz b _) ag bh ⟨⟨by simp[aA.cz],rfl⟩,λ_ _=>by simp[aA.cz,bD.slice,bR.len]⟩⟩
  ·cases h
 ·cases h
theorem gx.take{P:Program}{e:ad}{F:Nat->Prop}{w:World}{all:List Value}{xs:List e.ai}(h:gx P e F w all xs){n:Nat}(aB:n<=xs.length):gx P e F w (all.take (n*e.size)) (xs.take n):=by
 have hle:n*e.size<=xs.length*e.size:=Nat.mul_le_mul_right _ aB;refine⟨by simp only[List.length_take,h.1];simp,λi G=>?_⟩;have dL:i<n:=by grind
 have aew:(i+1)*e.size<=n*e.size:=Nat.mul_le_mul_right _ (by omega);rw[Nat.add_mul]at aew;have:((all.take (n*e.size)).drop (i*e.size)).take e.size=(all.drop (i*e.size)).take e.size:=by
  rw[List.drop_take,List.take_take,Nat.min_eq_left (by omega)]
 rw[this];simpa using h.2 i (by omega)
theorem Sr{P:Program}{w:World}{e:ad}{q:Option Addr}{n cap:Nat}{xs:List e.ai}{F:Nat->Prop}(aB:n<=xs.length)(h:(q=none/\xs=[]/\cap=0)\/∃ p all,q=some p/\gx P e F w all xs/\kx w p all) :
  ∃ all,(Builtin.firstCells e.size n (.slice q xs.length cap)).run P w=.ok all.toArray w/\gx P e F w all (xs.take n):=by
 rcases h with⟨rfl,rfl,rfl⟩ | ⟨p,all,rfl,b9,a2⟩
 ·exact⟨[],by rfl,by simp[gx]⟩
 ·have hle:n*e.size<=xs.length*e.size:=Nat.mul_le_mul_right _ aB;refine⟨all.take (n*e.size),?_,b9.take aB⟩;simp only[Builtin.firstCells];have aj:(all.take (n*e.size)).length=n*e.size:=by simp only[List.length_take,b9.1];omega
  have M:kx w p (all.take (n*e.size)):=⟨λaY=>a2.1 (by grind),λj aF=>by
   have fW:j<all.length:=by grind
   rw[List.getElem_take];exact a2.2 j fW⟩
  have:=FH (P:=P) M;grind
theorem lL.gm{P:Program}{e:ad}{F:Nat->Prop}{w w':World}{cs di:Array Value}{off aZ:Nat}{xs zs:List e.ai}{eA:List Value}(h:lL P e F w cs off xs)(he:c6 F w w')(aB:gx P e F w eA zs)(aj:aZ+zs.length<=xs.length)
  (pa:off+xs.length*e.size<=cs.size) (hc:di.toList=cs.toList.take (off+aZ*e.size)++(eA++cs.toList.drop (off+aZ*e.size+eA.length))):lL P e F w' di off (Go.Fer.gm xs aZ zs):=by
 have hlen:(Go.Fer.gm xs aZ zs).length=xs.length:=by simp[Go.Fer.gm];omega
 have aex:(aZ+zs.length)*e.size<=xs.length*e.size:=Nat.mul_le_mul_right _ aj;rw[Nat.add_mul]at aex;have pd:=aB.1;have gN:(cs.toList.take (off+aZ*e.size)).length=off+aZ*e.size:=by grind
 intro i G;rw[hlen]at G;have aey:i<aZ\/(aZ<=i/\i<aZ+zs.length)\/aZ+zs.length<=i:=by omega
 rcases aey with E | ⟨E,U⟩ | E
 ·obtain⟨bk,d1,d2⟩:=h i G;have R':=hP e d2;have ax:(Go.Fer.gm xs aZ zs)[i]'(by omega)=xs[i]:=by
   simp only[Go.Fer.gm,List.append_assoc];grind
  rw[ax];refine⟨bk,λj aF=>?_,ff e (λ_ h=>h) he d2⟩;have hle:(i+1)*e.size<=aZ*e.size:=Nat.mul_le_mul_right _ (by omega);rw[Nat.add_mul]at hle;rw[<-Array.getElem?_toList,hc,List.getElem?_append_left (by omega),List.getElem?_take,if_pos (by omega),Array.getElem?_toList];grind
 ·have Cx:=aB.Cs (pre:=cs.toList.take (off+aZ*e.size)) (post:=cs.toList.drop (off+aZ*e.size+eA.length)) hc;obtain⟨bk,d1,d2⟩:=Cx (i - aZ) (by omega);have ax:(Go.Fer.gm xs aZ zs)[i]'(by omega)=zs[i - aZ]'(by omega):=by
   simp only[Go.Fer.gm,List.append_assoc];grind
  rw[ax];refine⟨bk,λj aF=>?_,ff e (λ_ h=>h) he d2⟩;have:=d1 j aF;rw[gN]at this;rw[<-this];congr 1;have:i*e.size=aZ*e.size+(i - aZ)*e.size:=by rw[<-Nat.add_mul];grind
  omega
 ·obtain⟨bk,d1,d2⟩:=h i G;have R':=hP e d2;have ax:(Go.Fer.gm xs aZ zs)[i]'(by omega)=xs[i]:=by
   simp only[Go.Fer.gm,List.append_assoc];have gw:(xs.take aZ).length=aZ:=by grind
   rw[List.getElem_append_right (by omega),List.getElem_append_right (by omega)];grind
  rw[ax];refine⟨bk,λj aF=>?_,ff e (λ_ h=>h) he d2⟩;have F1:(aZ+zs.length)*e.size<=i*e.size:=Nat.mul_le_mul_right _ E;rw[Nat.add_mul]at F1;rw[<-Array.getElem?_toList,hc,List.getElem?_append_right (by omega),List.getElem?_append_right (by omega),List.getElem?_drop,gN];grind
theorem gx.one{P:Program}{e:ad}{F:Nat->Prop}{w:World}{eA:List Value}{ys:List e.ai}(h:gx P e F w eA ys)(ll:0<e.size):∀ v∈eA,v.oneCell'=true:=by
 intro v ae;obtain⟨j,aF,rfl⟩:=List.mem_iff_getElem.1 ae;have hdiv:j / e.size<ys.length:=(Nat.div_lt_iff_lt_mul ll).2 (by rw[<-h.1];exact aF);have nP:=h.2 (j / e.size) hdiv;have iB:=y' (P:=P) (H:=λ_=>⟨0,.fz⟩) (κ:=λ_=>⟨0,0,0,true⟩) e nP;have zw:=Nat.mod_lt j ll;have ad8:j / e.size*e.size+j % e.size=j:=Nat.div_add_mod' j e.size;have Cw:((eA.drop (j / e.size*e.size)).take e.size).length=e.size:=hP e nP;have:=(iB.kP (j % e.size) (by rw[iB.len,Cw];omega)).2;grind
theorem aez(aV:dU C.P T){args:Array Operand}{dp:Array TypeId}(bh:∀ i,o.dst=some i->i<C.nt)(af:o.op=.call { callee:=.builtin .copy,args:=args,argTypes:=dp })(h:(bx C.aN T bg (a8 C.aN s.ay) o).run s.aa=some res):cK C o s res:=by
 obtain⟨args⟩:=args;obtain⟨dp⟩:=dp;have aw:∀ c,o.op≠.defer c:=by grind
 simp only[bx,af,mQ,FE]at h;split at h
 ·rename_i x y t u;split at h
  ·rename_i e aO aI hu;have dq:=aV.b7 aI (by simp);obtain⟨jK,aF,ja,oy⟩:=dq.sl;obtain⟨inf,z,i1,i2,i3,i4,i5,i6⟩:=kt ja.ks;have ll:0<e.size:=Nat.pos_of_ne_zero oy;split at h
   ·rename_i b g aZ G CC;simp only[ar.e5,Option.bind_eq_some_iff,ar.e4,ar.bN]at h;obtain⟨⟨ys,l⟩,j9,h⟩:=h;split at h
    ·rename_i aC;split at h
     ·rename_i a7 xs W;split at h
      ·rename_i q4;subst q4;simp only[Option.some.injEq]at h;subst h;intro a w κ F Q M be _;obtain⟨q',cap',tN,nS⟩:=sf M j9 (cP M y rfl be.2);have ah:bC C.P s.aa κ F w (use (a8 C.aN s.ay x)).2 (a.eval x):=cP M x rfl be.1;have aT:=M.bE b;unfold cG at aT;rw[W]at aT;have place:aZ<=G.getD xs.length/\G.getD xs.length<=xs.length/\(((κ b).e9=true/\∃ cap,a.eval x=.slice none 0 cap)\/((κ b).e9=false/\∃ mu cap,a.eval x=.slice (some ⟨(κ b).aa,mu,none⟩) (G.getD xs.length - aZ) cap/\(aZ<G.getD xs.length->mu=(κ b).off+aZ*a7.size))):=by
        split at CC
        ·rename_i bf g' e';simp only[Option.some.injEq,Prod.mk.injEq]at CC;obtain⟨rfl,rfl,rfl,rfl⟩:=CC;rw[e']at ah;have ae:=ah.2 aC.symm (by rw[W];rfl);rw[W]at ae;simp only[bR.len]at ae;refine⟨Nat.zero_le _,Nat.le_refl _,?_⟩;cases aB:(κ bf).e9 with
         | true=>exact .inl ⟨rfl,0,by simpa [bD.slice,aB]using ae⟩
         | false=>exact .inr ⟨rfl,(κ bf).off,(κ bf).cap,by simpa [bD.slice,aB]using ae,λ_=>by simp⟩
        ·rename_i bf g' axL dL e';simp only[Option.some.injEq,Prod.mk.injEq]at CC;obtain⟨rfl,rfl,rfl,rfl⟩:=CC;rw[e']at ah;obtain⟨⟨aQ,aS⟩,bP⟩:=ah.2 aC.symm (by rw[W];rfl);rw[W]at aS bP;simp only[bR.len,bR.e3]at aS bP;refine⟨aQ,aS,?_⟩;rcases bP with⟨aB,ae⟩ | ⟨aB,mu,ae,hR,gG⟩
         ·grind
         ·obtain⟨cs,hU,bF,c2,c3,c4,c5⟩:=aT.2 aB;grind
        grind
       obtain⟨jI,qa,mr⟩:=place;have Ss:∀ m:Nat,m<=ys.length->m<=xs.length->fV .i64 (m:Int):=by
        intro m _ hm;have:=zm M (b:=b) (by rw[W];rfl);rw[W]at this;simp only[bR.len]at this;exact Ch (by omega)
       generalize St:G.getD xs.length=cW at *
       have R5:Nat.min ys.length (cW - aZ)=min (cW - aZ) ys.length:=Nat.min_comm _ _;have aeA:(ys.take (cW - aZ)).length=min (cW - aZ) ys.length:=by simp
       have zC:(gm xs aZ (ys.take (cW - aZ))).length=xs.length:=by simp[gm];omega
       have gw:fr s.aa κ (λi=>if i=b then (⟨(s.aa b).gen,.bj a7 (gm xs aZ (ys.take (cW - aZ)))⟩:bK) else s.aa i) κ:=
        qT rfl (λh=>by cases h) (λ_=>by rw[W];exact⟨rfl,zC,rfl⟩) (λh=>by cases h) (λh=>by cases h)
       have mS:∀ (w':World) v,(Builtin.copy_ #[t,u] o.type #[a.eval x,a.eval y]).run C.P w=.ok v w'->(execOp a.eval o).run C.P w=.ok (.value v) w':=by
        intro w' v ae;refine xe af ?_;simp[builtin,ae]
       rcases mr with⟨aB,cap,sg⟩ | ⟨aB,mu,cap,sg,aeB⟩
       ·have hT:=aT.1 aB;subst hT;have aeC:cW=0:=by grind
        subst aeC;have KR:aZ=0:=by omega
        subst KR;obtain⟨eA,ec,ef⟩:=Sr (P:=C.P) (w:=w) (n:=0) (Nat.zero_le _) nS;have c7:(Builtin.copy_ #[t,u] o.type #[a.eval x,a.eval y]).run C.P w=.ok (.int .i64 ((0:Nat):Int)) w:=by
         simp only[Builtin.copy_,List.getElem?_toArray,List.getElem?_cons_zero,List.getElem?_cons_succ,Sem.run_bind,dD aF,Result.andThen_ok,sg,tN,Builtin.lenOf,Sem.run_pure,r' i1,i2,Nat.min_zero];rw[ec];rfl
        refine hv aw (mS w _ c7) ⟨κ,F,bm.set (s:=s.cz b _) ?_ bh (gV.2 ⟨by simp,Ss _ (by simp) (by simp)⟩)⟩;have bH:gm ([]:List a7.ai) 0 (ys.take (0 - 0))=[]:=by rfl
        have es:s.cz b ⟨(s.aa b).gen,.bj a7 (gm ([]:List a7.ai) 0 (ys.take (0 - 0)))⟩=s:=by
         rw[bH];unfold aA.cz;have:(λi=>if i=b then (⟨(s.aa b).gen,.bj a7 []⟩:bK) else s.aa i)=s.aa:=by
          funext i;by_cases G:i=b
          ·subst G;simp only[if_true];rw[<-W]
          grind
         rw[this]
        grind
       ·obtain⟨cs,hU,bF,c2,c3,c4,c5⟩:=aT.2 aB;have Cl:min (cW - aZ) ys.length<=ys.length:=Nat.min_le_right _ _;obtain⟨eA,ec,ef⟩:=Sr (P:=C.P) (w:=w) Cl nS;have kR:ys.take (min (cW - aZ) ys.length)=ys.take (cW - aZ):=by
         simp
        rw[kR]at ef;have pd:=ef.1;rw[aeA]at pd;have nQ:=ef.one ll;have Su:xs.length*a7.size<=(κ b).cap*a7.size:=Nat.mul_le_mul_right _ c3;have CD:(aZ+min (cW - aZ) ys.length)*a7.size<=xs.length*a7.size:=Nat.mul_le_mul_right _ (by omega);rw[Nat.add_mul]at CD;obtain⟨w',di,b5,cw,eg,lk,ky,mo⟩:∃ w' di,(storeCells ⟨(κ b).aa,mu,none⟩ eA).run C.P w=.ok () w'/\w'.heap[(κ b).aa]?=some (.cells di hU (0,0))/\di.toList=cs.toList.take ((κ b).off+aZ*a7.size)++(eA++cs.toList.drop ((κ b).off+aZ*a7.size+eA.length))/\
          (∀ r,r≠(κ b).aa->w'.heap[r]?=w.heap[r]?)/\w'.heap.size=w.heap.size/\dd w w':=by
         by_cases cc:aZ<cW
         ·rw[aeB cc];obtain⟨w',di,b5,cw,eg,lk,ky,mo⟩:=vh (P:=C.P) eA ((κ b).off+aZ*a7.size) 0 w cs bF (by omega) nQ;grind
         ·have aY:min (cW - aZ) ys.length=0:=by omega
          rw[aY,Nat.zero_mul]at pd;have:eA=[]:=List.eq_nil_of_length_eq_zero pd;subst this;exact⟨w,cs,by rfl,bF,by simp,λ_ _=>rfl,rfl,dd.refl w⟩
        have c7:(Builtin.copy_ #[t,u] o.type #[a.eval x,a.eval y]).run C.P w=.ok (.int .i64 ((min (cW - aZ) ys.length:Nat):Int)) w':=by
         simp only[Builtin.copy_,List.getElem?_toArray,List.getElem?_cons_zero,List.getElem?_cons_succ,Sem.run_bind,dD aF,Result.andThen_ok,sg,tN,Builtin.lenOf,Sem.run_pure,r' i1,i2];rw[R5,ec];simp only[Result.andThen_ok,b5];rfl
        refine hv aw (mS w' _ c7) ⟨κ,F,bm.set (s:=s.cz b _) ?_ bh (gV.2 ⟨rfl,Ss _ (by omega) (by omega)⟩)⟩;refine M.o9 (b:=b) (by rw[W];simp[bR.b1,aB]) (by simp[bR.b1,aB]) gw (λh=>by cases h) (λh=>by cases h) lk ky mo λH mU cc he=>?_;refine⟨λh=>(by grind),λ_=>⟨di,hU,cw,?_,by omega,c4,?_⟩⟩
        ·have:di.size=cs.size:=by
          rw[<-Array.length_toList,eg];simp only[List.length_append,List.length_take,List.length_drop,Array.length_toList];omega
         omega
        ·exact c5.gm he ef (by omega) (by omega) eg
      grind
     grind
    grind
   ·cases h
  ·cases h
 ·cases h
theorem Sv(af:(bx C.aN T bg (a8 C.aN s.ay) o).run s.aa=some ⟨True,False,.undef,[]⟩)(h:(bx C.aN T bg (a8 C.aN s.ay) o).run s.aa=some res):cK C o s res:=by
 rw[af]at h;cases h;intro a w κ F Q _ _ hc;grind
end
end Go.Fer
namespace Go.Fer
open Go.RowKit
section
variable {C:b'} {T:Nat->ad} {bg:Nat->Option aL} {o:Oper} {s:aA} {res:eC}
theorem aeD{P:Program}{w:World}{len cap:Nat}{aZ:Option Value}{l:Option Int}{k k':IntKind}{h m:Int}(aj:(aZ=none/\l=none)\/∃ k m,aZ=some (.int k m)/\l=some m)
  (E:0<=ds l) (U:ds l<=h) (ag:h<=m) (a6:m<=(cap:Int)):(Instr.sliceBounds true len cap aZ (some (.int k h)) (some (.int k' m))).run P w=.ok ((ds l).toNat,h.toNat,m.toNat) w:=by
 rcases aj with⟨rfl,rfl⟩ | ⟨k,n,rfl,rfl⟩<;>simp only[ds]at E U ⊢
 ·have ax:0<=m/\m<=(cap:Int):=by omega
  have aO:0<=h/\h<=m:=by omega
  have cF:max m 0=m:=by omega
  simp[Instr.sliceBounds,Instr.sliceBound,asIntOf,ax,aO,cF]
 ·have ax:0<=m/\m<=(cap:Int):=by omega
  have aO:0<=h/\h<=m:=by omega
  have cF:max m 0=m:=by omega
  have ee:0<=n/\n<=h:=by omega
  have dZ:max h 0=h:=by omega
  simp[Instr.sliceBounds,Instr.sliceBound,asIntOf,ax,aO,cF,ee,dZ]
theorem aeE(aV:dU C.P T){ty:TypeId}{x:Operand}{aZ G:Option Operand}{o_:Operand}(bh:∀ i,o.dst=some i->i<C.nt)(af:o.op=.slice ty x aZ G (some o_))(h:(bx C.aN T bg (a8 C.aN s.ay) o).run s.aa=some res):cK C o s res:=by
 simp only[bx,af,Option.isSome_some,if_true,FB]at h;split at h
 ·rename_i ol l qV cW vc m qb Kx aeF;have aw:∀ c,o.op≠.defer c:=by grind
  split at h
  ·rename_i bH aI;have dq:=aV.b7 aI (by simp);obtain⟨j,aF,ja,oy⟩:=dq.sl;simp only[ar.e5,Option.bind_eq_some_iff]at h;obtain⟨⟨c,v⟩,fX,h⟩:=h;simp only[bO,ar.bN,Option.some.injEq]at h;subst h;have runs:∀ (a:Act) (w:World) κ F,bm C s a w κ F->ol->qV->vc->∀ (q:Option Addr) (n cap:Nat),a.eval x=.slice q n cap->0<=ds l->ds l<=cW->cW<=m->m<=(cap:Int)->
     (execOp a.eval o).run C.P w=.ok (.value (.slice (if m.toNat=(ds l).toNat then q else q.map (·.add ((ds l).toNat*bH.size))) (cW.toNat - (ds l).toNat) (m.toNat - (ds l).toNat))) w:=by
    intro a w κ F M Cq Cr aeG q n cap ae bF c2 c3 c4;have dO:(aZ.map a.eval=none/\l=none)\/∃ k m,aZ.map a.eval=some (.int k m)/\l=some m:=by
     rcases Cp M qb Cq with⟨rfl,rfl⟩ | ⟨y,k,m,rfl,rfl,e⟩
     ·exact .inl ⟨rfl,rfl⟩
     ·exact .inr ⟨k,m,by simp[e],rfl⟩
    obtain⟨axM,aS,m2,rfl,aO,cF⟩:∃ y k n,G=some y/\cW=n/\a.eval y=.int k n:=by
     rcases Cp M Kx Cr with⟨_,h⟩ | ⟨y,k,m,rfl,h,e⟩
     ·cases h
     ·exact⟨y,k,m,rfl,Option.some.inj h,e⟩
    obtain⟨bP,ee⟩:∃ k,a.eval o_=.int k m:=by
     rcases Cp M aeF aeG with⟨h,_⟩ | ⟨y,k,m,E,U,e⟩
     ·cases h
     ·cases E;cases U;exact⟨k,e⟩
    subst aO;have:=aeD (P:=C.P) (w:=w) (len:=n) (k:=aS) (k':=bP) dO bF c2 c3 c4;simp[execOp,af,ae,Instr.sliceAt,Instr.slice,dD aF,cF,ee,this,ja.size]
   unfold RD at fX;split at fX
   ·rename_i e xs e';simp only[ar.bN]at fX;split at fX
    ·rename_i he;subst he;simp only[Option.some.injEq,Prod.mk.injEq]at fX;obtain⟨rfl,rfl⟩:=fX;refine cK.pure aw bh λa w κ F M be hc=>?_;have ah:bC C.P s.aa κ F w (use (a8 C.aN s.ay x)).2 (a.eval x):=cP M x rfl be.1;rw[e']at ah;obtain⟨_,a',cap,ax,m1,m2,m3,m4⟩:=(dV rfl).1 ah;have ax:=(List.cons.inj ax).1;simp only[fA]at hc;obtain⟨bF,c2,c3,c4⟩:=hc;subst c3;have hlen:((xs.take cW.toNat).drop (ds l).toNat).length=cW.toNat - (ds l).toNat:=by
      grind
     have axN:(xs.length:Int)<=cap:=by omega
     refine⟨_,runs a w κ F M be.2.1 be.2.2.1 be.2.2.2 a' xs.length cap ax bF c2 (Int.le_refl _) (by omega),(dV rfl).2 ⟨rfl,?_⟩,_,by rw[hlen]⟩;refine⟨_,_,by rw[hlen],by omega,by omega,?_,λp ao u'=>?_⟩
     ·intro aB;split at aB
      ·omega
      ·cases a' with
       | none=>grind
       | some q=>cases aB
     ·cases a' with
      | none=>grind
      | some q=>
       obtain⟨ec,ef,jm⟩:=m4 q rfl (by omega);have bt:p=⟨q.block,q.off+(ds l).toNat*e.size,none⟩:=by
        split at ao
        ·omega
        ·simp only[Option.map_some,Option.some.injEq]at ao;rw[Co ef]at ao;grind
       subst bt;refine⟨ec,rfl,λi G=>?_⟩;rw[hlen]at G;obtain⟨bk,d1,d2⟩:=jm ((ds l).toNat+i) (by omega);grind
    grind
   ·rename_i e';simp only[ar.bN,Option.some.injEq,Prod.mk.injEq]at fX;obtain⟨rfl,rfl⟩:=fX;refine cK.pure aw bh λa w κ F M be hc=>?_;have ah:bC C.P s.aa κ F w (use (a8 C.aN s.ay x)).2 (a.eval x):=cP M x rfl be.1;rw[e']at ah;simp only[bC]at ah;simp only[fA]at hc;obtain⟨bF,c2,c3⟩:=hc;have c7:=runs a w κ F M be.2.1 be.2.2.1 be.2.2.2 none 0 0 ah (by omega) (by omega) (by omega) (by omega);have aY:cW.toNat=0:=by omega
    have E:m.toNat=0:=by omega
    have U:(ds l).toNat=0:=by omega
    rw[aY,E,U]at c7;simp only[if_true,Nat.sub_zero]at c7;exact⟨_,c7,(dV rfl).2 ⟨rfl,none,0,rfl,Nat.le_refl _,by decide,λ_=>rfl,λp ao=>by simp⟩,none,rfl⟩
   ·rename_i b g e';simp only[ar.e4,ar.bN]at fX;split at fX
    ·rename_i bl;simp only[Bool.and_eq_true,decide_eq_true_eq]at bl;obtain⟨aC,fa⟩:=bl;simp only[Option.some.injEq,Prod.mk.injEq]at fX;obtain⟨rfl,rfl⟩:=fX;refine cK.pure aw bh λa w κ F M be hc=>?_;have ah:bC C.P s.aa κ F w (use (a8 C.aN s.ay x)).2 (a.eval x):=cP M x rfl be.1;rw[e']at ah;have ae:=ah.2 aC.symm fa;obtain⟨ec,ef⟩:=zm M fa;simp only[fA]at hc;obtain⟨bF,c2,c3,c4⟩:=hc;cases aB:(κ b).e9 with
     | true=>
      have aY:=ec aB;simp only[bD.slice,aB,if_true]at ae;exact⟨_,runs a w κ F M be.2.1 be.2.2.1 be.2.2.2 none 0 0 ae bF c2 c3 (by omega),trivial⟩
     | false=>
      have xh:=Kk M fa aB;simp only[bD.slice,aB,Bool.false_eq_true,if_false]at ae;exact⟨_,runs a w κ F M be.2.1 be.2.2.1 be.2.2.2 _ _ _ ae bF c2 c3 (by omega),trivial⟩
    grind
   ·cases fX
  ·cases h
 ·cases h
theorem aeH{b:Nat}{e:ad}(W:(s.aa b).body=.bj e []):s.cz b ⟨(s.aa b).gen,.bj e []⟩=s:=by
 unfold aA.cz;have:(λi=>if i=b then (⟨(s.aa b).gen,.bj e []⟩:bK) else s.aa i)=s.aa:=by
  funext i;by_cases G:i=b
  ·subst G;simp only[if_true];rw[<-W]
  grind
 rw[this]
theorem aeI(aV:dU C.P T){args:Array Operand}{dp:Array TypeId}(bh:∀ i,o.dst=some i->i<C.nt)(af:o.op=.call { callee:=.builtin .append,args:=args,argTypes:=dp }){b g aZ G:Nat}(aE:w9 (a8 C.aN s.ay) args.toList=some (b,g,aZ,G))
  (h:(Ca T (a8 C.aN s.ay) args.toList dp.toList b g aZ G).run s.aa=some res):cK C o s res:=by
 obtain⟨args⟩:=args;obtain⟨dp⟩:=dp;have aw:∀ c,o.op≠.defer c:=by grind
 simp only[Ca]at h;split at h
 ·rename_i x y t u;have e':(use (a8 C.aN s.ay x)).2=.sub b g aZ G:=by
   simp only[w9]at aE;grind
  split at h
  ·rename_i e aO aI hu;have dq:=aV.b7 aI (by simp);have vi:=aV.b7 hu (by simp);obtain⟨jK,aF,ja,oy⟩:=dq.sl;obtain⟨ad5,fW,_⟩:=vi.sl;obtain⟨inf,z,i1,i2,i3,i4,i5,i6⟩:=kt ja.ks;have ll:0<e.size:=Nat.pos_of_ne_zero oy;simp only[ar.e5,Option.bind_eq_some_iff,ar.e4,ar.bN]at h;obtain⟨⟨ys,l⟩,j9,h⟩:=h;split at h
   ·rename_i aC;split at h
    ·rename_i a7 xs W;split at h
     ·rename_i q4;subst q4;simp only[Option.some.injEq]at h;subst h;intro a w κ F Q M be hc;change G+ys.length<=xs.length at hc;obtain⟨q',cap',tN,nS⟩:=sf M j9 (cP M y rfl be.2);have ah:bC C.P s.aa κ F w (use (a8 C.aN s.ay x)).2 (a.eval x):=cP M x rfl be.1;rw[e']at ah;have aT:=M.bE b;unfold cG at aT;rw[W]at aT;obtain⟨⟨aQ,aS⟩,bP⟩:=ah.2 aC.symm (by rw[W];rfl);rw[W]at aS bP;simp only[bR.len,bR.e3]at aS bP;have mS:∀ (w':World) v,(Builtin.append_ #[t,u] o.type #[a.eval x,a.eval y]).run C.P w=.ok v w'->(execOp a.eval o).run C.P w=.ok (.value v) w':=by
       intro w' v ae;refine xe af ?_;simp[builtin,ae]
      have zC:(gm xs G ys).length=xs.length:=by simp[gm];omega
      have gw:fr s.aa κ (λi=>if i=b then (⟨(s.aa b).gen,.bj a7 (gm xs G ys)⟩:bK) else s.aa i) κ:=
       qT rfl (λh=>by cases h) (λ_=>by rw[W];exact⟨rfl,zC,rfl⟩) (λh=>by cases h) (λh=>by cases h)
      rcases bP with⟨aB,ae⟩ | ⟨aB,mu,ae,hR,gG⟩
      ·have hT:=aT.1 aB;subst hT;have oB:G=0:=by grind
       subst oB;have KR:aZ=0:=by omega
       subst KR;have KE:ys=[]:=by grind
       subst KE;obtain⟨eA,ec,ef⟩:=zt (P:=C.P) (w:=w) (cap:=cap') rfl nS;have c7:(Builtin.append_ #[t,u] o.type #[a.eval x,a.eval y]).run C.P w=.ok (.slice none 0 0) w:=by
        rw[ae,tN];simp only[List.length_nil]at ec ⊢;simp[Builtin.append_,dD aF,dD fW,r' i1,Builtin.lenOf];simp_all
       have bH:gm ([]:List a7.ai) 0 []=[]:=by rfl
       refine hv aw (mS w _ c7) ⟨κ,F,bm.set (s:=s.cz b _) ?_ bh ⟨⟨by simp[aA.cz,aC],rfl⟩,λ_ _=>⟨by simp,.inl ⟨aB,rfl⟩⟩⟩⟩;rw[bH,aeH W];exact M
      ·obtain⟨cs,hU,bF,c2,c3,c4,c5⟩:=aT.2 aB;obtain⟨eA,ec,ef⟩:=zt (P:=C.P) (w:=w) (cap:=cap') rfl nS;have pd:=ef.1;have nQ:=ef.one ll;have Su:xs.length*a7.size<=(κ b).cap*a7.size:=Nat.mul_le_mul_right _ c3;have CD:(G+ys.length)*a7.size<=xs.length*a7.size:=Nat.mul_le_mul_right _ hc;rw[Nat.add_mul]at CD;obtain⟨w',di,b5,cw,eg,lk,ky,mo⟩:∃ w' di,(storeCells ⟨(κ b).aa,mu+(G - aZ)*a7.size,none⟩ eA).run C.P w=.ok () w'/\w'.heap[(κ b).aa]?=some (.cells di hU (0,0))/\di.toList=cs.toList.take ((κ b).off+G*a7.size)++(eA++cs.toList.drop ((κ b).off+G*a7.size+eA.length))/\
         (∀ r,r≠(κ b).aa->w'.heap[r]?=w.heap[r]?)/\w'.heap.size=w.heap.size/\dd w w':=by
        by_cases cc:aZ<(κ b).cap
        ·have zD:mu+(G - aZ)*a7.size=(κ b).off+G*a7.size:=by
          rw[gG cc,Nat.add_assoc,<-Nat.add_mul];grind
         rw[zD];obtain⟨w',di,b5,cw,eg,lk,ky,mo⟩:=vh (P:=C.P) eA ((κ b).off+G*a7.size) 0 w cs bF (by omega) nQ;grind
        ·have aY:ys.length=0:=by omega
         rw[aY,Nat.zero_mul]at pd;have:eA=[]:=List.eq_nil_of_length_eq_zero pd;subst this;exact⟨w,cs,by rfl,bF,by simp,λ_ _=>rfl,rfl,dd.refl w⟩
       have xi:G - aZ+ys.length<=(κ b).cap - aZ:=by omega
       have c7:(Builtin.append_ #[t,u] o.type #[a.eval x,a.eval y]).run C.P w=.ok (.slice (some ⟨(κ b).aa,mu,none⟩) (G - aZ+ys.length) ((κ b).cap - aZ)) w':=by
        rw[ae,tN];simp only[Builtin.append_,List.getElem?_toArray,List.getElem?_cons_zero,List.getElem?_cons_succ,Sem.run_bind,dD aF,dD fW,Result.andThen_ok,r' i1,i2,Sem.run_pure,Builtin.lenOf,Bool.false_eq_true,if_false,if_pos xi,Bool.not_false,if_true,ec,ve];simp_all
       refine hv aw (mS w' _ c7) ⟨κ,F,bm.set (s:=s.cz b _) ?_ bh ⟨⟨by simp[aA.cz,aC],rfl⟩,λ_ _=>⟨by simp only[aA.cz,if_true,bR.len,zC];omega,.inr ⟨aB,mu,?_,?_,?_⟩⟩⟩⟩
       ·refine M.o9 (b:=b) (by rw[W];simp[bR.b1,aB]) (by simp[bR.b1,aB]) gw (λh=>by cases h) (λh=>by cases h) lk ky mo λH mU cc he=>?_;refine⟨λh=>(by grind),λ_=>⟨di,hU,cw,?_,by omega,c4,?_⟩⟩
        ·have:di.size=cs.size:=by
          rw[<-Array.length_toList,eg];grind
         omega
        ·exact c5.gm he ef hc (by omega) eg
       ·grind
       ·simp only[aA.cz,if_true,bR.e3];exact hR
       ·simp only[aA.cz,if_true,bR.e3];exact gG
     grind
    grind
   grind
  ·cases h
 ·cases h
theorem aeJ(aV:dU C.P T){args:Array Operand}{dp:Array TypeId}(bh:∀ i,o.dst=some i->i<C.nt)(af:o.op=.call { callee:=.builtin .clear,args:=args,argTypes:=dp })
  (h:(Cb T (a8 C.aN s.ay) args.toList dp.toList).run s.aa=some res):cK C o s res:=by
 obtain⟨args⟩:=args;obtain⟨dp⟩:=dp;have aw:∀ c,o.op≠.defer c:=by grind
 simp only[Cb]at h;split at h
 ·rename_i x t;split at h
  ·rename_i e aI;have dq:=aV.b7 aI (by simp);obtain⟨jK,aF,ja,oy⟩:=dq.sl;obtain⟨inf,z,i1,i2,i3,i4,i5,i6⟩:=kt ja.ks;have ll:0<e.size:=Nat.pos_of_ne_zero oy;split at h
   ·rename_i b g aZ G e';simp only[ar.e4,ar.bN]at h;split at h
    ·rename_i aC;split at h
     ·rename_i a7 xs W;split at h
      ·rename_i q4;subst q4;simp only[Option.some.injEq]at h;subst h;intro a w κ F Q M be _;have ah:bC C.P s.aa κ F w (use (a8 C.aN s.ay x)).2 (a.eval x):=cP M x rfl be;rw[e']at ah;have aT:=M.bE b;unfold cG at aT;rw[W]at aT;obtain⟨⟨aQ,aS⟩,bP⟩:=ah.2 aC.symm (by rw[W];rfl);rw[W]at aS bP;simp only[bR.len,bR.e3]at aS bP;have mS:∀ (w':World) v,(Builtin.clear_ #[t] o.type #[a.eval x]).run C.P w=.ok v w'->(execOp a.eval o).run C.P w=.ok (.value v) w':=by
        intro w' v ae;refine xe af ?_;simp[builtin,ae]
       have tV:(List.replicate (G - aZ) a7.df).length=G - aZ:=by simp
       have zC:(gm xs aZ (List.replicate (G - aZ) a7.df)).length=xs.length:=by simp[gm];omega
       have gw:fr s.aa κ (λi=>if i=b then (⟨(s.aa b).gen,.bj a7 (gm xs aZ (List.replicate (G - aZ) a7.df))⟩:bK) else s.aa i) κ:=
        qT rfl (λh=>by cases h) (λ_=>by rw[W];exact⟨rfl,zC,rfl⟩) (λh=>by cases h) (λh=>by cases h)
       have nothing:G - aZ=0->gm xs aZ (List.replicate (G - aZ) a7.df)=xs:=λaY=>by rw[aY];simp[gm]
       have hF:G - aZ=0->s.cz b ⟨(s.aa b).gen,.bj a7 (gm xs aZ (List.replicate (G - aZ) a7.df))⟩=s:=λaY=>by
        rw[nothing aY];unfold aA.cz;have:(λi=>if i=b then (⟨(s.aa b).gen,.bj a7 xs⟩:bK) else s.aa i)=s.aa:=by
         funext i;by_cases G:i=b
         ·subst G;simp only[if_true];rw[<-W]
         grind
        rw[this]
       rcases bP with⟨aB,ae⟩ | ⟨aB,mu,ae,hR,gG⟩
       ·have hT:=aT.1 aB;subst hT;have oB:G - aZ=0:=by grind
        have c7:(Builtin.clear_ #[t] o.type #[a.eval x]).run C.P w=.ok (.tuple #[]) w:=by
         rw[ae];simp[Builtin.clear_,dD aF]
        refine hv aw (mS w _ c7) ⟨κ,F,bm.set (s:=s.cz b _) ?_ bh trivial⟩;grind
       ·obtain⟨cs,hU,bF,c2,c3,c4,c5⟩:=aT.2 aB;by_cases aY:G - aZ=0
        ·have c7:(Builtin.clear_ #[t] o.type #[a.eval x]).run C.P w=.ok (.tuple #[]) w:=by
          rw[ae,aY];simp[Builtin.clear_,dD aF]
         refine hv aw (mS w _ c7) ⟨κ,F,bm.set (s:=s.cz b _) ?_ bh trivial⟩;grind
        ·obtain⟨n,qe⟩:∃ n,G - aZ=n+1:=⟨G - aZ - 1,by omega⟩
         have jl:gx C.P a7 F w ((Array.range ((G - aZ)*a7.size)).map (λi=>z.cells[i % z.cells.size]!)).toList (List.replicate (G - aZ) a7.df):=Sq i5 _;have tU:z.cells.size=a7.size:=by
          obtain⟨c,zB,ow,z2⟩:=vb (P:=C.P) (H:=λ_=>⟨0,.fz⟩) (κ:=λ_=>⟨0,0,0,true⟩) (F:=F) (w:=w) a7 i5;rw[List.append_nil]at zB;rw[<-Array.length_toList,zB];exact hP a7 ow
         have pd:=jl.1;rw[tV]at pd;have nQ:=jl.one ll;revert jl pd nQ;generalize ln:((Array.range ((G - aZ)*a7.size)).map (λi=>z.cells[i % z.cells.size]!)).toList=eA;intro jl pd nQ;have Su:xs.length*a7.size<=(κ b).cap*a7.size:=Nat.mul_le_mul_right _ c3;have CD:(aZ+(G - aZ))*a7.size<=xs.length*a7.size:=Nat.mul_le_mul_right _ (by omega);rw[Nat.add_mul]at CD;have zD:mu=(κ b).off+aZ*a7.size:=gG (by omega);obtain⟨w',di,b5,cw,eg,lk,ky,mo⟩:=vh (P:=C.P) eA ((κ b).off+aZ*a7.size) 0 w cs bF (by omega) nQ;have c7:(Builtin.clear_ #[t] o.type #[a.eval x]).run C.P w=.ok (.tuple #[]) w':=by
          rw[ae,zD];have bl:(Builtin.zeroCells z.cells (G - aZ)).toList=eA:=by rw[<-ln,<-tU];rfl
          simp only[Builtin.clear_,List.getElem?_toArray,List.getElem?_cons_zero,Sem.run_bind,dD aF,Result.andThen_ok,qX i1 i4,qe];simp_all
         refine hv aw (mS w' _ c7) ⟨κ,F,bm.set (s:=s.cz b _) ?_ bh trivial⟩;refine M.o9 (b:=b) (by rw[W];simp[bR.b1,aB]) (by simp[bR.b1,aB]) gw (λh=>by cases h) (λh=>by cases h) lk ky mo λH mU cc he=>?_;refine⟨λh=>(by grind),λ_=>⟨di,hU,cw,?_,by omega,c4,?_⟩⟩
         ·have:di.size=cs.size:=by
           rw[<-Array.length_toList,eg];grind
          omega
         ·exact c5.gm he jl (by omega) (by omega) (by omega)
      grind
     grind
    grind
   ·cases h
  ·cases h
 ·cases h
end
end Go.Fer
namespace Go.Fer
open Go.RowKit
section
variable {C:b'} {T:Nat->ad} {bg:Nat->Option aL} {o:Oper} {s:aA} {res:eC}
theorem KS{place:Nat->Option (Nat×Nat)}{size:Nat}(ao:∀ i,place i=some (i*size,size)):∀ (qs:List (Nat×Value)) (cs:Array Value),(∀ q∈qs,q.2.cells.size=size/\q.1*size+size<=cs.size)->(qs.map (·.1)).Nodup->
  ∃ di,Instr.fill place cs qs=some di/\di.size=cs.size/\∀ i,i*size+size<=cs.size->(di.toList.drop (i*size)).take size=(match qs.find? (λp=>p.1 == i) with | some q=>q.2.cells.toList | none=>(cs.toList.drop (i*size)).take size)
 | [],cs,_,_=>⟨cs,rfl,rfl,λi _=>rfl⟩
 | (k,v)::qs,cs,h,aB=>by
  obtain⟨E,U⟩:=h (k,v) (by simp);simp only at E U;have FO:=FM v.cells.toList 0 (k*size) cs (by grind);have e:(v.cells.zipIdx.foldl (λ(cs:Array Value) (p:Value×Nat)=>cs.setIfInBounds (k*size+p.2) p.1) cs)=((v.cells.toList.zipIdx 0).foldl (λ(cs:Array Value) (p:Value×Nat)=>cs.setIfInBounds (k*size+p.2) p.1) cs):=by
   rw[<-Array.foldl_toList];simp
  generalize axO:(v.cells.zipIdx.foldl (λ(cs:Array Value) (p:Value×Nat)=>cs.setIfInBounds (k*size+p.2) p.1) cs)=F2 at *
  have Sw:F2.toList=cs.toList.take (k*size)++(v.cells.toList++cs.toList.drop (k*size+size)):=by
   grind
  have cf:F2.size=cs.size:=by
   rw[<-Array.length_toList,Sw];grind
  have CE:(qs.map (·.1)).Nodup/\k ∉ qs.map (·.1):=by
   grind
  obtain⟨di,aQ,aS,bP⟩:=KS ao qs F2 (λq bt=>by grind) CE.1;refine⟨di,?_,by omega,λi G=>?_⟩
  ·simp only[Instr.fill,ao];grind
  ·rw[bP i (by omega)];by_cases mW:k=i
   ·grind
   ·have:((k,v)::qs).find? (λp=>p.1 == i)=qs.find? (λp=>p.1 == i):=by grind
    rw[this];have jl:(F2.toList.drop (i*size)).take size=(cs.toList.drop (i*size)).take size:=by
     apply List.ext_getElem?;intro j;simp only[List.getElem?_take,List.getElem?_drop];split
     ·rename_i aF;rw[Sw];have kR:(List.take (k*size) cs.toList).length=k*size:=by grind
      have xg:v.cells.toList.length=size:=by omega
      rcases Nat.lt_or_ge i k with ag | ag
      ·have:(i+1)*size<=k*size:=Nat.mul_le_mul_right _ (by omega);grind
      ·have:(k+1)*size<=i*size:=Nat.mul_le_mul_right _ (by omega);rw[Nat.add_mul]at this;rw[List.getElem?_append_right (by omega),kR,List.getElem?_append_right (by omega),List.getElem?_drop];congr 1;omega
     ·rfl
    grind
theorem aeK(aV:dU C.P T){ty n:Nat}{ps:Array (Nat×Operand)}(bh:∀ i,o.dst=some i->i<C.nt)(af:o.op=.buildSlice ty n ps)(h:(bx C.aN T bg (a8 C.aN s.ay) o).run s.aa=some res):cK C o s res:=by
 obtain⟨ps⟩:=ps;have aw:∀ c,o.op≠.defer c:=by grind
 simp only[bx,af]at h;split at h
 ·rename_i e aI;have dq:=aV.b7 aI (by simp);obtain⟨jK,aF,ja,oy⟩:=dq.sl;obtain⟨inf,z,i1,i2,i3,i4,i5,i6⟩:=kt ja.ks;simp only[ar.e5,Option.bind_eq_some_iff,ar.run_bind]at h;obtain⟨⟨xs,bV⟩,hT,h⟩:=h;obtain⟨b,axP,an⟩:=qZ h;split at an
  ·rename_i F3;obtain⟨axQ,Sx⟩:=F3;simp only[Bool.and_eq_true,Bool.not_eq_true',decide_eq_true_eq]at Sx;obtain⟨⟨fY,tP⟩,KT⟩:=Sx;have p_:b ∉ bV:=by grind
   simp only[Option.some.injEq]at an;subst an;intro a w κ F Q M be _;obtain⟨F',f1,bc,f2⟩:=bm.lj (aef n 0 hT) M;obtain⟨aeL,F4,ow,z2⟩:=vb (P:=C.P) (H:=s.aa) (κ:=κ) (F:=F') (w:=w) e i5;rw[List.append_nil]at F4;have KU:=Kp M ps be;have kc:=Sg M.bE f1 ow (ps:=iC (ps.map λp=>(p.1,a8 C.aN s.ay p.2))) (qs:=ps.map λp=>(p.1,a.eval p.2)) (by simp[iC]) KU n 0 hT f2;have tU:=(Ck e (P:=C.P) i5).2;have KV:∀ p∈ps,p.1<n:=by
    intro p ao;have:=List.all_eq_true.1 KT (p.1,(use (a8 C.aN s.ay p.2)).2) (by simp only[iC,List.map_map,List.mem_map];grind);grind
   have KW:((ps.map λp=>(p.1,a.eval p.2)).map (·.1)).Nodup:=by
    have:(iC (ps.map λp=>(p.1,a8 C.aN s.ay p.2))).map (·.1)=(ps.map λp=>(p.1,a.eval p.2)).map (·.1):=by simp[iC]
    grind
   have Sy:∀ q∈ps.map (λp=>(p.1,a.eval p.2)),q.2.cells.size=e.size/\q.1*e.size+e.size<=n*e.size:=by
    intro q bt;obtain⟨p,ao,rfl⟩:=List.mem_map.1 bt;have cc:=KV p ao;refine⟨?_,by
     have:(p.1+1)*e.size<=n*e.size:=Nat.mul_le_mul_right _ (by omega);grind⟩
    obtain⟨bk,d1,d2⟩:=kc.2 p.1 (by omega);rw[Nat.zero_add]at d2;have vo:(ps.map λp=>(p.1,a.eval p.2)).find? (λr=>r.1 == p.1)=some (p.1,a.eval p.2):=by
     have aeM:∀ (l:List (Nat×Value)),(l.map (·.1)).Nodup->∀ q∈l,l.find? (λr=>r.1 == q.1)=some q:=by
      intro l;induction l with
      | nil=>simp
      | cons c l aK=>
       grind
     grind
    rw[vo]at d2;have:=hP e d1;grind
   have KX:z.cells.size≠0:=by omega
   let base:Array Value:=(Array.range (n*e.size)).map (λi=>z.cells[i % z.cells.size]!);have axR:base.size=n*e.size:=by grind
   obtain⟨di,aQ,aS,bP⟩:=KS (place:=λi=>some (i*e.size,e.size)) (λi=>rfl) (ps.map λp=>(p.1,a.eval p.2)) base (by grind) KW;have axS:∀ i,i<n->(base.toList.drop (i*e.size)).take e.size=z.cells.toList:=by
    intro i G;have hle:(i+1)*e.size<=n*e.size:=Nat.mul_le_mul_right _ (by omega);rw[Nat.add_mul]at hle;apply List.ext_getElem?;intro j;simp only[List.getElem?_take,List.getElem?_drop];split
    ·rename_i aF;have fW:j<z.cells.size:=by omega
     rw[Array.getElem?_toList,Array.getElem?_toList];have zw:(i*e.size+j) % z.cells.size=j:=by rw[tU,Nat.add_comm,Nat.add_mul_mod_self_right,Nat.mod_eq_of_lt aF]
     grind
    grind
   have aeN:gx C.P e F' w di.toList xs:=by
    refine⟨by grind,λi G=>?_⟩;have dL:i<n:=by omega
    have hle:(i+1)*e.size<=n*e.size:=Nat.mul_le_mul_right _ (by omega);grind
   have c7:(execOp a.eval o).run C.P w=.ok (.value (.slice (some ⟨w.heap.size,0,none⟩) n n)) (w.alloc (.cells di jK)):=by
    have aeO:¬n*e.size > 2 ^ 24:=by omega
    simp only[execOp,af,Instr.buildSlice,Sem.run_bind,dD aF,Result.andThen_ok,r' i1,i2,aeO,if_false];by_cases sk:n*e.size=0
    ·have zE:base=#[]:=Array.eq_empty_of_size_eq_zero (by omega);rw[zE]at aQ;simp only[sk,if_true,Sem.run_bind,Sem.run_pure,Result.andThen_ok];rw[show ((Array.range 0).map (λi=>(#[]:Array Value)[i % (#[]:Array Value).size]!))=#[] from by simp];simp only[List.map_toArray]at aQ ⊢;rw[show Instr.fill (λi=>some (i*e.size,e.size)) #[] (ps.map λx=>(x.1,a.eval x.2))=some di from aQ];rfl
    ·simp only[sk,if_false,Sem.run_bind,qX i1 i4,Result.andThen_ok,Sem.run_pure];simp only[List.map_toArray];rw[show Instr.fill (λi=>some (i*e.size,e.size)) ((Array.range (n*e.size)).map (λi=>z.cells[i % z.cells.size]!)) (ps.map λx=>(x.1,a.eval x.2))=some di from aQ];rfl
   have mV:s.gi ((jG bV).run s.aa++[(b,⟨(s.aa b).gen+1,.bj e xs⟩)])=(s.cB bV).cz b ⟨(s.aa b).gen+1,.bj e xs⟩:=by
    rw[Cj,tI]
   have pe:(s.cB bV).aa b=s.aa b:=by simp[aA.cB,p_]
   have ag:=bc.Cu (b:=b) (g:=(s.aa b).gen+1) (zs:=xs) (k:=⟨w.heap.size,0,n,false⟩) (w':=w.alloc (.cells di jK)) (by grind) (.inr rfl) (by simp) (λr M=>o8 w _ M) (λ_=>by simp) ⟨rfl,rfl,rfl⟩
    (λH κ'=>⟨λh=>(by cases h),λ_=>⟨di,jK,p4 w _,by grind,by grind,by
     have:n<=n*e.size:=Nat.le_mul_of_pos_right _ (Nat.pos_of_ne_zero oy);grind,(aeN.Cs (pre:=[]) (post:=[]) (by simp)).lb (c6.alloc bc.db _)⟩⟩)
   refine hv aw c7 ?_;simp only[aA.h6];rw[mV];exact⟨_,F',bm.set ag bh ⟨⟨by simp[aA.cz],rfl⟩,λ_ _=>by simp[aA.cz,bD.slice,bR.len,kc.1]⟩⟩
  grind
 ·cases h
theorem Sz(nT:Nat):∀ (m:Nat) (l:List Value),l.length=m*nT->((List.range m).map λi=>(l.drop (i*nT)).take nT).flatten=l
 | 0,l,h=>by
  have:l=[]:=List.eq_nil_of_length_eq_zero (by omega);simp[this]
 | m+1,l,h=>by
  rw[Nat.add_mul]at h;have aK:=Sz nT m (l.take (m*nT)) (by grind);rw[List.range_succ,List.map_append,List.flatten_append];have e:((List.range m).map λi=>(l.drop (i*nT)).take nT)=((List.range m).map λi=>((l.take (m*nT)).drop (i*nT)).take nT):=by
   refine List.map_congr_left λi G=>?_;have hle:(i+1)*nT<=m*nT:=Nat.mul_le_mul_right _ (by have:=List.mem_range.1 G;omega);rw[Nat.add_mul]at hle;rw[List.drop_take,List.take_take,Nat.min_eq_left (by omega)]
  rw[e,aK];have:(l.drop (m*nT)).take nT=l.drop (m*nT):=List.take_of_length_le (by grind);simp[this]
theorem aeP(aV:dU C.P T){ty m:Nat}{e:ad}{ps:Array (Nat×Operand)}(bh:∀ i,o.dst=some i->i<C.nt)(af:o.op=.build ty ps)(aI:T ty=.array m e)
  (h:((tE e (iC (ps.toList.map λp=>(p.1,a8 C.aN s.ay p.2))) 0 m).cR λ(xs,bV)=>if (bV.isEmpty&&decide ((iC (ps.toList.map λp=>(p.1,a8 C.aN s.ay p.2))).map (·.1)).Nodup&&(iC (ps.toList.map λp=>(p.1,a8 C.aN s.ay p.2))).all (λp=>decide (p.1<m)))=true then bO (r9 (ps.toList.map λp=>(p.1,a8 C.aN s.ay p.2))) True (.val (.array m e) xs) else .none).run s.aa=some res):cK C o s res:=by
 obtain⟨ps⟩:=ps;simp only[ar.e5,Option.bind_eq_some_iff]at h;obtain⟨⟨xs,bV⟩,hT,h⟩:=h;have dq:=aV.b7 aI (by simp);obtain⟨jK,aF,ja,oy⟩:=dq.bj;obtain⟨i,z,E,U,ag,a6,bM,dn⟩:=kt dq.ks;split at h
 ·rename_i hc;simp only[Bool.and_eq_true,decide_eq_true_eq,List.isEmpty_iff,List.all_eq_true]at hc;obtain⟨⟨rfl,tP⟩,KT⟩:=hc;simp only[bO,ar.bN,Option.some.injEq]at h;subst h;refine cK.pure (by grind) bh λa w κ F M be _=>?_;obtain⟨aeL,F4,ow,z2⟩:=vb (P:=C.P) (H:=s.aa) (κ:=κ) (F:=F) (w:=w) (.array m e) bM;rw[List.append_nil]at F4;have tU:=(Ck (.array m e) (P:=C.P) bM).2;have axT:z.cells.size=m*e.size:=tU;have KU:=Kp M ps be;have kc:=λ(zero:List Value) (bl:bJ C.P e F w zero e.df)=>Sg M.bE (λ_ h=>h) bl (ps:=iC (ps.map λp=>(p.1,a8 C.aN s.ay p.2))) (qs:=ps.map λp=>(p.1,a.eval p.2)) (by simp[iC]) KU m 0 hT (λ_ h=>by cases h);have KV:∀ p∈ps,p.1<m:=by
   intro p ao;exact KT (p.1,(use (a8 C.aN s.ay p.2)).2) (by simp only[iC,List.map_map,List.mem_map];grind)
  have KW:((ps.map λp=>(p.1,a.eval p.2)).map (·.1)).Nodup:=by
   have:(iC (ps.map λp=>(p.1,a8 C.aN s.ay p.2))).map (·.1)=(ps.map λp=>(p.1,a.eval p.2)).map (·.1):=by simp[iC]
   grind
  have jl:∀ i,i<m->bJ C.P e F w ((z.cells.toList.drop (i*e.size)).take e.size) e.df:=by
   intro i G;have aeQ:bJ C.P (.array m e) F w z.cells.toList (ad.array m e).df:=by rw[F4];exact ow
   obtain⟨p,c,q,aQ,aS,bP⟩:=Kj aeQ G;have aj:=hP e bP;have:(ad.df (.array m e)).getD i e.df=e.df:=by
    show (List.replicate m e.df).getD i e.df=e.df;grind
   rw[this]at bP;have:(z.cells.toList.drop (i*e.size)).take e.size=c:=by
    rw[aQ,<-aS];simp[aj]
   rw[this];exact bP
  have SA:xs.length=m:=by
   rcases Nat.eq_zero_or_pos m with aY | aY
   ·subst aY;simp only[tE,ar.bN,Option.some.injEq,Prod.mk.injEq]at hT;rw[<-hT.1];rfl
   ·exact (kc _ (jl 0 aY)).1
  have Sy:∀ q∈ps.map (λp=>(p.1,a.eval p.2)),q.2.cells.size=e.size/\q.1*e.size+e.size<=z.cells.size:=by
   intro q bt;obtain⟨p,ao,rfl⟩:=List.mem_map.1 bt;have cc:=KV p ao;refine⟨?_,by
    have:(p.1+1)*e.size<=m*e.size:=Nat.mul_le_mul_right _ (by omega);grind⟩
   obtain⟨bk,d1,d2⟩:=(kc _ (jl p.1 cc)).2 p.1 (by omega);rw[Nat.zero_add]at d2;have vo:(ps.map λp=>(p.1,a.eval p.2)).find? (λr=>r.1 == p.1)=some (p.1,a.eval p.2):=by
    have aeM:∀ (l:List (Nat×Value)),(l.map (·.1)).Nodup->∀ q∈l,l.find? (λr=>r.1 == q.1)=some q:=by
     intro l;induction l with
     | nil=>simp
     | cons c l aK=>
      grind
    grind
   rw[vo]at d2;have:=hP e d1;grind
  obtain⟨di,aQ,aS,bP⟩:=KS (place:=λi=>some (i*e.size,e.size)) (λi=>rfl) (ps.map λp=>(p.1,a.eval p.2)) z.cells Sy KW;refine⟨.agg di,?_,⟨di,rfl,by omega⟩,?_⟩
  ·simp only[execOp,af,Instr.build,Sem.run_bind,qX E a6,Result.andThen_ok,dD aF,ja.size];simp_all
  ·refine⟨(List.range m).map λi=>(di.toList.drop (i*e.size)).take e.size,(Sz e.size m di.toList (by grind)).symm,by simp,SA,λi G dL=>?_⟩;simp only[List.getElem_map,List.getElem_range];have KQ:i<m:=by omega
   have hle:(i+1)*e.size<=m*e.size:=Nat.mul_le_mul_right _ (by omega);rw[Nat.add_mul]at hle;obtain⟨bk,d1,d2⟩:=(kc _ (jl i KQ)).2 i G;rw[Nat.zero_add]at d2;have:=bP i (by omega);have:(di.toList.drop (i*e.size)).take e.size=bk:=by
    rw[this];split at d2<;>simp_all
   rw[this];exact d1
 ·cases h
theorem fq.mono{P:Program}{t:ad}{F F':Nat->Prop}{w w':World}{aD:List Value}{x:t.ai}(h:fq P t F w aD x)(bp:∀ r,F r->F' r)(he:c6 F w w'):fq P t F' w' aD x:=⟨h.1,ff t bp he h.2⟩
theorem aeR{k:FuncId}{c1:List Operand}(bh:∀ i,o.dst=some i->i<C.nt)(af:o.op=.makeFunc (.func k) #[] ⟨c1⟩){v:Fu}(ae:C.aN.tA k=some v)
  (h:((iY (gn (v.cs.map .bI)) ((c1.map (a8 C.aN s.ay)).map λv=>(use v).2)).cR λ(y,bV)=>(jG bV).bind λwl=>.ret (some ⟨jH (c1.map (a8 C.aN s.ay)),True,.val (.fn (gn v.as) v.aW) (λx=>v.sh (Ft v.as (v.cs.map .bI) x y)),wl⟩):ar (Option eC)).run s.aa=some res):cK C o s res:=by
 simp only[ar.e5,Option.bind_eq_some_iff,ar.run_bind,ar.bN,Option.some.injEq]at h;obtain⟨⟨y,l⟩,aR,rfl⟩:=h;intro a w κ F Q M be _;obtain⟨F',f1,bc,f2⟩:=bm.lj (qc _ aR) M;have dY:fq C.P (gn (v.cs.map .bI)) F' w (c1.map a.eval) y:=by
  refine vn M.bE f1 _ aR f2 (by simp) λi G dL=>?_;simp only[List.getElem_map];have dA:i<c1.length:=by grind
  have E:=sa be i (by grind);have ax:(c1.map (a8 C.aN s.ay)).getD i .undef=a8 C.aN s.ay c1[i]:=by grind
  rw[ax]at E;exact o' (j8 M c1[i]) E
 obtain⟨aE,xl⟩:=M.jE.tA k v ae;have c7:(execOp a.eval o).run C.P w=.ok (.value (.func (.func k) #[] (c1.map a.eval).toArray)) w:=by simp[execOp,af,Instr.makeFunc]
 refine hv (by grind) c7 ⟨κ,F',?_⟩;simp only[aA.h6];rw[tI];refine bm.set bc bh ((dV rfl).2 ⟨rfl,_,rfl,⟨rfl,rfl⟩,λen c8 zF xm tW xn args x E U ag=>⟨k,_,rfl,xl.enter,?_⟩⟩);have aF:=Ro v.as (v.cs.map .bI) aE (P:=C.P) (F:=en) (w:=c8) ⟨E,U⟩ (dY.mono zF xm);have:=xl.iV en c8 _ _ tW xn aF ag;have e:(args++c1.map a.eval).toArray=args.toArray++(c1.map a.eval).toArray:=by simp
 rw[e]at this;exact this.mono λe tv ⟨v,y,ax,aO,⟨aD,cF,ee,dZ⟩,ld⟩=>⟨v,y,aD,ax,aO,cF,ee,dZ,ld⟩
theorem aeS{k:FuncId}{c1:List Operand}(bh:∀ i,o.dst=some i->i<C.nt)(af:o.op=.makeFunc (.func k) #[] ⟨c1⟩){v:wZ}(ae:C.aN.w2 k=some v)
  (h:((iY (gn (v.cs.map .bI)) ((c1.map (a8 C.aN s.ay)).map λv=>(use v).2)).cR λ(y,bV)=>(jG bV).bind λwl=>.ret (some ⟨jH (c1.map (a8 C.aN s.ay)),True,.val (.ct v.aM) (v.S y),wl⟩):ar (Option eC)).run s.aa=some res):cK C o s res:=by
 simp only[ar.e5,Option.bind_eq_some_iff,ar.run_bind,ar.bN,Option.some.injEq]at h;obtain⟨⟨y,l⟩,aR,rfl⟩:=h;intro a w κ F Q M be _;obtain⟨F',f1,bc,f2⟩:=bm.lj (qc _ aR) M;have dY:fq C.P (gn (v.cs.map .bI)) F' w (c1.map a.eval) y:=by
  refine vn M.bE f1 _ aR f2 (by simp) λi G dL=>?_;simp only[List.getElem_map];have dA:i<c1.length:=by grind
  have E:=sa be i (by grind);have ax:(c1.map (a8 C.aN s.ay)).getD i .undef=a8 C.aN s.ay c1[i]:=by grind
  rw[ax]at E;exact o' (j8 M c1[i]) E
 have xl:=M.jE.w2 k v ae;have c7:(execOp a.eval o).run C.P w=.ok (.value (.func (.func k) #[] (c1.map a.eval).toArray)) w:=by simp[execOp,af,Instr.makeFunc]
 refine hv (by grind) c7 ⟨κ,F',?_⟩;simp only[aA.h6];rw[tI];refine bm.set bc bh ((dV rfl).2 ⟨rfl,_,rfl,⟨rfl,rfl⟩,λen c8 zF xm tW xn eO=>⟨k,_,rfl,xl.enter,λl I Y iF jr eB=>?_⟩⟩);exact xl.iV en c8 _ _ tW xn (dY.mono zF xm) eO l I Y iF jr eB
theorem aeT{k:FuncId}{c1:Array Operand}(bh:∀ i,o.dst=some i->i<C.nt)(af:o.op=.makeFunc (.func k) #[] c1)(h:(bx C.aN T bg (a8 C.aN s.ay) o).run s.aa=some res):cK C o s res:=by
 obtain⟨c1⟩:=c1;simp only[bx,af,Array.isEmpty_empty,if_true]at h;split at h;case h_1 v ae=>exact aeR bh af ae h
 split at h;case h_1 v ae=>exact aeS bh af ae h
 simp only[bO,ar.bN,Option.some.injEq]at h;subst h;refine cK.pure (by grind) bh λa w κ F M be _=>?_;refine⟨.func (.func k) #[] (c1.map a.eval).toArray,by simp[execOp,af,Instr.makeFunc],c1.map a.eval,rfl,by simp,λi G=>?_⟩;have dL:i<c1.length:=by grind
 have E:(use ((c1.map (a8 C.aN s.ay)).getD i .undef)).1:=sa be i (by omega);have ax:(c1.map (a8 C.aN s.ay)).getD i .undef=a8 C.aN s.ay c1[i]:=by grind
 rw[ax]at E;have U:=o' (j8 M c1[i]) E;have aO:(c1.map a.eval).getD i Go.undef=a.eval c1[i]:=by grind
 have cF:hh ((c1.map (a8 C.aN s.ay)).map λv=>(use v).2) i=(use (a8 C.aN s.ay c1[i])).2:=by simp[hh,List.getD_eq_getElem?_getD,dL]
 grind
theorem aeU{k:FuncId}{first c1:Array Operand}(bh:∀ i,o.dst=some i->i<C.nt)(af:o.op=.makeFunc (.func k) first c1)(aq:first.isEmpty=false)(h:(bx C.aN T bg (a8 C.aN s.ay) o).run s.aa=some res):cK C o s res:=by
 obtain⟨first⟩:=first
 simp only[bx,af,aq,Bool.false_eq_true,if_false]at h;split at h
 ·rename_i hc;have hc:c1=#[]:=by grind
  subst hc;simp only[bO,ar.bN,Option.some.injEq]at h;subst h;refine cK.pure (by grind) bh λa w κ F M be _=>?_;refine⟨.func (.func k) (first.map a.eval).toArray #[],by simp[execOp,af,Instr.makeFunc],first.map a.eval,rfl,by simp,λi G=>?_⟩;have dL:i<first.length:=by omega
  have E:(use ((first.map (a8 C.aN s.ay)).getD i .undef)).1:=sa be i (by grind);have ax:(first.map (a8 C.aN s.ay)).getD i .undef=a8 C.aN s.ay first[i]:=by grind
  rw[ax]at E;have U:=o' (j8 M first[i]) E;have aO:(first.map a.eval).getD i Go.undef=a.eval first[i]:=by grind
  have cF:hh ((first.map (a8 C.aN s.ay)).map λv=>(use v).2) i=(use (a8 C.aN s.ay first[i])).2:=by simp[hh,List.getD_eq_getElem?_getD,dL]
  grind
 ·cases h
def lq(o:Oper)(nt:Nat):Bool:=
 (match o.dst with | some d=>decide (d<nt) | none=>true)&&(match o.op with | .store _ _ _=>o.dst.isNone | .mapUpdate _ _ _ _=>o.dst.isNone | .insert _ _ _ _=>o.dst.isNone | _=>true)
theorem xo(aV:dU C.P T)(cC:jn C.P bg)(aw:lq o C.nt=true)(h:(bx C.aN T bg (a8 C.aN s.ay) o).run s.aa=some res):cK C o s res:=by
 simp only[lq,Bool.and_eq_true]at aw;have bh:∀ i,o.dst=some i->i<C.nt:=λi G=>by
  grind
 cases af:o.op with
 | move x=>exact adh bh af h
 | assign x=>exact adi bh af h
 | pick c a b=>exact adj bh af h
 | binOp op t x y cY=>exact adr aV bh af h
 | unOp op t x=>exact adk bh af h
 | extract t i=>exact adl bh af h
 | nilCheck x=>exact adm bh af h
 | fieldAddr t x f=>exact adn aV bh af h
 | field t x f=>exact ado aV bh af h
 | load t x=>exact ads aV bh af h
 | store t x y=>
  have:=aw.2;rw[af]at this;exact adL aV (by grind) af h
 | alloc t=>
  by_cases aI:T t=.cU
  ·simp only[bx,af,aI]at h;obtain⟨_,_,an⟩:=qZ h;grind
  ·exact adC aV bh af h aI
 | box t x=>exact adE bh af h
 | build t ps=>
  by_cases FP:∀ m e,T t≠.array m e
  ·exact adJ aV bh af FP h
  ·obtain⟨m,e,aI⟩:∃ m e,T t=.array m e:=by grind
   refine aeP aV bh af aI ?_;simpa only [bx,af,aI]using h
 | buildSlice t n ps=>exact aeK aV bh af h
 | indexAddr t x i=>exact adR aV bh af h
 | index t x i=>exact adu aV bh af h
 | convert a b x=>exact aeb aV bh af h
 | makeFunc fn first c1=>
  cases fn with
  | func k=>
   by_cases aq:first=#[]
   ·subst aq;exact aeT bh af h
   ·exact aeU bh af (by grind) h
  | _=>simp[bx,af,ar.none]at h
 | makeMap t r=>exact ael bh af h
 | lookup t m x ok=>exact aem aV bh af h
 | mapUpdate t m x y=>
  have:=aw.2;rw[af]at this;exact KM aV (by grind) (.inl af) h
 | insert t m x y=>
  have:=aw.2;rw[af]at this;exact KM aV (by grind) (.inr af) h
 | makeSlice t l c=>exact aer aV bh af h
 | makeInterface t x=>exact Sv (by simp[bx,af,bO]) h
 | panic x=>exact Sv (by simp[bx,af,bO]) h
 | slice t x aZ G o_=>
  cases o_ with
  | none=>exact adT aV bh af h
  | some m=>exact aeE aV bh af h
 | call c=>
  obtain⟨callee,args,dp⟩:=c;cases callee with
  | value f=>
   cases f with
   | func k=>exact aeg cC bh af h
   | _=>simp[bx,af,mQ,ar.none]at h
  | invoke r m=>simp[bx,af,mQ,ar.none]at h
  | builtin b=>
   cases b with
   | len=>exact adz aV bh af h
   | append=>
    cases aE:w9 (a8 C.aN s.ay) args.toList with
    | none=>exact ad4 aV bh af (by simpa [bx,af,mQ,aE]using h)
    | some p=>exact aeI aV bh af aE (by simpa [bx,af,mQ,aE]using h)
   | clear=>exact aeJ aV bh af (by simpa [bx,af,mQ]using h)
   | copy=>exact aez aV bh af h
   | min=>exact RU (.inl ⟨rfl,rfl⟩) bh af (by simpa [bx,af,mQ]using h)
   | max=>exact RU (.inr ⟨rfl,rfl⟩) bh af (by simpa [bx,af,mQ]using h)
   | cap=>exact adA aV bh af (by simpa [bx,af,mQ]using h)
   | _=>simp[bx,af,mQ,ar.none]at h
 | _=>simp[bx,af,ar.none]at h
end
end Go.Fer
namespace Go.Fer
open Go.RowKit
def ar.cX{ak:Type}(p:ak->Prop):ar ak->Prop
 | .ret a=>p a
 | .eS _ k=>∀ x,(k x).cX p
theorem KY{aJ:Operand->aH}{k:IntKind}:∀ (l:List Operand) {cb:Prop} {h5:z1'},(∀ x∈l,(use (aJ x)).1)->mP aJ k l=some (cb,h5)->cb
 | [],_,_,_,h=>by cases h
 | [x],cb,h5,hu,h=>by
  simp only[mP]at h;split at h
  ·split at h
   ·cases h;exact hu x (by simp)
   ·cases h
  ·cases h
 | x::y::l,cb,h5,hu,h=>by
  simp only[mP]at h;split at h
  ·rename_i aj;split at h
   ·cases h;exact⟨hu x (by simp),KY (y::l) (λz bl=>hu z (List.mem_cons_of_mem _ bl)) aj⟩
   ·cases h
  ·cases h
theorem ar.cX.run{ak:Type}{p:ak->Prop}{m:ar ak}(h:m.cX p)(H:Nat->bK):p (m.run H):=by
 induction m with
 | ret a=>exact h
 | eS b k aK=>exact aK _ (h _)
theorem ar.cX.bind{ak β:Type}{p:β->Prop}{m:ar ak}{f:ak->ar β}(h:∀ a,(f a).cX p):(m.bind f).cX p:=by
 induction m with
 | ret a=>exact h a
 | eS b k aK=>exact λx=>aK x
def lr{ak:Type}(p:ak->Prop)(x:Option ak):Prop:=∀ a,x=some a->p a
theorem ar.cX.cR{ak β:Type}{p:β->Prop}{m:ar (Option ak)}{f:ak->ar (Option β)}(h:∀ a,(f a).cX (lr p)):(m.cR f).cX (lr p):=by
 refine ar.cX.bind λa=>?_;cases a with
 | none=>intro a h;cases h
 | some a=>grind
theorem ar.cX.SB{ak β:Type}{q:ak->Prop}{p:β->Prop}{m:ar (Option ak)}{f:ak->ar (Option β)}(hm:m.cX (lr q))(h:∀ a,q a->(f a).cX (lr p)):(m.cR f).cX (lr p):=by
 unfold ar.cR;induction m with
 | ret a=>
  cases a with
  | none=>intro b W;cases W
  | some a=>exact h a (hm a rfl)
 | eS b k aK=>exact λx=>aK x (hm x)
theorem ar.cX.bY{ak:Type}{p:ak->Prop}:(ar.none:ar (Option ak)).cX (lr p):=by intro a h;cases h
theorem ar.cX.m_{ak:Type}{p:ak->Prop}{a:ak}(h:p a):(ar.ret (some a)).cX (lr p):=by intro b W;grind
theorem ar.cX.nil{ak:Type}{p:ak->Prop}:(ar.ret (Option.none:Option ak)).cX (lr p):=by intro b W;cases W
theorem ar.cX.bO{p:eC->Prop}{cb c:Prop}{v:aH}(h:p ⟨cb,c,v,[]⟩):(bO cb c v).cX (lr p):=ar.cX.m_ h
theorem ar.cX.h4{p:eC->Prop}{d:Option Nat}{k:Nat->Nat->Option eC}(h:∀ b g,lr p (k b g)):(h4 d k).cX (lr p):=by
 unfold Go.Fer.h4;split
 ·exact .bY
 ·exact λx=>h _ _
def aH.zG:aH->Bool
 | .hC _ _=>true
 | _=>false
theorem F5{a:aH}(h:a.zG=false):(use a).1:=by
 cases a<;>first | trivial | cases h
def sn(aJ:Operand->aH)(o:Oper):Bool:=o.op.operands.toList.all λx=>!(aJ x).zG
def aH.aeV:aH->Bool
 | .fJ _ _=>false
 | .val (.map _ _) _=>false
 | _=>true
def F6(aJ:Operand->aH)(b:Builtin)(args:List Operand):Bool:=
 match b with
 | .len=>match args with
  | [x]=>(use (aJ x)).2.aeV
  | _=>false
 | .min=>true
 | .max=>true
 | _=>false
def aH.SC:aH->Bool
 | .iW ..=>true
 | _=>false
def m'(aJ:Operand->aH)(o:Oper):Bool:=
 match o.op with
 | .move _ | .assign _ | .pick .. | .unOp .. | .extract .. | .fieldAddr .. | .field .. | .alloc .. | .box .. | .build .. | .buildSlice .. | .convert .. | .makeFunc .. | .makeMap .. | .lookup .. | .mapUpdate .. | .insert ..=>true
 | .load _ x=>!(use (aJ x)).2.SC
 | .store _ x _=>!(use (aJ x)).2.SC
 | .binOp op _ x _ _=>match op with
  | .quo | .rem | .shl | .shr=>false
  | .add=>(use (aJ x)).2.mn.isSome
  | _=>true
 | .call c=>match c.callee with
  | .builtin b=>F6 aJ b c.args.toList
  | _=>false
 | _=>false
theorem aeW{op:BinOp}{k:IntKind}{a b:Int}{c:Prop}{v:aH}(h:za op k a b=some (c,v))(E:op≠.quo)(U:op≠.rem):c:=by
 cases op<;>simp only[za,Option.some.injEq,Prod.mk.injEq,reduceCtorEq]at h<;>first | (obtain⟨rfl,_⟩:=h;trivial) | contradiction
theorem aeX{op:BinOp}{a b:List UInt8}{c:Prop}{v:aH}(h:B5 op a b=some (c,v))(E:op≠.add):c:=by
 cases op<;>simp only[B5,Option.some.injEq,Prod.mk.injEq,reduceCtorEq]at h<;>first | (obtain⟨rfl,_⟩:=h;trivial) | contradiction
theorem aeY{op:BinOp}{t:ad}{x y:aH}:(zb op t x y).cX (lr λr=>r.1):=by
 unfold zb;refine ar.cX.cR λe=>?_;cases op<;>first | exact .m_ trivial | exact .nil
section
variable {aP:dG} {T:Nat->ad} {bg:Nat->Option aL} {aJ:Operand->aH} {o:Oper}
theorem aeZ{op:BinOp}{ty:TypeId}{x y:Operand}{t:TypeId}(af:o.op=.binOp op ty x y t)(hc:m' aJ o=true):(bx aP T bg aJ o).cX (lr λr=>r.c):=by
 unfold bx;rw[af];simp only;simp only[m',af]at hc;split
 ·rename_i k a k' b E U;split
  ·cases hc
  ·cases hc
  ·split
   ·split
    ·rename_i c v G;refine .bO (aeW G ?_ ?_)<;>(grind)
    ·exact .bY
   ·exact .bY
 ·rename_i pf;split
  ·rename_i a b E U;split
   ·rename_i c v G;refine .bO (aeX G ?_);intro e;subst e;simp only at hc;generalize (use (aJ x)).2=z at hc E;cases z<;>try (cases E;done)
    rename_i t d;cases t<;>first | (cases E;done) | (cases hc;done)
   ·exact .bY
  ·exact ar.cX.SB aeY λr M=>.bO M
theorem KZ{p:eC->Prop}{ty:TypeId}{m x y:Operand}(h:∀ wl,p ⟨(use (aJ m)).1/\(use (aJ x)).1/\(use (aJ y)).1,True,.undef,wl⟩):(qW T aJ ty m x y).cX (lr p):=by
 unfold qW;split
 ·simp only;split
  ·split
   ·refine ar.cX.cR λ_=>ar.cX.cR λ_=>ar.cX.bind λ_=>λz=>?_;intro r M;split at M
    ·split at M
     ·simp only[Option.map_eq_some_iff]at M;grind
     grind
    grind
   ·exact .bY
  ·exact .bY
 ·exact .bY
theorem SD{ty:TypeId}{m x y:Operand}:(qW T aJ ty m x y).cX (lr λr=>r.c):=KZ λ_=>trivial
theorem zH(hc:m' aJ o=true):(bx aP T bg aJ o).cX (lr λr=>r.c):=by
 cases af:o.op with
 | binOp op ty x y t=>exact aeZ af hc
 | move x=>unfold bx;rw[af];exact .bO trivial
 | assign x=>
  unfold bx;rw[af];simp only;split
  ·exact .h4 λb g=>λr M=>by grind
  ·exact .bO trivial
 | pick c a b=>
  unfold bx;rw[af];simp only;split
  ·split
   ·split
    ·exact .bO trivial
    ·exact .bY
   ·split
    ·exact .bO trivial
    ·exact .bY
   ·exact .bY
  ·exact .bY
 | unOp op t x=>
  unfold bx;rw[af];simp only;split
  ·exact .bO trivial
  ·exact .bO trivial
  ·exact .bY
 | extract x i=>
  unfold bx;rw[af];simp only;split
  ·split
   ·exact .bO trivial
   ·exact .bY
  ·exact .bY
 | fieldAddr ty x f=>
  unfold bx;rw[af];simp only;repeat' first | exact .bY | exact .bO trivial | split
  all_goals first
   | (intro z;intro r M;grind)
 | field ty x f=>
  unfold bx;rw[af];simp only;repeat' first | exact .bY | exact .bO trivial | split
 | load ty x=>
  simp only[m',af]at hc;unfold bx;rw[af];simp only;split
  ·rename_i ah;rw[ah]at hc;cases hc
  ·exact ar.cX.cR λ_=>.bO trivial
 | store ty x y=>
  simp only[m',af]at hc;unfold bx;rw[af];simp only;split
  ·rename_i ah;rw[ah]at hc;cases hc
  ·exact ar.cX.cR λ_=>.m_ trivial
 | alloc ty=>
  unfold bx;rw[af];simp only;exact .h4 λb g=>λr M=>by grind
 | box ty x=>
  unfold bx;rw[af];simp only;split
  ·exact .h4 λb g=>λr M=>by grind
  ·exact .bY
 | build ty ps=>
  unfold bx;rw[af];simp only;repeat' first | exact .bY | exact .bO trivial | refine ar.cX.cR λ_=>?_ | split
 | buildSlice ty n ps=>
  unfold bx;rw[af];simp only;split
  ·refine ar.cX.cR λ_=>ar.cX.bind λ_=>.h4 λb g=>λr M=>by grind
  ·exact .bY
 | convert a b x=>
  unfold bx;rw[af];simp only;repeat' first | exact .bY | exact .bO trivial | exact ar.cX.cR λ_=>.bO trivial | split
 | makeFunc fn first c1=>
  unfold bx;rw[af];simp only;split
  ·split
   ·split
    ·exact ar.cX.cR λ_=>ar.cX.bind λ_=>.m_ trivial
    ·split
     ·exact ar.cX.cR λ_=>ar.cX.bind λ_=>.m_ trivial
     ·exact .bO trivial
   ·split
    ·exact .bO trivial
    ·exact .bY
  ·exact .bY
 | makeMap ty r=>
  unfold bx;rw[af];simp only;split
  ·exact .bY
  ·split
   ·exact .h4 λb g=>λr M=>by grind
   ·exact .bY
 | lookup ty m x ok=>
  unfold bx;rw[af];simp only;unfold ze;split
  ·simp only;split
   ·exact ar.cX.cR λ_=>ar.cX.cR λ_=>.bO trivial
   ·exact .bY
  ·exact .bY
 | mapUpdate ty m x y=>
  unfold bx;rw[af];exact SD
 | insert ty m x y=>
  unfold bx;rw[af];exact SD
 | call c=>
  obtain⟨callee,args,dp⟩:=c;simp only[m',af]at hc;unfold bx;rw[af];simp only;unfold mQ;cases callee with
  | builtin b=>
   simp only at hc ⊢;cases b with
   | len=>
    simp only[B7];split
    ·rename_i x t ax aO;simp only[F6,ax]at hc;generalize use (aJ x)=u at hc;obtain⟨cE,d_⟩:=u;simp only at hc ⊢;refine ar.cX.SB (q:=λr:Prop×Int=>r.1) ?_ λr M=>.bO M;generalize T t=ty;cases ty<;>simp only[Fy]<;>first | exact .bY | skip
     ·cases d_<;>first | exact .bY | skip
      ·rename_i cY d;cases cY<;>first | exact .bY | exact .m_ trivial
     ·cases d_<;>first | exact .bY | exact .m_ trivial | skip
      ·rename_i cY d;cases cY<;>first | exact .bY | exact .m_ trivial
      ·intro z r M;grind
      ·intro z r M;grind
     ·cases d_<;>first | exact .bY | (cases hc;done) | skip
      ·rename_i cY d;cases cY<;>first | exact .bY | cases hc
    ·exact .bY
   | min=>
    simp only[r_];repeat' first | exact .bO trivial | exact .bY | split
   | max=>
    simp only[r_];repeat' first | exact .bO trivial | exact .bY | split
   | _=>simp[F6]at hc
  | _=>cases hc
 | _=>simp[m',af]at hc
theorem CF:∀ {l:List aH},(∀ v∈l,(use v).1)->jH l
 | [],_=>trivial
 | v::l,h=>by
  have E:=h v (by simp);have U:=CF (l:=l) λu hu=>h u (by grind);cases v<;>first | exact U | exact⟨E,U⟩
theorem K1:∀ {l:List (Nat×aH)},(∀ v∈l,(use v.2).1)->r9 l
 | [],_=>trivial
 | (i,v)::l,h=>by
  have E:=h (i,v) (by simp);have U:=K1 (l:=l) λu hu=>h u (by grind);cases v<;>first | exact U | exact⟨E,U⟩
theorem CG{x:Option Operand}{p:Prop}{n:Option Int}(h:lg aJ x=some (p,n))(ah:∀ y,x=some y->(use (aJ y)).1):p:=by
 unfold lg at h;grind
def q6(aJ:Operand->aH)(o:Oper):Prop:=∀ x∈o.op.operands.toList,(use (aJ x)).1
theorem K2{aJ:Operand->aH}{o:Oper}(h:sn aJ o=true):q6 aJ o:=λx ah=>F5 (by simpa using List.all_eq_true.1 h x ah)
theorem q6.use{aJ:Operand->aH}{o:Oper}(h:q6 aJ o){x:Operand}(ah:x∈o.op.operands.toList){cb:Prop}{v:aH}(hu:use (aJ x)=(cb,v)):cb:=by
 have:=h x ah;grind
theorem SE(fB:q6 aJ o):(bx aP T bg aJ o).cX (lr λr=>r.cb):=by
 unfold q6 at fB;have aq:∀ x∈o.op.operands.toList,(use (aJ x)).1:=fB;have hu:∀ x∈o.op.operands.toList,∀ {cb:Prop} {v:aH},use (aJ x)=(cb,v)->cb:=λx ah cb v h=>q6.use fB ah h;cases af:o.op with
 | move x=>unfold bx;rw[af];exact .bO trivial
 | assign x=>
  unfold bx;rw[af];simp only;split
  ·exact .h4 λb g=>λr M=>by grind
  ·exact .bO trivial
 | pick c a b=>
  rw[af]at hu;unfold bx;rw[af];simp only;split
  ·rename_i p7 i_ lV;have E:=hu c (by simp[Op.operands]) lV;split
   ·split
    ·rename_i zf av bb;exact .bO ⟨E,λ_=>hu a (by simp[Op.operands]) bb⟩
    ·exact .bY
   ·split
    ·rename_i zf av bb;exact .bO ⟨E,λ_=>hu b (by simp[Op.operands]) bb⟩
    ·exact .bY
   ·exact .bY
  ·exact .bY
 | binOp op ty x y t=>
  rw[af]at fB;have h:=And.intro (fB x (by simp[Op.operands])) (fB y (by simp[Op.operands]));unfold bx;rw[af];simp only;split
  ·split
   ·split
    ·exact .bO h
    ·exact .bY
   ·split
    ·exact .bO h
    ·exact .bY
   ·split
    ·split
     ·exact .bO h
     ·exact .bY
    ·exact .bY
  ·split
   ·split
    ·exact .bO h
    ·exact .bY
   ·exact ar.cX.cR λ_=>.bO h
 | unOp op t x=>
  rw[af]at hu;unfold bx;rw[af];simp only;split
  ·rename_i ah;exact .bO (hu x (by simp[Op.operands]) ah)
  ·rename_i ah;exact .bO (hu x (by simp[Op.operands]) ah)
  ·exact .bY
 | extract x i=>
  rw[af]at hu;unfold bx;rw[af];simp only;split
  ·rename_i ah;split
   ·exact .bO (hu x (by simp[Op.operands]) ah)
   ·exact .bY
  ·exact .bY
 | nilCheck x=>
  rw[af]at hu;unfold bx;rw[af];simp only;split
  ·rename_i ah;intro z r M;split at M<;>cases M;exact hu x (by simp[Op.operands]) ah
  ·rename_i ah;exact .bO (hu x (by simp[Op.operands]) ah)
  ·rename_i ah;exact .bO (hu x (by simp[Op.operands]) ah)
  ·rename_i ah;intro z r M;split at M<;>cases M;exact hu x (by simp[Op.operands]) ah
  ·exact .bY
 | fieldAddr ty x f=>
  rw[af]at hu;unfold bx;rw[af];simp only;split
  ·split
   ·split
    ·rename_i ah;intro z r M;split at M<;>cases M;exact hu x (by simp[Op.operands]) ah
    ·rename_i ah;intro z r M;split at M<;>cases M;exact hu x (by simp[Op.operands]) ah
    ·rename_i ah;intro z r M;split at M<;>cases M;exact hu x (by simp[Op.operands]) ah
    ·rename_i ah;split
     ·split
      ·exact .bO (hu x (by simp[Op.operands]) ah)
      ·exact .bY
     ·exact .bY
    ·exact .bY
   ·exact .bY
  ·exact .bY
 | field ty x f=>
  rw[af]at hu;unfold bx;rw[af];simp only;split
  ·split
   ·rename_i ah;split
    ·split
     ·exact .bO (hu x (by simp[Op.operands]) ah)
     ·exact .bY
    ·exact .bY
   ·exact .bY
  ·exact .bY
 | load ty x=>
  rw[af]at hu;unfold bx;rw[af];simp only;split
  ·rename_i ah;have h:=hu x (by simp[Op.operands]) ah;intro z r M;repeat' split at M
   all_goals first | (cases M;exact h) | cases M
  ·rename_i ah;exact ar.cX.cR λ_=>.bO (hu x (by simp[Op.operands]) ah)
 | store ty x y=>
  rw[af]at hu fB;unfold bx;rw[af];simp only;split
  ·rename_i ah;have h:=hu x (by simp[Op.operands]) ah;have dt:=fB y (by simp[Op.operands]);unfold J';split
   ·intro z r M;repeat' split at M
    all_goals first | (cases M;exact⟨h,dt⟩) | cases M
   ·exact .bY
  ·rename_i ah;exact ar.cX.cR λ_=>.m_ ⟨hu x (by simp[Op.operands]) ah,fB y (by simp[Op.operands])⟩
 | alloc ty=>
  unfold bx;rw[af];simp only;exact .h4 λb g=>λr M=>by grind
 | box ty x=>
  rw[af]at fB;unfold bx;rw[af];simp only;split
  ·exact .h4 λb g=>λr M=>by split at M<;>cases M;exact fB x (by simp[Op.operands])
  ·exact .bY
 | build ty ps=>
  rw[af]at aq;have h:r9 (ps.toList.map λp=>(p.1,aJ p.2)):=K1 λv ae=>by
   simp only[List.mem_map]at ae;obtain⟨p,ao,rfl⟩:=ae;exact aq p.2 (by simp only[Op.operands,List.mem_map];grind)
  unfold bx;rw[af];simp only;repeat' first | exact .bY | exact .bO h | refine ar.cX.cR λ_=>?_ | split
 | buildSlice ty n ps=>
  rw[af]at aq;have h:r9 (ps.toList.map λp=>(p.1,aJ p.2)):=K1 λv ae=>by
   simp only[List.mem_map]at ae;obtain⟨p,ao,rfl⟩:=ae;exact aq p.2 (by simp only[Op.operands,List.mem_map];grind)
  unfold bx;rw[af];simp only;split
  ·refine ar.cX.cR λ_=>ar.cX.bind λ_=>.h4 λb g=>λr M=>by grind
  ·exact .bY
 | indexAddr ty x i=>
  rw[af]at fB;have h:=And.intro (fB x (by simp[Op.operands])) (fB i (by simp[Op.operands]));unfold bx;rw[af];simp only;split
  ·exact ar.cX.cR λ_=>.bO h
  ·split
   ·split
    ·exact .bO h
    ·exact .bY
   ·intro z r M;grind
   ·exact .bY
  ·exact .bY
 | index ty x i=>
  rw[af]at fB;have h:=And.intro (fB x (by simp[Op.operands])) (fB i (by simp[Op.operands]));unfold bx;rw[af];simp only;split
  ·exact .bO h
  ·split
   ·split
    ·exact .bO h
    ·exact .bY
   ·split
    ·exact .bO h
    ·exact .bY
   ·exact .bY
  ·exact .bY
 | convert a b x=>
  rw[af]at fB;unfold bx;rw[af];simp only;split
  ·exact .bO (fB x (by simp[Op.operands]))
  ·exact ar.cX.cR λ_=>.bO (fB x (by simp[Op.operands]))
  ·exact .bY
 | makeFunc fn first c1=>
  rw[af]at aq;have h:jH (c1.toList.map aJ):=CF λv ae=>by
   simp only[List.mem_map]at ae;obtain⟨p,ao,rfl⟩:=ae;exact aq p (by simp[Op.operands];simp_all)
  have U:jH (first.toList.map aJ):=CF λv ae=>by
   simp only[List.mem_map]at ae;obtain⟨p,ao,rfl⟩:=ae;exact aq p (by simp[Op.operands];simp_all)
  unfold bx;rw[af];simp only;split
  ·split
   ·split
    ·exact ar.cX.cR λ_=>ar.cX.bind λ_=>.m_ h
    ·split
     ·exact ar.cX.cR λ_=>ar.cX.bind λ_=>.m_ h
     ·exact .bO h
   ·split
    ·exact .bO U
    ·exact .bY
  ·exact .bY
 | slice ty x aZ G o_=>
  rw[af]at aq fB;unfold bx;rw[af];simp only;split
  ·unfold FB;simp only;split
   ·rename_i ol l qV h vc m aj cW hm;have be:=And.intro (fB x (by simp[Op.operands])) (And.intro (CG aj λy aR=>aq y (by subst aR;simp[Op.operands])) (And.intro (CG cW λy aR=>aq y (by subst aR;simp[Op.operands])) (CG hm λy aR=>aq y (by subst aR;simp[Op.operands]))));split
    ·exact ar.cX.cR λ_=>.m_ be
    ·exact .bY
   ·exact .bY
  ·unfold FA;simp only;split
   ·rename_i ol l qV h aj cW;have be:=And.intro (fB x (by simp[Op.operands])) (And.intro (CG aj λy aR=>aq y (by subst aR;simp[Op.operands])) (CG cW λy aR=>aq y (by subst aR;simp[Op.operands])));split
    ·exact ar.cX.cR λ_=>.m_ be
    ·split
     ·exact .bO be
     ·exact .bY
    ·exact .bY
   ·exact .bY
 | call c=>
  rw[af]at aq fB;obtain⟨callee,args,dp⟩:=c;have dY:∀ x∈args.toList,(use (aJ x)).1:=λx ah=>aq x (by simp[Op.operands,Call.operands];simp_all);have pg:∀ x∈args.toList,(use (aJ x)).1:=dY;have fU:jH (args.toList.map aJ):=CF λv ae=>by
   grind
  unfold bx;rw[af];simp only;unfold mQ;simp only;split
  ·split
   ·unfold B7;split
    ·rename_i x t ax aO;exact ar.cX.cR λ_=>.bO (pg x (by grind))
    ·exact .bY
   ·split
    ·unfold Ca;split
     ·rename_i x y t u ax aO;have h:=And.intro (pg x (by grind)) (pg y (by grind));split
      ·simp only;refine ar.cX.cR λ_=>λz=>?_;intro r M;grind
      ·exact .bY
     ·exact .bY
    unfold B8;split
    ·rename_i x y t u ax aO;have h:=And.intro (pg x (by grind)) (pg y (by grind));split
     ·simp only;unfold J9;split
      ·intro z;dsimp only;split
       ·split
        ·exact ar.cX.cR λ_=>.m_ h
        ·exact .bY
       ·exact .bY
      ·intro z;dsimp only;split
       ·split
        ·exact ar.cX.cR λ_=>.m_ h
        ·exact .bY
       ·exact .bY
      ·exact ar.cX.cR λ_=>.h4 λb g=>λr M=>by grind
      ·split
       ·exact ar.cX.cR λ_=>.h4 λb g=>λr M=>by grind
       ·exact .bY
      ·exact .bY
     ·exact .bY
    ·exact .bY
   ·unfold Cb;split
    ·rename_i x t ax aO;have h:=pg x (by grind);split
     ·simp only;split
      ·intro z;intro r M;grind
      ·exact .bY
     ·exact .bY
    ·exact .bY
   ·unfold FE;split
    ·rename_i x y t u ax aO;have h:=And.intro (pg x (by grind)) (pg y (by grind));split
     ·simp only;split
      ·refine ar.cX.cR λ_=>λz=>?_;intro r M;grind
      ·exact .bY
     ·exact .bY
    ·exact .bY
   ·unfold r_;split
    ·rename_i x y l ax;split
     ·split
      ·rename_i aj;exact .bO ⟨pg x (by grind),KY (y::l) (λp ao=>pg p (by rw[ax];exact List.mem_cons_of_mem _ ao)) aj⟩
      ·exact .bY
     ·exact .bY
    ·exact .bY
   ·unfold r_;split
    ·rename_i x y l ax;split
     ·split
      ·rename_i aj;exact .bO ⟨pg x (by grind),KY (y::l) (λp ao=>pg p (by rw[ax];exact List.mem_cons_of_mem _ ao)) aj⟩
      ·exact .bY
     ·exact .bY
    ·exact .bY
   ·unfold B9;split
    ·rename_i x t ax aO;have h:=pg x (by grind);split
     ·rename_i cF;exact .bO (by grind)
     ·exact .bY
    ·exact .bY
   ·exact .bY
  ·split
   ·unfold FC;simp only;split
    ·refine ar.cX.cR λ_=>?_;split
     ·refine ar.cX.bind λ_=>.h4 λb g=>λr M=>?_;split at M
      ·cases M
      ·cases M;exact fU
     ·exact ar.cX.bind λ_=>.m_ fU
    ·exact .bY
   ·exact .bY
  ·exact .bY
 | makeMap ty r=>
  unfold bx;rw[af];simp only;split
  ·exact .bY
  ·split
   ·exact .h4 λb g=>λr M=>by grind
   ·exact .bY
 | lookup ty m x ok=>
  rw[af]at fB;have h:=And.intro (fB m (by simp[Op.operands])) (fB x (by simp[Op.operands]));unfold bx;rw[af];simp only;unfold ze;split
  ·simp only;split
   ·exact ar.cX.cR λ_=>ar.cX.cR λ_=>.bO h
   ·exact .bY
  ·exact .bY
 | mapUpdate ty m x y=>
  rw[af]at fB;unfold bx;rw[af];exact KZ λ_=>⟨fB m (by simp[Op.operands]),fB x (by simp[Op.operands]),fB y (by simp[Op.operands])⟩
 | insert ty m x y=>
  rw[af]at fB;unfold bx;rw[af];exact KZ λ_=>⟨fB m (by simp[Op.operands]),fB x (by simp[Op.operands]),fB y (by simp[Op.operands])⟩
 | makeSlice ty l c=>
  rw[af]at fB;have h:=And.intro (fB l (by simp[Op.operands])) (fB c (by simp[Op.operands]));unfold bx;rw[af];simp only;unfold FD;split
  ·simp only;split
   ·exact .h4 λb g=>λr M=>by grind
   ·exact .bY
  ·exact .bY
 | makeInterface t x=>unfold bx;rw[af];exact .bO trivial
 | panic x=>unfold bx;rw[af];exact .bO trivial
 | _=>unfold bx;rw[af];exact .bY
theorem SF(hc:sn aJ o=true):(bx aP T bg aJ o).cX (lr λr=>r.cb):=SE (K2 hc)
end
end Go.Fer
namespace Go.Fer
open Go.RowKit
theorem K3{aJ js:Operand->aH}{k:IntKind}:∀ (l:List Operand),(∀ x∈l,aJ x=js x)->mP aJ k l=mP js k l
 | [],_=>rfl
 | [x],h=>by simp only[mP,h x (by simp)]
 | x::y::l,h=>by simp only[mP,h x (by simp),K3 (y::l) λz bl=>h z (List.mem_cons_of_mem _ bl)]
section
variable {aP:dG} {T:Nat->ad} {bg:Nat->Option aL} {aJ js:Operand->aH} {o:Oper}
theorem K4{x:Option Operand}(h:∀ y,x=some y->aJ y=js y):lg aJ x=lg js x:=by
 cases x with
 | none=>rfl
 | some y=>have:=h y rfl;unfold lg;grind
theorem ae0(h:∀ x∈o.op.operands.toList,aJ x=js x):bx aP T bg aJ o=bx aP T bg js o:=by
 cases af:o.op with
 | move x=>rw[af]at h;have E:=h x (by simp[Op.operands]);unfold bx;simp_all
 | assign x=>rw[af]at h;have E:=h x (by simp[Op.operands]);unfold bx;simp_all
 | pick c a b=>
  rw[af]at h;have E:=h c (by simp[Op.operands]);have U:=h a (by simp[Op.operands]);have ag:=h b (by simp[Op.operands]);unfold bx;simp_all
 | binOp op ty x y t=>
  rw[af]at h;have E:=h x (by simp[Op.operands]);have U:=h y (by simp[Op.operands]);unfold bx;simp_all
 | unOp op t x=>rw[af]at h;have E:=h x (by simp[Op.operands]);unfold bx;simp_all
 | extract x i=>rw[af]at h;have E:=h x (by simp[Op.operands]);unfold bx;simp_all
 | nilCheck x=>rw[af]at h;have E:=h x (by simp[Op.operands]);unfold bx;simp_all
 | fieldAddr ty x f=>rw[af]at h;have E:=h x (by simp[Op.operands]);unfold bx;simp_all
 | field ty x f=>rw[af]at h;have E:=h x (by simp[Op.operands]);unfold bx;simp_all
 | load ty x=>rw[af]at h;have E:=h x (by simp[Op.operands]);unfold bx;simp_all
 | store ty x y=>
  rw[af]at h;have E:=h x (by simp[Op.operands]);have U:=h y (by simp[Op.operands]);unfold bx;simp_all
 | alloc ty=>unfold bx;rw[af]
 | box ty x=>rw[af]at h;have E:=h x (by simp[Op.operands]);unfold bx;simp_all
 | build ty ps=>
  rw[af]at h;have E:ps.toList.map (λp=>(p.1,aJ p.2))=ps.toList.map (λp=>(p.1,js p.2)):=List.map_congr_left λp ao=>by rw[h p.2 (by simp only[Op.operands,List.mem_map];grind)]
  unfold bx;rw[af];simp only[E]
 | buildSlice ty n ps=>
  rw[af]at h;have E:ps.toList.map (λp=>(p.1,aJ p.2))=ps.toList.map (λp=>(p.1,js p.2)):=List.map_congr_left λp ao=>by rw[h p.2 (by simp only[Op.operands,List.mem_map];grind)]
  unfold bx;rw[af];simp only[E]
 | indexAddr ty x i=>
  rw[af]at h;have E:=h x (by simp[Op.operands]);have U:=h i (by simp[Op.operands]);unfold bx;simp_all
 | index ty x i=>
  rw[af]at h;have E:=h x (by simp[Op.operands]);have U:=h i (by simp[Op.operands]);unfold bx;simp_all
 | convert a b x=>rw[af]at h;have E:=h x (by simp[Op.operands]);unfold bx;simp_all
 | makeFunc fn first c1=>
  rw[af]at h;have E:c1.toList.map aJ=c1.toList.map js:=List.map_congr_left λp ao=>h p (by simp[Op.operands];simp_all);have U:first.toList.map aJ=first.toList.map js:=List.map_congr_left λp ao=>h p (by simp[Op.operands];simp_all)
  unfold bx;rw[af];simp only[E,U]
 | lookup ty m x ok=>
  rw[af]at h;have E:=h m (by simp[Op.operands]);have U:=h x (by simp[Op.operands]);unfold bx;rw[af];simp only[ze,E,U]
 | mapUpdate ty m x y=>
  rw[af]at h;have E:=h m (by simp[Op.operands]);have U:=h x (by simp[Op.operands]);have ag:=h y (by simp[Op.operands]);unfold bx;rw[af];simp only[qW,E,U,ag]
 | insert ty m x y=>
  rw[af]at h;have E:=h m (by simp[Op.operands]);have U:=h x (by simp[Op.operands]);have ag:=h y (by simp[Op.operands]);unfold bx;rw[af];simp only[qW,E,U,ag]
 | makeSlice ty l c=>
  rw[af]at h;have E:=h l (by simp[Op.operands]);have U:=h c (by simp[Op.operands]);unfold bx;rw[af];simp only[FD,E,U]
 | slice ty x aZ G o_=>
  rw[af]at h;have E:=h x (by simp[Op.operands]);have U:lg aJ aZ=lg js aZ:=K4 λy aR=>h y (by subst aR;simp[Op.operands]);have ag:lg aJ G=lg js G:=K4 λy aR=>h y (by subst aR;simp[Op.operands]);have a6:lg aJ o_=lg js o_:=K4 λy aR=>h y (by subst aR;simp[Op.operands]);unfold bx;rw[af];simp only[FA,FB,E,U,ag,a6]
 | call c=>
  rw[af]at h;obtain⟨callee,args,dp⟩:=c;have dY:∀ x∈args.toList,aJ x=js x:=λx ah=>h x (by simp[Op.operands,Call.operands];simp_all);have aj:args.toList.map aJ=args.toList.map js:=List.map_congr_left dY;unfold bx;rw[af];simp only;unfold mQ;simp only;split
  ·split
   ·unfold B7;grind
   ·have q7:w9 aJ args.toList=w9 js args.toList:=by
     unfold w9;grind
    rw[q7];split
    ·unfold Ca;split
     ·rename_i x y t u ax aO;rw[dY x (by simp[ax]),dY y (by simp[ax])]
     ·rfl
    ·unfold B8;grind
   ·unfold Cb;split
    ·rename_i x t ax aO;rw[dY x (by simp[ax])]
    ·rfl
   ·unfold FE;split
    ·rename_i x y t u ax aO;rw[dY x (by grind),dY y (by grind)]
    ·rfl
   ·unfold r_;split
    ·rename_i x y l ax;have aj:∀ k,mP aJ k (y::l)=mP js k (y::l):=λk=>K3 (y::l) λp ao=>dY p (by rw[ax];exact List.mem_cons_of_mem _ ao);simp only[dY x (by simp[ax]),aj]
    ·rfl
   ·unfold r_;split
    ·rename_i x y l ax;have aj:∀ k,mP aJ k (y::l)=mP js k (y::l):=λk=>K3 (y::l) λp ao=>dY p (by rw[ax];exact List.mem_cons_of_mem _ ao);simp only[dY x (by simp[ax]),aj]
    ·rfl
   ·unfold B9;grind
   ·rfl
  ·split
   ·unfold FC;simp only[aj]
   ·rfl
  ·rfl
 | _=>unfold bx;rw[af]
end
end Go.Fer
namespace Go.Fer
open Go.RowKit
def F7(want b:Bool):Bool:=match want with | true=>b | false=>!b
def kz(s:Nat->aH)(ops:Array Oper):Option (Nat×Bool)->Option (Option Bool)
 | none=>some none
 | some (j,want)=>match ops[j]? with
  | some o=>match o.dst with
   | some d=>match s d with
    | .val .bool b=>some (some (F7 want b))
    | .hC g (.val .bool b)=>some (some (g&&F7 want b))
    | _=>none
   | none=>none
  | none=>none
def F8(ops:Array Oper):Option (Nat×Bool)->List Nat
 | none=>[]
 | some (j,_)=>match ops[j]? with
  | some o=>o.dst.toList
  | none=>[]
def ae1(l:List Operand):List Nat:=l.filterMap fun | .tmp t=>some t | _=>none
def CH(ops:Array Oper)(o:Oper):List Nat:=F8 ops o.guard++ae1 o.op.operands.toList
structure eP where
 cs:List Prop
 dst:Option Nat
 e_:aH
 hE:List (Nat×bK)
 kA:List Nat
 tX:List Nat
def eP.h7(r:eP)(s:aA):aA:=(s.gi r.hE).set r.dst r.e_
def eP.nU(r:eP):List Nat:=r.dst.toList
def eP.na(r:eP):List Nat:=r.hE.map (·.1)
def CJ(dz dP:Bool)(cb c:Prop):List Prop:=(match dz with | true=>[] | false=>[cb])++(match dP with | true=>[] | false=>[c])
def vp(aP:dG)(T:Nat->ad)(bg:Nat->Option aL)(ops:Array Oper)(s:aA)(o:Oper):Option eP:=
 match kz s.ay ops o.guard with
 | none=>none
 | some g=>match (bx aP T bg (a8 aP s.ay) o).run s.aa with
  | none=>none
  | some res=>match g with
   | none=>some ⟨CJ (sn (a8 aP s.ay) o) (m' (a8 aP s.ay) o) res.cb res.c,o.dst,res.e_,res.hE,CH ops o,(bx aP T bg (a8 aP s.ay) o).qQ s.aa⟩
   | some b=>match res.hE with
    | []=>some ⟨CJ (sn (a8 aP s.ay) o&&(m' (a8 aP s.ay) o&&!res.e_.zG)) true (b=true->res.cb/\(res.c/\(use res.e_).1)) True,o.dst,.hC b (use res.e_).2,[],CH ops o,(bx aP T bg (a8 aP s.ay) o).qQ s.aa⟩
    | _=>none
def xp(aP:dG)(T:Nat->ad)(bg:Nat->Option aL)(ops:Array Oper):List Oper->aA->Option (List eP×aA)
 | [],s=>some ([],s)
 | o::os,s=>match vp aP T bg ops s o with
  | none=>none
  | some r=>match xp aP T bg ops os (r.h7 s) with
   | none=>none
   | some (l,s')=>some (r::l,s')
def CK(a b:List Nat):Bool:=a.all λx=>!b.contains x
def eP.apart(a b:eP):Bool:=CK a.nU (b.kA++b.nU)&&CK a.kA b.nU&&CK a.na (b.tX++b.na)&&CK a.tX b.na
def h8(o:Oper):List Nat:=o.after.toList.filterMap λe=>if Region.binds .any e then some e.on else none
def CL(acc:List Nat):List Nat->List Nat
 | []=>acc
 | x::l=>match acc.contains x with | true=>CL acc l | false=>CL (x::acc) l
theorem K5{x:Nat}:∀ {l acc:List Nat},x∈CL acc l->x∈acc\/x∈l
 | [],acc,h=>.inl h
 | y::l,acc,h=>by
  unfold CL at h;split at h
  ·exact (K5 h).imp_right (List.mem_cons_of_mem _)
  ·rcases K5 h with h | h
   ·rcases List.mem_cons.1 h with h | h
    ·exact .inr (h ▸ List.mem_cons_self)
    ·exact .inl h
   ·exact .inr (List.mem_cons_of_mem _ h)
def zI(acc:List (List Nat))(o:Oper):List (List Nat):=acc++[CL [] ((h8 o).flatMap λj=>j::acc.getD j [])]
def ij(ops:List Oper):List (List Nat):=ops.foldl zI []
def ae2(cl:List (List Nat))(l:List eP):Bool:=
 (List.range l.length).all λj=>(List.range j).all λi=>match l[i]?,l[j]? with
  | some a,some b=>(cl.getD j []).contains i||a.apart b
  | _,_=>false
def CM(ops:List Oper):Bool:=(List.range ops.length).all λj=>match ops[j]? with
 | some o=>(h8 o).all λi=>decide (i<j)
 | none=>false
def zJ(ops:List Oper)(l:List eP):Bool:=CM ops&&ae2 (ij ops) l
def xq(R:List Nat)(s s':aA):Prop:=∀ t∈R,s.ay t=s'.ay t
def xr(B:List Nat)(s s':aA):Prop:=∀ b∈B,s.aa b=s'.aa b
theorem F9{a b:List Nat}(h:CK a b=true){x:Nat}(ah:x∈a):x ∉ b:=by
 have:=List.all_eq_true.1 h x ah;grind
theorem zK(s:aA):∀ (l:List (Nat×bK)),(s.gi l).ay=s.ay:=by
 intro l;induction l generalizing s with
 | nil=>rfl
 | cons p l aK=>simp only[aA.gi];rw[aK];rfl
theorem K6{b:Nat}:∀ (l:List (Nat×bK)) (s:aA),b ∉ l.map (·.1)->(s.gi l).aa b=s.aa b:=by
 intro l;induction l with
 | nil=>intro s _;rfl
 | cons p l aK=>
  intro s h;simp only[List.map_cons,List.mem_cons,not_or]at h;simp only[aA.gi];rw[aK _ h.2];simp[aA.cz,h.1]
theorem K7{b:Nat}:∀ (l:List (Nat×bK)) (s s':aA),b∈l.map (·.1)->(s.gi l).aa b=(s'.gi l).aa b:=by
 intro l;induction l with
 | nil=>simp
 | cons p l aK=>
  intro s s' h;simp only[aA.gi];by_cases W:b∈l.map (·.1)
  ·grind
  ·rw[K6 l _ W,K6 l _ W];have:b=p.1:=by grind
   simp[aA.cz,this]
theorem ae3(s:aA)(d:Option Nat)(v:aH):(s.set d v).aa=s.aa:=by cases d<;>rfl
theorem F_(r:eP)(s:aA)(t:Nat):(r.h7 s).ay t=if t∈r.nU then r.e_ else s.ay t:=by
 unfold eP.h7 eP.nU;cases h:r.dst with
 | none=>simp[aA.set,zK]
 | some d=>simp[aA.set,zK,eq_comm]
theorem xt(r:eP)(s:aA)(b:Nat):(r.h7 s).aa b=(s.gi r.hE).aa b:=by unfold eP.h7;rw[ae3]
theorem SG{r:eP}{s:aA}{t:Nat}(h:t ∉ r.nU):(r.h7 s).ay t=s.ay t:=by rw[F_,if_neg h]
theorem tY{r:eP}{s:aA}{b:Nat}(h:b ∉ r.na):(r.h7 s).aa b=s.aa b:=by rw[xt];exact K6 _ _ h
theorem aA.ext'{s s':aA}(E:∀ t,s.ay t=s'.ay t)(U:∀ b,s.aa b=s'.aa b):s=s':=by
 obtain⟨a,b⟩:=s;obtain⟨a',bf⟩:=s';rw[show a=a' from funext E,show b=bf from funext U]
theorem ae4{a b:eP}(E:∀ t∈a.nU,t ∉ b.nU)(U:∀ x∈a.na,x ∉ b.na)(s:aA):a.h7 (b.h7 s)=b.h7 (a.h7 s):=by
 apply aA.ext'
 ·intro t;simp only[F_];grind
 ·intro x;by_cases bb:x∈a.na
  ·have W:=U x bb;rw[tY W,xt,xt];exact K7 _ _ _ bb
  ·rw[tY bb];by_cases W:x∈b.na
   ·rw[xt,xt];exact K7 _ _ _ W
   ·rw[tY W,tY W,tY bb]
def jL(l:List eP)(s:aA):aA:=l.foldl (λs r=>r.h7 s) s
theorem ae5{R B:List Nat}:∀ (l:List eP) (s:aA),(∀ r∈l,(∀ t∈R,t ∉ r.nU)/\∀ b∈B,b ∉ r.na)->xq R (jL l s) s/\xr B (jL l s) s:=by
 intro l;induction l with
 | nil=>intro s _;exact⟨λ_ _=>rfl,λ_ _=>rfl⟩
 | cons r l aK=>
  intro s h;obtain⟨E,U⟩:=aK (r.h7 s) λp1 bc=>h p1 (List.mem_cons_of_mem _ bc);have M:=h r (List.mem_cons_self);exact⟨λt aI=>(E t aI).trans (SG (M.1 t aI)),λb W=>(U b W).trans (tY (M.2 b W))⟩
theorem ae6{R B:List Nat}{r:eP}{s s':aA}(E:xq R s s')(U:xr B s s'):xq R (r.h7 s) (r.h7 s')/\xr B (r.h7 s) (r.h7 s'):=by
 refine⟨λt aI=>?_,λb W=>?_⟩
 ·rw[F_,F_];split
  ·rfl
  ·exact E t aI
 ·by_cases hw:b∈r.na
  ·rw[xt,xt];exact K7 _ _ _ hw
  ·rw[tY hw,tY hw];exact U b W
theorem ae7{R B:List Nat}(p:Nat×eP->Bool):∀ (l:List (Nat×eP)) (s s':aA),xq R s s'->xr B s s'->(∀ r∈l,p r=false->(∀ t∈R,t ∉ r.2.nU)/\∀ b∈B,b ∉ r.2.na)->
  xq R (jL ((l.filter p).map (·.2)) s) (jL (l.map (·.2)) s')/\xr B (jL ((l.filter p).map (·.2)) s) (jL (l.map (·.2)) s'):=by
 intro l;induction l with
 | nil=>intro s s' E U _;exact⟨E,U⟩
 | cons r l aK=>
  intro s s' E U h;have aj:=λp1 bc=>h p1 (List.mem_cons_of_mem _ bc);cases ao:p r with
  | true=>
   rw[List.filter_cons_of_pos ao];obtain⟨aQ,aS⟩:=ae6 (r:=r.2) E U;exact aK _ _ aQ aS aj
  | false=>
   rw[List.filter_cons_of_neg (by grind)];have M:=h r (List.mem_cons_self) ao;exact aK _ _ (λt aI=>(E t aI).trans (SG (M.1 t aI)).symm) (λb W=>(U b W).trans (tY (M.2 b W)).symm) aj
theorem ae8{r:eP}:∀ (l:List eP) (s:aA),(∀ x∈l,(∀ t∈r.nU,t ∉ x.nU)/\∀ b∈r.na,b ∉ x.na)->jL l (r.h7 s)=r.h7 (jL l s):=by
 intro l;induction l with
 | nil=>intro s _;rfl
 | cons x l aK=>
  intro s h;have ah:=h x (List.mem_cons_self);show jL l (x.h7 (r.h7 s))=r.h7 (jL l (x.h7 s));rw[<-ae4 ah.1 ah.2 s];grind
def iG:Nat->List eP->List (Nat×eP)
 | _,[]=>[]
 | n,r::l=>(n,r)::iG (n+1) l
theorem SH:∀ (l m:List eP) (n:Nat),iG n (l++m)=iG n l++iG (n+l.length) m
 | [],m,n=>by rfl
 | r::l,m,n=>by simp only[List.cons_append,iG,SH l m (n+1),List.length_cons];grind
theorem CN:∀ (l:List eP) (n:Nat),(iG n l).map (·.2)=l
 | [],_=>rfl
 | r::l,n=>by simp only[iG,List.map_cons,CN l (n+1)]
theorem zL:∀ {l:List eP} {n j:Nat} {x:eP},(j,x)∈iG n l->n<=j/\l[j - n]?=some x
 | r::l,n,j,x,h=>by
  simp only[iG,List.mem_cons,Prod.mk.injEq]at h;rcases h with⟨rfl,rfl⟩ | h
  ·simp
  ·obtain⟨E,U⟩:=zL h;grind
 | [],_,_,_,h=>by cases h
def jt(l:List eP)(s:aA)(f:Nat->Bool):aA:=jL (((iG 0 l).filter λp=>f p.1).map (·.2)) s
theorem SI(l m:List eP)(s:aA):jL (l++m) s=jL m (jL l s):=by simp[jL]
theorem K8{a b:eP}(h:a.apart b=true):(∀ t∈a.nU,t ∉ b.kA/\t ∉ b.nU)/\(∀ t∈a.kA,t ∉ b.nU)/\(∀ x∈a.na,x ∉ b.tX/\x ∉ b.na)/\∀ x∈a.tX,x ∉ b.na:=by
 simp only[eP.apart,Bool.and_eq_true]at h;obtain⟨⟨⟨E,U⟩,ag⟩,a6⟩:=h;refine⟨λt aI=>?_,λt aI=>F9 U aI,λx ah=>?_,λx ah=>F9 a6 ah⟩
 ·have:=F9 E aI;grind
 ·have:=F9 ag ah;grind
theorem SJ{l:List eP}{s:aA}{f:Nat->Bool}{i:Nat}{r:eP}(G:l[i]?=some r)(aq:f i=false)
  (gN:∀ j x,j<i->l[j]?=some x->f j=false->x.apart r=true) (tZ:∀ j x,i<j->l[j]?=some x->f j=true->r.apart x=true) :
  xq r.kA (jt l s f) (jL (l.take i) s)/\xr r.tX (jt l s f) (jL (l.take i) s)/\jt l s (λj=>if j=i then true else f j)=r.h7 (jt l s f):=by
 obtain⟨cc,eV⟩:=List.getElem?_eq_some_iff.1 G;have hlen:(l.take i).length=i:=by grind
 have SK:iG 0 l=iG 0 (l.take i)++(i,r)::iG (i+1) (l.drop (i+1)):=by
  have E:l=l.take i++r::l.drop (i+1):=by
   have:=List.take_append_drop i l;rw[List.drop_eq_getElem_cons cc,eV]at this;grind
  have U:=SH (l.take i) (r::l.drop (i+1)) 0;rw[<-E,hlen]at U;simpa [iG]using U
 have ae9:∀ p∈iG 0 (l.take i),p.1<i/\l[p.1]?=some p.2:=by
  rintro⟨j,x⟩ ao;obtain⟨_,U⟩:=zL ao;grind
 have axU:∀ p∈iG (i+1) (l.drop (i+1)),i<p.1/\l[p.1]?=some p.2:=by
  rintro⟨j,x⟩ ao;obtain⟨E,U⟩:=zL ao;grind
 have SL:∀ x∈((iG (i+1) (l.drop (i+1))).filter λp=>f p.1).map (·.2),r.apart x=true:=by
  grind
 have ik:jt l s f=jL (((iG (i+1) (l.drop (i+1))).filter λp=>f p.1).map (·.2)) (jL (((iG 0 (l.take i)).filter λp=>f p.1).map (·.2)) s):=by
  unfold jt;rw[SK,List.filter_append,List.filter_cons_of_neg (by grind),List.map_append,SI]
 have q7:=ae5 (R:=r.kA) (B:=r.tX) (((iG (i+1) (l.drop (i+1))).filter λp=>f p.1).map (·.2)) (jL (((iG 0 (l.take i)).filter λp=>f p.1).map (·.2)) s)
  (λx ah=>by
   have:=K8 (SL x ah);grind)
 have q8:=ae7 (R:=r.kA) (B:=r.tX) (λp=>f p.1) (iG 0 (l.take i)) s s (λ_ _=>rfl) (λ_ _=>rfl) (λp ao ae_=>by
  obtain⟨E,U⟩:=ae9 p ao;have:=K8 (gN p.1 p.2 E U ae_);grind)
 rw[CN]at q8;refine⟨λt aI=>by rw[ik];exact (q7.1 t aI).trans (q8.1 t aI),λb W=>by rw[ik];exact (q7.2 b W).trans (q8.2 b W),?_⟩;rw[ik];unfold jt;have ax:(iG 0 (l.take i)).filter (λp=>if p.1=i then true else f p.1)=(iG 0 (l.take i)).filter λp=>f p.1:=by
  apply List.filter_congr;grind
 have aO:(iG (i+1) (l.drop (i+1))).filter (λp=>if p.1=i then true else f p.1)=(iG (i+1) (l.drop (i+1))).filter λp=>f p.1:=by
  apply List.filter_congr;grind
 rw[SK,List.filter_append,List.filter_cons_of_pos (by simp),ax,aO,List.map_append,SI];show jL _ (r.h7 _)=_;refine ae8 _ _ λx ah=>?_;have:=K8 (SL x ah);grind
theorem xu{p:Nat->Prop}:∀ (ops:List Oper) (acc:List (List Nat)),(∀ j i,i∈acc.getD j []->p j->p i)->(∀ j o,ops[j]?=some o->∀ i∈h8 o,p (acc.length+j)->p i)->
  ∀ j i,i∈(ops.foldl zI acc).getD j []->p j->p i:=by
 intro ops;induction ops with
 | nil=>simp
 | cons o ops aK=>
  intro acc h aw;refine aK (zI acc o) (λj i G aF=>?_) λj hS kd i G aF=>aw (j+1) hS (by grind) i G (by
   have:(zI acc o).length=acc.length+1:=by simp[zI]
   grind)
  unfold zI at G;rw[List.getD_eq_getElem?_getD,List.getElem?_append]at G;split at G
  ·grind
  ·rename_i cc;by_cases e:j=acc.length
   ·subst e;simp only[Nat.sub_self,List.getElem?_cons_zero,Option.getD_some]at G;have G:=(K5 G).resolve_left (by simp);simp only[List.mem_flatMap,List.mem_cons]at G;obtain⟨k,an,G⟩:=G;have vq:=aw 0 o (by simp) k an (by omega);grind
   grind
theorem SM{aP:dG}{T:Nat->ad}{bg:Nat->Option aL}{ops:Array Oper}:∀ (os:List Oper) (s:aA) {l:List eP} {s':aA},xp aP T bg ops os s=some (l,s')->
  l.length=os.length/\s'=jL l s/\∀ i o,os[i]?=some o->∃ r,l[i]?=some r/\vp aP T bg ops (jL (l.take i) s) o=some r:=by
 intro os;induction os with
 | nil=>intro s l s' h;cases h;exact⟨rfl,rfl,λi o h=>by cases h⟩
 | cons o os aK=>
  intro s l s' h;simp only[xp]at h;split at h
  ·cases h
  ·rename_i r M;split at h
   ·cases h
   ·rename_i dI axV aj;cases h;obtain⟨E,U,ag⟩:=aK _ aj;refine⟨by grind,U,λi hS kd=>?_⟩;cases i with
    | zero=>
     simp only[List.getElem?_cons_zero,Option.some.injEq]at kd;subst kd;exact⟨r,by simp,M⟩
    | succ i=>
     obtain⟨p1,aQ,aS⟩:=ag i hS (by grind);exact⟨p1,by grind,aS⟩
theorem K9{ops:Array Oper}{f iD:Nat->aH}{g:Option (Nat×Bool)}(h:∀ t∈F8 ops g,f t=iD t):kz f ops g=kz iD ops g:=by
 unfold kz;cases g with
 | none=>rfl
 | some p=>
  obtain⟨j,want⟩:=p;simp only;cases aF:ops[j]? with
  | none=>rfl
  | some o=>
   simp only;cases aw:o.dst with
   | none=>rfl
   | some d=>
    simp only;rw[h d (by simp[F8,aF,aw])]
theorem SN{aP:dG}{T:Nat->ad}{bg:Nat->Option aL}{ops:Array Oper}{s s':aA}{o:Oper}{r:eP}(h:vp aP T bg ops s o=some r)(E:xq r.kA s' s)(U:xr r.tX s' s):vp aP T bg ops s' o=some r:=by
 have SO:r.kA=CH ops o/\r.tX=(bx aP T bg (a8 aP s.ay) o).qQ s.aa:=by
  unfold vp at h;grind
 rw[SO.1]at E;rw[SO.2]at U;have kT:∀ x∈o.op.operands.toList,a8 aP s'.ay x=a8 aP s.ay x:=by
  intro x ah;cases x with
  | tmp t=>
   refine E t ?_;simp only[CH,List.mem_append];exact .inr (List.mem_filterMap.2 ⟨.tmp t,ah,rfl⟩)
  | _=>rfl
 have ax:kz s'.ay ops o.guard=kz s.ay ops o.guard:=K9 λt aI=>E t (by simp[CH,aI]);have aO:bx aP T bg (a8 aP s'.ay) o=bx aP T bg (a8 aP s.ay) o:=ae0 kT;have cF:=ar.Rp (H:=s.aa) (H':=s'.aa) (bx aP T bg (a8 aP s.ay) o) U;have ee:sn (a8 aP s'.ay) o=sn (a8 aP s.ay) o:=by
  unfold sn;grind
 have dZ:m' (a8 aP s'.ay) o=m' (a8 aP s.ay) o:=by
  unfold m';cases af:o.op with
  | binOp op ty x y t=>
   rw[af]at kT;simp only;rw[kT x (by simp[Op.operands])]
  | load ty x=>rw[af]at kT;simp only;rw[kT x (by simp[Op.operands])]
  | store ty x y=>rw[af]at kT;simp only;rw[kT x (by simp[Op.operands])]
  | call c=>
   obtain⟨callee,args,dp⟩:=c;rw[af]at kT;cases callee with
   | builtin b=>
    have cW:∀ x∈args.toList,a8 aP s'.ay x=a8 aP s.ay x:=λx ah=>kT x (by simp[Op.operands,Call.operands];simp_all);simp only;unfold F6;grind
   | _=>rfl
  | _=>rfl
 unfold vp at h ⊢;simp_all
universe u
def A.fail{β:Type}:A β:=⟨False,λ_=>False⟩
inductive bX where
 | undef
 | val (t:ad)
 | dW (t:ad)
 | aX (b off:Nat)
 | al (b:Nat)
 | sub (b:Nat)
 | fJ (b:Nat)
 | j3 (b:Nat)
 | cv
 | iz (k:FuncId) (fZ:z8')
 | aW (aM:ad)
 | hf
 | hG (bs:List Nat)
 | iW (b:Nat)
 deriving DecidableEq
inductive b2 where
 | cells (t:ad) (l:List bX)
 | bj (e:ad)
 | hD (e:ad)
 | mp (k v:ad)
 | ji (k v:ad)
 | f_ (t:ad)
 | gK (t:ad)
 | ct (k v:ad)
 | gp (e:ad) (t:bX)
def bX.cons(t:bX)(R:Type):Type:=
 match t with
 | .val t=>t.ai×R
 | .dW t=>t.ai×R
 | .sub _=>(Nat×Nat)×R
 | .aW aM=>(Nat×(List aM.ai->Prop)×List aM.ai×Bool)×R
 | .hf=>Nat×R
 | .iW _=>Nat×R
 | _=>R
def qf:List bX->Type->Type
 | [],R=>R
 | t::l,R=>t.cons (qf l R)
def b2.cons(t:b2)(R:Type):Type:=
 match t with
 | .cells _ l=>qf l R
 | .bj e=>List e.ai×R
 | .hD e=>List e.ai×R
 | .mp k v=>List (k.ai×v.ai)×R
 | .ji k v=>List (k.ai×v.ai)×R
 | .f_ t=>t.ai×R
 | .gK t=>t.ai×R
 | .ct k v=>(Option (k.ai×v.ai)×List (k.ai×v.ai))×R
 | .gp e t=>(List e.ai×Nat)×t.cons R
def b2.CO:b2->Bool
 | .cells _ _ | .bj _ | .mp _ _ | .f_ _ | .ct _ _ | .gp _ _=>true
 | _=>false
def b2.Ga(t u:b2):Bool:=
 match t,u with
 | .cells _ _,.cells _ _ | .cells _ _,.f_ _ | .f_ _,.cells _ _ | .f_ _,.f_ _ | .gK _,.cells _ _ | .gK _,.f_ _=>true
 | .mp _ _,.mp _ _ | .ji _ _,.mp _ _=>true
 | .bj e,.bj a7=>decide (e=a7)
 | .hD _,.bj _=>true
 | _,_=>false
structure dJ where
 bU:List (Nat×bX)
 bE:List (Nat×b2)
def ph:List (Nat×b2)->Type
 | []=>Unit
 | p::l=>p.2.cons (ph l)
def oC:List (Nat×bX)->Type->Type
 | [],R=>R
 | p::l,R=>p.2.cons (oC l R)
def dJ.ai(sh:dJ):Type:=oC sh.bU (ph sh.bE)
def vr(g:Nat->Nat×Nat)(fZ:z8'):Nat->aH:=hh (fZ.map λp=>.aX (g p.1).1 (g p.1).2 p.2)
def vs(g:Nat->Nat×Nat)(bs:List Nat):Nat->aH:=hh (bs.map λb=>.al (g b).1 (g b).2)
def bX.av(g:Nat->Nat×Nat)(t:bX){R:Type}(x:t.cons R):aH×R:=
 match t,x with
 | .undef,x=>(.undef,x)
 | .val t,x=>(.val t x.1,x.2)
 | .dW t,x=>(.dW t x.1,x.2)
 | .aX b off,x=>(.aX (g b).1 (g b).2 off,x)
 | .al b,x=>(.al (g b).1 (g b).2,x)
 | .sub b,x=>(.sub (g b).1 (g b).2 x.1.1 x.1.2,x.2)
 | .fJ b,x=>(.fJ (g b).1 (g b).2,x)
 | .j3 b,x=>(.j3 (g b).1 (g b).2,x)
 | .cv,x=>(.cv,x)
 | .iz k fZ,x=>(.iz k fZ.length (vr g fZ),x)
 | .aW aM,x=>(.aW x.1.1 aM x.1.2.1 x.1.2.2.1 x.1.2.2.2,x.2)
 | .hf,x=>(.hf x.1,x.2)
 | .hG bs,x=>(.agg bs.length (vs g bs),x)
 | .iW b,x=>(.iW (g b).1 (g b).2 x.1,x.2)
def pj(g:Nat->Nat×Nat):(l:List bX)->{R:Type}->qf l R->List aH×R
 | [],_,x=>([],x)
 | t::l,_,x=>let (a,y):=t.av g x;let (as,z):=pj g l y;(a::as,z)
def b2.body(g:Nat->Nat×Nat)(t:b2){R:Type}(x:t.cons R):bR×R:=
 match t,x with
 | .cells t l,x=>let (as,y):=pj g l x;(.cells t (hh as),y)
 | .bj e,x=>(.bj e x.1,x.2)
 | .hD e,x=>(.hD e x.1,x.2)
 | .mp k v,x=>(.mp k v x.1,x.2)
 | .ji k v,x=>(.ji k v x.1,x.2)
 | .f_ t,x=>(.cells t (hh (nK t x.1)),x.2)
 | .gK t,x=>(.gK t x.1,x.2)
 | .ct k v,x=>(.ct k v x.1.1 x.1.2,x.2)
 | .gp e t,x=>let (a,y):=t.av g x.2;(.gp e x.1.1 x.1.2 a,y)
def eD(g:Nat->Nat×Nat):(l:List (Nat×bX))->{R:Type}->oC l R->List (Nat×aH)×R
 | [],_,x=>([],x)
 | p::l,_,x=>let (a,y):=p.2.av g x;let (as,z):=eD g l y;((p.1,a)::as,z)
def hj(g:Nat->Nat×Nat):(l:List (Nat×b2))->ph l->List (Nat×bR)
 | [],_=>[]
 | p::l,x=>let (a,y):=p.2.body g x;(p.1,a)::hj g l y
def fs:List (Nat×aH)->Nat->aH
 | [],_=>.undef
 | p::l,i=>if i=p.1 then p.2 else fs l i
def eQ:List (Nat×bR)->Nat->bK
 | [],_=>⟨0,.fz⟩
 | p::l,i=>if i=p.1 then ⟨0,p.2⟩ else eQ l i
def SP(ae':List (Nat×aH))(bs:List (Nat×bR)):aA:=⟨fs ae',eQ bs⟩
def c_(b:Nat):Nat×Nat:=(b,0)
def dJ.st(sh:dJ)(D:sh.ai):aA:=
 SP (eD c_ sh.bU D).1 (hj c_ sh.bE (eD c_ sh.bU D).2)
def xv(H:Nat->bK)(t:ad)(av:aH){R:Type}(r:Option (R×List Nat)):Option ((t.ai×R)×List Nat):=
 match (dC t av).run H with
 | some (x,l)=>match r with
  | some (y,m)=>some ((x,y),l++m)
  | none=>none
 | none=>none
def K_(t:ad)(av:aH){R:Type}(r:Option (R×List Nat)):Option ((t.ai×R)×List Nat):=
 match av with
 | .dW cY x=>match r with
  | some (y,m)=>if h:cY=t then some ((h ▸ x,y),m) else none
  | none=>none
 | _=>none
def K'(H:Nat->bK)(b:Nat)(av:aH){R:Type}(r:Option (R×List Nat)):Option (((Nat×Nat)×R)×List Nat):=
 match r with
 | some (y,m)=>match av with
  | .al bf g=>if (bf == b&&g == (H b).gen&&(H b).body.fh)=true then some (((0,(H b).body.len),y),m) else none
  | .sub bf g aZ G=>if (bf == b&&g == (H b).gen)=true then some (((aZ,G),y),m) else none
  | _=>none
 | none=>none
def La(aM:ad)(av:aH){R:Type}(r:Option (R×List Nat)):Option (((Nat×(List aM.ai->Prop)×List aM.ai×Bool)×R)×List Nat):=
 match av with
 | .aW l kB L n st=>match r with
  | some (y,m)=>if h:kB=aM then some (((l,h ▸ L,h ▸ n,st),y),m) else none
  | none=>none
 | _=>none
def Lb(av:aH){R:Type}(r:Option (R×List Nat)):Option ((Nat×R)×List Nat):=
 match av with
 | .hf l=>match r with
  | some (y,m)=>some ((l,y),m)
  | none=>none
 | _=>none
def Lc(H:Nat->bK)(b:Nat)(av:aH){R:Type}(r:Option (R×List Nat)):Option ((Nat×R)×List Nat):=
 match av with
 | .iW bf g i=>match r with
  | some (y,m)=>if (bf == b&&g == (H b).gen)=true then some ((i,y),m) else none
  | none=>none
 | _=>none
def Gb(H:Nat->bK)(b off:Nat)(av:aH):Bool:=
 match av with
 | .aX bf g afa=>bf == b&&afa == off&&g == (H b).gen
 | _=>false
def Gc(H:Nat->bK)(b:Nat)(av:aH):Bool:=
 match av with
 | .al bf g=>bf == b&&g == (H b).gen
 | _=>false
def Ld(H:Nat->bK)(b:Nat)(av:aH):Bool:=
 match av with
 | .fJ bf g=>bf == b&&g == (H b).gen
 | _=>false
def Le(H:Nat->bK)(b:Nat)(av:aH):Bool:=
 match av with
 | .j3 bf g=>bf == b&&g == (H b).gen
 | _=>false
def Lf(av:aH):Bool:=
 match av with
 | .cv=>true
 | _=>false
def Lg(H:Nat->bK)(f:Nat->Nat)(k:FuncId)(fZ:z8')(av:aH):Bool:=
 match av with
 | .iz k' n c1=>k' == k&&n == fZ.length&&(List.range n).all λi=>match fZ[i]? with
  | some p=>Gb H (f p.1) p.2 (c1 i)
  | none=>false
 | _=>false
def Lh(H:Nat->bK)(f:Nat->Nat)(bs:List Nat)(av:aH):Bool:=
 match av with
 | .agg n h=>n == bs.length&&(List.range n).all λi=>match bs[i]? with
  | some b=>Gc H (f b) (h i)
  | none=>false
 | _=>false
def vt{ak:Type}(b:Bool)(r:Option ak):Option ak:=match b with | true=>r | false=>none
def bX.jb(H:Nat->bK)(f:Nat->Nat)(t:bX)(av:aH){R:Type}(r:Option (R×List Nat)):Option (t.cons R×List Nat):=
 match t with
 | .undef=>r
 | .val t=>xv H t av r
 | .dW t=>K_ t av r
 | .aX b off=>vt (Gb H (f b) off av) r
 | .al b=>vt (Gc H (f b) av) r
 | .sub b=>K' H (f b) av r
 | .fJ b=>vt (Ld H (f b) av) r
 | .j3 b=>vt (Le H (f b) av) r
 | .cv=>vt (Lf av) r
 | .iz k fZ=>vt (Lg H f k fZ av) r
 | .aW aM=>La aM av r
 | .hf=>Lb av r
 | .hG bs=>vt (Lh H f bs av) r
 | .iW b=>Lc H (f b) av r
def zM(H:Nat->bK)(f:Nat->Nat):(l:List bX)->(Nat->aH)->Nat->{R:Type}->Option (R×List Nat)->Option (qf l R×List Nat)
 | [],_,_,_,r=>r
 | t::l,c,i,_,r=>t.jb H f (c i) (zM H f l c (i+1) r)
def Li(H:Nat->bK)(f:Nat->Nat)(t:ad)(l:List bX)(b:bR){R:Type}(r:Option (R×List Nat)):Option (qf l R×List Nat):=
 match b with
 | .cells cY c=>if cY=t/\t.size=l.length then zM H f l c 0 r else none
 | _=>none
def Lj(e:ad)(b:bR){R:Type}(r:Option (R×List Nat)):Option ((List e.ai×R)×List Nat):=
 match b with
 | .bj a7 xs=>match r with
  | some (y,m)=>if h:a7=e then some ((h ▸ xs,y),m) else none
  | none=>none
 | _=>none
def Lk(k v:ad)(b:bR){R:Type}(r:Option (R×List Nat)):Option ((List (k.ai×v.ai)×R)×List Nat):=
 match b with
 | .mp k' h3 es=>match r with
  | some (y,m)=>if h:k'=k/\h3=v then some ((h.1 ▸ h.2 ▸ es,y),m) else none
  | none=>none
 | _=>none
def Ll(k v:ad)(b:bR){R:Type}(r:Option (R×List Nat)):Option (((Option (k.ai×v.ai)×List (k.ai×v.ai))×R)×List Nat):=
 match b with
 | .ct k' h3 c es=>match r with
  | some (y,m)=>if h:k'=k/\h3=v then some (((h.1 ▸ h.2 ▸ c,h.1 ▸ h.2 ▸ es),y),m) else none
  | none=>none
 | _=>none
def Lm(H:Nat->bK)(f:Nat->Nat)(e:ad)(t:bX)(b:bR){R:Type}(r:Option (R×List Nat)):Option (((List e.ai×Nat)×t.cons R)×List Nat):=
 match b with
 | .gp a7 xs i v=>match t.jb H f v r with
  | some (y,m)=>if h:a7=e then some (((h ▸ xs,i),y),m) else none
  | none=>none
 | _=>none
def Ln(H:Nat->bK)(t:ad)(b:bR){R:Type}(r:Option (R×List Nat)):Option ((t.ai×R)×List Nat):=
 match b with
 | .cells cY f=>if cY=t then xv H t (.agg t.size f) r else none
 | _=>none
def Lo(H:Nat->bK)(t:ad)(b:Nat){R:Type}(r:Option (R×List Nat)):Option ((t.ai×R)×List Nat):=
 match (dC (.bI t) (.aX b (H b).gen 0)).run H with
 | some (some x,l)=>match r with
  | some (y,m)=>some ((x,y),l++m)
  | none=>none
 | _=>none
def b2.jb(H:Nat->bK)(f:Nat->Nat)(t:b2)(b:Nat){R:Type}(r:Option (R×List Nat)):Option (t.cons R×List Nat):=
 match t with
 | .cells t l=>Li H f t l (H b).body r
 | .bj e=>Lj e (H b).body r
 | .hD e=>xv H (.slice e) (.al b (H b).gen) r
 | .mp k v=>Lk k v (H b).body r
 | .ji k v=>xv H (.map k v) (.fJ b (H b).gen) r
 | .f_ t=>Ln H t (H b).body r
 | .gK t=>Lo H t b r
 | .ct k v=>Ll k v (H b).body r
 | .gp e t=>Lm H f e t (H b).body r
def xw(H:Nat->bK)(f:Nat->Nat):(l:List (Nat×b2))->Option (ph l×List Nat)
 | []=>some ((),[])
 | p::l=>p.2.jb H f (f p.1) (xw H f l)
def xx(H:Nat->bK)(f:Nat->Nat):(l:List (Nat×bX))->(Nat->aH)->{R:Type}->Option (R×List Nat)->Option (oC l R×List Nat)
 | [],_,_,r=>r
 | p::l,c,_,r=>p.2.jb H f (c p.1) (xx H f l c r)
def dJ.oD(sh:dJ):List Nat:=sh.bE.filterMap λp=>if p.2.CO then some p.1 else none
def dJ.zN(sh:dJ)(f:Nat->Nat)(s:aA):Option (sh.ai×List Nat):=
 match xx s.aa f sh.bU s.ay (xw s.aa f sh.bE) with
 | some (D,bV)=>if sh.oD.all (λb=>!bV.contains (f b))=true then some (D,bV) else none
 | none=>none
def Lp:List (Nat×b2)->Nat->Option b2
 | [],_=>none
 | p::l,b=>if b=p.1 then some p.2 else Lp l b
def Lq(s:aA)(i b bf g':Nat):aA:=
 match decide (bf≠b/\g'=(s.aa bf).gen),(s.aa bf).body with
 | true,.bj e xs=>⟨λj=>if j=i then .al b ((s.aa b).gen+1) else s.ay j,λj=>if j=b then ⟨(s.aa b).gen+1,.bj e xs⟩ else if j=bf then ⟨(s.aa bf).gen+1,.fz⟩ else s.aa j⟩
 | _,_=>s
def Lr(bs:List (Nat×b2))(s:aA)(i b:Nat):aA:=
 match s.ay i,Lp bs b with
 | .cv,some (.bj e)=>⟨λj=>if j=i then .al b ((s.aa b).gen+1) else s.ay j,(s.cz b ⟨(s.aa b).gen+1,.bj e []⟩).aa⟩
 | .al bf g',some (.bj _)=>Lq s i b bf g'
 | _,_=>s
def Ls(bs:List (Nat×b2))(s:aA)(c j b:Nat):aA:=
 match (s.aa c).body with
 | .cells t f=>match f j,(s.aa b).body,Lp bs b with
  | .cv,.fz,some (.bj e)=>(s.cz b ⟨(s.aa b).gen+1,.bj e []⟩).cz c ⟨(s.aa c).gen,.cells t λq=>if q=j then .al b ((s.aa b).gen+1) else f q⟩
  | _,_,_=>s
 | _=>s
def Gd(bs:List (Nat×b2)):List (Nat×bX)->aA->aA
 | [],s=>s
 | p::l,s=>Gd bs l (match p.2 with | .al b=>Lr bs s p.1 b | _=>s)
def Ge(bs:List (Nat×b2))(c:Nat):List bX->Nat->aA->aA
 | [],_,s=>s
 | t::l,j,s=>Ge bs c l (j+1) (match t with | .al b=>Ls bs s c j b | _=>s)
def Gf(bs:List (Nat×b2)):List (Nat×b2)->aA->aA
 | [],s=>s
 | p::l,s=>Gf bs l (match p.2 with | .cells _ ts=>Ge bs p.1 ts 0 s | _=>s)
def dJ.Gg(sh:dJ)(s:aA):aA:=Gf sh.bE sh.bE (Gd sh.bE sh.bU s)
def b2.SQ:b2->Bool
 | .bj _ | .hD _ | .gp _ _=>true
 | _=>false
def dJ.Gh(sh:dJ)(s:aA):Bool:=sh.bE.all λp=>!(decide (w5<=p.1)&&p.2.SQ)||decide ((s.aa p.1).gen=0)
def dJ.jb(sh:dJ)(s:aA):Option (sh.ai):=
 match sh.Gh (sh.Gg s) with
 | true=>(sh.zN (λb=>b) (sh.Gg s)).map (·.1)
 | false=>none
def dJ.nb{β:Type}(sh:dJ)(s:aA)(k:sh.ai->A β):A β:=
 match sh.jb s with
 | some D=>k D
 | none=>A.fail
def bX.xy(t:bX){R:Type}(r:R):t.cons R:=
 match t with
 | .val t=>(t.df,r)
 | .dW t=>(t.df,r)
 | .sub _=>((0,0),r)
 | .aW _=>((0,λ_=>False,[],false),r)
 | .hf=>(0,r)
 | .iW _=>(0,r)
 | .undef | .aX _ _ | .al _ | .fJ _ | .j3 _ | .cv | .iz _ _ | .hG _=>r
def SR:(l:List bX)->{R:Type}->R->qf l R
 | [],_,r=>r
 | t::l,_,r=>t.xy (SR l r)
def b2.xy(t:b2){R:Type}(r:R):t.cons R:=
 match t with
 | .cells _ l=>SR l r
 | .bj _=>([],r)
 | .hD _=>([],r)
 | .mp _ _=>([],r)
 | .ji _ _=>([],r)
 | .f_ t=>(t.df,r)
 | .gK t=>(t.df,r)
 | .ct _ _=>((none,[]),r)
 | .gp _ t=>(([],0),t.xy r)
def SS:(l:List (Nat×b2))->ph l
 | []=>()
 | p::l=>p.2.xy (SS l)
def SU:(l:List (Nat×bX))->{R:Type}->R->oC l R
 | [],_,r=>r
 | p::l,_,r=>p.2.xy (SU l r)
def dJ.xy(sh:dJ):sh.ai:=SU sh.bU (SS sh.bE)
structure hH where
 ts:ad
 aW:ad
 sh:ts.ai->A aW.ai
 dS:Bool
def aL.dw(c:aL):hH:=⟨c.ts,c.aW,c.sh,true⟩
def A.CP{ak:Type}(m:A ak):Prop:=∀ x y,m.bL x->m.bL y->x=y
open Classical in
def A.val{ak:Type}(m:A ak)(d:ak):ak:=if h:∃ x,m.bL x then h.choose else d
def hH.Gi(c:hH):aL:=⟨c.ts,c.aW,λx=>(c.sh x).cm,λx=>(c.sh x).val c.aW.df⟩
structure cL where
 cq:dJ
 bL:dJ
 kC:z9'
 ke:Nat
 sh:cq.ai->A bL.ai
structure zO where
 ts:ad
 aM:ad
 pre:ts.ai->Prop
 seq:ts.ai->List aM.ai
inductive e6 where
 | dw (c:hH)
 | fb (c:cL)
 | ct (c:zO)
 | Lt (c:hH)
 | Gj (c:cL) (sh:Nat->c.cq.ai->A c.bL.ai) (ids:List Nat)
 | kD (c:aL)
def Gk(bg:Nat->Option aL)(Ψ:Nat->Option e6)(k:Nat):Option aL:=
 match Ψ k with
 | some (.dw c)=>match c.dS&&!nM c.aW with
  | true=>some c.Gi
  | false=>none
 | some (.kD c)=>some c
 | some _=>none
 | none=>bg k
def Lu(bg:Nat->Option aL)(Ψ:Nat->Option e6)(k:Nat):Option hH:=
 match Ψ k with
 | some (.dw c)=>some c
 | some _=>none
 | none=>(bg k).bind λc=>if nM c.aW=true then none else some c.dw
structure hV where
 ak:Type
 d:ak
 cb:Prop
 m:A ak
 st:ak->aA
 CQ:Option (Bool->ak->aA)
def q9(s:aA)(o:Oper)(aW:ad)(bV:List Nat)(v:aH):aA:=(if aW.pure then s else s.cB bV).set o.dst v
def CR(aP:dG)(s:aA)(o:Oper)(args:List Operand)(dw:hH):Option hV:=
 match (iY dw.ts ((args.map (a8 aP s.ay)).map λv=>(use v).2)).run s.aa with
 | some (x,bV)=>some ⟨dw.aW.ai,dw.aW.df,jH (args.map (a8 aP s.ay)),dw.sh x,λy=>q9 s o dw.aW bV (qU dw.aW y),some λg y=>q9 s o dw.aW bV (.hC g (qU dw.aW y))⟩
 | none=>none
def Gl(aP:dG)(s:aA)(o:Oper)(args:List Operand)(dw:hH):Option hV:=
 match (iY dw.ts ((args.map (a8 aP s.ay)).map λv=>(use v).2)).run s.aa with
 | some (x,_)=>some ⟨dw.aW.ai,dw.aW.df,jH (args.map (a8 aP s.ay)),dw.sh x,λy=>s.set o.dst (qU dw.aW y),none⟩
 | none=>none
def CS(aP:dG)(s:aA)(o:Oper)(t:Nat)(args:List Operand):Option hV:=
 match use (s.ay t) with
 | (cb,.val (.fn a b) f)=>match (iY a ((args.map (a8 aP s.ay)).map λv=>(use v).2)).run s.aa with
  | some (x,bV)=>some ⟨b.ai,b.df,cb/\jH (args.map (a8 aP s.ay)),f x,λy=>q9 s o b bV (qU b y),some λg y=>q9 s o b bV (.hC g (qU b y))⟩
  | none=>none
 | _=>none
def SV(t:bX)(av:aH):z8':=
 match t,av with
 | .aX bf _,.aX b _ _=>[(bf,b)]
 | .al bf,.al b _=>[(bf,b)]
 | .sub bf,.al b _=>[(bf,b)]
 | .sub bf,.sub b _ _ _=>[(bf,b)]
 | .fJ bf,.fJ b _=>[(bf,b)]
 | .j3 bf,.j3 b _=>[(bf,b)]
 | .iz _ fZ,.iz _ _ c1=>(List.range fZ.length).filterMap λi=>match fZ[i]?,c1 i with
  | some p,.aX b _ _=>some (p.1,b)
  | _,_=>none
 | _,_=>[]
def SW:List bX->(Nat->aH)->Nat->z8'
 | [],_,_=>[]
 | t::l,c,i=>SV t (c i)++SW l c (i+1)
def Lv:z8'->Nat->Option Nat
 | [],_=>none
 | p::l,b=>if b=p.1 then some p.2 else Lv l b
def SX(H:Nat->bK):List (Nat×b2)->z8'->z8'
 | [],m=>m
 | p::l,m=>SX H l (m++match p.2,Lv m p.1 with
  | .cells _ ts,some b=>(match (H b).body with | .cells _ c=>SW ts c 0 | _=>[])
  | _,_=>[])
def afb(sh:dJ)(s:aA):z8':=SX s.aa sh.bE (sh.bU.flatMap λp=>SV p.2 (s.ay p.1))
def so(s:aA)(avs:List aH):aA:=⟨λi=>if i=b6 then s.ay b6 else if i<avs.length then avs.getD i .undef else .undef,s.aa⟩
def nc:Nat:=99999
def sq(s:aA)(d:Nat)(f:Nat->Nat)(ins:List Nat):List (Nat×b2)->Nat->z6'
 | [],_=>[]
 | p::l,j=>(if ins.contains p.1 then (p.1,(f p.1,match p.2 with
   | .cells _ _ | .f_ _ | .mp _ _ | .gK _ | .ji _ _=>(s.aa (f p.1)).gen
   | .bj _=>if w5<=p.1 then (s.aa (f p.1)).gen else (s.aa (f p.1)).gen+1
   | _=>(s.aa (f p.1)).gen+1)) else (p.1,(50000+10*d+j,(s.aa (50000+10*d+j)).gen+1)))::sq s d f ins l (j+1)
def hW:z6'->Nat->Nat×Nat
 | [],_=>(nc,0)
 | p::l,b=>if b=p.1 then p.2 else hW l b
def pk:z9'->(Nat->aH)->Nat->List aH
 | [],_,_=>[]
 | none::l,c,i=>c i::pk l c (i+1)
 | some n::l,c,i=>.agg n (λj=>c (i+j))::pk l c (i+n)
def Lw(l:List aH):aH:=
 match l with
 | [v]=>v
 | l=>.p2 l.length (hh l)
def xz(s:aA)(c:cL)(f:Nat->Nat)(ch:z6')(bn:c.bL.ai):aA:=
 ⟨λi=>if i=b6 then (if c.bL.bU.any (λp=>p.1 == b6) then fs (eD (hW ch) c.bL.bU bn).1 b6 else if c.cq.bU.any (λp=>p.1 == b6) then .undef else s.ay b6) else s.ay i,λb=>match ch.find? (λp=>p.2.1 == b) with
  | some p=>⟨p.2.2,(eQ (hj (hW ch) c.bL.bE (eD (hW ch) c.bL.bU bn).2) p.1).body⟩
  | none=>if (c.cq.oD.map f).contains b then ⟨(s.aa b).gen+1,.fz⟩ else s.aa b⟩
def afc(s:aA)(o:Oper)(c:cL)(f:Nat->Nat)(ch:z6')(bn:c.bL.ai):aA:=
 aA.set (xz s c f ch bn) o.dst (Lw (pk c.kC (fs (eD (hW ch) c.bL.bU bn).1) 0))
def Gm(l:List Nat):Bool:=decide l.Nodup
def CT(c:cL)(f:Nat->Nat)(dM:aA)(ch:z6')(d n:Nat):Bool:=
  decide (d < 4000) && decide (c.bL.bE.length <= 10) && Gm (c.cq.bE.map (·.1)) && Gm (c.cq.bE.map λp => f p.1) && Gm (ch.map (·.1)) && Gm (ch.map (·.2.1)) && (c.cq.bE.map (·.1)).all (λb => decide (eR <= b))
        &&!(ch.map (·.2.1)).contains nc&&(match (dM.aa nc).body with | .fz=>true | _=>false)&&c.bL.bE.all (λp=>c.cq.bE.all λq=>!(p.1 == q.1&&q.2.CO)||p.2.Ga q.2)&&(decide (n=c.ke)&&decide (n<=eR))
def q_(aP:dG)(s:aA)(args:List Operand):List aH:=(args.map (a8 aP s.ay)).map λv=>(use v).2
def ra(c:cL)(eH:aA)(b:Nat):Nat:=(Lv (afb c.cq eH) b).getD nc
def xA(aP:dG)(s:aA)(o:Oper)(args:List Operand)(c:cL):Option hV:=
 match c.cq.zN (ra c (so s (q_ aP s args))) (so s (q_ aP s args)) with
 | some (D,bV)=>match CT c (ra c (so s (q_ aP s args))) (s.cB bV) (sq (s.cB bV) (o.dst.getD 0) (ra c (so s (q_ aP s args))) c.cq.oD c.bL.bE 0) (o.dst.getD 0) args.length with
  | true=>some ⟨c.bL.ai,c.bL.xy,jH (args.map (a8 aP s.ay)),c.sh D,λbn=>afc (s.cB bV) o c (ra c (so s (q_ aP s args))) (sq (s.cB bV) (o.dst.getD 0) (ra c (so s (q_ aP s args))) c.cq.oD c.bL.bE 0) bn,none⟩
  | false=>none
 | none=>none
def SY:Nat:=999999
def SZ(c:cL)(sh:Nat->c.cq.ai->A c.bL.ai)(ids:List Nat)(n:Option Nat):cL:={ c with sh:=λD=>A.ab (∃ k∈ids,n=some k) (sh (n.getD 0) D) }
def Gn(aP:dG)(Ψ:Nat->Option e6)(s:aA)(o:Oper)(t:Nat)(args:List Operand):Option hV:=
 match s.ay t with
 | .val .eu n=>match Ψ SY with
  | some (.Gj c sh ids)=>xA aP s o args (SZ c sh ids n)
  | _=>none
 | _=>none
def Gp(aP:dG)(s:aA)(o:Oper)(t:Nat)(args:List Operand):Option hV:=
 match s.ay t,s.ay b6 with
 | .hf dI,.aW l aM L n st=>match (iY aM ((args.map (a8 aP s.ay)).map λv=>(use v).2)).run s.aa with
  | some (x,bV)=>some ⟨Bool,false,jH (args.map (a8 aP s.ay)),A.ab (dI=l/\st=false/\∃ T,L (n++x::T)) (A.any λ_=>True),λb=>aA.set ⟨λi=>if i=b6 then .aW l aM L (n++[x]) (!b) else s.ay i,(s.cB bV).aa⟩ o.dst (.val .bool b),none⟩
  | none=>none
 | _,_=>none
def Gq(aP:dG)(T:Nat->ad)(s:aA)(o:Oper)(ty:TypeId)(x:Operand):Option hV:=
 match T ty,o.dst with
 | .map k v,some d=>match use (a8 aP s.ay x) with
  | (cb,av)=>match (dC (.map k v) av).run s.aa with
   | some (es,bV)=>if bV.contains d then none else
    some ⟨Unit,(),cb,A.pure (),λ_=>((s.cB bV).cz d ⟨(s.aa d).gen+1,.ct k v none es⟩).set o.dst (.j3 d ((s.aa d).gen+1)),none⟩
   | none=>none
 | _,_=>none
def Gr{ak:Type}(l:List ak):A (Option Nat):=⟨True,λx=>match x with | none=>l=[] | some i=>i<l.length⟩
def S0(i:Option Nat):Nat:=match i with | none=>0 | some _=>2
def nV{ak:Type}(c:Option ak)(cn:List ak)(i:Option Nat):Option ak:=match i with | none=>c | some i=>cn[i]?
def CU{ak:Type}(cn:List ak)(i:Option Nat):List ak:=match i with | none=>cn | some i=>cn.eraseIdx i
def Gs(aP:dG)(s:aA)(o:Oper)(x:Operand)(str:Bool):Option hV:=
 match str,a8 aP s.ay x with
 | false,.j3 b g=>if (s.aa b).gen=g then (match (s.aa b).body with
  | .ct k v c cn=>some ⟨Option Nat,none,True,Gr cn,λi=>(s.cz b ⟨g,.ct k v (nV c cn i) (CU cn i)⟩).set o.dst (.p2 (Nat.succ (S0 i)) (hh [.val .bool i.isSome])),none⟩
  | _=>none) else none
 | _,_=>none
def Gt(aP:dG)(s:aA)(o:Oper)(x:Operand):Option hV:=
 match a8 aP s.ay x with
 | .j3 b g=>if (s.aa b).gen=g then (match (s.aa b).body with
  | .ct k v c _=>some ⟨Unit,(),True,A.ab (c.isSome=true) (A.pure ()),λ_=>s.set o.dst (.p2 2 (hh [.val k ((c.map (·.1)).getD k.df),.val v ((c.map (·.2)).getD v.df)])),none⟩
  | _=>none) else none
 | _=>none
def CV(aP:dG)(T:Nat->ad)(s:aA)(o:Oper)(op:BinOp)(ty:TypeId)(x y:Operand):Option hV:=
 match T ty,a8 aP s.ay y with
 | .slice e,.cv=>match (dC (.slice e) (use (a8 aP s.ay x)).2).run s.aa with
  | some (xs,_)=>match op with
   | .eql=>some ⟨Bool,false,(use (a8 aP s.ay x)).1,A.any λb=>b=true->xs=[],λb=>s.set o.dst (.val .bool b),none⟩
   | .neq=>some ⟨Bool,false,(use (a8 aP s.ay x)).1,A.any λb=>b=true->xs=[],λb=>s.set o.dst (.val .bool (!b)),none⟩
   | _=>none
  | none=>none
 | _,_=>none
def rb(aP:dG)(T:Nat->ad)(bg:Nat->Option aL)(Ψ:Nat->Option e6)(s:aA)(o:Oper):Option hV:=
 match o.op with
 | .call c=>match c.callee with
  | .value f=>match f with
   | .func k=>match Ψ k with
    | some (.fb c')=>xA aP s o c.args.toList c'
    | some (.Lt c')=>Gl aP s o c.args.toList c'
    | _=>match Lu bg Ψ k with
     | some dw=>CR aP s o c.args.toList dw
     | none=>none
   | .tmp t=>match CS aP s o t c.args.toList with
    | some r=>some r
    | none=>match Gn aP Ψ s o t c.args.toList with
     | some r=>some r
     | none=>Gp aP s o t c.args.toList
   | _=>none
  | _=>none
 | .range ty x=>Gq aP T s o ty x
 | .next x str=>Gs aP s o x str
 | .entry x=>Gt aP s o x
 | .binOp op ty x y _=>CV aP T s o op ty x y
 | _=>none
def cr{ak:Type}(g:Bool)(m:A ak)(d:ak):A ak:=if g=true then m else A.pure d
def sr{β:Type}(b:Bool)(p:Prop)(m:A β):A β:=match b with | true=>m | false=>A.ab p m
def CW(o:Oper)(e_:aH)(l:List (Nat×bK)):Option (List (Nat×bK)×aH):=
 match l with
 | []=>some ([],e_)
 | p::dI=>match o.op with
  | .makeFunc ..=>some (p::dI,e_)
  | .buildSlice _ n _=>match dI,e_,p.2.body with
   | [],.al bf g',.bj e xs=>if (bf=p.1/\g'=p.2.gen)/\n≠0 then some ([(p.1,⟨p.2.gen,.fz⟩)],.val (.slice e) xs) else none
   | _,_,_=>none
  | _=>none
def S1(hE:List (Nat×bK))(e_:aH):aH:=
 match e_ with
 | .al b _=>match hE.find? (λp=>p.1 == b) with
  | some (_,⟨_,.bj e xs⟩)=>.val (.slice e) xs
  | _=>e_
 | _=>e_
abbrev pn:=List (Nat×(Nat×Bool))
def ss(ops:Array Oper)(j d:Nat):Bool:=match ops[j]? with | some o=>(match o.dst with | some e=>e == d | none=>false) | none=>false
def afd(tg:pn)(t:Nat)(k:Nat×Bool):Bool:=tg.any λp=>p.1 == t&&(p.2.1 == k.1&&p.2.2 == k.2)
def xB(ops:Array Oper)(tg:pn)(o:Oper):pn:=
 match o.dst with
 | none=>tg
 | some d=>match o.guard with
  | some k=>if ss ops k.1 d=true then tg.filter λp=>p.1 != d&&!ss ops p.2.1 d else (d,k)::tg.filter λp=>p.1 != d&&!ss ops p.2.1 d
  | none=>tg.filter λp=>p.1 != d&&!ss ops p.2.1 d
def xC(aJ:Operand->aH)(tg:pn)(gk:Option (Nat×Bool))(x:Operand):Bool:=
 !(aJ x).zG||(match x,gk with | .tmp t,some k=>afd tg t k | _,_=>false)
def Gu(ops:Array Oper)(tg:pn)(c x:Operand)(want:Bool):Bool:=
 match c,x with
 | .tmp c,.tmp t=>tg.any λp=>p.1 == t&&(ss ops p.2.1 c&&p.2.2 == want)
 | _,_=>false
def Lx(aJ:Operand->aH)(tg:pn)(gk:Option (Nat×Bool))(o:Oper):Bool:=o.op.operands.toList.all (xC aJ tg gk)
def zP(aJ:Operand->aH)(ops:Array Oper)(tg:pn)(gk:Option (Nat×Bool))(o:Oper):Bool:=
 match o.op with
 | .pick c a b=>xC aJ tg gk c&&((xC aJ tg gk a||Gu ops tg c a true)&&(xC aJ tg gk b||Gu ops tg c b false))
 | _=>Lx aJ tg gk o
def Ly(aJ:Operand->aH)(tg:pn)(gk:Option (Nat×Bool))(o:Oper)(e_:aH):Bool:=
 !e_.zG||(match o.op with | .move x=>xC aJ tg gk x | _=>false)
def h9:Operand->Option Nat
 | .tmp t=>some t
 | _=>none
def zQ(o gG kV:Oper):Option (Oper×Nat×Nat):=
 match o.op with
 | .mapEntry ty m x=>match gG.op with
  | .extract e 1=>match kV.op with
   | .entryStore mR dy a7 y=>match o.dst,gG.dst,kV.dst with
    | some d1,some d2,none=>if h9 e=some d1/\h9 a7=some d2/\mR=ty/\(h9 dy).isSome=true/\h9 dy=h9 m/\(h9 y).isSome=true/\h9 m≠some d1/\h9 m≠some d2/\h9 y≠some d1/\h9 y≠some d2/\o.guard.isNone=true/\gG.guard.isNone=true/\kV.guard.isNone=true
     then some ({ kV with op:=.mapUpdate ty m x y },d1,d2) else none
    | _,_,_=>none
   | _=>none
  | _=>none
 | _=>none
def zR(o:Oper)(os:List Oper):Option (Oper×Nat×Nat):=
 match os with
 | gG::kV::_=>zQ o gG kV
 | _=>none
def Gv{β:Type}:Nat->Int->(Nat->A β)->A β
 | 0,_,_=>A.fail
 | 1,_,k=>k 0
 | n+2,v,k=>if v=((n+1:Nat):Int) then k (n+1) else Gv (n+1) v k
theorem S2{β:Type}{O:β->Prop}{k:Nat->A β}{v:Int}:∀ {n:Nat},A.cy (Gv n v k) O->0<=v->v<(n:Int)->A.cy (k v.toNat) O
 | 0,h,_,_=>h.1.elim
 | 1,h,aY,E=>by
  have:v.toNat=0:=by omega
  rw[this];exact h
 | n+2,h,aY,E=>by
  unfold Gv at h;split at h
  ·grind
  ·exact S2 h aY (by omega)
def mv{β:Type}(aP:dG)(T:Nat->ad)(bg:Nat->Option aL)(Ψ:Nat->Option e6)(ops:Array Oper):List Oper->pn->aA->(aA->A β)->A β
 | [],_,s,k=>k s
 | o::os,tg,s,k=>
  match zR o os with
  | some (kf,d1,d2)=>match os with
   | _::_::afe=>match (bx aP T bg (a8 aP s.ay) kf).run s.aa with
    | some res=>A.ab res.cb (A.ab res.c (mv aP T bg Ψ ops afe [] (((s.h6 none res).set (some d1) .undef).set (some d2) .undef) k))
    | none=>A.fail
   | _=>A.fail
  | none=>
  match kz s.ay ops o.guard with
  | none=>A.fail
  | some none=>match (bx aP T bg (a8 aP s.ay) o).run s.aa with
   | some res=>sr (zP (a8 aP s.ay) ops tg none o) res.cb (sr (m' (a8 aP s.ay) o) res.c (mv aP T bg Ψ ops os (xB ops tg o) (s.h6 o.dst res) k))
   | none=>match rb aP T bg Ψ s o with
    | some cd=>sr (sn (a8 aP s.ay) o) cd.cb (A.bind cd.m λy=>mv aP T bg Ψ ops os [] (cd.st y) k)
    | none=>A.fail
  | some (some g)=>match (bx aP T bg (a8 aP s.ay) o).run s.aa with
   | some ⟨cb,c,e_,hE⟩=>match CW o e_ hE with
    | some (xD,su)=>sr (zP (a8 aP s.ay) ops tg o.guard o&&(m' (a8 aP s.ay) o&&Ly (a8 aP s.ay) tg o.guard o su)) (g=true->cb/\(c/\(use su).1)) (mv aP T bg Ψ ops os (xB ops tg o) ((s.gi xD).set o.dst (.hC g (use su).2)) k)
    | none=>if g=true then A.ab cb (A.ab c (mv aP T bg Ψ ops os [] (s.h6 o.dst ⟨cb,c,e_,hE⟩) k)) else mv aP T bg Ψ ops os [] (s.set o.dst (.hC false (S1 hE (use e_).2))) k
   | none=>match rb aP T bg Ψ s o with
    | some cd=>match cd.CQ with
     | some gs=>sr (Lx (a8 aP s.ay) tg o.guard o) (g=true->cd.cb) (A.bind (cr g cd.m cd.d) λy=>mv aP T bg Ψ ops os (xB ops tg o) (gs g y) k)
     | none=>if g=true then A.ab cd.cb (A.bind cd.m λy=>mv aP T bg Ψ ops os [] (cd.st y) k) else mv aP T bg Ψ ops os [] (s.set o.dst (.hC false (use ((cd.st cd.d).ay (o.dst.getD 0))).2)) k
    | none=>A.fail
def CX{β:Type}:List Prop->A β->A β
 | [],m=>m
 | p::l,m=>A.ab p (CX l m)
def zS(cl:List (List Nat)):Nat->Nat
 | 0=>0
 | n+1=>if (List.range n).all (λi=>(cl.getD n []).contains i)=true then zS cl n else n+1
def Lz(gH il hI iH lW:Oper):Bool:=
 match gH.op,il.op,hI.op with
 | .lookup ty m x false,.binOp .add _ (.tmp t) (.const (.int k c)) _,.mapEntry mR dy dK=>match gH.dst,il.dst,zQ hI iH lW with
  | some eh,some fM,some (_,d1,d2)=>decide (t=eh/\mR=ty/\fV k c/\h9 dy=h9 m/\h9 dK=h9 x/\eh≠fM/\eh≠d1/\eh≠d2/\fM≠d1/\fM≠d2/\d1≠d2/\
    (h9 m).isSome=true/\(h9 x).isSome=true/\h9 m≠some eh/\h9 m≠some fM/\h9 m≠some d1/\h9 m≠some d2/\h9 x≠some eh/\h9 x≠some fM/\h9 x≠some d1/\h9 x≠some d2/\gH.guard.isNone=true/\il.guard.isNone=true)
  | _,_,_=>false
 | _,_,_=>false
def Gw(ops:List Oper):Bool:=
 match ops.drop (ops.length - 5) with
 | [gH,il,hI,iH,lW]=>Lz gH il hI iH lW&&(CM ops&&((List.range 5).all λq=>(List.range (ops.length - 5)).all λi=>((ij ops).getD (ops.length - 5+q) []).contains i)&&
   ((ij ops).getD (ops.length - 5+1) []).contains (ops.length - 5)&&((ij ops).getD (ops.length - 5+3) []).contains (ops.length - 5+2)&&((List.range 4).all λq=>((ij ops).getD (ops.length - 5+4) []).contains (ops.length - 5+q))&&
   (h8 hI).all (λi=>decide (i<ops.length - 5))&&(h8 iH).all (λi=>decide (i<ops.length - 5)||decide (i=ops.length - 5+2)))
 | _=>false
def lX(ops:List Oper):Nat:=if Gw ops=true then ops.length - 5 else zS (ij ops) ops.length
def A.aff{ak:Type}(l:List (A ak)):A ak:=⟨∀ m∈l,m.cm,λx=>∃ m∈l,m.bL x⟩
def vu(ops:List Oper)(done:List Nat):List Nat:=(List.range ops.length).filter λi=>!done.contains i&&match ops[i]? with | some o=>(h8 o).all λj=>done.contains j | none=>false
def re(ops:List Oper):Nat->List Nat->List (List Nat)
 | 0,_=>[[]]
 | f+1,done=>match vu ops done with
  | []=>[[]]
  | l=>l.flatMap λi=>(re ops f (i::done)).map (i::·)
def Gx(ops:List Oper):Nat->List Nat->Bool
 | 0,done=>(vu ops done).isEmpty
 | f+1,done=>(vu ops done).all λi=>Gx ops f (i::done)
def Gy{β:Type}(aP:dG)(T:Nat->ad)(bg:Nat->Option aL)(Ψ:Nat->Option e6)(ops:Array Oper)(o:Oper)(s:aA)(k:aA->A β):A β:=
 match o.guard with
 | some _=>A.fail
 | none=>match (bx aP T bg (a8 aP s.ay) o).run s.aa with
  | some res=>sr (zP (a8 aP s.ay) ops [] none o) res.cb (sr (m' (a8 aP s.ay) o) res.c (k (s.h6 o.dst res)))
  | none=>match rb aP T bg Ψ s o with
   | some cd=>sr (sn (a8 aP s.ay) o) cd.cb (A.bind cd.m λy=>k (cd.st y))
   | none=>A.fail
def zT{β:Type}(aP:dG)(T:Nat->ad)(bg:Nat->Option aL)(Ψ:Nat->Option e6)(ops:Array Oper):List Nat->aA->(aA->A β)->A β
 | [],s,k=>k s
 | i::b7,s,k=>match ops[i]? with
  | some o=>Gy aP T bg Ψ ops o s λs'=>zT aP T bg Ψ ops b7 s' k
  | none=>A.fail
def S3{β:Type}(aP:dG)(T:Nat->ad)(bg:Nat->Option aL)(Ψ:Nat->Option e6)(ops:Array Oper)(s:aA)(k:aA->A β):A β:=
 match Gx ops.toList ops.size [] with
 | true=>A.aff ((re ops.toList ops.size []).map λl=>zT aP T bg Ψ ops l s k)
 | false=>A.fail
def zU{β:Type}(aP:dG)(T:Nat->ad)(bg:Nat->Option aL)(Ψ:Nat->Option e6)(ops:Array Oper)(s:aA)(k:aA->A β):A β:=
 match xp aP T bg ops ops.toList s with
 | some (l,s')=>match zJ ops.toList l with
  | true=>CX (l.flatMap eP.cs) (k s')
  | false=>A.fail
 | none=>match xp aP T bg ops (ops.toList.take (lX ops.toList)) s with
  | some (l,s')=>match zJ (ops.toList.take (lX ops.toList)) l&&CM ops.toList with
   | true=>CX (l.flatMap eP.cs) (mv aP T bg Ψ ops (ops.toList.drop (lX ops.toList)) [] s' k)
   | false=>A.fail
  | none=>S3 aP T bg Ψ ops s k
def ls(ops:List Oper):List Oper:=
 match ops with
 | []=>[]
 | o::l=>o::l.map λp=>{ p with after:=p.after.push ⟨0,.phase⟩ }
def LA(ops:Array Oper):Bool:=
 match ops.toList with
 | []=>false
 | o::l=>(match o.op with | .move _=>true | _=>false)&&(o.guard.isNone&&(o.after.isEmpty&&(Region.noSelect ops&&l.all λp=>(h8 p).contains 0||o.apart ops p)))
inductive cD where
 | eN
 | seq (a b:cD)
 | join (sh:dJ) (a b:cD)
 | cond (a b:cD)
 | block (a:cD)
 | loop (sh:dJ) (a:cD)
 | scope (a:cD)
 | range (sh rin rout:dJ) (a b:cD)
 | nW (a b:cD)
 | split (i off n:Nat) (a:cD)
 | num (i n:Nat) (a:cD)
 | nR (i:Nat) (a:cD)
 | Gz (b:Nat) (a:cD)
 | GA
def cD.ek:cD->Bool
 | .eN=>true
 | .seq a b=>a.ek&&b.ek
 | .join _ a b=>a.ek&&b.ek
 | .cond a b=>a.ek&&b.ek
 | .block a=>a.ek
 | .loop _ a=>a.ek
 | .scope a=>a.ek
 | .range ..=>false
 | .nW a b=>a.ek&&b.ek
 | .split _ _ _ a=>a.ek
 | .num _ _ a=>a.ek
 | .nR _ a=>a.ek
 | .Gz _ a=>a.ek
 | .GA=>false
def cD.oE:cD->Bool
 | .nW ..=>true
 | .eN=>true
 | _=>false
inductive dj where
 | normal
 | exit (id:Nat)
 | ret
def dj.po:dj->Exit
 | .normal=>.normal
 | .exit id=>.exit id
 | .ret=>.ret
open A (V)
def S4{β:Type}(k:dj->aA->A β)(f:aA->A β)(e:dj)(s:aA):A β:=
 match e with
 | .normal=>f s
 | .exit id=>k (.exit id) s
 | .ret=>k .ret s
def xE{D β:Type}(k:dj->aA->A β)(f:aA->A (V D β))(e:dj)(s:aA):A (V D β):=
 match e with
 | .normal=>f s
 | .exit id=>A.bind (k (.exit id) s) λr=>A.pure (.done r)
 | .ret=>A.bind (k .ret s) λr=>A.pure (.done r)
def S5{β:Type}(id:Nat)(k:dj->aA->A β)(e:dj)(s:aA):A β:=
 match e with
 | .normal=>k .normal s
 | .exit GB=>if GB=id then k .normal s else k (.exit GB) s
 | .ret=>k .ret s
def V.bz{D β:Type}(f:D->A β)(st:V D β):A β:=
 match st with
 | .next x=>f x
 | .done r=>A.pure r
def S6{β:Type}(v:aH)(m n:A β):A β:=
 match v with
 | .val .bool t=>if t=true then m else n
 | .hC g (.val .bool t)=>A.ab (g=true) (if t=true then m else n)
 | _=>A.fail
def qg(s:aA)(i off:Nat):Option (Int×(Nat->aA)):=
 match s.ay i with
 | .aX b _ o=>match (s.aa b).body with
  | .cells t f=>match f (o+off) with
   | .val (.int t_) x=>some (x,λj=>⟨s.ay,λbf=>if bf=b then ⟨(s.aa b).gen,.cells t λq=>if q=o+off then .val (.int t_) (j:Int) else f q⟩ else s.aa bf⟩)
   | _=>none
  | _=>none
 | _=>none
theorem afg{s:aA}{i off:Nat}{x:Int}{f:Nat->aA}(h:qg s i off=some (x,f))(aY:0<=x):f x.toNat=s:=by
 unfold qg at h;split at h
 ·rename_i b g o aE;split at h
  ·rename_i t iD W;split at h
   ·rename_i t_ dK ah;simp only[Option.some.injEq,Prod.mk.injEq]at h;obtain⟨rfl,rfl⟩:=h;have bH:((dK.toNat:Nat):Int)=dK:=by omega
    have ax:(λq=>if q=o+off then aH.val (.int t_) (show (ad.int t_).ai from ((dK.toNat:Nat):Int)) else iD q)=iD:=by
     grind
    have aO:(λbf=>if bf=b then (⟨(s.aa b).gen,.cells t iD⟩:bK) else s.aa bf)=s.aa:=by
     funext q;split
     ·rename_i e;rw[e,<-W]
     ·rfl
    simp_all
   grind
  grind
 grind
def rf(s:aA)(i:Nat):Option (Int×(Nat->aA)):=
 match s.ay i with
 | .val (.int t_) x=>some (x,λn=>⟨λj=>if j=i then .val (.int t_) (n:Int) else s.ay j,s.aa⟩)
 | _=>none
theorem afh{s:aA}{i n:Nat}{x:Int}{f:Nat->aA}(h:rf s i=some (x,f))(aY:x=(n:Int)):f n=s:=by
 unfold rf at h;split at h
 ·rename_i t_ dK aE;simp only[Option.some.injEq,Prod.mk.injEq]at h;obtain⟨rfl,rfl⟩:=h;have ax:(λj=>if j=i then aH.val (.int t_) (show (ad.int t_).ai from (n:Int)) else s.ay j)=s.ay:=by
   grind
  simp_all
 grind
def LB(s:aA)(i:Nat):Option aA:=
 match s.ay i with
 | .om b g n off=>match (s.aa b).body,off with
  | .bj (.st (.slice e)) xs,0=>if g=(s.aa b).gen then some ⟨λj=>if j=i then .iW b g n else s.ay j,λbf=>if bf=b then ⟨g,.gp (.st (.slice e)) xs n (.val (.slice e) (xs.getD n []))⟩ else s.aa bf⟩ else none
  | _,_=>none
 | _=>none
def LC(s:aA)(b:Nat):Option aA:=
 match (s.aa b).body with
 | .gp (.st (.slice e)) xs n v=>match (dC (.slice e) v).run s.aa with
  | some (y,bV)=>if bV.contains b then none else some ((s.cB bV).cz b ⟨(s.aa b).gen,.bj (.st (.slice e)) (xs.set n y)⟩)
  | none=>none
 | _=>none
def jM{D ak:Type}(body:D->ak->A (dj×D)):List ak->D->A (dj×D)
 | [],D=>A.pure (.normal,D)
 | x::xs,D=>A.bind (body D x) λp=>match p.1 with
  | .normal=>jM body xs p.2
  | .exit id=>A.pure (.exit id,p.2)
  | .ret=>A.pure (.ret,p.2)
def zV(aM:ad)(x:aM.ai):List Tmp->Nat->(Nat->aH)->Nat->aH
 | [],_,f=>f
 | p::ps,i,f=>zV aM x ps (i+1) (λj=>if j=p then ku aM x i else f j)
def xF(s:aA)(aM:ad)(x:aM.ai)(ps:List Tmp):aA:=⟨λi=>if i=b6 then s.ay b6 else zV aM x ps 0 s.ay i,s.aa⟩
def vv(rin rout:dJ):cL:=⟨rin,rout,[],0,λ_=>A.fail⟩
def t'{bn:Type}(sh rin rout:dJ)(aM:ad)(ps:List Tmp)(D:sh.ai)(x:aM.ai)(run:aA->A (bn×rout.ai)):A (bn×sh.ai):=
 match rin.zN (ra (vv rin rout) (xF (sh.st D) aM x ps)) (xF (sh.st D) aM x ps) with
 | some (aJ,bV)=>match CT (vv rin rout) (ra (vv rin rout) (xF (sh.st D) aM x ps)) ((sh.st D).cB bV) (sq ((sh.st D).cB bV) 0 (ra (vv rin rout) (xF (sh.st D) aM x ps)) rin.oD rout.bE 0) 0 0 with
  | true=>A.bind (run (rin.st aJ)) λp=>sh.nb (xz ((sh.st D).cB bV) (vv rin rout) (ra (vv rin rout) (xF (sh.st D) aM x ps)) (sq ((sh.st D).cB bV) 0 (ra (vv rin rout) (xF (sh.st D) aM x ps)) rin.oD rout.bE 0) p.2) λiI=>A.pure (p.1,iI)
  | false=>A.fail
 | none=>A.fail
def nX(sh rout:dJ)(aM:ad)(ps:List Tmp)(nt:Nat):Bool:=
 rout.bU.isEmpty&&!sh.bU.any (λp=>p.1 == b6)&&decide (aM≠.cU)&&decide (ps.length=j6 aM)&&ps.all λp=>decide (p<nt)
def GC{β:Type}(f:aA->A β)(e:dj)(s:aA):A β:=
 match e with
 | .normal=>f s
 | .exit _=>A.fail
 | .ret=>A.fail
def sv{β:Type}(n:A β)(x:Nat->A β)(r:A β)(e:dj):A β:=
 match e with
 | .normal=>n
 | .exit id=>x id
 | .ret=>r
def LD{β:Type}(k:dj->aA->A β)(e:dj)(s:aA):A β:=sv (k .normal s) (λid=>k (.exit id) s) (k .ret s) e
theorem S7{β:Type}(k:dj->aA->A β)(e:dj)(s:aA):LD k e s=k e s:=by cases e<;>rfl
def eI(aP:dG)(T:Nat->ad)(bg:Nat->Option aL)(Ψ:Nat->Option e6):cD->{β:Type}->Code->aA->(dj->aA->A β)->A β
 | .seq a b,_,c,s,k=>match c with
  | .seq x y=>eI aP T bg Ψ a x s (S4 k λs'=>eI aP T bg Ψ b y s' k)
  | _=>A.fail
 | .join sh a b,β,c,s,k=>match c with
  | .seq x y=>A.bind (eI aP T bg Ψ a (β:=V sh.ai β) x s (xE k λs'=>sh.nb s' λD=>A.pure (.next D))) (V.bz λD=>eI aP T bg Ψ b y (sh.st D) k)
  | _=>A.fail
 | .cond a b,_,c,s,k=>match c with
  | .cond c x y=>S6 (a8 aP s.ay c) (eI aP T bg Ψ a x s k) (eI aP T bg Ψ b y s k)
  | _=>A.fail
 | .block a,_,c,s,k=>match c with
  | .block id c=>eI aP T bg Ψ a c s (S5 id k)
  | _=>A.fail
 | .loop sh a,β,c,s,k=>match c with
  | .loop c=>sh.nb s λD=>A.loop (λD=>eI aP T bg Ψ a (β:=V sh.ai β) c (sh.st D) (xE k λs'=>sh.nb s' λiI=>A.pure (.next iI))) D
  | _=>A.fail
 | .nW a b,_,c,s,k=>match c with
  | .loop x=>match b.oE with
   | true=>eI aP T bg Ψ a x s (S4 k λs'=>eI aP T bg Ψ b (.loop x) s' k)
   | false=>A.fail
  | _=>A.fail
 | .scope a,_,c,s,k=>match c with
  | .scope c=>eI aP T bg Ψ a c s k
  | _=>A.fail
 | .num i n a,_,c,s,k=>match rf s i with
  | some (x,f)=>A.ab (x=(n:Int)) (eI aP T bg Ψ a c (f n) k)
  | none=>A.fail
 | .nR i a,_,c,s,k=>match LB s i with
  | some s'=>eI aP T bg Ψ a c s' k
  | none=>A.fail
 | .Gz b a,_,c,s,k=>match LC s b with
  | some s'=>eI aP T bg Ψ a c s' k
  | none=>A.fail
 | .split i off n a,_,c,s,k=>match qg s i off with
  | some (x,f)=>A.ab (0<=x/\x<(n:Int)) (Gv n x λj=>eI aP T bg Ψ a c (f j) k)
  | none=>A.fail
 | .range sh rin rout a b,_,c,s,k=>match c with
  | .rangeFunc g ps assign body=>match a8 aP s.ay g with
   | .r6 rh n eU=>match Ψ rh with
    | some (.ct ic)=>match (iY ic.ts ((List.range n).map eU)).run s.aa with
     | some (x,bV)=>match nX sh rout ic.aM ps.toList eR&&(a.ek&&b.ek) with
      | true=>sh.nb (s.cB bV) λD=>A.ab (ic.pre x) (A.bind (jM (λD y=>t' sh rin rout ic.aM ps.toList D y λeH=>
       eI aP T bg Ψ a (β:=dj×rout.ai) assign eH (GC λdM=>eI aP T bg Ψ b body dM λe eJ=>rout.nb eJ λbn=>A.pure (e,bn))) (ic.seq x) D) λp=>LD k p.1 (sh.st p.2))
      | false=>A.fail
     | none=>A.fail
    | _=>A.fail
   | .val (.ct aM) S=>match nX sh rout aM ps.toList eR&&(a.ek&&b.ek) with
    | true=>sh.nb s λD=>A.bind (A.any S) λL=>A.bind (jM (λD y=>t' sh rin rout aM ps.toList D y λeH=>
     eI aP T bg Ψ a (β:=dj×rout.ai) assign eH (GC λdM=>eI aP T bg Ψ b body dM λe eJ=>rout.nb eJ λbn=>A.pure (e,bn))) L D) λp=>LD k p.1 (sh.st p.2)
    | false=>A.fail
   | _=>A.fail
  | _=>A.fail
 | .GA,_,c,s,k=>match c with
  | .region _ ops draw=>match draw&&LA ops with
   | true=>zU aP T (Gk bg Ψ) Ψ (ls ops.toList).toArray s (k .normal)
   | false=>A.fail
  | _=>A.fail
 | .eN,_,c,s,k=>match c with
  | .region _ ops draw=>match draw with
   | true=>zU aP T (Gk bg Ψ) Ψ ops s (k .normal)
   | false=>mv aP T bg Ψ ops ops.toList [] s (k .normal)
  | .skip=>k .normal s
  | .label _=>k .normal s
  | .exit id=>k (.exit id) s
  | .ret=>k .ret s
  | _=>A.fail
def lu(nt:Nat):Code->Bool
 | .region _ ops _=>ops.toList.all λo=>lq o nt
 | .seq a b=>lu nt a&&lu nt b
 | .cond _ a b=>lu nt a&&lu nt b
 | .block _ a=>lu nt a
 | .loop a=>lu nt a
 | .scope a=>lu nt a
 | .rangeFunc _ ps a b=>ps.toList.all (λp=>decide (p<nt))&&(lu nt a&&lu nt b)
 | .skip=>true
 | .label _=>true
 | .exit _=>true
 | .ret=>true
 | _=>false
end Go.Fer
