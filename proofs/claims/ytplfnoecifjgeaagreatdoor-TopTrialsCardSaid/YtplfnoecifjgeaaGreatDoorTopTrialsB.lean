/- Part 2 of the proof of TopTrials: shallow programs of Go functions, and what they compute. No condition. -/
import Derived.Test.YtplfnoecifjgeaaGreatDoorTopTrialsA
import Derived.Laws.BytesString
noncomputable section
set_option linter.unusedVariables false
set_option linter.unusedSimpArgs false
namespace Go.Fer
open Go.RowKit
theorem Ck{p:Addr}(h:p.spot=none)(n:Nat):p.add n=⟨p.block,p.off+n,none⟩:=by
 obtain⟨b,o,sp⟩:=p;simp only at h;subst h;exact va b o n
theorem Kr{e:ad}{xs:List e.ai}{i:Int}(E:0<=i)(U:i<(xs.length:Int)):kO e xs i=xs[i.toNat]'(by omega):=by
 unfold kO;grind
section
variable {C:b_} {T:Nat->ad} {bf:Nat->Option aK} {o:Oper} {s:az} {res:eB}
theorem Ks{P:Program}{w:World}{e:ad}{ty:TypeId}(h:b9 P (.slice e) ty){p:Addr}(an:p.spot=none){n cap:Nat}{k:IntKind}{i:Int}(E:0<=i)(U:i<(n:Int)) :
  (Instr.indexAt ty (.slice (some p) n cap) (.int k i)).run P w=.ok (.pointer (some ⟨p.block,p.off+i.toNat*e.size,none⟩)) w:=by
 obtain⟨j,aE,i',_⟩:=h.sl;simp[Instr.indexAt,asIntOf,dC aE,E,U,i'.size,Ck an]
theorem adN(aU:dT C.P T){ty:TypeId}{x i:Operand}(bg:∀ i,o.dst=some i->i<C.nt)(af:o.op=.indexAddr ty x i)(h:(bw C.aM T bf (a7 C.aM s.ax) o).run s.aa=some res):cJ C o s res:=by
 simp only[bw,af]at h;split at h
 ·rename_i bG k n aH G;have dp:=aU.b6 aH (by simp);simp only[bN,aq.e4,Option.bind_eq_some_iff,aq.bM,Option.some.injEq]at h;obtain⟨⟨c,v⟩,hh,rfl⟩:=h;refine cJ.pure (by grind) bg λa w κ F M bd hc=>?_;have ah:bB C.P s.aa κ F w (use (a7 C.aM s.ax x)).2 (a.eval x):=cO M x rfl bd.1;have U:=oo (cO M i rfl bd.2) G;have zn:∀ (xs:List bG.ai),bI C.P (.slice bG) F w [a.eval x] xs->0<=n/\n<(xs.length:Int)->∃ r,(execOp a.eval o).run C.P w=.ok (.value r) w/\bB C.P s.aa κ F w (.dV bG (kO bG xs n)) r:=by
   intro xs hS aA;obtain⟨a',cap,aw,m1,m2,m3,m4⟩:=hS;have aw:=(List.cons.inj aw).1;cases a' with
   | none=>grind
   | some p=>
    obtain⟨eb,ee,jl⟩:=m4 p rfl (by omega);obtain⟨bj,d1,d2⟩:=jl n.toNat (by omega);refine⟨_,by simp[execOp,af,aw,U.1,Ks dp ee aA.1 aA.2],⟨p.block,p.off+n.toNat*bG.size,none⟩,bj,rfl,d1,?_⟩;rw[Kr aA.1 aA.2];exact d2
  unfold Rw at hh;split at hh
  ·rename_i e xs e_;simp only[aq.bM]at hh;split at hh
   ·rename_i he;subst he;simp only[Option.some.injEq,Prod.mk.injEq]at hh;obtain⟨rfl,rfl⟩:=hh;rw[e_]at ah;exact zn xs ((dU rfl).1 ah).2 hc
   grind
  ·rename_i b g e_;rw[e_]at ah;simp only[aq.e3,aq.bM]at hh;split at hh
   ·rename_i aB;have aS:=M.bD b;unfold cF at aS;split at hh
    ·rename_i e xs bS;split at hh
     ·rename_i he;subst he;simp only[Option.some.injEq,Prod.mk.injEq]at hh;obtain⟨rfl,rfl⟩:=hh;have ae:=ah.2 aB.symm (by rw[bS];rfl);rw[bS]at ae aS;have vh:(κ b).e8=false:=by
       cases aA:(κ b).e8 with
       | false=>rfl
       | true=>rw[aS.1 aA]at hc;grind
      simp only[bC.slice,vh,Bool.false_eq_true,if_false,bQ.len]at ae;refine⟨_,by simp[execOp,af,ae,U.1,Ks dp (p:=⟨(κ b).aa,(κ b).off,none⟩) rfl hc.1 hc.2];rfl,⟨ah.1.1,rfl⟩,λ_ _=>?_⟩;rw[bS];exact⟨by simp only[bQ.len];omega,vh,rfl⟩
     grind
    ·rename_i e xs bS;split at hh
     ·rename_i he;subst he;simp only[Option.some.injEq,Prod.mk.injEq]at hh;obtain⟨rfl,rfl⟩:=hh;have ae:=ah.2 aB.symm (by rw[bS];rfl);rw[bS]at ae aS;simp only[bQ.len]at ae;refine zn xs ?_ hc;rw[ae];exact aS
     grind
    grind
   grind
  ·rename_i b g aY G e_;rw[e_]at ah;simp only[aq.e3,aq.bM]at hh;split at hh
   ·rename_i aB;have aS:=M.bD b;unfold cF at aS;split at hh
    ·rename_i e xs bS;split at hh
     ·rename_i he;subst he;simp only[Option.some.injEq,Prod.mk.injEq]at hh;obtain⟨rfl,rfl⟩:=hh;obtain⟨⟨aP,aR⟩,bO⟩:=ah.2 aB.symm (by rw[bS];rfl);rw[bS]at aR bO aS;simp only[bQ.len,bQ.e2]at aR bO;rcases bO with⟨aA,_⟩ | ⟨aA,mo,ae,hQ,gF⟩
      ·rw[aS.1 aA]at aR;grind
      ·obtain⟨cs,hT,bE,c2,c3,c4,c5⟩:=aS.2 aA;refine⟨_,by simp[execOp,af,ae,U.1,Ks dp (p:=⟨(κ b).aa,mo,none⟩) rfl hc.1 hc.2];rfl,⟨ah.1.1,rfl⟩,λ_ _=>?_⟩;rw[bS];refine⟨by simp only[bQ.len];omega,aA,?_⟩;rw[gF (by omega)];simp only[bQ.e2,Nat.add_mul];grind
     grind
    ·rename_i e xs bS;split at hh
     ·rename_i he;subst he;simp only[Option.some.injEq,Prod.mk.injEq]at hh;obtain⟨rfl,rfl⟩:=hh;obtain⟨⟨aP,aR⟩,bO⟩:=ah.2 aB.symm (by rw[bS];rfl);rw[bS]at aR bO aS;simp only[bQ.len,bQ.e2]at aR bO;have hlen:((xs.take G).drop aY).length=G - aY:=by grind
      obtain⟨r,b4,cv⟩:=zn ((xs.take G).drop aY) (Ft aS aP aR bO) (by omega);refine⟨r,b4,?_⟩;have aw:kO e ((xs.take G).drop aY) n=kO e xs ((aY:Int)+n):=by
       rw[Kr hc.1 (by omega),Kr (by omega) (by omega)];grind
      grind
     grind
    grind
   grind
  ·simp_all
  ·cases hh
 ·rename_i m bG k n aH G;split at h
  ·rename_i dx a6 xs e_;split at h
   ·rename_i he;obtain⟨rfl,rfl⟩:=he;simp only[bN,aq.bM,Option.some.injEq]at h;subst h;refine cJ.pure (by grind) bg λa w κ F M bd hc=>?_;have ah:bB C.P s.aa κ F w (use (a7 C.aM s.ax x)).2 (a.eval x):=cO M x rfl bd.1;rw[e_]at ah;have U:=oo (cO M i rfl bd.2) G;obtain⟨j,aE,qW,_⟩:=(aU.b6 aH (by simp)).bh;obtain⟨p,bj,ae,cV,nM⟩:=ah;obtain⟨bE,c2,c3,rfl,aN,cE⟩:=Kf nM (i:=n.toNat) (by omega);refine⟨.pointer (some ⟨p.block,p.off+n.toNat*a6.size,none⟩),?_,⟨p.block,p.off+n.toNat*a6.size,none⟩,c2,rfl,⟨cV.1,rfl,λq br=>?_⟩,cE⟩
    ·simp[execOp,af,Instr.indexAt,ae,U.1,asIntOf,dC aE,hc.1,hc.2,qW.size,Ck cV.2.1,Instr.sureAddr]
    ·have:=cV.2.2 (bE.length+q) (by grind);grind
   ·cases h
  ·rename_i b g off e_;simp only[aq.e3,aq.bM]at h;split at h
   ·rename_i bk;simp only[Bool.and_eq_true,decide_eq_true_eq]at bk;simp only[Option.some.injEq]at h;subst h;refine cJ.pure (by grind) bg λa w κ F M bd hc=>?_;have E:bB C.P s.aa κ F w (use (a7 C.aM s.ax x)).2 (a.eval x):=cO M x rfl bd.1;rw[e_]at E;have U:=oo (cO M i rfl bd.2) G;have ag:=E.2 bk.1.symm bk.2;obtain⟨j,aE,qW,_⟩:=(aU.b6 aH (by simp)).bh;exact⟨_,by simp[execOp,af,Instr.indexAt,ag,U.1,asIntOf,dC aE,hc.1,hc.2,qW.size,Ck (p:=⟨(κ b).aa,off,none⟩) rfl,Instr.sureAddr],⟨E.1.1,rfl⟩,λ_ _=>rfl⟩
   grind
  ·cases h
 ·cases h
theorem Cl{a:Act}{w:World}{κ:Nat->bC}{F:Nat->Prop}(M:bl C s a w κ F){x:Option Operand}{p:Prop}{n:Option Int}(h:ld (a7 C.aM s.ax) x=some (p,n))(an:p) :
  (x=none/\n=none)\/∃ y k m,x=some y/\n=some m/\a.eval y=.int k m:=by
 cases x with
 | none=>simp only[ld,Option.some.injEq,Prod.mk.injEq]at h;grind
 | some y=>
  simp only[ld]at h;split at h
  ·rename_i q k m hu;simp only[Option.some.injEq,Prod.mk.injEq]at h;obtain⟨rfl,rfl⟩:=h;exact .inr ⟨y,k,m,rfl,rfl,(gU.1 (cO M y hu an)).1⟩
  grind
theorem R0{P:Program}{w:World}{isS:Bool}{len cap:Nat}{aY G:Option Value}{l h:Option Int}(aj:(aY=none/\l=none)\/∃ k m,aY=some (.int k m)/\l=some m)(cV:(G=none/\h=none)\/∃ k m,G=some (.int k m)/\h=some m)
  (E:0<=dr l) (U:dr l<=fz len h) (ag:fz len h<=(cap:Int)) (_h4:len<=cap):(Instr.sliceBounds isS len cap aY G none).run P w=.ok ((dr l).toNat,(fz len h).toNat,cap) w:=by
 rcases aj with⟨rfl,rfl⟩ | ⟨k,m,rfl,rfl⟩<;>rcases cV with⟨rfl,rfl⟩ | ⟨k',dx,rfl,rfl⟩<;>simp only[dr,fz]at E U ag ⊢
 ·rfl
 ·have:0<=dx/\dx<=(cap:Int):=by omega
  simp[Instr.sliceBounds,Instr.sliceBound,asIntOf,this]
 ·have:0<=m/\m<=(len:Int):=by omega
  simp[Instr.sliceBounds,Instr.sliceBound,asIntOf,this]
 ·have aw:0<=dx/\dx<=(cap:Int):=by omega
  have aN:0<=m/\m<=dx:=by omega
  have cE:max dx 0=dx:=by omega
  simp[Instr.sliceBounds,Instr.sliceBound,asIntOf,aw,aN,cE]
theorem adO{l h:Option Int}{n m:Nat}(R1:n<=m):B2 l h n m<=m:=by
 unfold B2;grind
theorem adP(aU:dT C.P T){ty:TypeId}{x:Operand}{aY G:Option Operand}(bg:∀ i,o.dst=some i->i<C.nt)(af:o.op=.slice ty x aY G none)(h:(bw C.aM T bf (a7 C.aM s.ax) o).run s.aa=some res):cJ C o s res:=by
 simp only[bw,af,Option.isSome_none,Bool.false_eq_true,if_false,Fw]at h;split at h
 ·rename_i ol l qR lR p9 Kt;have au:∀ c,o.op≠.defer c:=by grind
  have r2:∀ (a:Act) (w:World) κ F,bl C s a w κ F->ol->qR->((aY.map a.eval=none/\l=none)\/∃ k m,aY.map a.eval=some (.int k m)/\l=some m)/\((G.map a.eval=none/\lR=none)\/∃ k m,G.map a.eval=some (.int k m)/\lR=some m):=by
   intro a w κ F M Cm Cn;constructor
   ·rcases Cl M p9 Cm with⟨rfl,rfl⟩ | ⟨y,k,m,rfl,rfl,e⟩
    ·exact .inl ⟨rfl,rfl⟩
    ·exact .inr ⟨k,m,by simp[e],rfl⟩
   ·rcases Cl M Kt Cn with⟨rfl,rfl⟩ | ⟨y,k,m,rfl,rfl,e⟩
    ·exact .inl ⟨rfl,rfl⟩
    ·exact .inr ⟨k,m,by simp[e],rfl⟩
  split at h
  ·rename_i bG aH;have dp:=aU.b6 aH (by simp);obtain⟨j,aE,i',ov⟩:=dp.sl;simp only[aq.e4,Option.bind_eq_some_iff]at h;obtain⟨⟨c,v⟩,fW,h⟩:=h;simp only[bN,aq.bM,Option.some.injEq]at h;subst h;have runs:∀ (a:Act) (w:World) κ F,bl C s a w κ F->ol->qR->∀ (q:Option Addr) (n cap:Nat),a.eval x=.slice q n cap->n<=cap->0<=dr l/\dr l<=fz n lR/\fz n lR<=(cap:Int)->
     (execOp a.eval o).run C.P w=.ok (.value (.slice (if cap=(dr l).toNat then q else q.map (·.add ((dr l).toNat*bG.size))) ((fz n lR).toNat - (dr l).toNat) (cap - (dr l).toNat))) w:=by
    intro a w κ F M Cm Cn q n cap ae aA hc;obtain⟨dN,e0⟩:=r2 a w κ F M Cm Cn;have:=R0 (P:=C.P) (w:=w) (isS:=true) dN e0 hc.1 hc.2.1 hc.2.2 aA;simp[execOp,af,ae,Instr.sliceAt,Instr.slice,dC aE,this,i'.size]
   unfold Rx at fW;split at fW
   ·rename_i e xs e_;simp only[aq.bM]at fW;split at fW
    ·rename_i he;subst he;simp only[Option.some.injEq,Prod.mk.injEq]at fW;obtain⟨rfl,rfl⟩:=fW;refine cJ.pure au bg λa w κ F M bd hc=>?_;have ah:bB C.P s.aa κ F w (use (a7 C.aM s.ax x)).2 (a.eval x):=cO M x rfl bd.1;rw[e_]at ah;obtain⟨_,a',cap,aw,m1,m2,m3,m4⟩:=(dU rfl).1 ah;have aw:=(List.cons.inj aw).1;refine⟨_,runs a w κ F M bd.2.1 bd.2.2 a' xs.length cap aw m1 ⟨hc.1,hc.2.1,by omega⟩,(dU rfl).2 ⟨rfl,?_⟩⟩;have hlen:((xs.take (fz xs.length lR).toNat).drop (dr l).toNat).length=(fz xs.length lR).toNat - (dr l).toNat:=by
      simp;omega
     refine⟨_,_,by rw[hlen],by omega,by omega,?_,λp an u6=>?_⟩
     ·intro aA;split at aA
      ·omega
      ·cases a' with
       | none=>have:=m3 rfl;omega
       | some q=>cases aA
     ·cases a' with
      | none=>split at an<;>cases an
      | some q=>
       obtain⟨eb,ee,jl⟩:=m4 q rfl (by omega);have br:∃ d,p=⟨q.block,q.off+d,none⟩/\(d=(dr l).toNat*e.size\/cap=(dr l).toNat):=by
        split at an
        ·omega
        ·simp only[Option.map_some,Option.some.injEq]at an;rw[Ck ee]at an;grind
       obtain⟨d,rfl,w2⟩:=br;refine⟨eb,rfl,λi G=>?_⟩;rw[hlen]at G;obtain⟨bj,d1,d2⟩:=jl ((dr l).toNat+i) (by omega);rcases w2 with rfl | xd
       ·refine⟨bj,⟨d1.1,rfl,λk al=>?_⟩,?_⟩
        ·have:=d1.2.2 k al;rw[Nat.add_mul]at this;rw[show q.off+(dr l).toNat*e.size+i*e.size=q.off+((dr l).toNat*e.size+i*e.size) from by omega];exact this
        ·have aN:((xs.take (fz xs.length lR).toNat).drop (dr l).toNat)[i]'(by rw[hlen];exact G)=xs[(dr l).toNat+i]'(by omega):=by simp
         rw[aN];exact d2
       ·omega
    grind
   ·rename_i e_;simp only[aq.bM,Option.some.injEq,Prod.mk.injEq]at fW;obtain⟨rfl,rfl⟩:=fW;refine cJ.pure au bg λa w κ F M bd hc=>?_;have ah:bB C.P s.aa κ F w (use (a7 C.aM s.ax x)).2 (a.eval x):=cO M x rfl bd.1;rw[e_]at ah;simp only[bB]at ah;have jI:0<=dr l/\dr l<=fz 0 lR/\fz 0 lR<=((0:Nat):Int):=hc;have c6:=runs a w κ F M bd.2.1 bd.2.2 none 0 0 ah (Nat.le_refl _) jI;have aX:(fz 0 lR).toNat=0:=by omega
    rw[aX]at c6;refine⟨_,c6,?_⟩;simp only[bB];simp
   ·rename_i b g e_;simp only[aq.e3,aq.bM]at fW;split at fW
    ·rename_i bk;simp only[Bool.and_eq_true,decide_eq_true_eq,beq_iff_eq]at bk;obtain⟨⟨aB,e'⟩,Cc⟩:=bk;simp only[Option.some.injEq,Prod.mk.injEq]at fW;obtain⟨rfl,rfl⟩:=fW;refine cJ.pure au bg λa w κ F M bd hc=>?_;have ah:bB C.P s.aa κ F w (use (a7 C.aM s.ax x)).2 (a.eval x):=cO M x rfl bd.1;rw[e_]at ah;have ae:=ah.2 aB.symm e';obtain⟨eb,ee⟩:=zi M e';cases aA:(κ b).e8 with
     | true=>
      have aX:=eb aA;simp only[bC.slice,aA,if_true]at ae;rw[aX]at hc;have c6:=runs a w κ F M bd.2.1 bd.2.2 none 0 0 ae (Nat.le_refl _) hc;refine⟨_,c6,⟨ah.1.1,by rfl⟩,λ_ _=>⟨by grind,.inl ⟨aA,?_⟩⟩⟩;grind
     | false=>
      have xd:=Kg M e' aA;simp only[bC.slice,aA,Bool.false_eq_true,if_false]at ae;have c6:=runs a w κ F M bd.2.1 bd.2.2 _ _ _ ae xd ⟨hc.1,hc.2.1,by omega⟩;refine⟨_,c6,⟨ah.1.1,by rfl⟩,λ_ _=>⟨by omega,.inr ⟨aA,?_⟩⟩⟩;rw[<-Cc];by_cases lP:(κ b).cap=(dr l).toNat
      ·grind
      ·rw[if_neg lP];simp only[Option.map_some,va];simp
    grind
   ·rename_i b g fh aX e_;simp only[aq.e3,aq.bM]at fW;split at fW
    ·rename_i bk;simp only[Bool.and_eq_true,decide_eq_true_eq,beq_iff_eq]at bk;obtain⟨⟨aB,e'⟩,Cc⟩:=bk;simp only[Option.some.injEq,Prod.mk.injEq]at fW;obtain⟨rfl,rfl⟩:=fW;refine cJ.pure au bg λa w κ F M bd hc=>?_;have ah:bB C.P s.aa κ F w (use (a7 C.aM s.ax x)).2 (a.eval x):=cO M x rfl bd.1;rw[e_]at ah;obtain⟨⟨aP,aR⟩,bO⟩:=ah.2 aB.symm e';obtain⟨eb,ee⟩:=zi M e';have sa:B2 l lR (aX - fh) ((s.aa b).body.len - fh)<=(s.aa b).body.len - fh:=adO (by omega);revert hc sa;generalize B2 l lR (aX - fh) ((s.aa b).body.len - fh)=lim;intro hc sa;rcases bO with⟨aA,ae⟩ | ⟨aA,mo,ae,hQ,gF⟩
     ·have Ku:=eb aA;have bG:aX - fh=0:=by omega
      have elim:lim=0:=by omega
      rw[bG,elim]at hc;grind
     ·have xd:=Kg M e' aA;have c6:=runs a w κ F M bd.2.1 bd.2.2 _ _ _ ae (by omega) ⟨hc.1,hc.2.1,by omega⟩;refine⟨_,c6,⟨ah.1.1,by rfl⟩,λ_ _=>⟨by omega,.inr ⟨aA,?_⟩⟩⟩;rw[<-Cc];rw[<-Cc]at c6;have aw:(fz (aX - fh) lR).toNat - (dr l).toNat=fh+(fz (aX - fh) lR).toNat - (fh+(dr l).toNat):=by omega
      have aN:(κ b).cap - fh - (dr l).toNat=(κ b).cap - (fh+(dr l).toNat):=by omega
      rw[aw,aN];have cE:(fh+(dr l).toNat)*(s.aa b).body.e2=fh*(s.aa b).body.e2+(dr l).toNat*(s.aa b).body.e2:=Nat.add_mul _ _ _;by_cases lP:(κ b).cap - fh=(dr l).toNat
      ·rw[if_pos lP];exact⟨_,rfl,by omega,λh=>by omega⟩
      ·rw[if_neg lP];simp only[Option.map_some,va];exact⟨_,rfl,by omega,λh=>by omega⟩
    grind
   ·cases fW
  ·rename_i aH;have dp:=(aU.b6 aH (by simp)).str;split at h
   ·rename_i c v fW;simp only[bN,aq.bM,Option.some.injEq]at h;subst h;unfold Ry at fW;split at fW
    ·rename_i xs e_;simp only[Option.some.injEq,Prod.mk.injEq]at fW;obtain⟨rfl,rfl⟩:=fW;refine cJ.pure au bg λa w κ F M bd hc=>?_;have ah:bB C.P s.aa κ F w (use (a7 C.aM s.ax x)).2 (a.eval x):=cO M x rfl bd.1;rw[e_]at ah;obtain⟨ae,cb⟩:=me.1 ah;obtain⟨dN,e0⟩:=r2 a w κ F M bd.2.1 bd.2.2;have aD:ByteArray.size ⟨xs.toArray⟩=xs.length:=by rfl
     have:=R0 (P:=C.P) (w:=w) (isS:=false) (len:=xs.length) (cap:=xs.length) dN e0 hc.1 hc.2.1 hc.2.2 (Nat.le_refl _);refine⟨.string ⟨((xs.take (fz xs.length lR).toNat).drop (dr l).toNat).toArray⟩,?_,me.2 ⟨rfl,by grind⟩⟩;simp only[execOp,af,ae,Instr.sliceAt,Instr.slice,Sem.run_bind,dC dp,Result.andThen_ok,Option.map_none,Option.isSome_none,Bool.false_eq_true,if_false,aD,this,Sem.run_pure];have he:ByteArray.extract ⟨xs.toArray⟩ (dr l).toNat (fz xs.length lR).toNat=⟨((xs.take (fz xs.length lR).toNat).drop (dr l).toNat).toArray⟩:=by
      apply ByteArray.ext;rw[ByteArray.data_extract];grind
     rw[he]
    grind
   ·cases h
  ·cases h
 ·cases h
end
end Go.Fer
namespace Go.Fer
open Go.RowKit
def gw(P:Program)(e:ad)(F:Nat->Prop)(w:World)(all:List Value)(xs:List e.ai):Prop:=
 all.length=xs.length*e.size/\∀ i (h:i<xs.length),bI P e F w ((all.drop (i*e.size)).take e.size) xs[i]
theorem gw.append{P:Program}{e:ad}{F:Nat->Prop}{w:World}{l m:List Value}{xs ys:List e.ai}(h:gw P e F w l xs)(k:gw P e F w m ys):gw P e F w (l++m) (xs++ys):=by
 refine⟨by simp[h.1,k.1,Nat.add_mul],λi G=>?_⟩;by_cases ah:i<xs.length
 ·have aw:(xs++ys)[i]=xs[i]:=List.getElem_append_left ah;rw[aw];have hle:(i+1)*e.size<=xs.length*e.size:=Nat.mul_le_mul_right _ (by omega);rw[Nat.add_mul,Nat.one_mul]at hle;have:((l++m).drop (i*e.size)).take e.size=(l.drop (i*e.size)).take e.size:=by
   rw[List.drop_append_of_le_length (by rw[h.1];omega),List.take_append_of_le_length (by simp[h.1];omega)]
  rw[this];exact h.2 i ah
 ·have dK:i - xs.length<ys.length:=by grind
  have aw:(xs++ys)[i]=ys[i - xs.length]:=List.getElem_append_right (by omega);rw[aw];have hm:i*e.size=xs.length*e.size+(i - xs.length)*e.size:=by rw[<-Nat.add_mul];grind
  have:(l++m).drop (i*e.size)=m.drop ((i - xs.length)*e.size):=by
   rw[hm,<-h.1,List.drop_append,List.drop_of_length_le (by omega)];simp
  rw[this];exact k.2 _ dK
theorem gw.Co{P:Program}{e:ad}{F:Nat->Prop}{w:World}{all pre post:List Value}{cs:Array Value}{xs:List e.ai}(h:gw P e F w all xs)(hc:cs.toList=pre++(all++post)):lJ P e F w cs pre.length xs:=by
 intro i G;have hle:(i+1)*e.size<=xs.length*e.size:=Nat.mul_le_mul_right _ (by omega);rw[Nat.add_mul,Nat.one_mul]at hle;refine⟨_,λj aE=>?_,h.2 i G⟩;have fV:j<e.size:=by grind
 rw[<-Array.getElem?_toList,hc,List.getElem?_append_right (by omega),List.getElem?_append_left (by grind)];grind
theorem FO{P:Program}{e:ad}{F:Nat->Prop}{w:World}:∀ {xs:List e.ai} {p:Addr},(0<xs.length->p.spot=none)->(∀ i (h:i<xs.length),∃ bj,kv w ⟨p.block,p.off+i*e.size,none⟩ bj/\bI P e F w bj xs[i])->
  ∃ all,gw P e F w all xs/\kv w p all
 | [],p,an,_=>⟨[],⟨by simp,λi G=>by grind⟩,λh=>by grind,λj aE=>by grind⟩
 | x::xs,p,an,h=>by
  obtain⟨bj,d1,d2⟩:=h 0 (by simp);have vg:=hO e d2;obtain⟨all,b8,a2⟩:=FO (P:=P) (F:=F) (w:=w) (xs:=xs) (p:=⟨p.block,p.off+e.size,none⟩) (λ_=>rfl) (λi G=>by
   obtain⟨RZ,aP,aR⟩:=h (i+1) (by grind);grind)
  refine⟨bj++all,?_,λ_=>an (by simp),λj aE=>?_⟩
  ·have E:gw P e F w bj [x]:=⟨by grind,λi G=>by
    have:i=0:=by grind
    subst this;grind⟩
   exact E.append b8
  ·rcases Nat.lt_or_ge j bj.length with E | E
   ·rw[List.getElem_append_left E];have:=d1.2 j E;grind
   ·rw[List.getElem_append_right E];have:=a2.2 (j - bj.length) (by grind);grind
section
variable {C:b_} {T:Nat->ad} {bf:Nat->Option aK} {o:Oper} {s:az} {res:eB}
theorem sb{a:Act}{w:World}{κ:Nat->bC}{F:Nat->Prop}(M:bl C s a w κ F){e:ad}{av:aG}{v:Value}{ys:List e.ai}{l:List Nat}(h:(dB (.slice e) av).run s.aa=some (ys,l))(ae:bB C.P s.aa κ F w av v) :
  ∃ q cap,v=.slice q ys.length cap/\((q=none/\ys=[]/\cap=0)\/∃ p all,q=some p/\gw C.P e F w all ys/\kv w p all):=by
 have zn:∀ {xs:List e.ai},bI C.P (.slice e) F w [v] xs->∃ q cap,v=.slice q xs.length cap/\((q=none/\xs=[]/\cap=0)\/∃ p all,q=some p/\gw C.P e F w all xs/\kv w p all):=by
  intro xs ah;obtain⟨q,cap,aw,m1,m2,m3,m4⟩:=ah;refine⟨q,cap,(List.cons.inj aw).1,?_⟩;cases q with
  | none=>
   simp_all
  | some p=>
   obtain⟨all,b8,a2⟩:=FO (P:=C.P) (F:=F) (w:=w) (xs:=xs) (p:=p) (λh=>(m4 p rfl (by omega)).2.1) (λi G=>let ⟨bj,d1,d2⟩:=(m4 p rfl (by omega)).2.2 i G;⟨bj,d1.J9,d2⟩);grind
 cases av with
 | val cX y=>
  simp only[dB,aq.bM,Option.map_eq_some_iff,Prod.mk.injEq]at h;obtain⟨z,bk,rfl,_⟩:=h;exact zn (((dU rfl).1 (Fs bk ae)).2)
 | cu=>
  simp only[dB,kq,ad.eE,if_true,dW,aq.bM,Option.some.injEq,Prod.mk.injEq]at h;obtain⟨rfl,_⟩:=h;simp only[bB]at ae;grind
 | own b g=>
  simp only[dB,kq,ad.eE,if_true,dW,aq.e3,aq.bM]at h;split at h
  ·rename_i aB;have aS:=M.bD b;unfold cF at aS;split at h
   ·rename_i a6 xs bS;simp only[Option.map_eq_some_iff,Prod.mk.injEq]at h;obtain⟨z,bk,rfl,_⟩:=h;obtain⟨qX,rfl⟩:=kN bk;cases qX;have tI:=ae.2 aB.symm (by rw[bS];rfl);rw[bS]at tI aS;simp only[bQ.len]at tI;cases aA:(κ b).e8 with
    | true=>
     have hS:=aS.1 aA;subst hS;simp only[bC.slice,aA,if_true]at tI;grind
    | false=>
     obtain⟨cs,hT,bE,c2,c3,c4,c5⟩:=aS.2 aA;simp only[bC.slice,aA,Bool.false_eq_true,if_false]at tI;obtain⟨all,b8,a2⟩:=FO (P:=C.P) (F:=F) (w:=w) (xs:=xs) (p:=⟨(κ b).aa,(κ b).off,none⟩) (λ_=>rfl) (λi G=>by
      obtain⟨bj,d1,d2⟩:=c5 i G;exact⟨bj,⟨λ_=>rfl,λj aE=>by rw[vc bE];grind⟩,d2⟩)
     grind
   ·rename_i a6 xs bS;simp only[Option.map_eq_some_iff,Prod.mk.injEq]at h;obtain⟨z,bk,rfl,_⟩:=h;obtain⟨qX,rfl⟩:=kN bk;cases qX;have tI:=ae.2 aB.symm (by rw[bS];rfl);rw[bS]at tI aS;simp only[bQ.len]at tI;simp only[jB]at aS;grind
   grind
  grind
 | sub b g aY G=>
  simp only[dB,kq,ad.eE,if_true,dW,aq.e3,aq.bM]at h;split at h
  ·rename_i aB;have aS:=M.bD b;unfold cF at aS;split at h
   ·rename_i a6 xs bS;simp only[Option.map_eq_some_iff,Prod.mk.injEq]at h;obtain⟨z,bk,rfl,_⟩:=h;obtain⟨qX,rfl⟩:=kN bk;cases qX;obtain⟨⟨aP,aR⟩,bO⟩:=ae.2 aB.symm (by rw[bS];rfl);rw[bS]at aR bO aS;simp only[bQ.len,bQ.e2]at aR bO;have hlen:((xs.take G).drop aY).length=G - aY:=by grind
    rcases bO with⟨aA,tI⟩ | ⟨aA,mo,tI,hQ,gF⟩
    ·have hS:=aS.1 aA;grind
    ·obtain⟨cs,hT,bE,c2,c3,c4,c5⟩:=aS.2 aA;obtain⟨all,b8,a2⟩:=FO (P:=C.P) (F:=F) (w:=w) (xs:=(xs.take G).drop aY) (p:=⟨(κ b).aa,mo,none⟩) (λ_=>rfl) (λi dK=>by
      rw[hlen]at dK;obtain⟨bj,d1,d2⟩:=c5 (aY+i) (by omega);refine⟨bj,⟨λ_=>rfl,λj aE=>?_⟩,?_⟩
      ·rw[vc bE,<-d1 j aE];grind
      grind)
     grind
   ·rename_i a6 xs bS;simp only[Option.map_eq_some_iff,Prod.mk.injEq]at h;obtain⟨z,bk,rfl,_⟩:=h;obtain⟨qX,rfl⟩:=kN bk;cases qX;obtain⟨⟨aP,aR⟩,bO⟩:=ae.2 aB.symm (by rw[bS];rfl);rw[bS]at aR bO aS;exact zn (Ft aS aP aR bO)
   grind
  grind
 | dV cX y=>simp[dB,kq,ad.eE,dW,aq.none]at h
 | jA u=>simp[dB,kq,ad.eE,dW,BY]at h
 | _=>simp[dB,kq,ad.eE,dW,aq.none]at h
theorem zo{P:Program}{w:World}{e:ad}{q:Option Addr}{n cap:Nat}{xs:List e.ai}{F:Nat->Prop}(aA:n=xs.length)(h:(q=none/\xs=[]/\cap=0)\/∃ p all,q=some p/\gw P e F w all xs/\kv w p all) :
  ∃ all,(Builtin.firstCells e.size n (.slice q n cap)).run P w=.ok all.toArray w/\gw P e F w all xs:=by
 subst aA;rcases h with⟨rfl,rfl,rfl⟩ | ⟨p,all,rfl,b8,a2⟩
 ·exact⟨[],by rfl,by simp[gw]⟩
 ·refine⟨all,?_,b8⟩;simp only[Builtin.firstCells];rw[<-b8.1];exact FD a2
theorem adQ(n:Nat):∀ (k c:Nat),Builtin.growBy n k c<=max c (2*n+768):=by
 intro k;induction k with
 | zero=>intro c;simp only[Builtin.growBy];omega
 | succ k aJ=>
  intro c;simp only[Builtin.growBy];grind
theorem adR{FP cap:Nat}(h:cap<FP):Builtin.nextslicecap FP cap<=2*FP+768:=by
 unfold Builtin.nextslicecap;split
 ·omega
 ·split
  ·omega
  ·have:=adQ FP 4 cap;omega
theorem adS{z:Array Value}{n k:Nat}(h:z.size=k):(Builtin.zeroCells z n).size=n*k:=by simp[Builtin.zeroCells,h]
theorem adT{P:Program}{w:World}{e:ad}{ty mO:TypeId}{F:Nat->Prop}(h:b9 P (.slice e) ty)(ds:b9 P (.slice e) mO\/∃ a6,b9 P (.slice a6) mO){q q':Option Addr}{cap cap':Nat}{xs ys:List e.ai}
  (ah:(q=none/\xs=[]/\cap=0)\/∃ p all,q=some p/\gw P e F w all xs/\kv w p all) (aQ:(q'=none/\ys=[]/\cap'=0)\/∃ p all,q'=some p/\gw P e F w all ys/\kv w p all)
  (hc:cap<xs.length+ys.length) (aj:bP (xs.length+ys.length)) (rt:TypeId) :
  ∃ jJ qY cs,(Builtin.append_ #[ty,mO] rt #[.slice q xs.length cap,.slice q' ys.length cap']).run P w=.ok (.slice (some ⟨w.heap.size,0,none⟩) (xs.length+ys.length) qY) (w.drew.alloc (.cells cs jJ))/\
   qY<2 ^ 63/\xs.length+ys.length<=qY/\cs.size=qY*e.size/\lJ P e F w cs 0 (xs++ys):=by
 obtain⟨jJ,aE,i',ov⟩:=h.sl;obtain⟨j9,fV⟩:∃ j9,P.underlying mO=some (.slice j9):=by
  rcases ds with ds | ⟨a6,ds⟩
  ·obtain⟨j9,k,_⟩:=ds.sl;grind
  ·obtain⟨j9,k,_⟩:=ds.sl;grind
 obtain⟨i,z,i1,i2,i3,i4,i5,i6⟩:=ks i'.kr;have bk:=(Cg e (P:=P) i5).2;have adU:∀ t:Nat,xs.length+ys.length<=xs.length+ys.length+t % (2 ^ 63 - (xs.length+ys.length))/\xs.length+ys.length+t % (2 ^ 63 - (xs.length+ys.length))<2 ^ 63:=by
  intro t;unfold bP at aj;have:t % (2 ^ 63 - (xs.length+ys.length))<2 ^ 63 - (xs.length+ys.length):=Nat.mod_lt _ (by omega);omega
 generalize Kv:xs.length+ys.length+(w.tape w.drawn (.appendCap (xs.length+ys.length) cap jJ)) % (2 ^ 63 - (xs.length+ys.length))=qY;have Kw:=adU (w.tape w.drawn (.appendCap (xs.length+ys.length) cap jJ));rw[Kv]at Kw;have R2:∀ {p:Addr} {all:List Value},kv w p all->kv w.drew p all:=λh=>h;have R3:∀ {all:List Value} {zs:List e.ai},gw P e F w all zs->gw P e F w.drew all zs:=λh=>⟨h.1,λi G=>fe e (F:=F) (F':=F) (w:=w) (w':=w.drew) (λ_ M=>M) ⟨Nat.le_refl _,λ_ _=>rfl⟩ (h.2 i G)⟩
 have nL:(q=none/\xs=[]/\cap=0)\/∃ p all,q=some p/\gw P e F w.drew all xs/\kv w.drew p all:=ah.imp id λ⟨p,all,a,b,c⟩=>⟨p,all,a,R3 b,R2 c⟩
 have Cp:(q'=none/\ys=[]/\cap'=0)\/∃ p all,q'=some p/\gw P e F w.drew all ys/\kv w.drew p all:=aQ.imp id λ⟨p,all,a,b,c⟩=>⟨p,all,a,R3 b,R2 c⟩
 obtain⟨vi,hQ,gF⟩:=zo (P:=P) (w:=w.drew) (cap:=cap) rfl nL;obtain⟨ez,eb,ee⟩:=zo (P:=P) (w:=w.drew) (cap:=cap') rfl Cp;refine⟨jJ,qY,vi.toArray++ez.toArray++Builtin.zeroCells z.cells (qY - (xs.length+ys.length)),?_,Kw.2,Kw.1,?_,?_⟩
 ·have W:=adR hc;have qZ:Builtin.nextslicecap (xs.length+ys.length) cap*i.bytes<=281474976710656:=by
   unfold bP at aj;calc Builtin.nextslicecap (xs.length+ys.length) cap*i.bytes<=(2*4294967296+768)*1024:=Nat.mul_le_mul (by omega) i3
    _<=281474976710656:=by decide
  have zp:¬((xs.length+ys.length:Nat):Int) > IntKind.i64.max:=by
   unfold bP at aj;have:IntKind.i64.max=9223372036854775807:=by decide
   omega
  have adV:¬Builtin.nextslicecap (xs.length+ys.length) cap*i.bytes > 2 ^ 48:=by
   omega
  have R4:(Question.appendCap (xs.length+ys.length) cap jJ).cut (w.tape w.drawn (.appendCap (xs.length+ys.length) cap jJ))=qY:=by
   rw[<-Kv];rfl
  have adW:(Question.appendCap (xs.length+ys.length) cap jJ).forced=false:=rfl;simp only[Builtin.append_,List.getElem?_toArray,List.getElem?_cons_zero,List.getElem?_cons_succ,Sem.run_bind,dC aE,dC fV,Result.andThen_ok,r7 i1,i2,Sem.run_pure,Builtin.lenOf,Bool.false_eq_true,if_false,if_neg (show ¬xs.length+ys.length<=cap by omega),zp,false_and,FB i1,adV,run_choose,adW,R4,run_askRoom,Bool.not_false,if_true,World.drew_eq,hQ,eb,qT i1 i4];rfl
 ·have E:=gF.1;have U:=ee.1;simp only[Array.size_append,List.size_toArray,adS bk,E,U];rw[<-Nat.add_mul,<-Nat.add_mul];grind
 ·have jk:=gF.append ee;have adX:gw P e F w (vi++ez) (xs++ys):=⟨jk.1,λi G=>fe e (F:=F) (F':=F) (w:=w.drew) (w':=w) (λ_ M=>M) ⟨Nat.le_refl _,λ_ _=>rfl⟩ (jk.2 i G)⟩
  exact adX.Co (pre:=[]) (post:=(Builtin.zeroCells z.cells (qY - (xs.length+ys.length))).toList) (by simp)
end
end Go.Fer
namespace Go.Fer
open Go.RowKit
section
variable {C:b_} {T:Nat->ad} {bf:Nat->Option aK} {o:Oper} {s:az} {res:eB}
theorem bl.Cq{a:Act}{w w':World}{κ:Nat->bC}{F:Nat->Prop}(h:bl C s a w κ F){b g:Nat}{e:ad}{zs:List e.ai}{k:bC}(aB:(s.aa b).gen<g)(lk:k.e8=true\/k.aa=w.heap.size)(cd:w.heap.size<=w'.heap.size)
  (nO:∀ r,r<w.heap.size->w'.heap[r]?=w.heap[r]?) (cb:k.e8=false->k.aa<w'.heap.size) (hc:dc w w')
  (bS:∀ H κ',jB C.P H κ' F w' k (.bh e zs)):bl C (s.cy b ⟨g,.bh e zs⟩) a w' (λi=>if i=b then k else κ i) F:=by
 have aj:fq s.aa κ (λi=>if i=b then (⟨g,.bh e zs⟩:bJ) else s.aa i) (λi=>if i=b then k else κ i):=y3 aB λbe db=>by grind
 have he:c1 F w w':=⟨cd,λr M=>nO r (h.da r M)⟩
 refine h.move (H':=λi=>if i=b then (⟨g,.bh e zs⟩:bJ) else s.aa i) aj (λ_ M=>M) (λ_ M=>.inl M) cd (λr M _=>nO r M) hc (λ_=>?_) ?_ ?_ (λr M=>Nat.lt_of_lt_of_le (h.da r M) cd) (y4 (.inr ⟨rfl,rfl⟩) λbe db=>by grind)
 ·intro i;by_cases G:i=b
  ·subst G;simp only[cF,if_true];grind
  ·exact cF.lb (h.bD i) aj (λ_ M=>M) he (by grind) (by grind) λaf=>nO _ (h.own i af).1
 ·intro i G;by_cases eL:i=b
  ·subst eL;simp only[if_true,bQ.bZ,Bool.not_eq_true']at G ⊢;have al:=lk.resolve_left (by grind);refine⟨cb G,λao=>?_,.inr (by omega)⟩;have:=h.da _ ao;omega
  ·simp only[if_neg eL]at G ⊢;have:=h.own i G;grind
 ·intro i j G aE a6;by_cases eL:i=b<;>by_cases mg:j=b
  ·omega
  ·simp only[if_pos eL,if_neg mg,bQ.bZ,Bool.not_eq_true']at G aE a6;have al:=lk.resolve_left (by grind);have:=(h.own j aE).1;omega
  ·simp only[if_neg eL,if_pos mg,bQ.bZ,Bool.not_eq_true']at G aE a6;have al:=lk.resolve_left (by grind);have:=(h.own i G).1;omega
  ·simp only[if_neg eL,if_neg mg]at G aE a6;exact h.inj i j G aE a6
theorem adY(s:az)(b:Nat)(x y:bJ):(s.cy b x).cy b y=s.cy b y:=by
 unfold az.cy;grind
theorem bl.adZ{a:Act}{w:World}{κ:Nat->bC}{F:Nat->Prop}(h:bl C s a w κ F){b:Nat}{e:ad}{xs:List e.ai}(W:(s.aa b).body=.bh e xs){aY G:Nat}(E:aY<=G)(U:G<=xs.length){v:Value}(aD:Fq (κ b) e.size aY G v) :
  ∃ κ',bl C (s.cy b ⟨(s.aa b).gen+1,.bh e ((xs.take G).drop aY)⟩) a w κ' F/\v=(κ' b).slice ((xs.take G).drop aY).length:=by
 have hlen:((xs.take G).drop aY).length=G - aY:=by grind
 have gv:∀ κ':Nat->bC,(∀ be,be≠b->κ' be=κ be)->fq s.aa κ (λi=>if i=b then (⟨(s.aa b).gen+1,.bh e ((xs.take G).drop aY)⟩:bJ) else s.aa i) κ':=
  λκ' BW=>y3 (Nat.lt_succ_self _) BW
 have aS:=h.bD b;unfold cF at aS;rw[W]at aS;rcases aD with⟨aA,rfl⟩ | ⟨aA,o,rfl,hQ,gF⟩
 ·have hS:=aS.1 aA;subst hS;refine⟨κ,?_,by simp[bC.slice,aA]⟩;refine h.move (H':=λi=>if i=b then (⟨(s.aa b).gen+1,.bh e ((([]:List e.ai).take G).drop aY)⟩:bJ) else s.aa i) (gv κ λ_ _=>rfl) (λ_ M=>M) (λ_ M=>.inl M) (Nat.le_refl _) (λ_ _ _=>rfl) (dc.refl _) (λ_=>?_) ?_ ?_ h.da (y4 (.inr ⟨rfl,rfl⟩) λ_ _=>rfl)
  ·intro i;by_cases G:i=b
   ·subst G;simp only[cF,if_true];exact⟨λ_=>by simp,λh=>by grind⟩
   ·exact cF.lb (h.bD i) (gv κ λ_ _=>rfl) (λ_ M=>M) (c1.refl _ _) (by grind) rfl λ_=>rfl
  ·intro i G;by_cases eL:i=b
   ·subst eL;simp[bQ.bZ,aA]at G
   ·simp only[if_neg eL]at G;exact⟨(h.own i G).1,(h.own i G).2.1,.inl ⟨i,G,rfl⟩⟩
  ·intro i j G aE a6;by_cases eL:i=b
   ·subst eL;simp[bQ.bZ,aA]at G
   ·by_cases mg:j=b
    ·subst mg;simp[bQ.bZ,aA]at aE
    ·simp only[if_neg eL,if_neg mg]at G aE;exact h.inj i j G aE a6
 ·obtain⟨cs,hT,bE,c2,c3,c4,c5⟩:=aS.2 aA;let k':bC:=⟨(κ b).aa,o,(κ b).cap - aY,false⟩
  let κ':Nat->bC:=λi=>if i=b then k' else κ i
  have Cr:∀ be,be≠b->κ' be=κ be:=λbe h=>if_neg h;have zq:κ' b=k':=if_pos rfl;have gq:=h.own b (by rw[W];simp[bQ.bZ,aA]);refine⟨κ',?_,by rw[zq,hlen];rfl⟩;refine h.move (H':=λi=>if i=b then (⟨(s.aa b).gen+1,.bh e ((xs.take G).drop aY)⟩:bJ) else s.aa i) (gv κ' Cr) (λ_ M=>M) (λ_ M=>.inl M) (Nat.le_refl _) (λ_ _ _=>rfl) (dc.refl _) (λ_=>?_) ?_ ?_ h.da (y4 (.inr ⟨rfl,rfl⟩) Cr)
  ·intro i;by_cases dK:i=b
   ·subst dK;simp only[cF,if_true,zq];have hmul:aY*e.size<=(κ i).cap*e.size:=Nat.mul_le_mul_right _ (by omega);refine⟨λh=>(by cases h),λ_=>⟨cs,hT,bE,?_,by grind,by grind,λj aE=>?_⟩⟩
    ·simp only[k'];rw[Nat.sub_mul];omega
    ·rw[hlen]at aE;obtain⟨bj,d1,d2⟩:=c5 (aY+j) (by omega);grind
   ·exact cF.lb (h.bD i) (gv κ' Cr) (λ_ M=>M) (c1.refl _ _) (by grind) (Cr i dK) λ_=>rfl
  ·intro i dK;by_cases eL:i=b
   ·subst eL;rw[zq];exact⟨gq.1,gq.2.1,.inl ⟨i,by rw[W];simp[bQ.bZ,aA],rfl⟩⟩
   ·simp only[if_neg eL]at dK;rw[Cr i eL]at dK ⊢;exact⟨(h.own i dK).1,(h.own i dK).2.1,.inl ⟨i,dK,rfl⟩⟩
  ·intro i j dK aE a6;have R5:∀ i,(κ' i).aa=(κ i).aa:=λi=>by
    grind
   have ca:∀ i,((if i=b then (⟨(s.aa b).gen+1,.bh e ((xs.take G).drop aY)⟩:bJ) else s.aa i).body.bZ (κ' i)=true)->(s.aa i).body.bZ (κ i)=true:=λi G=>by
    by_cases eL:i=b
    ·subst eL;rw[W];simp[bQ.bZ,aA]
    grind
   rw[R5,R5]at a6;exact h.inj i j (ca i dK) (ca j aE) a6
theorem lJ.later{P:Program}{e:ad}{F:Nat->Prop}{w w':World}{cs:Array Value}{off:Nat}{xs:List e.ai}(h:lJ P e F w cs off xs)(he:c1 F w w'):lJ P e F w' cs off xs:=h.mono (λ_ M=>M) he
theorem ad0(aU:dT C.P T){args:Array Operand}{dn:Array TypeId}(bg:∀ i,o.dst=some i->i<C.nt)(af:o.op=.call { callee:=.builtin .append,args:=args,argTypes:=dn })(h:(B4 T (a7 C.aM s.ax) o.dst args.toList dn.toList).run s.aa=some res):cJ C o s res:=by
 obtain⟨args⟩:=args;obtain⟨dn⟩:=dn;have au:∀ c,o.op≠.defer c:=by grind
 simp only[B4]at h;split at h
 ·rename_i x y t u;split at h
  ·rename_i e aN aH hu;have dp:=aU.b6 aH (by simp);have ve:=aU.b6 hu (by simp);obtain⟨jJ,aE,i',ov⟩:=dp.sl;obtain⟨ad1,fV,_⟩:=ve.sl;obtain⟨inf,z,i1,i2,i3,i4,i5,i6⟩:=ks i'.kr;have mP:∀ (a:Act) (w w':World) v,(Builtin.append_ #[t,u] o.type #[a.eval x,a.eval y]).run C.P w=.ok v w'->(execOp a.eval o).run C.P w=.ok (.value v) w':=by
    intro a w w' v ae;refine xa af ?_;simp[builtin,ae]
   have main:∀ (s:az) (a:Act) (w:World) (κ:Nat->bC) (F:Nat->Prop) (Q:Exit->Act->World->Prop) (b g:Nat) (xs ys:List e.ai),bl C s a w κ F->
     (∃ q cap,a.eval y=.slice q ys.length cap/\((q=none/\ys=[]/\cap=0)\/∃ p all,q=some p/\gw C.P e F w all ys/\kv w p all))->
     (s.aa b).gen<g->(∃ q cap,a.eval x=.slice q xs.length cap/\((q=none/\xs=[]/\cap=0)\/∃ p all,q=some p/\gw C.P e F w all xs/\kv w p all))->
     (∀ q cap,a.eval x=.slice q xs.length cap->q≠none->xs.length+ys.length<=cap->(s.aa b).body=.bh e xs/\(κ b).e8=false/\q=some ⟨(κ b).aa,(κ b).off,none⟩/\cap=(κ b).cap)->bP (xs.length+ys.length)->
     o.wpIn (dS C.r) 0 C.P a w (λa' w'=>ct C ((s.cy b ⟨g,.bh e (xs++ys)⟩).set o.dst (.own b g)) a' w') Q:=by
    intro s a w κ F Q b g xs ys M nP Kx sc ad2 hlen;obtain⟨q,cap,sc,Ky⟩:=sc;obtain⟨q',cap',tJ,nP⟩:=nP;have Kz:∀ (κ':Nat->bC) (v:Value) (w':World),bl C (s.cy b ⟨g,.bh e (xs++ys)⟩) a w' κ' F->v=(κ' b).slice (xs++ys).length->ct C ((s.cy b ⟨g,.bh e (xs++ys)⟩).set o.dst (.own b g)) (a.put o.dst v) w':=by
     intro κ' v w' bb ae;refine⟨κ',F,bl.set bb bg ⟨⟨by simp[az.cy],?_⟩,λ_ _=>?_⟩⟩
     ·rw[ae];unfold bC.slice;split<;>rfl
     ·rw[ae];simp[az.cy,bQ.len]
    by_cases xe:xs.length+ys.length<=cap
    ·cases br:q with
     | none=>
      subst br;obtain⟨ad3,u6⟩:xs=[]/\cap=0:=by
       grind
      subst ad3;subst u6;have KA:ys=[]:=by grind
      subst KA;obtain⟨ez,eb,ee⟩:=zo (P:=C.P) (w:=w) (cap:=cap') rfl nP;have c6:(Builtin.append_ #[t,u] o.type #[a.eval x,a.eval y]).run C.P w=.ok (.slice none 0 0) w:=by
       rw[sc,tJ];simp only[List.length_nil]at eb ⊢;simp[Builtin.append_,dC aE,dC fV,r7 i1,Builtin.lenOf];rw[i2,eb];simp
      refine ht au (mP a w w _ c6) (Kz _ _ _ (M.Cq (k:=⟨0,0,0,true⟩) Kx (.inl rfl) (Nat.le_refl _) (λ_ _=>rfl) (λh=>by cases h) (dc.refl _) λH κ'=>⟨λ_=>rfl,λh=>by cases h⟩) ?_);simp[bC.slice]
     | some FQ=>
      obtain⟨W,vh,an,xd⟩:=ad2 q cap sc (by grind) xe;rw[br]at an;have an:=Option.some.inj an;subst an;subst xd;have aS:=M.bD b;unfold cF at aS;rw[W]at aS;obtain⟨cs,hT,bE,c2,c3,c4,c5⟩:=aS.2 vh;obtain⟨ez,eb,ee⟩:=zo (P:=C.P) (w:=w) (cap:=cap') rfl nP;have pa:=ee.1;have nN:∀ v∈ez,v.oneCell'=true:=by
       intro v ae;obtain⟨j,aE,rfl⟩:=List.mem_iff_getElem.1 ae;have lj:0<e.size:=Nat.pos_of_ne_zero ov;have hdiv:j / e.size<ys.length:=(Nat.div_lt_iff_lt_mul lj).2 (by omega);have nM:=ee.2 (j / e.size) hdiv;have iA:=y7 (P:=C.P) (H:=λ_=>⟨0,.fy⟩) (κ:=λ_=>⟨0,0,0,true⟩) e nM;have zr:=Nat.mod_lt j lj;have ad4:j / e.size*e.size+j % e.size=j:=Nat.div_add_mod' j e.size;have Cs:((ez.drop (j / e.size*e.size)).take e.size).length=e.size:=hO e nM;have:=(iA.kO (j % e.size) (by rw[iA.len,Cs];omega)).2;grind
      have ad5:(κ b).off+xs.length*e.size+0+ez.length<=cs.size:=by
       rw[pa];have:(xs.length+ys.length)*e.size<=(κ b).cap*e.size:=Nat.mul_le_mul_right _ xe;grind
      obtain⟨w',dh,b4,cv,ef,lh,kx,ml⟩:=vd (P:=C.P) ez ((κ b).off+xs.length*e.size) 0 w cs bE ad5 nN;have c6:(Builtin.append_ #[t,u] o.type #[a.eval x,a.eval y]).run C.P w=.ok (.slice (some ⟨(κ b).aa,(κ b).off,none⟩) (xs.length+ys.length) (κ b).cap) w':=by
       rw[sc,tJ,br];simp only[Builtin.append_,List.getElem?_toArray,List.getElem?_cons_zero,List.getElem?_cons_succ,Sem.run_bind,dC aE,dC fV,Result.andThen_ok,r7 i1,i2,Sem.run_pure,Builtin.lenOf,Bool.false_eq_true,if_false,if_pos xe,Bool.not_false,if_true,eb,va];simp only[b4,Result.andThen_ok]
      have gv:fq s.aa κ (λi=>if i=b then (⟨g,.bh e (xs++ys)⟩:bJ) else s.aa i) κ:=y3 Kx λ_ _=>rfl;refine ht au (mP a w w' _ c6) (Kz κ _ _ (M.o6 (b:=b) (by rw[W];simp[bQ.bZ,vh]) (by simp[bQ.bZ,vh]) gv (λh=>by cases h) (λh=>by cases h) lh kx ml λH mR cb he=>?_) (by simp[bC.slice,vh]));refine⟨λh=>(by grind),λ_=>?_⟩;have FM:dh.size=cs.size:=by
       rw[<-Array.length_toList,ef];grind
      refine⟨dh,hT,cv,by omega,by grind,c4,λi G=>?_⟩;simp only[Nat.add_zero]at ef;have gM:(cs.toList.take ((κ b).off+xs.length*e.size)).length=(κ b).off+xs.length*e.size:=by grind
      by_cases R6:i<xs.length
      ·obtain⟨bj,d1,d2⟩:=c5 i R6;have aw:(xs++ys)[i]=xs[i]:=List.getElem_append_left R6;rw[aw];refine⟨bj,λk al=>?_,fe e (λ_ M=>M) he d2⟩;have R7:=hO e d2;have hle:(i+1)*e.size<=xs.length*e.size:=Nat.mul_le_mul_right _ (by omega);rw[Nat.add_mul]at hle;rw[<-Array.getElem?_toList,ef,List.getElem?_append_left (by omega),List.getElem?_take,if_pos (by omega)];grind
      ·have dK:i - xs.length<ys.length:=by grind
       have aw:(xs++ys)[i]=ys[i - xs.length]:=List.getElem_append_right (by omega);rw[aw];have Ct:=ee.Co (pre:=cs.toList.take ((κ b).off+xs.length*e.size)) (post:=cs.toList.drop ((κ b).off+xs.length*e.size+ez.length)) ef;obtain⟨bj,d1,d2⟩:=Ct (i - xs.length) dK;refine⟨bj,λk al=>?_,fe e (λ_ M=>M) he d2⟩;have:=d1 k al;rw[gM]at this;rw[<-this];congr 1;have:i*e.size=xs.length*e.size+(i - xs.length)*e.size:=by rw[<-Nat.add_mul];grind
       omega
    ·obtain⟨ad6,qY,cs,b4,cv,ef,lh,kx⟩:=adT (P:=C.P) (w:=w) (F:=F) (cap:=cap) (cap':=cap') dp (.inr ⟨aN,ve⟩) Ky nP (by omega) hlen o.type;rw[<-sc,<-tJ]at b4;refine ht au (mP a w _ _ b4) (Kz _ _ _ (M.Cq (k:=⟨w.heap.size,0,qY,false⟩) Kx (.inr rfl) (by simp) (λr M=>?_) (λ_=>by simp) ⟨rfl,rfl,rfl⟩ λH κ'=>⟨λh=>(by cases h),λ_=>⟨cs,ad6,?_,by grind,by grind,cv,?_⟩⟩) ?_)
     ·exact o5 w.drew _ M
     ·exact p1 w.drew _
     ·exact kx.later ⟨by simp,λr bb=>o5 w.drew _ (M.da r bb)⟩
     ·simp[bC.slice]
   simp only[J5]at h;split at h
   ·rename_i b g e_;simp only[aq.e3]at h;split at h
    ·rename_i a6 xs bS;split at h
     ·rename_i q0;subst q0;simp only[aq.e4,Option.bind_eq_some_iff,aq.bM,Option.some.injEq]at h;obtain⟨⟨ys,l⟩,j8,rfl⟩:=h;have aB:(s.aa b).gen=g/\(s.aa b).body=.bh a6 xs:=by
       grind
      intro a w κ F Q M bd hc;have ah:bB C.P s.aa κ F w (use (a7 C.aM s.ax x)).2 (a.eval x):=cO M x rfl bd.1;have nL:=ah;rw[e_]at nL;have ae:=nL.2 aB.1.symm (by rw[aB.2];rfl);rw[aB.2]at ae;simp only[bQ.len]at ae;have hS:(dB (.slice a6) (use (a7 C.aM s.ax x)).2).run s.aa=some (xs,[b]):=by
       rw[e_];simp[dB,kq,ad.eE,dW,aB.1,aB.2,eS]
      refine main s a w κ F Q b (g+1) xs ys M (sb M j8 (cO M y rfl bd.2)) (by omega) (sb M hS ah) (λq cap br KB _=>?_) hc;rw[ae]at br;cases aA:(κ b).e8 with
      | true=>
       simp only[bC.slice,aA,if_true,Value.slice.injEq]at br;grind
      | false=>
       simp only[bC.slice,aA,Bool.false_eq_true,if_false,Value.slice.injEq]at br;grind
     ·cases h
    ·cases h
   ·rename_i b g aY G e_;simp only[aq.e3]at h;split at h
    ·rename_i a6 xs bS;split at h
     ·rename_i q0;subst q0;simp only[aq.e4,Option.bind_eq_some_iff,aq.bM,Option.some.injEq]at h;obtain⟨⟨ys,l⟩,j8,rfl⟩:=h;have aB:(s.aa b).gen=g/\(s.aa b).body=.bh a6 xs:=by
       grind
      intro a w κ F Q M bd hc;have ah:bB C.P s.aa κ F w (use (a7 C.aM s.ax x)).2 (a.eval x):=cO M x rfl bd.1;rw[e_]at ah;obtain⟨⟨aP,aR⟩,bO⟩:=ah.2 aB.1.symm (by rw[aB.2];rfl);rw[aB.2]at aR bO;simp only[bQ.len,bQ.e2]at aR bO;obtain⟨κ',bb,ae⟩:=M.adZ aB.2 aP aR bO;have nP:=sb M j8 (cO M y rfl bd.2);have R8:(s.cy b ⟨(s.aa b).gen+1,.bh a6 ((xs.take G).drop aY)⟩).aa b=⟨(s.aa b).gen+1,.bh a6 ((xs.take G).drop aY)⟩:=by simp[az.cy]
      have hS:(dB (.slice a6) (.own b (g+1))).run (s.cy b ⟨(s.aa b).gen+1,.bh a6 ((xs.take G).drop aY)⟩).aa=some ((xs.take G).drop aY,[b]):=by
       simp[dB,kq,ad.eE,dW,az.cy,aB.1,eS]
      have Ky:bB C.P (s.cy b ⟨(s.aa b).gen+1,.bh a6 ((xs.take G).drop aY)⟩).aa κ' F w (.own b (g+1)) (a.eval x):=by
       refine⟨⟨by grind,ah.1.2⟩,λ_ _=>?_⟩;rw[R8];exact ae
      have:=main (s.cy b ⟨(s.aa b).gen+1,.bh a6 ((xs.take G).drop aY)⟩) a w κ' F Q b (g+2) ((xs.take G).drop aY) ys bb nP (by grind) (sb bb hS Ky) (λq cap br KB _=>?_) hc
      ·rw[adY]at this;exact this
      ·rw[ae]at br;cases aA:(κ' b).e8 with
       | true=>
        simp only[bC.slice,aA,if_true,Value.slice.injEq]at br;grind
       | false=>
        simp only[bC.slice,aA,Bool.false_eq_true,if_false,Value.slice.injEq]at br;grind
     ·cases h
    ·cases h
   ·rename_i e_;simp only[aq.e4,Option.bind_eq_some_iff]at h;obtain⟨⟨ys,l⟩,j8,h⟩:=h;obtain⟨b,W,al⟩:=qV h;simp only[Option.some.injEq]at al;subst al;intro a w κ F Q M bd hc;have ah:bB C.P s.aa κ F w (use (a7 C.aM s.ax x)).2 (a.eval x):=cO M x rfl bd.1;rw[e_]at ah;simp only[bB]at ah;have:=main s a w κ F Q b ((s.aa b).gen+1) [] ys M (sb M j8 (cO M y rfl bd.2)) (Nat.lt_succ_self _) ⟨none,0,ah,.inl ⟨rfl,rfl,rfl⟩⟩ (λq cap br KB _=>by grind) (by grind);exact this
   ·rename_i a6 xs e_;split at h
    ·rename_i q0;subst q0;simp only[aq.e4,Option.bind_eq_some_iff]at h;obtain⟨⟨ys,l⟩,j8,h⟩:=h;obtain⟨b,W,al⟩:=qV h;simp only[Option.some.injEq]at al;subst al;intro a w κ F Q M bd hc;have ah:bB C.P s.aa κ F w (use (a7 C.aM s.ax x)).2 (a.eval x):=cO M x rfl bd.1;rw[e_]at ah;obtain⟨Ko,Ce,FN⟩:=ah;have hS:(dB (.slice a6) (.val (.slice a6) xs)).run s.aa=some (xs,[]):=by
      simp[dB,eS]
     exact main s a w κ F Q b ((s.aa b).gen+1) xs ys M (sb M j8 (cO M y rfl bd.2)) (Nat.lt_succ_self _) (sb M hS Ko) (λq cap br KB xe=>by
      grind) hc.2
    ·cases h
   ·cases h
  ·cases h
 ·cases h
theorem ad7{P:Program}{F:Nat->Prop}{w:World}{all:List Value}{ys:z1'}(h:gw P (.int .u8) F w all ys):all=ys.map (Value.int .u8):=by
 obtain⟨E,U⟩:=h;have E:all.length=ys.length:=E.trans (Nat.mul_one _);apply List.ext_getElem (by simpa using E);intro i G dK;have dz:i<ys.length:=by omega
 obtain⟨e,_⟩:=U i dz;have aD:ad.size (.int .u8)=1:=rfl;rw[aD,Nat.mul_one,List.drop_eq_getElem_cons G]at e;have:=(List.cons.inj e).1;rw[this];simp
theorem R9:∀ (ys:z1') (s:ByteArray),ys.foldl (λr n=>r.push (UInt8.ofNat n.toNat)) s=⟨s.data++(u' ys).toArray⟩
 | [],s=>by simp[u']
 | y::ys,s=>by
  rw[List.foldl_cons,R9 ys];refine congrArg ByteArray.mk ?_;apply Array.ext';simp[u',ByteArray.push]
theorem ad8(ys:z1'):ys.foldl (λr n=>r.push (UInt8.ofNat n.toNat)) ByteArray.empty=⟨(u' ys).toArray⟩:=by
 rw[R9];refine congrArg ByteArray.mk ?_;apply Array.ext';simp[ByteArray.empty,ByteArray.emptyWithCapacity];rfl
theorem ad9(aU:dT C.P T){KC KD:TypeId}{x:Operand}(bg:∀ i,o.dst=some i->i<C.nt)(af:o.op=.convert KC KD x)(h:(bw C.aM T bf (a7 C.aM s.ax) o).run s.aa=some res):cJ C o s res:=by
 simp only[bw,af]at h;split at h
 ·rename_i aP k aR n t1 t2 ah;simp only[bN,aq.bM,Option.some.injEq]at h;subst h;refine cJ.pure (by grind) bg λa w κ F M bd _=>?_;have E:=oo (cO M x rfl bd) ah;have aw:=(aU.b6 t1 (by simp)).int;have aN:=(aU.b6 t2 (by simp)).int;refine⟨.int k (k.wrap n),?_,gU.2 ⟨rfl,p5 _ _⟩⟩;simp[execOp,af,convert,dC aw,dC aN,E.1,Conv.intToInt]
 ·rename_i t1 t2;simp only[aq.e4,Option.bind_eq_some_iff,bN,aq.bM,Option.some.injEq]at h;obtain⟨⟨ys,l⟩,j8,rfl⟩:=h;refine cJ.pure (by grind) bg λa w κ F M bd _=>?_;have hu:=cO M x rfl bd;obtain⟨q,cap,ae,nP⟩:=sb M j8 hu;have cb:ys.length<2 ^ 63:=by
   have E:=mi (F':=λ_=>True) M.bD (λ_ _=>trivial) j8 (λ_ _ _=>trivial) hu;obtain⟨_,U⟩:=(dU rfl).1 E;obtain⟨q',cap',aw,m1,m2,_⟩:=U;have aN:=(List.cons.inj (aw.symm.trans rfl)).1;omega
  obtain⟨jJ,aE,i',_⟩:=(aU.b6 t1 (by simp)).sl;have aw:=i'.int;have aN:=(aU.b6 t2 (by simp)).str;refine⟨.string ⟨(u' ys).toArray⟩,?_,me.2 ⟨rfl,by simpa [u']using cb⟩⟩;have hc:(convert KC KD (a.eval x)).run C.P w=.ok (.string ⟨(u' ys).toArray⟩) w:=by
   rw[ae,run_convert_bytes_string w KC KD jJ q ys.length cap aE aw aN];rcases nP with⟨rfl,rfl,rfl⟩ | ⟨p,all,rfl,ba,ow⟩
   ·rfl
   ·have fT:all=ys.map (Value.int .u8):=ad7 ba;have aj:=FD (P:=C.P) ow;rw[fT,List.length_map]at aj;rw[run_bytesToString w p ys.length cap ys aj];refine congrArg (λs=>Result.ok (Value.string s) w) ?_;exact ad8 ys
  simp[execOp,af,hc]
 ·cases h
end
end Go.Fer
namespace Go.Fer
open Go.RowKit
theorem h1.y6{P:Program}{k:FuncId}{ts aV:ad}{sh R_:ts.ai->A aV.ai}(h:h1 P k ts aV sh)(aD:∀ x,A.le (sh x) (R_ x)):h1 P k ts aV R_ where
 enter:=h.enter
 iU:=λF w args x bo gr ba q1=>by
  obtain⟨E,U⟩:=aD x q1;exact (h.iU F w args x bo gr ba E).mono λe w' ⟨v,y,aw,aN,cE⟩=>⟨v,y,aw,U y aN,cE⟩
def aK.sh(c:aK)(x:c.ts.ai):A c.aV.ai:=A.dR (c.pre x) (c.g x)
def ad_(P:Program)(k:FuncId)(ts:ad)(x:ts.ai)(e:ad)(ys:List e.ai):Prop:=
 ∀ (F:Nat->Prop) (w:World) (args:List Value),(∀ r,F r->r<w.heap.size)->nG P F w->fp P ts F w args x->Calls P k args.toArray w λz w'=>∃ (b:bC) (F':Nat->Prop),z=.returned (b.slice ys.length)/\(∀ r,F r->F' r)/\(∀ r,F' r->F r\/(w.heap.size<=r/\r<w'.heap.size))/\
  (b.e8=true->ys=[])/\(b.e8=false->(w.heap.size<=b.aa/\b.aa<w'.heap.size/\¬F' b.aa)/\∃ cs T,w'.heap[b.aa]?=some (.cells cs T (0,0))/\b.off+b.cap*e.size<=cs.size/\ys.length<=b.cap/\b.cap<2 ^ 63/\lJ P e F' w' cs b.off ys)/\Below w.heap.size w w'
def Cu(P:Program)(k:FuncId)(c:aK):Prop:=(∀ args w,(callFunc k args).run P w=.ok (.enter k args) w)/\∀ x,c.pre x->∀ y,B6 c.aV (c.g x)=some y->ad_ P k c.ts x y.1 y.2
def jm(P:Program)(bf:Nat->Option aK):Prop:=∀ k c,bf k=some c->(nJ c.aV=false->h1 P k c.ts c.aV c.sh)/\(nJ c.aV=true->Cu P k c)
theorem ad'{t:ad}{y:t.ai}{z:(e:ad)×List e.ai}(h:B6 t y=some z):nJ t=true:=by
 unfold B6 at h;unfold nJ;split at h<;>simp_all
theorem aea{t:ad}{y:t.ai}(h:B6 t y=none):nJ t=false:=by
 cases hc:nJ t with
 | false=>rfl
 | true=>
  unfold nJ at hc;split at hc
  ·cases h
  ·cases hc
theorem j_{t:ad}(aH:t.gE=true)(avs:List aG):iX t avs=(match avs with | [v]=>dB t v | _=>.none:aq (Option (t.ai×List Nat))):=by
 cases t<;>first
  | (cases aH;done)
  | (rcases avs with _ | ⟨v,_ | ⟨u,aC⟩⟩<;>rfl)
theorem vj{P:Program}{H:Nat->bJ}{κ:Nat->bC}{F F':Nat->Prop}{w:World}(aS:∀ b,cF P H κ F w b)(bo:∀ r,F r->F' r):∀ (t:ad) {avs:List aG} {aC:List Value} {x:t.ai} {l:List Nat},(iX t avs).run H=some (x,l)->
  iW H κ F' l->avs.length=aC.length->(∀ i (h:i<avs.length) (ds:i<aC.length),bB P H κ F w avs[i] aC[i])->fp P t F' w aC x:=by
 have gE:∀ (t:ad),t.gE=true->∀ {avs:List aG} {aC:List Value} {x:t.ai} {l:List Nat},(match avs with | [v]=>dB t v | _=>.none:aq (Option (t.ai×List Nat))).run H=some (x,l)->
   iW H κ F' l->avs.length=aC.length->(∀ i (h:i<avs.length) (ds:i<aC.length),bB P H κ F w avs[i] aC[i])->fp P t F' w aC x:=by
  intro t aH avs aC x l h aj hlen fT;split at h
  ·rename_i v;match aC,hlen with
   | [u],_=>
    refine (r0 aH).2 ⟨u,rfl,mi aS bo h aj ?_⟩;exact fT 0 (by simp) (by simp)
  ·cases h
 intro t;induction t with
 | ay a b fx eJ=>
  intro avs aC x l h aj hlen fT;match avs,aC,hlen with
  | [],_,_=>simp[iX,aq.none]at h
  | v::avs,u::aC,hlen=>
   simp only[iX,aq.e4,Option.bind_eq_some_iff,aq.bM,Option.some.injEq,Prod.mk.injEq]at h;obtain⟨⟨y,m⟩,E,⟨z,dx⟩,U,rfl,rfl⟩:=h;refine BS.2 ⟨mi aS bo E aj.left (fT 0 (by simp) (by simp)),?_⟩;exact eJ U aj.right (by grind) λi G dK=>by
    have:=fT (i+1) (by grind) (by grind);grind
 | cT=>
  intro avs aC x l h aj hlen fT;match avs,aC,hlen with
  | [],[],_=>exact⟨rfl,rfl⟩
  | _::_,_,_=>simp[iX,aq.none]at h
 | bool=>intro avs aC x l h;rw[j_ rfl]at h;exact gE _ rfl h
 | int k=>intro avs aC x l h;rw[j_ rfl]at h;exact gE (.int k) rfl h
 | str=>intro avs aC x l h;rw[j_ rfl]at h;exact gE _ rfl h
 | st t _=>intro avs aC x l h;rw[j_ rfl]at h;exact gE (.st t) rfl h
 | slice e _=>intro avs aC x l h;rw[j_ rfl]at h;exact gE (.slice e) rfl h
 | array n e _=>intro avs aC x l h;rw[j_ rfl]at h;exact gE (.array n e) rfl h
 | bH e _=>intro avs aC x l h;rw[j_ rfl]at h;exact gE (.bH e) rfl h
 | map k v _ _=>intro avs aC x l h;rw[j_ rfl]at h;exact gE (.map k v) rfl h
 | fn a b _ _=>intro avs aC x l h;rw[j_ rfl]at h;exact gE (.fn a b) rfl h
 | cr a _=>intro avs aC x l h;rw[j_ rfl]at h;exact gE (.cr a) rfl h
 | et=>intro avs aC x l h;rw[j_ rfl]at h;exact gE .et rfl h
theorem p_{H:Nat->bJ}:∀ (t:ad) {avs:List aG} {x:t.ai} {l:List Nat},(iX t avs).run H=some (x,l)->gL H l:=by
 have gE:∀ (t:ad),t.gE=true->∀ {avs:List aG} {x:t.ai} {l:List Nat},(match avs with | [v]=>dB t v | _=>.none:aq (Option (t.ai×List Nat))).run H=some (x,l)->gL H l:=by
  intro t _ avs x l h;split at h
  ·exact mQ h
  ·cases h
 intro t;induction t with
 | ay a b fx eJ=>
  intro avs x l h;match avs with
  | []=>simp[iX,aq.none]at h
  | v::avs=>
   simp only[iX,aq.e4,Option.bind_eq_some_iff,aq.bM,Option.some.injEq,Prod.mk.injEq]at h;obtain⟨⟨y,m⟩,E,⟨z,dx⟩,U,rfl,rfl⟩:=h;exact (mQ E).append (eJ U)
 | cT=>
  intro avs x l h;match avs with
  | []=>
   simp only[iX,aq.bM,Option.some.injEq,Prod.mk.injEq]at h;rw[<-h.2];exact .nil H
  | _::_=>simp[iX,aq.none]at h
 | bool=>intro avs x l h;rw[j_ rfl]at h;exact gE _ rfl h
 | int k=>intro avs x l h;rw[j_ rfl]at h;exact gE (.int k) rfl h
 | str=>intro avs x l h;rw[j_ rfl]at h;exact gE _ rfl h
 | st t _=>intro avs x l h;rw[j_ rfl]at h;exact gE (.st t) rfl h
 | slice e _=>intro avs x l h;rw[j_ rfl]at h;exact gE (.slice e) rfl h
 | array n e _=>intro avs x l h;rw[j_ rfl]at h;exact gE (.array n e) rfl h
 | bH e _=>intro avs x l h;rw[j_ rfl]at h;exact gE (.bH e) rfl h
 | map k v _ _=>intro avs x l h;rw[j_ rfl]at h;exact gE (.map k v) rfl h
 | fn a b _ _=>intro avs x l h;rw[j_ rfl]at h;exact gE (.fn a b) rfl h
 | cr a _=>intro avs x l h;rw[j_ rfl]at h;exact gE (.cr a) rfl h
 | et=>intro avs x l h;rw[j_ rfl]at h;exact gE .et rfl h
theorem aeb{H:Nat->bJ}{e:ad}{ps:List (Nat×aG)}:∀ (n i:Nat) {xs:List e.ai} {l:List Nat},(tA e ps i n).run H=some (xs,l)->gL H l:=by
 intro n;induction n with
 | zero=>intro i xs l h;cases h;exact .nil H
 | succ n aJ=>
  intro i xs l h;simp only[tA,aq.e4,Option.bind_eq_some_iff,aq.bM,Option.some.injEq,Prod.mk.injEq]at h;obtain⟨⟨x,m⟩,E,⟨ys,dx⟩,U,rfl,rfl⟩:=h;refine gL.append ?_ (aJ (i+1) U);split at E
  ·exact mQ E
  ·simp only[aq.bM,Option.some.injEq,Prod.mk.injEq]at E;rw[<-E.2];exact .nil H
theorem R'{P:Program}{F F':Nat->Prop}{w w':World}{t:ad}{aC:List Value}{x:t.ai}(aH:t.pure=true)(h:fp P t F w aC x):fp P t F' w' aC x:=⟨h.1,acY t aH h.2⟩
theorem tK{P:Program}{H:Nat->bJ}{κ:Nat->bC}{F:Nat->Prop}{w:World}:∀ (t:ad) {aC:List Value} {y:t.ai},fp P t F w aC y->t≠.cT->aC.length=j5 t/\∀ i,i<j5 t->bB P H κ F w (kt t y i) (aC.getD i Go.undef):=by
 intro t;induction t with
 | ay a b _ eJ=>
  intro aC y h _;obtain⟨v,us,rfl,E,U⟩:=Fm h;by_cases W:b=.cT
  ·subst W;have:us=[]:=U.1;subst this;refine⟨rfl,λi G=>?_⟩;cases i with
   | zero=>exact E
   | succ i=>simp only[j5]at G;omega
  ·obtain⟨aP,aR⟩:=eJ U W;refine⟨by simp[j5,aP],λi G=>?_⟩;cases i with
   | zero=>exact E
   | succ i=>
    have:=aR i (by simp only[j5]at G;omega);simpa [kt]using this
 | cT=>simp
 | _=>
  intro aC y h _;obtain⟨v,rfl,E⟩:=(r0 rfl).1 h;refine⟨rfl,λi G=>?_⟩;simp only[j5]at G;have:i=0:=by omega
  subst this;exact E
theorem Cv{P:Program}{H:Nat->bJ}{κ:Nat->bC}{F:Nat->Prop}{w:World}{t:ad}{v:Value}{y:t.ai}(h:tt P t F w v y):bB P H κ F w (qQ t y) v:=by
 have pZ:=@tK P H κ F w;obtain⟨aC,E,U⟩:=h;cases t with
 | ay a b=>
  simp only[yZ]at E;obtain⟨aP,aR⟩:=pZ (.ay a b) U (by simp);exact⟨aC,E,aP,aR⟩
 | cT=>exact E.1
 | _=>
  obtain⟨u,rfl,hu⟩:=(r0 rfl).1 U;have:v=u:=by simpa [yZ,eq_comm]using E
  rw[this];exact hu
section
variable {C:b_} {T:Nat->ad} {bf:Nat->Option aK} {o:Oper} {s:az} {res:eB}
theorem bl.grow{a:Act}{w w':World}{κ:Nat->bC}{F:Nat->Prop}(h:bl C s a w κ F)(W:Below w.heap.size w w'):bl C s a w' κ (u3 F w w'):=by
 have he:c1 F w w':=⟨W.size,λr M=>W.block r (h.da r M)⟩
 refine h.move (H':=s.aa) (fq.refl _ _) (λ_ M=>.inl M) (λr M=>M.imp id λM=>.inr M.1) W.size (λr M _=>W.block r M) ⟨W.os,W.tape,W.output⟩ (λ_=>?_) ?_ h.inj ?_ (λ_ _ h=>⟨rfl,h⟩)
 ·intro b;exact cF.lb (h.bD b) (fq.refl _ _) (λ_ M=>.inl M) he rfl rfl λaf=>W.block _ (h.own b af).1
 ·intro b af;have:=h.own b af;refine⟨Nat.lt_of_lt_of_le this.1 W.size,λao=>?_,.inl ⟨b,af,rfl⟩⟩;rcases ao with ao | ⟨ao,_⟩
  ·exact this.2.1 ao
  ·omega
 ·intro r M;rcases M with M | ⟨_,M⟩
  ·exact Nat.lt_of_lt_of_le (h.da r M) W.size
  omega
theorem Cw{r:Option Nat}{P:Program}{o:Oper}{a:Act}{w:World}{K:Act->World->Prop}{Q:Exit->Act->World->Prop}{f:FuncId}{args:Array Value}{R:Ending->World->Prop}(au:∀ c,o.op≠.defer c)
  (h:(execOp a.eval o).run P w=.ok (.enter f args) w) (hc:Calls P f args w R) (al:∀ e w',R e w'->∃ v,e=.returned v/\K (a.put o.dst v) w'):o.wpIn (dS r) 0 P a w K Q:=by
 refine⟨λ_ _=>trivial,?_⟩;rw[ze au,h];refine⟨λaD=>(by cases aD),?_⟩;have E:CallsIn Fence.wide 0 P f args w R:=callsIn_wide.2 hc;have U:CallsIn (dS r) 0 P f args w R:=by
  cases r with
  | none=>exact E
  | some l=>exact CallsIn.inRound l E
 refine U.mono λe w' he=>?_;grind
theorem Sa{a:Act}{w:World}{κ:Nat->bC}{F:Nat->Prop}{ts:ad}(M:bl C s a w κ F){args:Array Operand}(bd:jG (args.toList.map (a7 C.aM s.ax))){x:ts.ai}{l:List Nat}
  (ah:(iX ts ((args.toList.map (a7 C.aM s.ax)).map λv=>(use v).2)).run s.aa=some (x,l)):∃ F',(∀ r,F r->F' r)/\bl C (s.cA l) a w κ F'/\fp C.P ts F' w (args.toList.map a.eval) x:=by
 obtain⟨args⟩:=args;obtain⟨F',f1,bb,f2⟩:=bl.lg (p_ ts ah) M;refine⟨F',f1,bb,vj M.bD f1 ts ah f2 (by simp) λi G dK=>?_⟩;simp only[List.getElem_map];have dz:i<args.length:=by grind
 have E:=r8 bd i (by grind);have aw:(args.map (a7 C.aM s.ax)).getD i .undef=a7 C.aM s.ax args[i]:=by grind
 rw[show (List.map (a7 C.aM s.ax) (⟨args⟩:Array Operand).toList)=args.map (a7 C.aM s.ax) from rfl,aw]at E;exact o8 (j7 M args[i]) E
theorem Sb{a:Act}{w:World}{κ:Nat->bC}{F:Nat->Prop}{Q:Exit->Act->World->Prop}{K:Act->World->Prop}{k:FuncId}{ts aV:ad}{sh:ts.ai->A aV.ai}(M:bl C s a w κ F)(ao:h1 C.P k ts aV sh)
  (bg:∀ i,o.dst=some i->i<C.nt) {args:Array Operand} {dn:Array TypeId} (af:o.op=.call { callee:=.value (.func k),args:=args,argTypes:=dn }) (bd:jG (args.toList.map (a7 C.aM s.ax))) {x:ts.ai} {l:List Nat}
  (ah:(iX ts ((args.toList.map (a7 C.aM s.ax)).map λv=>(use v).2)).run s.aa=some (x,l)) (aD:(sh x).ck)
  (al:∀ y w',(sh x).bK y->∀ v,ct C ((if aV.pure then s else s.cA l).set o.dst (qQ aV y)) (a.put o.dst v) w'->K (a.put o.dst v) w'):o.wpIn (dS C.r) 0 C.P a w K Q:=by
 have au:∀ c,o.op≠.defer c:=by grind
 obtain⟨args⟩:=args;have c6:(execOp a.eval o).run C.P w=.ok (.enter k (args.map a.eval).toArray) w:=by
  simp only[execOp,af,Sem.run_bind,resolve,Act.eval,Deferred.ofValue,Sem.run_pure,Result.andThen_ok,invoke];have:=ao.enter (args.map a.eval).toArray w;grind
 obtain⟨F',f1,bb,dX⟩:=Sa M bd ah;refine Cw au c6 (ao.iU F' w _ x bb.da bb.iz dX aD) λe w' ⟨v,y,he,aQ,gu,W⟩=>⟨v,he,al y w' aQ v ?_⟩
 by_cases an:aV.pure=true
 ·rw[if_pos an];have aB:=M.grow W;refine⟨κ,_,aB.set bg (Cv ?_)⟩;obtain⟨aC,dy,dO⟩:=gu;exact⟨aC,dy,R' an dO⟩
 ·rw[if_neg an];have aB:=bb.grow W;exact⟨κ,_,aB.set bg (Cv gu)⟩
theorem bl.hF{a:Act}{w w':World}{κ:Nat->bC}{F F':Nat->Prop}(h:bl C s a w κ F){b g:Nat}{e:ad}{ys:List e.ai}{k:bC}(BX:b<eQ)(aB:(s.aa b).gen<g)(W:Below w.heap.size w w')
  (bo:∀ r,F r->F' r) (tr:∀ r,F' r->F r\/(w.heap.size<=r/\r<w'.heap.size)) (E:k.e8=true->ys=[])
  (U:k.e8=false->(w.heap.size<=k.aa/\k.aa<w'.heap.size/\¬F' k.aa)/\∃ cs T,w'.heap[k.aa]?=some (.cells cs T (0,0))/\k.off+k.cap*e.size<=cs.size/\ys.length<=k.cap/\k.cap<2 ^ 63/\lJ C.P e F' w' cs k.off ys) :
  bl C (s.cy b ⟨g,.bh e ys⟩) a w' (λi=>if i=b then k else κ i) F':=by
 have aj:fq s.aa κ (λi=>if i=b then ⟨g,.bh e ys⟩ else s.aa i) (λi=>if i=b then k else κ i):=y3 aB λbe db=>by grind
 refine h.move (H':=λi=>if i=b then ⟨g,.bh e ys⟩ else s.aa i) aj bo (λr M=>(tr r M).imp id λh=>.inr h.1) W.size (λr M _=>W.block r M) ⟨W.os,W.tape,W.output⟩ (λhe=>?_) ?_ ?_ ?_ (y4 (.inl BX) λbe db=>by grind)
 ·intro i;by_cases G:i=b
  ·subst G;simp only[cF,if_true];exact⟨E,λaA=>(U aA).2⟩
  ·refine cF.lb (h.bD i) aj bo he (by grind) (by grind) λaf=>?_;exact W.block _ (h.own i af).1
 ·intro i G;by_cases eL:i=b
  ·subst eL;simp only[if_true,bQ.bZ,Bool.not_eq_true']at G ⊢;obtain⟨⟨aP,aR,bO⟩,_⟩:=U G;exact⟨aR,bO,.inr aP⟩
  ·simp only[if_neg eL]at G ⊢;have:=h.own i G;refine⟨Nat.lt_of_lt_of_le this.1 W.size,λao=>?_,.inl ⟨i,G,rfl⟩⟩;rcases tr _ ao with ao | ao
   ·exact this.2.1 ao
   ·omega
 ·intro i j G aE a6;by_cases eL:i=b<;>by_cases mg:j=b
  ·omega
  ·simp only[if_pos eL,if_neg mg,bQ.bZ,Bool.not_eq_true']at G aE a6;have:=(h.own j aE).1;have:=(U G).1.1;omega
  ·simp only[if_neg eL,if_pos mg,bQ.bZ,Bool.not_eq_true']at G aE a6;have:=(h.own i G).1;have:=(U aE).1.1;omega
  ·simp only[if_neg eL,if_neg mg]at G aE a6;exact h.inj i j G aE a6
 ·intro r M;rcases tr r M with ds | ds
  ·exact Nat.lt_of_lt_of_le (h.da r ds) W.size
  ·exact ds.2
theorem aec(cB:jm C.P bf){k:FuncId}{args:Array Operand}{dn:Array TypeId}(bg:∀ i,o.dst=some i->i<C.nt)(af:o.op=.call { callee:=.value (.func k),args:=args,argTypes:=dn })(h:(bw C.aM T bf (a7 C.aM s.ax) o).run s.aa=some res):cJ C o s res:=by
 simp only[bw,af,mN,Fy]at h;split at h
 ·rename_i c hc;simp only[aq.e4,Option.bind_eq_some_iff]at h;obtain⟨⟨x,l⟩,ah,h⟩:=h;split at h
  ·rename_i y aQ;simp only[aq.run_bind]at h;obtain⟨d,au,h⟩:=qV h;split at h
   ·cases h
   rename_i tL;cases h;have tL:d ∉ l:=by simpa using tL
   have KE:=bg d au;intro a w κ F Q M bd gM;obtain⟨aP,aR⟩:=(cB k c hc).2 (ad' aQ);obtain⟨F',f1,bb,dX⟩:=Sa M bd ah;have c6:(execOp a.eval o).run C.P w=.ok (.enter k (args.map a.eval)) w:=by
    simp only[execOp,af,Sem.run_bind,resolve,Act.eval,Deferred.ofValue,Sem.run_pure,Result.andThen_ok,invoke];have:=aP (args.map a.eval) w;grind
   have jn:=aR x gM y aQ F' w _ bb.da bb.iz dX;rw[show (args.toList.map a.eval).toArray=args.map a.eval from by rw[<-Array.toList_map,Array.toArray_toList]]at jn;refine Cw (by grind) c6 jn λz w' ⟨b,ek,bk,g1,ew,g3,g4,g5⟩=>⟨_,bk,?_⟩
   have zt:(s.cA l).aa d=s.aa d:=by simp[az.cA,tL]
   have jk:=bb.hF (b:=d) (g:=(s.aa d).gen+1) (e:=y.1) (ys:=y.2) (k:=b) (Nat.lt_of_lt_of_le KE M.gp) (by rw[zt];omega) g5 g1 ew g3 g4;refine⟨λi=>if i=d then b else κ i,ek,?_⟩;simp only[az.h5];rw[Cf,tE];refine jk.set bg ⟨⟨by simp[az.cy],by unfold bC.slice;split<;>rfl⟩,λ_ _=>by simp[az.cy,bQ.len]⟩
  rename_i aQ;simp only[aq.run_bind,aq.bM,Option.some.injEq]at h;subst h;intro a w κ F Q M bd gM;refine Sb M ((cB k c hc).1 (aea aQ)) bg af bd ah gM λy w' aQ v j'=>?_;have aQ:y=c.g x:=aQ;subst aQ;have e:∀ (r:aq (List (Nat×bJ))),r=(if c.aV.pure then .ret [] else jF l)->s.gh (r.run s.aa)=(if c.aV.pure then s else s.cA l):=by
   intro r M;subst M;split
   ·rfl
   ·exact tE s l
  simp only[az.h5];grind
 ·cases h
theorem Sc{P:Program}{H:Nat->bJ}{κ:Nat->bC}{F F':Nat->Prop}{w:World}(aS:∀ b,cF P H κ F w b)(bo:∀ r,F r->F' r){e:ad}{zero:List Value}(bk:bI P e F' w zero e.de){ps:List (Nat×aG)}{qs:List (Nat×Value)}(hlen:ps.length=qs.length)
  (fT:∀ i (h:i<ps.length) (ds:i<qs.length),ps[i].1=qs[i].1/\bB P H κ F w ps[i].2 qs[i].2):∀ (n i:Nat) {xs:List e.ai} {l:List Nat},(tA e ps i n).run H=some (xs,l)->
  iW H κ F' l->xs.length=n/\∀ j (h:j<xs.length),∃ bj,bI P e F' w bj xs[j]/\(match qs.find? (λp=>p.1 == i+j) with | some q=>bj=q.2.cells.toList | none=>bj=zero):=by
 have find:∀ (ps:List (Nat×aG)) (qs:List (Nat×Value)),ps.length=qs.length->(∀ i (h:i<ps.length) (ds:i<qs.length),ps[i].1=qs[i].1/\bB P H κ F w ps[i].2 qs[i].2)->∀ i,(ps.find? (λp=>p.1 == i)=none/\qs.find? (λp=>p.1 == i)=none)\/∃ p q,ps.find? (λp=>p.1 == i)=some p/\qs.find? (λp=>p.1 == i)=some q/\bB P H κ F w p.2 q.2:=by
  intro ps;induction ps with
  | nil=>grind
  | cons p ps aJ=>
   intro qs aj h i;cases qs with
   | nil=>grind
   | cons q qs=>
    have aX:=h 0 (by simp) (by simp);simp only[List.getElem_cons_zero]at aX;by_cases an:p.1=i
    ·grind
    ·have br:q.1≠i:=by omega
     have:=aJ qs (by grind) (λj aE fV=>by have:=h (j+1) (by grind) (by grind);grind) i;grind
 intro n;induction n with
 | zero=>intro i xs l h _;cases h;simp
 | succ n aJ=>
  intro i xs l h aj;simp only[tA,aq.e4,Option.bind_eq_some_iff,aq.bM,Option.some.injEq,Prod.mk.injEq]at h;obtain⟨⟨x,m⟩,E,⟨ys,dx⟩,U,rfl,rfl⟩:=h;obtain⟨aP,aR⟩:=aJ (i+1) U aj.right;refine⟨by grind,λj aE=>?_⟩;cases j with
  | zero=>
   rcases find ps qs hlen fT i with⟨f1,f2⟩ | ⟨p,q,f1,f2,f3⟩
   ·rw[f1]at E;simp only[aq.bM,Option.some.injEq,Prod.mk.injEq]at E;grind
   ·rw[f1]at E;refine⟨q.2.cells.toList,(mi aS bo E aj.left f3).2,?_⟩;grind
  | succ j=>
   obtain⟨bj,d1,d2⟩:=aR j (by grind);grind
end
end Go.Fer
namespace Go.Fer
open Go.RowKit
def sd(d:Nat)(em:Bool)(xs:Array Value):List Field->Sem Unit
 | []=>pure ()
 | f::eT=>
  if f.name ≠ "_" then do
   let a <-part f.type xs f.offset
   Instr.checkKey em d f.type a
   sd d em xs eT
  else sd d em xs eT
theorem aed{P:Program}(w:World)(em:Bool)(d:Nat)(t:TypeId)(xs:Array Value)(aH:P.underlying t=some (.struct (P.fieldsOf t))) :
  (Instr.checkKey em (d+1) t (.agg xs)).run P w=(sd d em xs (P.fieldsOf t).toList).run P w:=by
 simp only[Instr.checkKey,Sem.run_bind,dC aH,Result.andThen_ok];rw[<-Array.forIn_toList];generalize (P.fieldsOf t).toList=eT;clear aH;induction eT generalizing w with
 | nil=>rfl
 | cons f eT aJ=>
  simp only[List.forIn_cons,sd,Sem.run_bind,Sem.run_ite];split
  ·generalize (part f.type xs f.offset).run P w=b4;cases b4 with
   | ok a cn=>
    simp only[Result.andThen_ok];generalize (Instr.checkKey em d f.type a).run P cn=cv;cases cv with
    | ok b c7=>
     simp_all
    | halt x c7=>rfl
   | halt x cn=>rfl
  simp_all
theorem Cx{P:Program}{F:Nat->Prop}{w:World}{em:Bool}:∀ (t:ad) (d:Nat),t.kP=true->t.j6<=d->
  (∀ {id:TypeId} {v:Value} {x:t.ai},b9 P t id->eu P t F w v x->(Instr.checkKey em d id v).run P w=.ok () w)/\
  (∀ {l:List Field} {off:Nat} {xs:Array Value} {p c q:List Value} {x:t.ai},cG P t (.inr (l,off))=true->xs.toList=p++(c++q)->p.length=off->bI P t F w c x->
   (sd d em xs l).run P w=.ok () w):=by
 intro t;induction t with
 | bool=>
  intro d _ au;refine⟨λ{id v x} h E=>?_,λh=>by simp[cG]at h⟩;rw[ff.1 E];obtain⟨d,rfl⟩:∃ e,d=e+1:=⟨d - 1,by simp only[ad.j6]at au;omega⟩
  unfold b9 at h;simp only[cG,Bool.and_eq_true]at h;obtain⟨_,h⟩:=h;split at h
  ·rename_i hu;simp[Instr.checkKey,dC hu]
  grind
 | int k=>
  intro d _ au;refine⟨λ{id v x} h E=>?_,λh=>by simp[cG]at h⟩;rw[(gU.1 E).1];obtain⟨d,rfl⟩:∃ e,d=e+1:=⟨d - 1,by simp only[ad.j6]at au;omega⟩
  simp[Instr.checkKey,dC (b9.int h)]
 | str=>
  intro d _ au;refine⟨λ{id v x} h E=>?_,λh=>by simp[cG]at h⟩;rw[(me.1 E).1];obtain⟨d,rfl⟩:∃ e,d=e+1:=⟨d - 1,by simp only[ad.j6]at au;omega⟩
  simp[Instr.checkKey,dC (b9.str h)]
 | cT=>intro d h;cases h
 | slice e _=>intro d h;cases h
 | array n e _=>intro d h;cases h
 | bH e _=>intro d h;cases h
 | map k v _ _=>intro d h;cases h
 | fn a b _ _=>intro d h;cases h
 | cr a _=>intro d h;cases h
 | et=>intro d h;cases h
 | ay a b fx eJ=>
  intro d hc au;simp only[ad.kP,Bool.and_eq_true]at hc;simp only[ad.j6]at au;have Kb:=fx d hc.1 (by omega);have o3:=eJ d hc.2 (by omega);refine⟨λh=>by unfold b9 at h;simp[cG]at h,?_⟩;intro l off xs p c q x h ah an o_;simp only[bI]at o_;obtain⟨bE,c2,rfl,aP,aR⟩:=o_;have e1:=hO a aP;have step : ∀ (f : Field) (cm : List Field), f.offset = off -> b9 P a f.type -> f.name ≠ "_" -> (sd d em xs (f :: cm)).run P w = (sd d em xs cm).run P w := by
   intro f cm af ao aA;obtain⟨v,b4,cv⟩:=qU (cs:=xs) (p:=p) (c:=bE) (q:=c2++q) ao (by grind) aP;simp only[sd,aA,ne_eq,not_false_eq_true,if_true,Sem.run_bind];rw[af,<-an,b4,Result.andThen_ok,Kb.1 ao cv,Result.andThen_ok]
  match l,h with
  | [],h=>rfl
  | [f],h=>simp only[cG,Bool.false_eq_true]at h
  | [f,g],h=>
   simp only[cG,Bool.and_eq_true,beq_iff_eq,bne_iff_ne,ne_eq]at h;obtain⟨⟨⟨⟨E,U⟩,ag⟩,a1⟩,⟨⟨⟨bL,dm⟩,fS⟩,jg⟩⟩:=h;rw[step f [g] E U a1];obtain⟨v,b4,cv⟩:=qU (cs:=xs) (p:=p++bE) (c:=c2) (q:=q) dm (by grind) aR;have aw:(p++bE).length=g.offset:=by grind
   rw[aw]at b4;simp only[sd,jg,ne_eq,not_false_eq_true,if_true,Sem.run_bind,b4,Result.andThen_ok,o3.1 dm cv,Sem.run_pure]
  | f::g::i::l,h=>
   simp only[cG,Bool.and_eq_true,beq_iff_eq,bne_iff_ne,ne_eq]at h;obtain⟨⟨⟨⟨E,U⟩,ag⟩,a1⟩,bL⟩:=h;rw[step f _ E U a1,o3.2 bL (p:=p++bE) (c:=c2) (q:=q) (by grind) (by grind) aR]
 | st t aJ=>
  intro d hc au;simp only[ad.j6]at au;obtain⟨d,rfl⟩:∃ e,d=e+1:=⟨d - 1,by omega⟩
  refine⟨λ{id v x} h E=>?_,λh=>by simp[cG]at h⟩;have i:=aJ d hc (by omega);obtain⟨aw,aN,cE,ed⟩:=h.B_;obtain⟨⟨xs,rfl,hS⟩,o_⟩:=E;simp only[Value.cells,bI]at o_;rw[aed w em d id xs ed];rcases cE with cE | ⟨f,cE,dY,la,tC⟩ | ⟨rfl,cE⟩
  ·exact i.2 cE (p:=[]) (c:=xs.toList) (q:=[]) (by simp) rfl o_
  ·rw[cE];obtain⟨v,b4,cv⟩:=qU (cs:=xs) (p:=[]) (c:=xs.toList) (q:=[]) la (by simp) o_;simp only[List.length_nil]at b4;simp only[sd,tC,ne_eq,not_false_eq_true,if_true,Sem.run_bind,dY,b4,Result.andThen_ok,i.1 la cv,Sem.run_pure]
  ·cases hc
theorem KF:∀ (t:ad),t.kP=true->∀ (x y:t.ai),gK t x y=true<->x=y:=by
 intro t;induction t with
 | bool=>intro _ x y;simp[gK]
 | int k=>intro _ x y;simp[gK]
 | str=>intro _ x y;simp[gK]
 | st t aJ=>intro h x y;exact aJ h x y
 | ay a b fx eJ=>
  intro h x y;simp only[ad.kP,Bool.and_eq_true]at h;simp only[gK,Bool.and_eq_true,fx h.1,eJ h.2];grind
 | _=>intro h;cases h
def zu{k:ad}{β:Type}(x:k.ai)(es:List MapEntry)(xs:List (k.ai×β))(i:Nat)(r:Option (Nat×Value)):Prop:=
 (r=none/\∀ p∈xs,gK k x p.1=false)\/∃ j e p,es[j]?=some e/\xs[j]?=some p/\gK k x p.1=true/\(∀ j9 q,j9<j->xs[j9]?=some q->gK k x q.1=false)/\r=some (i+j,e.val)
theorem zu.next{k:ad}{β:Type}{x:k.ai}{e:MapEntry}{es:List MapEntry}{p:k.ai×β}{xs:List (k.ai×β)}{i:Nat}{r:Option (Nat×Value)}(h:zu x es xs (i+1) r)(an:gK k x p.1=false):zu x (e::es) (p::xs) i r:=by
 rcases h with⟨E,U⟩ | ⟨j,a6,p',E,U,ag,a1,bL⟩
 ·exact .inl ⟨E,λq br=>by
   grind⟩
 ·refine .inr ⟨j+1,a6,p',by grind,by grind,ag,λj9 q fV br=>?_,by grind⟩;grind
theorem Sd{P:Program}{F:Nat->Prop}{w:World}{k:ad}{β:Type}(hc:k.kP=true)(aA:k.j6<=10000){ll:TypeId}(al:b9 P k ll){tM:Value}{x:k.ai}(ah:eu P k F w tM x):∀ (es:List MapEntry) (xs:List (k.ai×β)) (i:Nat),es.length=xs.length->(∀ (j:Nat) (e:MapEntry) (p:k.ai×β),es[j]?=some e->xs[j]?=some p->eu P k F w e.key p.1)->∃ r,(Instr.findAsking ll tM es i).run P w=.ok r w/\zu x es xs i r
 | [],[],i,_,_=>⟨none,rfl,.inl ⟨rfl,λp an=>by cases an⟩⟩
 | e::es,p::xs,i,aj,h=>by
  have aX:=h 0 e p rfl rfl;have he:=(Ka k 10000 hc aA).1 al ah aX;obtain⟨r,b4,cv⟩:=Sd (β:=β) hc aA al ah es xs (i+1) (by grind) λj a6 p' E U=>h (j+1) a6 p' (by grind) (by grind);cases br:gK k x p.1 with
  | true=>
   refine⟨some (i,e.val),by simp[Instr.findAsking,Op.equal,Op.maxDepth,he,br],.inr ⟨0,e,p,rfl,rfl,br,λj9 q fV=>by omega,rfl⟩⟩
  | false=>exact⟨r,by simp[Instr.findAsking,Op.equal,Op.maxDepth,he,br,b4],cv.next br⟩
theorem Se{P:Program}{F:Nat->Prop}{w:World}{k:ad}{ll:TypeId}(al:b9 P k ll){d:TypeDesc}(au:P.underlying ll=some d){u v:Value}{x y:k.ai}(hu:eu P k F w u x)(ae:eu P k F w v y){b:Bool}(h:Instr.sameNow d u v=some b):b=gK k x y:=by
 cases k with
 | bool=>
  rw[ff.1 hu,ff.1 ae]at h;cases d<;>simp only[Instr.sameNow,Option.some.injEq,reduceCtorEq]at h;rw[<-h];rfl
 | int k=>
  rw[(gU.1 hu).1,(gU.1 ae).1]at h;cases d<;>simp only[Instr.sameNow,if_true,Option.some.injEq,reduceCtorEq]at h;rw[<-h];rfl
 | str=>
  rw[(me.1 hu).1,(me.1 ae).1]at h;cases d<;>simp only[Instr.sameNow,Option.some.injEq,reduceCtorEq]at h;rw[<-h,beq_toListBytes,ByteArray.toList_eq,ByteArray.toList_eq];simp only[gK];grind
 | st t=>
  obtain⟨⟨us,rfl,_⟩,_⟩:=hu;cases d<;>cases v<;>simp[Instr.sameNow]at h
 | array n t=>
  obtain⟨⟨us,rfl,_⟩,_⟩:=hu;cases d<;>cases v<;>simp[Instr.sameNow]at h
 | cT=>exact hu.1.elim
 | ay a b=>exact hu.1.elim
 | slice e=>
  obtain⟨_,a,cap,aw,_⟩:=(dU rfl).1 hu;obtain rfl:=(List.cons.inj aw).1;cases d<;>simp[Instr.sameNow]at h
 | bH e=>
  obtain⟨_,ah⟩:=(dU rfl).1 hu;rcases ah with⟨aw,_⟩ | ⟨p,y,bj,aw,_⟩<;>(obtain rfl:=(List.cons.inj aw).1;cases d<;>simp[Instr.sameNow]at h)
 | map k' h2=>
  obtain⟨_,ah⟩:=(dU rfl).1 hu;rcases ah with⟨aw,_⟩ | ⟨r,es,clk,aw,_⟩<;>(obtain rfl:=(List.cons.inj aw).1;cases d<;>simp[Instr.sameNow]at h)
 | fn a b=>
  obtain⟨i,z,E,U,ag,a1,bL,dm⟩:=ks al.kr;unfold b9 at al;simp only[cG,Bool.and_eq_true,au]at al;cases d<;>simp[Instr.sameNow]at al h
 | cr a=>
  obtain⟨i,z,E,U,ag,a1,bL,dm⟩:=ks al.kr;unfold b9 at al;simp only[cG,Bool.and_eq_true,au]at al;cases d<;>simp[Instr.sameNow]at al h
 | et=>
  obtain⟨i,z,E,U,ag,a1,bL,dm⟩:=ks al.kr;unfold b9 at al;simp only[cG,Bool.and_eq_true,au]at al;cases d<;>simp[Instr.sameNow]at al h
theorem Sf{P:Program}{F:Nat->Prop}{w:World}{k:ad}{β:Type}{ll:TypeId}(al:b9 P k ll){d:TypeDesc}(au:P.underlying ll=some d){tM:Value}{x:k.ai}(ah:eu P k F w tM x):∀ (es:List MapEntry) (xs:List (k.ai×β)) (i:Nat) {r:Option (Nat×Value)},es.length=xs.length->(∀ (j:Nat) (e:MapEntry) (p:k.ai×β),es[j]?=some e->xs[j]?=some p->eu P k F w e.key p.1)->Instr.findNow d tM es i=some r->zu x es xs i r
 | [],[],i,r,_,_,h=>by cases h;exact .inl ⟨rfl,λp an=>by cases an⟩
 | e::es,p::xs,i,r,aj,h,ao=>by
  have aX:=h 0 e p rfl rfl;simp only[Instr.findNow]at ao;split at ao
  ·rename_i aD;have:=Se al au ah aX aD;cases ao;exact .inr ⟨0,e,p,rfl,rfl,this.symm,λj9 q fV=>by omega,rfl⟩
  ·rename_i aD;have:=Se al au ah aX aD;exact (Sf al au ah es xs (i+1) (by grind) (λj a6 p' E U=>h (j+1) a6 p' (by grind) (by grind)) ao).next this.symm
  grind
theorem b9.aee{P:Program}{t:ad}{id:TypeId}(h:b9 P t id)(hc:t.kP=true):∃ d,P.underlying id=some d:=by
 cases t with
 | bool=>
  unfold b9 at h;simp only[cG,Bool.and_eq_true]at h;grind
 | int k=>exact⟨_,b9.int h⟩
 | str=>exact⟨_,b9.str h⟩
 | st t=>exact⟨_,h.B_.2.2.2⟩
 | ay a b=>unfold b9 at h;simp[cG]at h
 | _=>cases hc
theorem xf{P:Program}{F:Nat->Prop}{w:World}{k:ad}{β:Type}(hc:tB k=true){ll:TypeId}(al:b9 P k ll){tM:Value}{x:k.ai}(ah:eu P k F w tM x){es:List MapEntry}{xs:List (k.ai×β)}
  (aj:es.length=xs.length) (h:∀ (j:Nat) (e:MapEntry) (p:k.ai×β),es[j]?=some e->xs[j]?=some p->eu P k F w e.key p.1):∃ r,(Instr.findKey ll tM es).run P w=.ok r w/\zu x es xs 0 r:=by
 simp only[tB,Bool.and_eq_true,decide_eq_true_eq]at hc;obtain⟨d,au⟩:=al.aee hc.1;simp only[Instr.findKey,Sem.run_bind,dC au,Result.andThen_ok];cases aA:Instr.findNow d tM es 0 with
 | some r=>exact⟨r,rfl,Sf al au ah es xs 0 aj h aA⟩
 | none=>exact Sd hc.1 (by omega) al ah es xs 0 aj h
theorem Sg{k v:ad}{es:List (k.ai×v.ai)}{x:k.ai}:∀ {j:Nat} {p:k.ai×v.ai},es[j]?=some p->gK k x p.1=true->(∀ j9 q,j9<j->es[j9]?=some q->gK k x q.1=false)->y' es x=some p.2/\∀ y,lN es x y=es.set j (p.1,y):=by
 induction es with
 | nil=>simp
 | cons q es aJ=>
  intro j p E U ag;cases j with
  | zero=>
   simp at E;subst E;exact⟨by simp[y',U],λy=>by simp[lN,U]⟩
  | succ j=>
   have aX:=ag 0 q (by omega) rfl;obtain⟨aP,aR⟩:=aJ (j:=j) (p:=p) (by grind) U λj9 q' fV tH=>ag (j9+1) q' (by omega) (by grind);exact⟨by simpa [y',List.find?_cons,aX]using aP,λy=>by simp[lN,aX,aR y]⟩
theorem Sh{k v:ad}{es:List (k.ai×v.ai)}{x:k.ai}(h:∀ p∈es,gK k x p.1=false):y' es x=none/\∀ y,lN es x y=es++[(x,y)]:=by
 induction es with
 | nil=>exact⟨rfl,λ_=>rfl⟩
 | cons q es aJ=>
  have aX:=h q (by simp);obtain⟨aP,aR⟩:=aJ λp an=>h p (by grind);exact⟨by simpa [y',List.find?_cons,aX]using aP,λy=>by simp[lN,aX,aR y]⟩
section
variable {C:b_} {T:Nat->ad} {bf:Nat->Option aK} {o:Oper} {s:az} {res:eB}
theorem aef{P:Program}{F:Nat->Prop}{w:World}{v:ad}{z:Value}(ae:v.eE=true\/v.isAgg=true)(i5:j4 v z.cells.toList=some [])(i6:(∃ cs,z=.agg cs)<->v.isAgg=true):eu P v F w z v.de:=by
 obtain⟨c,e,ot,z2⟩:=u9 (P:=P) (H:=λ_=>⟨0,.fy⟩) (κ:=λ_=>⟨0,0,0,true⟩) (F:=F) (w:=w) v i5;rw[List.append_nil]at e;refine⟨?_,by grind⟩;have aj:=hO v ot;rcases ae with ae | ae
 ·obtain⟨u,rfl,hu⟩:=BT ae ot;have FL:∀ cs,z≠.agg cs:=λcs bk=>by
   have:=i6.1 ⟨cs,bk⟩;cases v<;>simp[ad.eE,ad.isAgg]at ae this
  have bk:z.cells=#[z]:=by
   cases z<;>first | rfl | grind
  cases v<;>simp only[ad.eE,Bool.false_eq_true]at ae<;>exact bk
 ·obtain⟨cs,rfl⟩:=i6.2 ae;have a6:cs.toList=c:=e;cases v<;>simp only[ad.isAgg,Bool.false_eq_true]at ae
  ·exact⟨cs,rfl,by rw[<-Array.length_toList,a6,aj];rfl⟩
  ·exact⟨cs,rfl,by rw[<-Array.length_toList,a6,aj];rfl⟩
def KG(P:Program)(k v:ad)(F:Nat->Prop)(w:World)(ms:List MapEntry)(xs:List (k.ai×v.ai)):Prop:=
 ms.length=xs.length/\∀ (j:Nat) (e:MapEntry) (p:k.ai×v.ai),ms[j]?=some e->xs[j]?=some p->eu P k F w e.key p.1/\eu P v F w e.val p.2
theorem u4.es{P:Program}{k v:ad}{F:Nat->Prop}{w:World}{ms:Array MapEntry}{clk:Nat}{xs:List (k.ai×v.ai)}(h:u4 P k v F w ms clk xs):KG P k v F w ms.toList xs:=by
 obtain⟨E,U,ag,a1⟩:=h;refine⟨by omega,λj e p he an=>?_⟩;obtain⟨aE,rfl⟩:=List.getElem?_eq_some_iff.1 an;obtain⟨fV,rfl⟩:=List.getElem?_eq_some_iff.1 he;obtain⟨a,b,c,d,_⟩:=ag j aE (by omega);exact⟨⟨a,by grind⟩,c,by grind⟩
theorem aeg{a:Act}{w:World}{κ:Nat->bC}{F:Nat->Prop}(M:bl C s a w κ F){k v:ad}{av:aG}{u:Value}{xs:List (k.ai×v.ai)}(h:(B7 k v av).run s.aa=some xs)(hu:bB C.P s.aa κ F w av u) :
  (u=.map none/\xs=[])\/∃ r ms clk,u=.map (some r)/\w.heap[r]?=some (.map ms clk)/\KG C.P k v F w ms.toList xs:=by
 have cA:∀ {xs:List (k.ai×v.ai)},bI C.P (.map k v) F w [u] xs->(u=.map none/\xs=[])\/∃ r ms clk,u=.map (some r)/\w.heap[r]?=some (.map ms clk)/\KG C.P k v F w ms.toList xs:=by
  intro xs ah;rcases ah with⟨aw,aN⟩ | ⟨r,ms,clk,aw,E,U,ag,a1,bL,dm⟩
  ·grind
  ·exact .inr ⟨r,ms,clk,(List.cons.inj aw).1,U,u4.es ⟨ag,a1,bL,dm⟩⟩
 cases av with
 | val t es=>
  simp only[B7,aq.bM]at h;exact cA ((dU rfl).1 (Fs h hu)).2
 | jA x=>
  simp only[bB]at hu;subst hu;have ah:u=.map none/\xs=[]:=by
   unfold B7 at h;split at h
   ·grind
   ·simp_all
   ·grind
   ·cases h
  grind
 | fI b g=>
  simp only[B7,aq.e3,aq.bM]at h;split at h
  ·rename_i aB;have aS:=M.bD b;unfold cF at aS;split at h
   ·rename_i k' h2 es W;obtain⟨e,rfl⟩:=kN h;cases e;rw[W]at aS;obtain⟨ms,clk,E,U⟩:=aS;exact .inr ⟨_,ms,clk,hu.2 aB.symm (by rw[W];rfl),E,U.es⟩
   ·rename_i k' h2 es W;obtain⟨e,rfl⟩:=kN h;cases e;rw[W]at aS;have:=hu.2 aB.symm (by rw[W];rfl);simp only[jB]at aS;grind
   grind
  grind
 | _=>cases h
theorem aeh{ty:TypeId}{r:Option Operand}(bg:∀ i,o.dst=some i->i<C.nt)(af:o.op=.makeMap ty r)(h:(bw C.aM T bf (a7 C.aM s.ax) o).run s.aa=some res):cJ C o s res:=by
 simp only[bw,af]at h;split at h
 ·cases h
 ·rename_i Si;have Si:r=none:=by simp_all
  subst Si;split at h
  ·rename_i k v aH;obtain⟨b,au,al⟩:=qV h;simp only[Option.some.injEq]at al;subst al;intro a w κ F Q M _ _;have c6:(execOp a.eval o).run C.P w=.ok (.value (.map (some w.heap.size))) (w.alloc (.map #[] 0)):=by
    simp[execOp,af,Instr.makeMap]
   have E:=M.alloc (b:=b) (x:=⟨(s.aa b).gen+1,.mp k v []⟩) (M.fK (bg b au)) (Nat.lt_succ_self _) (o:=.map #[] 0) (k:=⟨w.heap.size,0,0,false⟩) rfl λH κ' _ _ _=>
    ⟨#[],0,p1 _ _,rfl,by simp,λi G=>by simp,λi j G=>by simp⟩
   refine ht (by grind) c6 ⟨_,F,bl.set (s:=s.cy b _) E bg ⟨⟨by simp[az.cy],rfl⟩,λ_ _=>by simp⟩⟩
  ·cases h
theorem aei(aU:dT C.P T){ty:TypeId}{m x:Operand}{ok:Bool}(bg:∀ i,o.dst=some i->i<C.nt)(af:o.op=.lookup ty m x ok)(h:(bw C.aM T bf (a7 C.aM s.ax) o).run s.aa=some res):cJ C o s res:=by
 simp only[bw,af,za]at h;split at h
 ·rename_i k v aH;split at h
  ·rename_i hc;simp only[Bool.and_eq_true,Bool.or_eq_true]at hc;obtain⟨i,j,G,mT,hh⟩:=(aU.b6 aH (by simp)).mp;simp only[aq.e4,Option.bind_eq_some_iff,bN,aq.bM,Option.some.injEq]at h;obtain⟨es,o',⟨y,l⟩,aQ,rfl⟩:=h;refine cJ.pure (by grind) bg λa w κ F M bd _=>?_;have hm:=cO M m rfl bd.1;have ah:=Cb M aQ (cO M x rfl bd.2);obtain⟨inf,z,i1,i2,i3,i4,i5,i6⟩:=ks hh.kr;have hzero:eu C.P v F w z v.de:=aef hc.2 i5 i6;have fin:∀ (u:Value) (q:Option v.ai),eu C.P v F w u (q.getD v.de)->bB C.P s.aa κ F w (RA v q ok) (if ok=true then .tuple #[u,.bool q.isSome] else u):=by
    intro u q ag;cases ok with
    | true=>
     refine⟨[u,.bool q.isSome],rfl,rfl,λi G=>?_⟩;match i,G with
     | 0,_=>exact ag
     | 1,_=>exact ff.2 rfl
    | false=>exact ag
   have mf:tB k=true:=hc.1;have fj:k.kP=true/\k.j6<=100:=by simpa [tB]using mf
   rcases aeg M o' hm with⟨hu,aA⟩ | ⟨r,ms,clk,hu,hw,ln⟩
   ·subst aA;have ec:=(Cx (em:=true) k 10000 fj.1 (by omega)).1 mT ah;obtain⟨f,f1,f2⟩:=xf (β:=v.ai) (xs:=[]) (es:=[]) mf mT ah rfl (λj e p h=>by cases h);rcases f2 with⟨rfl,_⟩ | ⟨j,e,p,E,_⟩
    ·refine⟨_,?_,fin z none hzero⟩;simp only[execOp,af,hu,Instr.lookup,Sem.run_bind,dC G,Result.andThen_ok,Sem.run_pure];simp only[show (#[]:Array MapEntry).isEmpty=true from rfl,ec,Result.andThen_ok,f1];cases ok<;>simp[qT i1 i4]
    grind
   ·have ec:=(Cx (em:=ms.isEmpty) k 10000 fj.1 (by omega)).1 mT ah;obtain⟨f,f1,f2⟩:=xf (β:=v.ai) (xs:=es) (es:=ms.toList) mf mT ah ln.1 (λj e p E U=>by
     have:=(ln.2 j e p E U).1;exact⟨this.1,fe k (λ_ _=>trivial) (c1.refl F w) this.2⟩)
    have eU:(getObj r).run C.P w=.ok (.map ms clk) w:=by simp[getObj,Sem.run,hw]
    rcases f2 with⟨rfl,eN⟩ | ⟨j,e,p,E,U,ag,a1,rfl⟩
    ·refine⟨_,?_,by rw[(Sh eN).1];exact fin z none hzero⟩;simp only[execOp,af,hu,Instr.lookup,Sem.run_bind,dC G,Result.andThen_ok,Sem.run_pure,eU,ec,f1,qT i1 i4];rfl
    ·refine⟨_,?_,by rw[(Sg U ag a1).1];exact fin e.val (some p.2) (ln.2 j e p E U).2⟩;simp only[execOp,af,hu,Instr.lookup,Sem.run_bind,dC G,Result.andThen_ok,Sem.run_pure,eU,ec,f1];rfl
  ·cases h
 ·cases h
theorem KH(P:Program)(w:World)(vi ez:Value):∃ k' w',(Instr.keyThatStays vi ez).run P w=.ok k' w'/\(k'=ez\/k'=vi)/\(w'=w\/w'=w.drew):=by
 unfold Instr.keyThatStays;split
 ·exact⟨ez,w,rfl,.inl rfl,.inl rfl⟩
 ·have ao : (Question.extern "map.whichKeyStays" 2).forced = false := rfl;simp only[Sem.run_bind,run_choose,ao,Bool.false_eq_true,if_false,Result.andThen_ok];split
  ·exact⟨ez,_,rfl,.inl rfl,.inr rfl⟩
  ·exact⟨vi,_,rfl,.inr rfl,.inr rfl⟩
theorem se{P:Program}{w:World}{r:Nat}{es:Array MapEntry}{clk:Nat}(h:w.heap[r]?=some (.map es clk))(o:Obj):(setObj r o).run P w=.ok () { w with heap:=w.heap.setIfInBounds r o }:=by
 simp[setObj,Sem.run,h]
theorem KI(aU:dT C.P T){ty:TypeId}{m x y:Operand}(KE:o.dst=none)(af:o.op=.mapUpdate ty m x y\/o.op=.insert ty m x y)(h:(bw C.aM T bf (a7 C.aM s.ax) o).run s.aa=some res):cJ C o s res:=by
 have au:∀ c,o.op≠.defer c:=by grind
 have kS:∀ aI,bw C.aM T bf aI o=qS T aI ty m x y:=λaI=>by rcases af with af | af<;>simp only[bw,af]
 have hex:∀ aI w,(execOp aI o).run C.P w=(do Instr.mapUpdate ty (aI m) (aI x) (aI y);pure .skip:Sem Next).run C.P w:=λaI w=>by rcases af with af | af<;>simp only[execOp,af]
 rw[kS]at h;simp only[qS]at h;split at h
 ·rename_i k v aH;obtain⟨ll,zv,G,mT,hh⟩:=(aU.b6 aH (by simp)).mp;split at h
  ·rename_i hc;split at h
   ·rename_i b g tN;simp only[aq.e4,Option.bind_eq_some_iff,aq.run_bind,aq.e3,aq.bM]at h;obtain⟨⟨dJ,oj⟩,ah,⟨mU,om⟩,aQ,h⟩:=h;split at h
    ·rename_i aB;obtain⟨aB,p7⟩:=aB;have p7:b ∉ oj++om:=by
      grind
     split at h
     ·rename_i k' h2 es W;simp only[Option.map_eq_some_iff]at h;obtain⟨Sj,o',rfl⟩:=h;obtain⟨e,rfl⟩:=kN o';cases e;intro a w κ F Q M bd _;obtain⟨F',f1,bb,f2⟩:=bl.lg ((mQ ah).append (mQ aQ)) M;have hm:bB C.P s.aa κ F w (use (a7 C.aM s.ax m)).2 (a.eval m):=cO M m rfl bd.1;rw[tN]at hm;have kT:=hm.2 aB.symm (by rw[W];rfl);have tO:=mi M.bD f1 ah f2.left (cO M x rfl bd.2.1);have FR:=mi M.bD f1 aQ f2.right (cO M y rfl bd.2.2);have pb:(s.cA (oj++om)).aa b=s.aa b:=by simp only[az.cA];grind
      have aS:=bb.bD b;unfold cF at aS;rw[pb,W]at aS;obtain⟨ms,clk,hw,tP⟩:=aS;have fj:k.kP=true/\k.j6<=100:=by simpa [tB]using hc
      have ec:=(Cx (em:=false) k 10000 fj.1 (by omega)).1 mT tO;have ln:=tP.es;obtain⟨f,dy,dO⟩:=xf (β:=v.ai) (xs:=es) (es:=ms.toList) hc mT tO ln.1 (λj e p E U=>(ln.2 j e p E U).1);have eU:(getObj (κ b).aa).run C.P w=.ok (.map ms clk) w:=by simp[getObj,Sem.run,hw]
      have mS:s.gh ((jF (oj++om)).run s.aa++[(b,⟨(s.aa b).gen,.mp k v (lN es dJ mU)⟩)])=(s.cA (oj++om)).cy b ⟨(s.aa b).gen,.mp k v (lN es dJ mU)⟩:=by
       rw[Cf,tE]
      have gv:fq (s.cA (oj++om)).aa κ (λi=>if i=b then (⟨(s.aa b).gen,.mp k v (lN es dJ mU)⟩:bJ) else (s.cA (oj++om)).aa i) κ:=
       qP (by rw[pb]) (λh=>by cases h) (λh=>by cases h) (λ_=>by rw[pb,W];rfl) (λh=>by cases h)
      obtain⟨hs,KJ,FT,Sk⟩:=tP;have done:∀ (cn:World) (FU:Array MapEntry) (FV:Nat),(cn=w\/cn=w.drew)->
        (execOp a.eval o).run C.P w=.ok .skip { cn with heap:=cn.heap.setIfInBounds (κ b).aa (.map FU FV) }->
        (∀ {w'},c1 F' w w'->u4 C.P k v F' w' FU FV (lN es dJ mU))->
        o.wpIn (dS C.r) 0 C.P a w (λa' w'=>ct C (s.h5 o.dst ⟨(use (a7 C.aM s.ax m)).1/\(use (a7 C.aM s.ax x)).1/\(use (a7 C.aM s.ax y)).1,True,.undef,(jF (oj++om)).run s.aa++[(b,⟨(s.aa b).gen,.mp k v (lN es dJ mU)⟩)]⟩) a' w') Q:=by
       intro cn FU FV lS c6 aej;have cV:cn.heap=w.heap:=by rcases lS with rfl | rfl<;>rfl
       have i_:dc w cn:=by rcases lS with rfl | rfl<;>exact⟨rfl,rfl,rfl⟩
       refine FE au c6 ⟨κ,F',?_⟩;simp only[az.h5];rw[mS,KE];refine bb.o6 (b:=b) (x:=⟨(s.aa b).gen,.mp k v (lN es dJ mU)⟩) (by rw[pb,W];rfl) rfl gv (λh=>by cases h) (λ_=>by rw[pb,W];rfl) (λr KK=>?_) (by grind) ⟨i_.os,i_.tape,i_.output⟩ λH _ _ he=>?_
       ·grind
       ·have cb:(κ b).aa<w.heap.size:=(Array.getElem?_eq_some_iff.1 hw).1;exact⟨FU,FV,by grind,aej he⟩
      rcases dO with⟨rfl,eN⟩ | ⟨j,e,p,E,U,ag,a1,rfl⟩
      ·refine done w (ms.push { key:=a.eval x,val:=a.eval y,born:=clk }) (clk+1) (.inl rfl) ?_ λ{w'} he=>?_
       ·rw[hex];simp only[kT,Instr.mapUpdate,Sem.run_bind,dC G,Result.andThen_ok,eU,ec,dy,se hw,Sem.run_pure]
       ·rw[(Sh eN).2];refine⟨by grind,?_,λi G dK=>?_,λi j G aE e=>?_⟩
        ·rw[List.map_append,List.nodup_append];refine⟨KJ,by simp,λq br q' tH=>?_⟩;obtain⟨p,an,rfl⟩:=List.mem_map.1 br;simp only[List.map_cons,List.map_nil,List.mem_singleton]at tH;subst tH;intro e;have:=eN p an;rw[e,(KF k fj.1 _ _).2 rfl]at this;grind
        ·by_cases qa:i<es.length
         ·obtain⟨aP,aR,bO,gx,ox⟩:=FT i qa (by omega);have aw:(es++[(dJ,mU)])[i]=es[i]:=List.getElem_append_left qa;have aN:(ms.push { key:=a.eval x,val:=a.eval y,born:=clk })[i]=ms[i]'(by omega):=Array.getElem_push_lt (by omega);rw[aw,aN];exact⟨aP,fe k (λ_ h=>h) he aR,bO,fe v (λ_ h=>h) he gx,by omega⟩
         ·have aek:i=es.length:=by grind
          subst aek;have aw:(es++[(dJ,mU)])[es.length]=(dJ,mU):=by simp
          have aN:(ms.push { key:=a.eval x,val:=a.eval y,born:=clk })[es.length]={ key:=a.eval x,val:=a.eval y,born:=clk }:=by
           grind
          rw[aw,aN];exact⟨tO.1,fe k (λ_ h=>h) he tO.2,FR.1,fe v (λ_ h=>h) he FR.2,by simp⟩
        ·have born:∀ i (h:i<(ms.push { key:=a.eval x,val:=a.eval y,born:=clk }).size),(∃ ds:i<ms.size,(ms.push { key:=a.eval x,val:=a.eval y,born:=clk })[i]=ms[i])\/(i=ms.size/\((ms.push { key:=a.eval x,val:=a.eval y,born:=clk })[i]).born=clk):=by
          grind
         grind
      ·have aE:j<es.length:=(List.getElem?_eq_some_iff.1 U).1;have xg:j<ms.size:=by omega
       have KL:ms[j]=e:=by
        grind
       have mV:es[j]=p:=(List.getElem?_eq_some_iff.1 U).2;have ael:dJ=p.1:=(KF k fj.1 _ _).1 ag;obtain⟨jo,cn,b4,cv,ef⟩:=KH C.P w e.key (a.eval x);have lS:cn.heap[(κ b).aa]?=some (.map ms clk):=by rcases ef with rfl | rfl<;>exact hw
       refine done cn (ms.modify j λe=>{ e with key:=jo,val:=a.eval y }) clk ef ?_ λ{w'} he=>?_
       ·rw[hex];rw[Nat.zero_add]at dy;simp only[kT,Instr.mapUpdate,Sem.run_bind,dC G,Result.andThen_ok,eU,ec,dy];have nO:((ms[j]?).map (·.key)).getD (a.eval x)=e.key:=by
         grind
        rw[nO,b4];simp only[Result.andThen_ok,se lS,Sem.run_pure]
       ·rw[(Sg U ag a1).2];refine⟨by grind,?_,λi G dK=>?_,λi j9 G fV a6=>?_⟩
        ·have:(es.set j (p.1,mU)).map (·.1)=es.map (·.1):=by
          apply List.ext_getElem?;grind
         grind
        ·have qa:i<es.length:=by grind
         have KM:i<ms.size:=by omega
         obtain⟨aP,aR,bO,gx,ox⟩:=FT i qa KM;by_cases zw:j=i
         ·subst zw;have aw:(es.set j (p.1,mU))[j]=(p.1,mU):=by simp
          have aN:(ms.modify j λe=>{ e with key:=jo,val:=a.eval y })[j]={ key:=jo,val:=a.eval y,born:=ms[j].born }:=by grind
          rw[aw,aN];have vb:eu C.P k F' w jo p.1:=by
           rcases cv with rfl | rfl
           ·grind
           ·rw[<-KL,<-mV];exact⟨aP,aR⟩
          exact⟨vb.1,fe k (λ_ h=>h) he vb.2,FR.1,fe v (λ_ h=>h) he FR.2,ox⟩
         ·have aw:(es.set j (p.1,mU))[i]=es[i]:=by grind
          have aN:(ms.modify j λe=>{ e with key:=jo,val:=a.eval y })[i]=ms[i]:=by grind
          rw[aw,aN];exact⟨aP,fe k (λ_ h=>h) he aR,bO,fe v (λ_ h=>h) he gx,ox⟩
        grind
     grind
    grind
   ·cases h
  ·cases h
 ·cases h
end
end Go.Fer
namespace Go.Fer
open Go.RowKit
section
variable {C:b_} {T:Nat->ad} {bf:Nat->Option aK} {o:Oper} {s:az} {res:eB}
theorem Sl{P:Program}{F:Nat->Prop}{w:World}{e:ad}{z:Value}(bL:j4 e z.cells.toList=some [])(n:Nat) :
  gw P e F w ((Array.range (n*e.size)).map (λi=>z.cells[i % z.cells.size]!)).toList (List.replicate n e.de):=by
 obtain⟨c,zx,ot,z2⟩:=u9 (P:=P) (H:=λ_=>⟨0,.fy⟩) (κ:=λ_=>⟨0,0,0,true⟩) (F:=F) (w:=w) e bL;rw[List.append_nil]at zx;have tQ:z.cells.size=e.size:=by rw[<-Array.length_toList,zx];exact hO e ot
 refine⟨by simp,λi G=>?_⟩;have dK:i<n:=by grind
 have hle:(i+1)*e.size<=n*e.size:=Nat.mul_le_mul_right _ (by omega);rw[Nat.add_mul]at hle;have:((((Array.range (n*e.size)).map (λi=>z.cells[i % z.cells.size]!)).toList.drop (i*e.size)).take e.size)=z.cells.toList:=by
  apply List.ext_getElem?;intro j;simp only[List.getElem?_take,List.getElem?_drop];split
  ·rename_i aE;have fV:j<z.cells.size:=by omega
   rw[Array.getElem?_toList,Array.getElem?_toList];have zr:(i*e.size+j) % z.cells.size=j:=by rw[tQ,Nat.add_comm,Nat.add_mul_mod_self_right,Nat.mod_eq_of_lt aE]
   grind
  grind
 grind
theorem aem{n:Int}(aX:0<=n)(E:n<=4294967296):IntKind.i64.wrap n=n:=by
 simp only[IntKind.wrap,IntKind.signed,IntKind.bits];grind
theorem aen(aU:dT C.P T){ty:TypeId}{l c:Operand}(bg:∀ i,o.dst=some i->i<C.nt)(af:o.op=.makeSlice ty l c)(h:(bw C.aM T bf (a7 C.aM s.ax) o).run s.aa=some res):cJ C o s res:=by
 simp only[bw,af,Fz]at h;split at h
 ·rename_i e aH;split at h
  ·rename_i n m aj hm;have dp:=aU.b6 aH (by simp);obtain⟨jJ,aE,i',ov⟩:=dp.sl;obtain⟨inf,z,i1,i2,i3,i4,i5,i6⟩:=ks i'.kr;obtain⟨b,au,al⟩:=qV h;simp only[Option.some.injEq]at al;subst al;intro a w κ F Q M bd hc;have aeo:=oo (cO M l rfl bd.1) aj;have i_:=oo (cO M c rfl bd.2) hm;obtain⟨c0,rfl,bE⟩:0<=n/\n=m/\bP n.toNat:=hc;unfold bP at bE;obtain⟨k,rfl⟩:∃ k:Nat,n=k:=⟨n.toNat,by omega⟩
   simp only[Int.toNat_natCast]at bE;have hw:IntKind.i64.wrap (k:Int)=k:=aem (by omega) (by omega);let cs:Array Value:=(Array.range (k*e.size)).map (λi=>z.cells[i % z.cells.size]!);have jk:gw C.P e F w cs.toList (List.replicate k e.de):=Sl i5 k;have axG:inf.bytes*k<=2 ^ 47:=by
    calc inf.bytes*k<=1024*4294967296:=Nat.mul_le_mul i3 (by omega)
     _<=2 ^ 47:=by decide
   have c6:(execOp a.eval o).run C.P w=.ok (.value (.slice (some ⟨w.heap.size,0,none⟩) k k)) (w.alloc (.cells cs jJ)):=by
    have aep:¬((inf.bytes:Int)*(k:Int) > 2 ^ 48):=by
     omega
    have mW:¬((k:Int)<0):=by omega
    have xe:¬(k*inf.bytes > roomBytes):=by
     have:roomBytes=2 ^ 47:=rfl;grind
    have vb:¬((k:Int) > (k:Int)):=by omega
    simp only[execOp,af,Instr.makeSlice,aeo.1,i_.1,Sem.run_bind,dC aE,Result.andThen_ok,asInt,asIntOf,Sem.run_pure,FB i1,hw,aep,mW,vb,decide_false,Bool.or_false,Bool.false_or,Bool.false_eq_true,if_false,run_askRoom,Int.toNat_natCast,r7 i1,i2];by_cases sf:k*e.size=0
    ·have aeq:cs=#[]:=Array.eq_empty_of_size_eq_zero (by grind);rw[aeq];have aer:(Array.map (λ_:Nat=>(default:Value)) (Array.range 0))=#[]:=by simp
     simp[sf,newRow];rw[aer]
    ·simp[sf,qT i1 i4,newRow,cs]
   have ag:=M.Cq (b:=b) (g:=(s.aa b).gen+1) (zs:=List.replicate k e.de) (k:=⟨w.heap.size,0,k,false⟩) (w':=w.alloc (.cells cs jJ)) (Nat.lt_succ_self _) (.inr rfl) (by simp) (λr M=>o5 w _ M) (λ_=>by simp) ⟨rfl,rfl,rfl⟩
    (λH κ'=>⟨λh=>(by cases h),λ_=>⟨cs,jJ,p1 w _,by grind,by simp,by grind,(jk.Co (pre:=[]) (post:=[]) (by simp)).later (c1.alloc M.da _)⟩⟩)
   refine ht (by grind) c6 ⟨_,F,bl.set (s:=s.cy b _) ag bg ⟨⟨by simp[az.cy],rfl⟩,λ_ _=>by simp[az.cy,bC.slice,bQ.len]⟩⟩
  ·cases h
 ·cases h
theorem gw.take{P:Program}{e:ad}{F:Nat->Prop}{w:World}{all:List Value}{xs:List e.ai}(h:gw P e F w all xs){n:Nat}(aA:n<=xs.length):gw P e F w (all.take (n*e.size)) (xs.take n):=by
 have hle:n*e.size<=xs.length*e.size:=Nat.mul_le_mul_right _ aA;refine⟨by simp only[List.length_take,h.1];simp,λi G=>?_⟩;have dK:i<n:=by grind
 have aes:(i+1)*e.size<=n*e.size:=Nat.mul_le_mul_right _ (by omega);rw[Nat.add_mul]at aes;have:((all.take (n*e.size)).drop (i*e.size)).take e.size=(all.drop (i*e.size)).take e.size:=by
  rw[List.drop_take,List.take_take,Nat.min_eq_left (by omega)]
 rw[this];simpa using h.2 i (by omega)
theorem Sm{P:Program}{w:World}{e:ad}{q:Option Addr}{n cap:Nat}{xs:List e.ai}{F:Nat->Prop}(aA:n<=xs.length)(h:(q=none/\xs=[]/\cap=0)\/∃ p all,q=some p/\gw P e F w all xs/\kv w p all) :
  ∃ all,(Builtin.firstCells e.size n (.slice q xs.length cap)).run P w=.ok all.toArray w/\gw P e F w all (xs.take n):=by
 rcases h with⟨rfl,rfl,rfl⟩ | ⟨p,all,rfl,b8,a2⟩
 ·exact⟨[],by rfl,by simp[gw]⟩
 ·have hle:n*e.size<=xs.length*e.size:=Nat.mul_le_mul_right _ aA;refine⟨all.take (n*e.size),?_,b8.take aA⟩;simp only[Builtin.firstCells];have aj:(all.take (n*e.size)).length=n*e.size:=by simp only[List.length_take,b8.1];omega
  have M:kv w p (all.take (n*e.size)):=⟨λaX=>a2.1 (by grind),λj aE=>by
   have fV:j<all.length:=by grind
   rw[List.getElem_take];exact a2.2 j fV⟩
  have:=FD (P:=P) M;grind
theorem lJ.gl{P:Program}{e:ad}{F:Nat->Prop}{w w':World}{cs dh:Array Value}{off aY:Nat}{xs zs:List e.ai}{ez:List Value}(h:lJ P e F w cs off xs)(he:c1 F w w')(aA:gw P e F w ez zs)(aj:aY+zs.length<=xs.length)
  (o9:off+xs.length*e.size<=cs.size) (hc:dh.toList=cs.toList.take (off+aY*e.size)++(ez++cs.toList.drop (off+aY*e.size+ez.length))):lJ P e F w' dh off (Go.Fer.gl xs aY zs):=by
 have hlen:(Go.Fer.gl xs aY zs).length=xs.length:=by simp[Go.Fer.gl];omega
 have aet:(aY+zs.length)*e.size<=xs.length*e.size:=Nat.mul_le_mul_right _ aj;rw[Nat.add_mul]at aet;have pa:=aA.1;have gM:(cs.toList.take (off+aY*e.size)).length=off+aY*e.size:=by grind
 intro i G;rw[hlen]at G;have aeu:i<aY\/(aY<=i/\i<aY+zs.length)\/aY+zs.length<=i:=by omega
 rcases aeu with E | ⟨E,U⟩ | E
 ·obtain⟨bj,d1,d2⟩:=h i G;have R7:=hO e d2;have aw:(Go.Fer.gl xs aY zs)[i]'(by omega)=xs[i]:=by
   simp only[Go.Fer.gl,List.append_assoc];grind
  rw[aw];refine⟨bj,λj aE=>?_,fe e (λ_ h=>h) he d2⟩;have hle:(i+1)*e.size<=aY*e.size:=Nat.mul_le_mul_right _ (by omega);rw[Nat.add_mul]at hle;rw[<-Array.getElem?_toList,hc,List.getElem?_append_left (by omega),List.getElem?_take,if_pos (by omega),Array.getElem?_toList];grind
 ·have Ct:=aA.Co (pre:=cs.toList.take (off+aY*e.size)) (post:=cs.toList.drop (off+aY*e.size+ez.length)) hc;obtain⟨bj,d1,d2⟩:=Ct (i - aY) (by omega);have aw:(Go.Fer.gl xs aY zs)[i]'(by omega)=zs[i - aY]'(by omega):=by
   simp only[Go.Fer.gl,List.append_assoc];grind
  rw[aw];refine⟨bj,λj aE=>?_,fe e (λ_ h=>h) he d2⟩;have:=d1 j aE;rw[gM]at this;rw[<-this];congr 1;have:i*e.size=aY*e.size+(i - aY)*e.size:=by rw[<-Nat.add_mul];grind
  omega
 ·obtain⟨bj,d1,d2⟩:=h i G;have R7:=hO e d2;have aw:(Go.Fer.gl xs aY zs)[i]'(by omega)=xs[i]:=by
   simp only[Go.Fer.gl,List.append_assoc];have gv:(xs.take aY).length=aY:=by grind
   rw[List.getElem_append_right (by omega),List.getElem_append_right (by omega)];grind
  rw[aw];refine⟨bj,λj aE=>?_,fe e (λ_ h=>h) he d2⟩;have FW:(aY+zs.length)*e.size<=i*e.size:=Nat.mul_le_mul_right _ E;rw[Nat.add_mul]at FW;rw[<-Array.getElem?_toList,hc,List.getElem?_append_right (by omega),List.getElem?_append_right (by omega),List.getElem?_drop,gM];grind
theorem gw.one{P:Program}{e:ad}{F:Nat->Prop}{w:World}{ez:List Value}{ys:List e.ai}(h:gw P e F w ez ys)(lj:0<e.size):∀ v∈ez,v.oneCell'=true:=by
 intro v ae;obtain⟨j,aE,rfl⟩:=List.mem_iff_getElem.1 ae;have hdiv:j / e.size<ys.length:=(Nat.div_lt_iff_lt_mul lj).2 (by rw[<-h.1];exact aE);have nM:=h.2 (j / e.size) hdiv;have iA:=y7 (P:=P) (H:=λ_=>⟨0,.fy⟩) (κ:=λ_=>⟨0,0,0,true⟩) e nM;have zr:=Nat.mod_lt j lj;have ad4:j / e.size*e.size+j % e.size=j:=Nat.div_add_mod' j e.size;have Cs:((ez.drop (j / e.size*e.size)).take e.size).length=e.size:=hO e nM;have:=(iA.kO (j % e.size) (by rw[iA.len,Cs];omega)).2;grind
theorem aev(aU:dT C.P T){args:Array Operand}{dn:Array TypeId}(bg:∀ i,o.dst=some i->i<C.nt)(af:o.op=.call { callee:=.builtin .copy,args:=args,argTypes:=dn })(h:(bw C.aM T bf (a7 C.aM s.ax) o).run s.aa=some res):cJ C o s res:=by
 obtain⟨args⟩:=args;obtain⟨dn⟩:=dn;have au:∀ c,o.op≠.defer c:=by grind
 simp only[bw,af,mN,FA]at h;split at h
 ·rename_i x y t u;split at h
  ·rename_i e aN aH hu;have dp:=aU.b6 aH (by simp);obtain⟨jJ,aE,i',ov⟩:=dp.sl;obtain⟨inf,z,i1,i2,i3,i4,i5,i6⟩:=ks i'.kr;have lj:0<e.size:=Nat.pos_of_ne_zero ov;split at h
   ·rename_i b g aY G Cy;simp only[aq.e4,Option.bind_eq_some_iff,aq.e3,aq.bM]at h;obtain⟨⟨ys,l⟩,j8,h⟩:=h;split at h
    ·rename_i aB;split at h
     ·rename_i a6 xs W;split at h
      ·rename_i q0;subst q0;simp only[Option.some.injEq]at h;subst h;intro a w κ F Q M bd _;obtain⟨q',cap',tJ,nP⟩:=sb M j8 (cO M y rfl bd.2);have ah:bB C.P s.aa κ F w (use (a7 C.aM s.ax x)).2 (a.eval x):=cO M x rfl bd.1;have aS:=M.bD b;unfold cF at aS;rw[W]at aS;have place:aY<=G.getD xs.length/\G.getD xs.length<=xs.length/\(((κ b).e8=true/\∃ cap,a.eval x=.slice none 0 cap)\/((κ b).e8=false/\∃ mo cap,a.eval x=.slice (some ⟨(κ b).aa,mo,none⟩) (G.getD xs.length - aY) cap/\(aY<G.getD xs.length->mo=(κ b).off+aY*a6.size))):=by
        split at Cy
        ·rename_i be g' e_;simp only[Option.some.injEq,Prod.mk.injEq]at Cy;obtain⟨rfl,rfl,rfl,rfl⟩:=Cy;rw[e_]at ah;have ae:=ah.2 aB.symm (by rw[W];rfl);rw[W]at ae;simp only[bQ.len]at ae;refine⟨Nat.zero_le _,Nat.le_refl _,?_⟩;cases aA:(κ be).e8 with
         | true=>exact .inl ⟨rfl,0,by simpa [bC.slice,aA]using ae⟩
         | false=>exact .inr ⟨rfl,(κ be).off,(κ be).cap,by simpa [bC.slice,aA]using ae,λ_=>by simp⟩
        ·rename_i be g' axH dK e_;simp only[Option.some.injEq,Prod.mk.injEq]at Cy;obtain⟨rfl,rfl,rfl,rfl⟩:=Cy;rw[e_]at ah;obtain⟨⟨aP,aR⟩,bO⟩:=ah.2 aB.symm (by rw[W];rfl);rw[W]at aR bO;simp only[bQ.len,bQ.e2]at aR bO;refine⟨aP,aR,?_⟩;rcases bO with⟨aA,ae⟩ | ⟨aA,mo,ae,hQ,gF⟩
         ·grind
         ·obtain⟨cs,hT,bE,c2,c3,c4,c5⟩:=aS.2 aA;grind
        grind
       obtain⟨jH,p8,mn⟩:=place;have Sn:∀ m:Nat,m<=ys.length->m<=xs.length->fU .i64 (m:Int):=by
        intro m _ hm;have:=zi M (b:=b) (by rw[W];rfl);rw[W]at this;simp only[bQ.len]at this;exact Cd (by omega)
       generalize Sp:G.getD xs.length=cV at *
       have R1:Nat.min ys.length (cV - aY)=min (cV - aY) ys.length:=Nat.min_comm _ _;have aew:(ys.take (cV - aY)).length=min (cV - aY) ys.length:=by simp
       have zy:(gl xs aY (ys.take (cV - aY))).length=xs.length:=by simp[gl];omega
       have gv:fq s.aa κ (λi=>if i=b then (⟨(s.aa b).gen,.bh a6 (gl xs aY (ys.take (cV - aY)))⟩:bJ) else s.aa i) κ:=
        qP rfl (λh=>by cases h) (λ_=>by rw[W];exact⟨rfl,zy,rfl⟩) (λh=>by cases h) (λh=>by cases h)
       have mP:∀ (w':World) v,(Builtin.copy_ #[t,u] o.type #[a.eval x,a.eval y]).run C.P w=.ok v w'->(execOp a.eval o).run C.P w=.ok (.value v) w':=by
        intro w' v ae;refine xa af ?_;simp[builtin,ae]
       rcases mn with⟨aA,cap,sc⟩ | ⟨aA,mo,cap,sc,aex⟩
       ·have hS:=aS.1 aA;subst hS;have aey:cV=0:=by grind
        subst aey;have KN:aY=0:=by omega
        subst KN;obtain⟨ez,eb,ee⟩:=Sm (P:=C.P) (w:=w) (n:=0) (Nat.zero_le _) nP;have c6:(Builtin.copy_ #[t,u] o.type #[a.eval x,a.eval y]).run C.P w=.ok (.int .i64 ((0:Nat):Int)) w:=by
         simp only[Builtin.copy_,List.getElem?_toArray,List.getElem?_cons_zero,List.getElem?_cons_succ,Sem.run_bind,dC aE,Result.andThen_ok,sc,tJ,Builtin.lenOf,Sem.run_pure,r7 i1,i2,Nat.min_zero];rw[eb];rfl
        refine ht au (mP w _ c6) ⟨κ,F,bl.set (s:=s.cy b _) ?_ bg (gU.2 ⟨by simp,Sn _ (by simp) (by simp)⟩)⟩;have bG:gl ([]:List a6.ai) 0 (ys.take (0 - 0))=[]:=by rfl
        have es:s.cy b ⟨(s.aa b).gen,.bh a6 (gl ([]:List a6.ai) 0 (ys.take (0 - 0)))⟩=s:=by
         rw[bG];unfold az.cy;have:(λi=>if i=b then (⟨(s.aa b).gen,.bh a6 []⟩:bJ) else s.aa i)=s.aa:=by
          funext i;by_cases G:i=b
          ·subst G;simp only[if_true];rw[<-W]
          grind
         rw[this]
        grind
       ·obtain⟨cs,hT,bE,c2,c3,c4,c5⟩:=aS.2 aA;have Ch:min (cV - aY) ys.length<=ys.length:=Nat.min_le_right _ _;obtain⟨ez,eb,ee⟩:=Sm (P:=C.P) (w:=w) Ch nP;have kQ:ys.take (min (cV - aY) ys.length)=ys.take (cV - aY):=by
         simp
        rw[kQ]at ee;have pa:=ee.1;rw[aew]at pa;have nN:=ee.one lj;have Sq:xs.length*a6.size<=(κ b).cap*a6.size:=Nat.mul_le_mul_right _ c3;have Cz:(aY+min (cV - aY) ys.length)*a6.size<=xs.length*a6.size:=Nat.mul_le_mul_right _ (by omega);rw[Nat.add_mul]at Cz;obtain⟨w',dh,b4,cv,ef,lh,kx,ml⟩:∃ w' dh,(storeCells ⟨(κ b).aa,mo,none⟩ ez).run C.P w=.ok () w'/\w'.heap[(κ b).aa]?=some (.cells dh hT (0,0))/\dh.toList=cs.toList.take ((κ b).off+aY*a6.size)++(ez++cs.toList.drop ((κ b).off+aY*a6.size+ez.length))/\
          (∀ r,r≠(κ b).aa->w'.heap[r]?=w.heap[r]?)/\w'.heap.size=w.heap.size/\dc w w':=by
         by_cases cb:aY<cV
         ·rw[aex cb];obtain⟨w',dh,b4,cv,ef,lh,kx,ml⟩:=vd (P:=C.P) ez ((κ b).off+aY*a6.size) 0 w cs bE (by omega) nN;grind
         ·have aX:min (cV - aY) ys.length=0:=by omega
          rw[aX,Nat.zero_mul]at pa;have:ez=[]:=List.eq_nil_of_length_eq_zero pa;subst this;exact⟨w,cs,by rfl,bE,by simp,λ_ _=>rfl,rfl,dc.refl w⟩
        have c6:(Builtin.copy_ #[t,u] o.type #[a.eval x,a.eval y]).run C.P w=.ok (.int .i64 ((min (cV - aY) ys.length:Nat):Int)) w':=by
         simp only[Builtin.copy_,List.getElem?_toArray,List.getElem?_cons_zero,List.getElem?_cons_succ,Sem.run_bind,dC aE,Result.andThen_ok,sc,tJ,Builtin.lenOf,Sem.run_pure,r7 i1,i2];rw[R1,eb];simp only[Result.andThen_ok,b4];rfl
        refine ht au (mP w' _ c6) ⟨κ,F,bl.set (s:=s.cy b _) ?_ bg (gU.2 ⟨rfl,Sn _ (by omega) (by omega)⟩)⟩;refine M.o6 (b:=b) (by rw[W];simp[bQ.bZ,aA]) (by simp[bQ.bZ,aA]) gv (λh=>by cases h) (λh=>by cases h) lh kx ml λH mR cb he=>?_;refine⟨λh=>(by grind),λ_=>⟨dh,hT,cv,?_,by omega,c4,?_⟩⟩
        ·have:dh.size=cs.size:=by
          rw[<-Array.length_toList,ef];simp only[List.length_append,List.length_take,List.length_drop,Array.length_toList];omega
         omega
        ·exact c5.gl he ee (by omega) (by omega) ef
      grind
     grind
    grind
   ·cases h
  ·cases h
 ·cases h
theorem Sr(af:(bw C.aM T bf (a7 C.aM s.ax) o).run s.aa=some ⟨True,False,.undef,[]⟩)(h:(bw C.aM T bf (a7 C.aM s.ax) o).run s.aa=some res):cJ C o s res:=by
 rw[af]at h;cases h;intro a w κ F Q _ _ hc;grind
end
end Go.Fer
namespace Go.Fer
open Go.RowKit
section
variable {C:b_} {T:Nat->ad} {bf:Nat->Option aK} {o:Oper} {s:az} {res:eB}
theorem aez{P:Program}{w:World}{len cap:Nat}{aY:Option Value}{l:Option Int}{k k':IntKind}{h m:Int}(aj:(aY=none/\l=none)\/∃ k m,aY=some (.int k m)/\l=some m)
  (E:0<=dr l) (U:dr l<=h) (ag:h<=m) (a1:m<=(cap:Int)):(Instr.sliceBounds true len cap aY (some (.int k h)) (some (.int k' m))).run P w=.ok ((dr l).toNat,h.toNat,m.toNat) w:=by
 rcases aj with⟨rfl,rfl⟩ | ⟨k,n,rfl,rfl⟩<;>simp only[dr]at E U ⊢
 ·have aw:0<=m/\m<=(cap:Int):=by omega
  have aN:0<=h/\h<=m:=by omega
  have cE:max m 0=m:=by omega
  simp[Instr.sliceBounds,Instr.sliceBound,asIntOf,aw,aN,cE]
 ·have aw:0<=m/\m<=(cap:Int):=by omega
  have aN:0<=h/\h<=m:=by omega
  have cE:max m 0=m:=by omega
  have ed:0<=n/\n<=h:=by omega
  have dY:max h 0=h:=by omega
  simp[Instr.sliceBounds,Instr.sliceBound,asIntOf,aw,aN,cE,ed,dY]
theorem aeA(aU:dT C.P T){ty:TypeId}{x:Operand}{aY G:Option Operand}{o7:Operand}(bg:∀ i,o.dst=some i->i<C.nt)(af:o.op=.slice ty x aY G (some o7))(h:(bw C.aM T bf (a7 C.aM s.ax) o).run s.aa=some res):cJ C o s res:=by
 simp only[bw,af,Option.isSome_some,if_true,Fx]at h;split at h
 ·rename_i ol l qR cV u_ m p9 Kt aeB;have au:∀ c,o.op≠.defer c:=by grind
  split at h
  ·rename_i bG aH;have dp:=aU.b6 aH (by simp);obtain⟨j,aE,i',ov⟩:=dp.sl;simp only[aq.e4,Option.bind_eq_some_iff]at h;obtain⟨⟨c,v⟩,fW,h⟩:=h;simp only[bN,aq.bM,Option.some.injEq]at h;subst h;have runs:∀ (a:Act) (w:World) κ F,bl C s a w κ F->ol->qR->u_->∀ (q:Option Addr) (n cap:Nat),a.eval x=.slice q n cap->0<=dr l->dr l<=cV->cV<=m->m<=(cap:Int)->
     (execOp a.eval o).run C.P w=.ok (.value (.slice (if m.toNat=(dr l).toNat then q else q.map (·.add ((dr l).toNat*bG.size))) (cV.toNat - (dr l).toNat) (m.toNat - (dr l).toNat))) w:=by
    intro a w κ F M Cm Cn aeC q n cap ae bE c2 c3 c4;have dN:(aY.map a.eval=none/\l=none)\/∃ k m,aY.map a.eval=some (.int k m)/\l=some m:=by
     rcases Cl M p9 Cm with⟨rfl,rfl⟩ | ⟨y,k,m,rfl,rfl,e⟩
     ·exact .inl ⟨rfl,rfl⟩
     ·exact .inr ⟨k,m,by simp[e],rfl⟩
    obtain⟨axI,aR,m2,rfl,aN,cE⟩:∃ y k n,G=some y/\cV=n/\a.eval y=.int k n:=by
     rcases Cl M Kt Cn with⟨_,h⟩ | ⟨y,k,m,rfl,h,e⟩
     ·cases h
     ·exact⟨y,k,m,rfl,Option.some.inj h,e⟩
    obtain⟨bO,ed⟩:∃ k,a.eval o7=.int k m:=by
     rcases Cl M aeB aeC with⟨h,_⟩ | ⟨y,k,m,E,U,e⟩
     ·cases h
     ·cases E;cases U;exact⟨k,e⟩
    subst aN;have:=aez (P:=C.P) (w:=w) (len:=n) (k:=aR) (k':=bO) dN bE c2 c3 c4;simp[execOp,af,ae,Instr.sliceAt,Instr.slice,dC aE,cE,ed,this,i'.size]
   unfold Rz at fW;split at fW
   ·rename_i e xs e_;simp only[aq.bM]at fW;split at fW
    ·rename_i he;subst he;simp only[Option.some.injEq,Prod.mk.injEq]at fW;obtain⟨rfl,rfl⟩:=fW;refine cJ.pure au bg λa w κ F M bd hc=>?_;have ah:bB C.P s.aa κ F w (use (a7 C.aM s.ax x)).2 (a.eval x):=cO M x rfl bd.1;rw[e_]at ah;obtain⟨_,a',cap,aw,m1,m2,m3,m4⟩:=(dU rfl).1 ah;have aw:=(List.cons.inj aw).1;simp only[fz]at hc;obtain⟨bE,c2,c3,c4⟩:=hc;subst c3;have hlen:((xs.take cV.toNat).drop (dr l).toNat).length=cV.toNat - (dr l).toNat:=by
      grind
     have axJ:(xs.length:Int)<=cap:=by omega
     refine⟨_,runs a w κ F M bd.2.1 bd.2.2.1 bd.2.2.2 a' xs.length cap aw bE c2 (Int.le_refl _) (by omega),(dU rfl).2 ⟨rfl,?_⟩,_,by rw[hlen]⟩;refine⟨_,_,by rw[hlen],by omega,by omega,?_,λp an u6=>?_⟩
     ·intro aA;split at aA
      ·omega
      ·cases a' with
       | none=>grind
       | some q=>cases aA
     ·cases a' with
      | none=>grind
      | some q=>
       obtain⟨eb,ee,jl⟩:=m4 q rfl (by omega);have br:p=⟨q.block,q.off+(dr l).toNat*e.size,none⟩:=by
        split at an
        ·omega
        ·simp only[Option.map_some,Option.some.injEq]at an;rw[Ck ee]at an;grind
       subst br;refine⟨eb,rfl,λi G=>?_⟩;rw[hlen]at G;obtain⟨bj,d1,d2⟩:=jl ((dr l).toNat+i) (by omega);grind
    grind
   ·rename_i e_;simp only[aq.bM,Option.some.injEq,Prod.mk.injEq]at fW;obtain⟨rfl,rfl⟩:=fW;refine cJ.pure au bg λa w κ F M bd hc=>?_;have ah:bB C.P s.aa κ F w (use (a7 C.aM s.ax x)).2 (a.eval x):=cO M x rfl bd.1;rw[e_]at ah;simp only[bB]at ah;simp only[fz]at hc;obtain⟨bE,c2,c3⟩:=hc;have c6:=runs a w κ F M bd.2.1 bd.2.2.1 bd.2.2.2 none 0 0 ah (by omega) (by omega) (by omega) (by omega);have aX:cV.toNat=0:=by omega
    have E:m.toNat=0:=by omega
    have U:(dr l).toNat=0:=by omega
    rw[aX,E,U]at c6;simp only[if_true,Nat.sub_zero]at c6;exact⟨_,c6,(dU rfl).2 ⟨rfl,none,0,rfl,Nat.le_refl _,by decide,λ_=>rfl,λp an=>by simp⟩,none,rfl⟩
   ·rename_i b g e_;simp only[aq.e3,aq.bM]at fW;split at fW
    ·rename_i bk;simp only[Bool.and_eq_true,decide_eq_true_eq]at bk;obtain⟨aB,e'⟩:=bk;simp only[Option.some.injEq,Prod.mk.injEq]at fW;obtain⟨rfl,rfl⟩:=fW;refine cJ.pure au bg λa w κ F M bd hc=>?_;have ah:bB C.P s.aa κ F w (use (a7 C.aM s.ax x)).2 (a.eval x):=cO M x rfl bd.1;rw[e_]at ah;have ae:=ah.2 aB.symm e';obtain⟨eb,ee⟩:=zi M e';simp only[fz]at hc;obtain⟨bE,c2,c3,c4⟩:=hc;cases aA:(κ b).e8 with
     | true=>
      have aX:=eb aA;simp only[bC.slice,aA,if_true]at ae;exact⟨_,runs a w κ F M bd.2.1 bd.2.2.1 bd.2.2.2 none 0 0 ae bE c2 c3 (by omega),trivial⟩
     | false=>
      have xd:=Kg M e' aA;simp only[bC.slice,aA,Bool.false_eq_true,if_false]at ae;exact⟨_,runs a w κ F M bd.2.1 bd.2.2.1 bd.2.2.2 _ _ _ ae bE c2 c3 (by omega),trivial⟩
    grind
   ·cases fW
  ·cases h
 ·cases h
theorem aeD{b:Nat}{e:ad}(W:(s.aa b).body=.bh e []):s.cy b ⟨(s.aa b).gen,.bh e []⟩=s:=by
 unfold az.cy;have:(λi=>if i=b then (⟨(s.aa b).gen,.bh e []⟩:bJ) else s.aa i)=s.aa:=by
  funext i;by_cases G:i=b
  ·subst G;simp only[if_true];rw[<-W]
  grind
 rw[this]
theorem aeE(aU:dT C.P T){args:Array Operand}{dn:Array TypeId}(bg:∀ i,o.dst=some i->i<C.nt)(af:o.op=.call { callee:=.builtin .append,args:=args,argTypes:=dn }){b g aY G:Nat}(aD:w5 (a7 C.aM s.ax) args.toList=some (b,g,aY,G))
  (h:(B8 T (a7 C.aM s.ax) args.toList dn.toList b g aY G).run s.aa=some res):cJ C o s res:=by
 obtain⟨args⟩:=args;obtain⟨dn⟩:=dn;have au:∀ c,o.op≠.defer c:=by grind
 simp only[B8]at h;split at h
 ·rename_i x y t u;have e_:(use (a7 C.aM s.ax x)).2=.sub b g aY G:=by
   simp only[w5]at aD;grind
  split at h
  ·rename_i e aN aH hu;have dp:=aU.b6 aH (by simp);have ve:=aU.b6 hu (by simp);obtain⟨jJ,aE,i',ov⟩:=dp.sl;obtain⟨ad1,fV,_⟩:=ve.sl;obtain⟨inf,z,i1,i2,i3,i4,i5,i6⟩:=ks i'.kr;have lj:0<e.size:=Nat.pos_of_ne_zero ov;simp only[aq.e4,Option.bind_eq_some_iff,aq.e3,aq.bM]at h;obtain⟨⟨ys,l⟩,j8,h⟩:=h;split at h
   ·rename_i aB;split at h
    ·rename_i a6 xs W;split at h
     ·rename_i q0;subst q0;simp only[Option.some.injEq]at h;subst h;intro a w κ F Q M bd hc;change G+ys.length<=xs.length at hc;obtain⟨q',cap',tJ,nP⟩:=sb M j8 (cO M y rfl bd.2);have ah:bB C.P s.aa κ F w (use (a7 C.aM s.ax x)).2 (a.eval x):=cO M x rfl bd.1;rw[e_]at ah;have aS:=M.bD b;unfold cF at aS;rw[W]at aS;obtain⟨⟨aP,aR⟩,bO⟩:=ah.2 aB.symm (by rw[W];rfl);rw[W]at aR bO;simp only[bQ.len,bQ.e2]at aR bO;have mP:∀ (w':World) v,(Builtin.append_ #[t,u] o.type #[a.eval x,a.eval y]).run C.P w=.ok v w'->(execOp a.eval o).run C.P w=.ok (.value v) w':=by
       intro w' v ae;refine xa af ?_;simp[builtin,ae]
      have zy:(gl xs G ys).length=xs.length:=by simp[gl];omega
      have gv:fq s.aa κ (λi=>if i=b then (⟨(s.aa b).gen,.bh a6 (gl xs G ys)⟩:bJ) else s.aa i) κ:=
       qP rfl (λh=>by cases h) (λ_=>by rw[W];exact⟨rfl,zy,rfl⟩) (λh=>by cases h) (λh=>by cases h)
      rcases bO with⟨aA,ae⟩ | ⟨aA,mo,ae,hQ,gF⟩
      ·have hS:=aS.1 aA;subst hS;have oy:G=0:=by grind
       subst oy;have KN:aY=0:=by omega
       subst KN;have KA:ys=[]:=by grind
       subst KA;obtain⟨ez,eb,ee⟩:=zo (P:=C.P) (w:=w) (cap:=cap') rfl nP;have c6:(Builtin.append_ #[t,u] o.type #[a.eval x,a.eval y]).run C.P w=.ok (.slice none 0 0) w:=by
        rw[ae,tJ];simp only[List.length_nil]at eb ⊢;simp[Builtin.append_,dC aE,dC fV,r7 i1,Builtin.lenOf];simp_all
       have bG:gl ([]:List a6.ai) 0 []=[]:=by rfl
       refine ht au (mP w _ c6) ⟨κ,F,bl.set (s:=s.cy b _) ?_ bg ⟨⟨by simp[az.cy,aB],rfl⟩,λ_ _=>⟨by simp,.inl ⟨aA,rfl⟩⟩⟩⟩;rw[bG,aeD W];exact M
      ·obtain⟨cs,hT,bE,c2,c3,c4,c5⟩:=aS.2 aA;obtain⟨ez,eb,ee⟩:=zo (P:=C.P) (w:=w) (cap:=cap') rfl nP;have pa:=ee.1;have nN:=ee.one lj;have Sq:xs.length*a6.size<=(κ b).cap*a6.size:=Nat.mul_le_mul_right _ c3;have Cz:(G+ys.length)*a6.size<=xs.length*a6.size:=Nat.mul_le_mul_right _ hc;rw[Nat.add_mul]at Cz;obtain⟨w',dh,b4,cv,ef,lh,kx,ml⟩:∃ w' dh,(storeCells ⟨(κ b).aa,mo+(G - aY)*a6.size,none⟩ ez).run C.P w=.ok () w'/\w'.heap[(κ b).aa]?=some (.cells dh hT (0,0))/\dh.toList=cs.toList.take ((κ b).off+G*a6.size)++(ez++cs.toList.drop ((κ b).off+G*a6.size+ez.length))/\
         (∀ r,r≠(κ b).aa->w'.heap[r]?=w.heap[r]?)/\w'.heap.size=w.heap.size/\dc w w':=by
        by_cases cb:aY<(κ b).cap
        ·have zz:mo+(G - aY)*a6.size=(κ b).off+G*a6.size:=by
          rw[gF cb,Nat.add_assoc,<-Nat.add_mul];grind
         rw[zz];obtain⟨w',dh,b4,cv,ef,lh,kx,ml⟩:=vd (P:=C.P) ez ((κ b).off+G*a6.size) 0 w cs bE (by omega) nN;grind
        ·have aX:ys.length=0:=by omega
         rw[aX,Nat.zero_mul]at pa;have:ez=[]:=List.eq_nil_of_length_eq_zero pa;subst this;exact⟨w,cs,by rfl,bE,by simp,λ_ _=>rfl,rfl,dc.refl w⟩
       have xe:G - aY+ys.length<=(κ b).cap - aY:=by omega
       have c6:(Builtin.append_ #[t,u] o.type #[a.eval x,a.eval y]).run C.P w=.ok (.slice (some ⟨(κ b).aa,mo,none⟩) (G - aY+ys.length) ((κ b).cap - aY)) w':=by
        rw[ae,tJ];simp only[Builtin.append_,List.getElem?_toArray,List.getElem?_cons_zero,List.getElem?_cons_succ,Sem.run_bind,dC aE,dC fV,Result.andThen_ok,r7 i1,i2,Sem.run_pure,Builtin.lenOf,Bool.false_eq_true,if_false,if_pos xe,Bool.not_false,if_true,eb,va];simp_all
       refine ht au (mP w' _ c6) ⟨κ,F,bl.set (s:=s.cy b _) ?_ bg ⟨⟨by simp[az.cy,aB],rfl⟩,λ_ _=>⟨by simp only[az.cy,if_true,bQ.len,zy];omega,.inr ⟨aA,mo,?_,?_,?_⟩⟩⟩⟩
       ·refine M.o6 (b:=b) (by rw[W];simp[bQ.bZ,aA]) (by simp[bQ.bZ,aA]) gv (λh=>by cases h) (λh=>by cases h) lh kx ml λH mR cb he=>?_;refine⟨λh=>(by grind),λ_=>⟨dh,hT,cv,?_,by omega,c4,?_⟩⟩
        ·have:dh.size=cs.size:=by
          rw[<-Array.length_toList,ef];grind
         omega
        ·exact c5.gl he ee hc (by omega) ef
       ·grind
       ·simp only[az.cy,if_true,bQ.e2];exact hQ
       ·simp only[az.cy,if_true,bQ.e2];exact gF
     grind
    grind
   grind
  ·cases h
 ·cases h
theorem aeF(aU:dT C.P T){args:Array Operand}{dn:Array TypeId}(bg:∀ i,o.dst=some i->i<C.nt)(af:o.op=.call { callee:=.builtin .clear,args:=args,argTypes:=dn })
  (h:(B9 T (a7 C.aM s.ax) args.toList dn.toList).run s.aa=some res):cJ C o s res:=by
 obtain⟨args⟩:=args;obtain⟨dn⟩:=dn;have au:∀ c,o.op≠.defer c:=by grind
 simp only[B9]at h;split at h
 ·rename_i x t;split at h
  ·rename_i e aH;have dp:=aU.b6 aH (by simp);obtain⟨jJ,aE,i',ov⟩:=dp.sl;obtain⟨inf,z,i1,i2,i3,i4,i5,i6⟩:=ks i'.kr;have lj:0<e.size:=Nat.pos_of_ne_zero ov;split at h
   ·rename_i b g aY G e_;simp only[aq.e3,aq.bM]at h;split at h
    ·rename_i aB;split at h
     ·rename_i a6 xs W;split at h
      ·rename_i q0;subst q0;simp only[Option.some.injEq]at h;subst h;intro a w κ F Q M bd _;have ah:bB C.P s.aa κ F w (use (a7 C.aM s.ax x)).2 (a.eval x):=cO M x rfl bd;rw[e_]at ah;have aS:=M.bD b;unfold cF at aS;rw[W]at aS;obtain⟨⟨aP,aR⟩,bO⟩:=ah.2 aB.symm (by rw[W];rfl);rw[W]at aR bO;simp only[bQ.len,bQ.e2]at aR bO;have mP:∀ (w':World) v,(Builtin.clear_ #[t] o.type #[a.eval x]).run C.P w=.ok v w'->(execOp a.eval o).run C.P w=.ok (.value v) w':=by
        intro w' v ae;refine xa af ?_;simp[builtin,ae]
       have tR:(List.replicate (G - aY) a6.de).length=G - aY:=by simp
       have zy:(gl xs aY (List.replicate (G - aY) a6.de)).length=xs.length:=by simp[gl];omega
       have gv:fq s.aa κ (λi=>if i=b then (⟨(s.aa b).gen,.bh a6 (gl xs aY (List.replicate (G - aY) a6.de))⟩:bJ) else s.aa i) κ:=
        qP rfl (λh=>by cases h) (λ_=>by rw[W];exact⟨rfl,zy,rfl⟩) (λh=>by cases h) (λh=>by cases h)
       have nothing:G - aY=0->gl xs aY (List.replicate (G - aY) a6.de)=xs:=λaX=>by rw[aX];simp[gl]
       have hE:G - aY=0->s.cy b ⟨(s.aa b).gen,.bh a6 (gl xs aY (List.replicate (G - aY) a6.de))⟩=s:=λaX=>by
        rw[nothing aX];unfold az.cy;have:(λi=>if i=b then (⟨(s.aa b).gen,.bh a6 xs⟩:bJ) else s.aa i)=s.aa:=by
         funext i;by_cases G:i=b
         ·subst G;simp only[if_true];rw[<-W]
         grind
        rw[this]
       rcases bO with⟨aA,ae⟩ | ⟨aA,mo,ae,hQ,gF⟩
       ·have hS:=aS.1 aA;subst hS;have oy:G - aY=0:=by grind
        have c6:(Builtin.clear_ #[t] o.type #[a.eval x]).run C.P w=.ok (.tuple #[]) w:=by
         rw[ae];simp[Builtin.clear_,dC aE]
        refine ht au (mP w _ c6) ⟨κ,F,bl.set (s:=s.cy b _) ?_ bg trivial⟩;grind
       ·obtain⟨cs,hT,bE,c2,c3,c4,c5⟩:=aS.2 aA;by_cases aX:G - aY=0
        ·have c6:(Builtin.clear_ #[t] o.type #[a.eval x]).run C.P w=.ok (.tuple #[]) w:=by
          rw[ae,aX];simp[Builtin.clear_,dC aE]
         refine ht au (mP w _ c6) ⟨κ,F,bl.set (s:=s.cy b _) ?_ bg trivial⟩;grind
        ·obtain⟨n,qb⟩:∃ n,G - aY=n+1:=⟨G - aY - 1,by omega⟩
         have jk:gw C.P a6 F w ((Array.range ((G - aY)*a6.size)).map (λi=>z.cells[i % z.cells.size]!)).toList (List.replicate (G - aY) a6.de):=Sl i5 _;have tQ:z.cells.size=a6.size:=by
          obtain⟨c,zx,ot,z2⟩:=u9 (P:=C.P) (H:=λ_=>⟨0,.fy⟩) (κ:=λ_=>⟨0,0,0,true⟩) (F:=F) (w:=w) a6 i5;rw[List.append_nil]at zx;rw[<-Array.length_toList,zx];exact hO a6 ot
         have pa:=jk.1;rw[tR]at pa;have nN:=jk.one lj;revert jk pa nN;generalize lk:((Array.range ((G - aY)*a6.size)).map (λi=>z.cells[i % z.cells.size]!)).toList=ez;intro jk pa nN;have Sq:xs.length*a6.size<=(κ b).cap*a6.size:=Nat.mul_le_mul_right _ c3;have Cz:(aY+(G - aY))*a6.size<=xs.length*a6.size:=Nat.mul_le_mul_right _ (by omega);rw[Nat.add_mul]at Cz;have zz:mo=(κ b).off+aY*a6.size:=gF (by omega);obtain⟨w',dh,b4,cv,ef,lh,kx,ml⟩:=vd (P:=C.P) ez ((κ b).off+aY*a6.size) 0 w cs bE (by omega) nN;have c6:(Builtin.clear_ #[t] o.type #[a.eval x]).run C.P w=.ok (.tuple #[]) w':=by
          rw[ae,zz];have bk:(Builtin.zeroCells z.cells (G - aY)).toList=ez:=by rw[<-lk,<-tQ];rfl
          simp only[Builtin.clear_,List.getElem?_toArray,List.getElem?_cons_zero,Sem.run_bind,dC aE,Result.andThen_ok,qT i1 i4,qb];simp_all
         refine ht au (mP w' _ c6) ⟨κ,F,bl.set (s:=s.cy b _) ?_ bg trivial⟩;refine M.o6 (b:=b) (by rw[W];simp[bQ.bZ,aA]) (by simp[bQ.bZ,aA]) gv (λh=>by cases h) (λh=>by cases h) lh kx ml λH mR cb he=>?_;refine⟨λh=>(by grind),λ_=>⟨dh,hT,cv,?_,by omega,c4,?_⟩⟩
         ·have:dh.size=cs.size:=by
           rw[<-Array.length_toList,ef];grind
          omega
         ·exact c5.gl he jk (by omega) (by omega) (by omega)
      grind
     grind
    grind
   ·cases h
  ·cases h
 ·cases h
end
end Go.Fer
namespace Go.Fer
open Go.RowKit
section
variable {C:b_} {T:Nat->ad} {bf:Nat->Option aK} {o:Oper} {s:az} {res:eB}
theorem KO{place:Nat->Option (Nat×Nat)}{size:Nat}(an:∀ i,place i=some (i*size,size)):∀ (qs:List (Nat×Value)) (cs:Array Value),(∀ q∈qs,q.2.cells.size=size/\q.1*size+size<=cs.size)->(qs.map (·.1)).Nodup->
  ∃ dh,Instr.fill place cs qs=some dh/\dh.size=cs.size/\∀ i,i*size+size<=cs.size->(dh.toList.drop (i*size)).take size=(match qs.find? (λp=>p.1 == i) with | some q=>q.2.cells.toList | none=>(cs.toList.drop (i*size)).take size)
 | [],cs,_,_=>⟨cs,rfl,rfl,λi _=>rfl⟩
 | (k,v)::qs,cs,h,aA=>by
  obtain⟨E,U⟩:=h (k,v) (by simp);simp only at E U;have FK:=FI v.cells.toList 0 (k*size) cs (by grind);have e:(v.cells.zipIdx.foldl (λ(cs:Array Value) (p:Value×Nat)=>cs.setIfInBounds (k*size+p.2) p.1) cs)=((v.cells.toList.zipIdx 0).foldl (λ(cs:Array Value) (p:Value×Nat)=>cs.setIfInBounds (k*size+p.2) p.1) cs):=by
   rw[<-Array.foldl_toList];simp
  generalize axK:(v.cells.zipIdx.foldl (λ(cs:Array Value) (p:Value×Nat)=>cs.setIfInBounds (k*size+p.2) p.1) cs)=FX at *
  have Ss:FX.toList=cs.toList.take (k*size)++(v.cells.toList++cs.toList.drop (k*size+size)):=by
   grind
  have cd:FX.size=cs.size:=by
   rw[<-Array.length_toList,Ss];grind
  have CA:(qs.map (·.1)).Nodup/\k ∉ qs.map (·.1):=by
   grind
  obtain⟨dh,aP,aR,bO⟩:=KO an qs FX (λq br=>by grind) CA.1;refine⟨dh,?_,by omega,λi G=>?_⟩
  ·simp only[Instr.fill,an];grind
  ·rw[bO i (by omega)];by_cases mT:k=i
   ·grind
   ·have:((k,v)::qs).find? (λp=>p.1 == i)=qs.find? (λp=>p.1 == i):=by grind
    rw[this];have jk:(FX.toList.drop (i*size)).take size=(cs.toList.drop (i*size)).take size:=by
     apply List.ext_getElem?;intro j;simp only[List.getElem?_take,List.getElem?_drop];split
     ·rename_i aE;rw[Ss];have kQ:(List.take (k*size) cs.toList).length=k*size:=by grind
      have xc:v.cells.toList.length=size:=by omega
      rcases Nat.lt_or_ge i k with ag | ag
      ·have:(i+1)*size<=k*size:=Nat.mul_le_mul_right _ (by omega);grind
      ·have:(k+1)*size<=i*size:=Nat.mul_le_mul_right _ (by omega);rw[Nat.add_mul]at this;rw[List.getElem?_append_right (by omega),kQ,List.getElem?_append_right (by omega),List.getElem?_drop];congr 1;omega
     ·rfl
    grind
theorem aeG(aU:dT C.P T){ty n:Nat}{ps:Array (Nat×Operand)}(bg:∀ i,o.dst=some i->i<C.nt)(af:o.op=.buildSlice ty n ps)(h:(bw C.aM T bf (a7 C.aM s.ax) o).run s.aa=some res):cJ C o s res:=by
 obtain⟨ps⟩:=ps;have au:∀ c,o.op≠.defer c:=by grind
 simp only[bw,af]at h;split at h
 ·rename_i e aH;have dp:=aU.b6 aH (by simp);obtain⟨jJ,aE,i',ov⟩:=dp.sl;obtain⟨inf,z,i1,i2,i3,i4,i5,i6⟩:=ks i'.kr;simp only[aq.e4,Option.bind_eq_some_iff,aq.run_bind]at h;obtain⟨⟨xs,bU⟩,hS,h⟩:=h;obtain⟨b,axL,al⟩:=qV h;split at al
  ·rename_i FY;obtain⟨axM,St⟩:=FY;simp only[Bool.and_eq_true,Bool.not_eq_true',decide_eq_true_eq]at St;obtain⟨⟨fX,tL⟩,KP⟩:=St;have p7:b ∉ bU:=by grind
   simp only[Option.some.injEq]at al;subst al;intro a w κ F Q M bd _;obtain⟨F',f1,bb,f2⟩:=bl.lg (aeb n 0 hS) M;obtain⟨aeH,FZ,ot,z2⟩:=u9 (P:=C.P) (H:=s.aa) (κ:=κ) (F:=F') (w:=w) e i5;rw[List.append_nil]at FZ;have KQ:=Kl M ps bd;have ka:=Sc M.bD f1 ot (ps:=iB (ps.map λp=>(p.1,a7 C.aM s.ax p.2))) (qs:=ps.map λp=>(p.1,a.eval p.2)) (by simp[iB]) KQ n 0 hS f2;have tQ:=(Cg e (P:=C.P) i5).2;have KR:∀ p∈ps,p.1<n:=by
    intro p an;have:=List.all_eq_true.1 KP (p.1,(use (a7 C.aM s.ax p.2)).2) (by simp only[iB,List.map_map,List.mem_map];grind);grind
   have KS:((ps.map λp=>(p.1,a.eval p.2)).map (·.1)).Nodup:=by
    have:(iB (ps.map λp=>(p.1,a7 C.aM s.ax p.2))).map (·.1)=(ps.map λp=>(p.1,a.eval p.2)).map (·.1):=by simp[iB]
    grind
   have Su:∀ q∈ps.map (λp=>(p.1,a.eval p.2)),q.2.cells.size=e.size/\q.1*e.size+e.size<=n*e.size:=by
    intro q br;obtain⟨p,an,rfl⟩:=List.mem_map.1 br;have cb:=KR p an;refine⟨?_,by
     have:(p.1+1)*e.size<=n*e.size:=Nat.mul_le_mul_right _ (by omega);grind⟩
    obtain⟨bj,d1,d2⟩:=ka.2 p.1 (by omega);rw[Nat.zero_add]at d2;have vk:(ps.map λp=>(p.1,a.eval p.2)).find? (λr=>r.1 == p.1)=some (p.1,a.eval p.2):=by
     have aeI:∀ (l:List (Nat×Value)),(l.map (·.1)).Nodup->∀ q∈l,l.find? (λr=>r.1 == q.1)=some q:=by
      intro l;induction l with
      | nil=>simp
      | cons c l aJ=>
       grind
     grind
    rw[vk]at d2;have:=hO e d1;grind
   have KT:z.cells.size≠0:=by omega
   let base:Array Value:=(Array.range (n*e.size)).map (λi=>z.cells[i % z.cells.size]!);have axN:base.size=n*e.size:=by grind
   obtain⟨dh,aP,aR,bO⟩:=KO (place:=λi=>some (i*e.size,e.size)) (λi=>rfl) (ps.map λp=>(p.1,a.eval p.2)) base (by grind) KS;have axO:∀ i,i<n->(base.toList.drop (i*e.size)).take e.size=z.cells.toList:=by
    intro i G;have hle:(i+1)*e.size<=n*e.size:=Nat.mul_le_mul_right _ (by omega);rw[Nat.add_mul]at hle;apply List.ext_getElem?;intro j;simp only[List.getElem?_take,List.getElem?_drop];split
    ·rename_i aE;have fV:j<z.cells.size:=by omega
     rw[Array.getElem?_toList,Array.getElem?_toList];have zr:(i*e.size+j) % z.cells.size=j:=by rw[tQ,Nat.add_comm,Nat.add_mul_mod_self_right,Nat.mod_eq_of_lt aE]
     grind
    grind
   have aeJ:gw C.P e F' w dh.toList xs:=by
    refine⟨by grind,λi G=>?_⟩;have dK:i<n:=by omega
    have hle:(i+1)*e.size<=n*e.size:=Nat.mul_le_mul_right _ (by omega);grind
   have c6:(execOp a.eval o).run C.P w=.ok (.value (.slice (some ⟨w.heap.size,0,none⟩) n n)) (w.alloc (.cells dh jJ)):=by
    have aeK:¬n*e.size > 2 ^ 24:=by omega
    simp only[execOp,af,Instr.buildSlice,Sem.run_bind,dC aE,Result.andThen_ok,r7 i1,i2,aeK,if_false];by_cases sf:n*e.size=0
    ·have zA:base=#[]:=Array.eq_empty_of_size_eq_zero (by omega);rw[zA]at aP;simp only[sf,if_true,Sem.run_bind,Sem.run_pure,Result.andThen_ok];rw[show ((Array.range 0).map (λi=>(#[]:Array Value)[i % (#[]:Array Value).size]!))=#[] from by simp];simp only[List.map_toArray]at aP ⊢;rw[show Instr.fill (λi=>some (i*e.size,e.size)) #[] (ps.map λx=>(x.1,a.eval x.2))=some dh from aP];rfl
    ·simp only[sf,if_false,Sem.run_bind,qT i1 i4,Result.andThen_ok,Sem.run_pure];simp only[List.map_toArray];rw[show Instr.fill (λi=>some (i*e.size,e.size)) ((Array.range (n*e.size)).map (λi=>z.cells[i % z.cells.size]!)) (ps.map λx=>(x.1,a.eval x.2))=some dh from aP];rfl
   have mS:s.gh ((jF bU).run s.aa++[(b,⟨(s.aa b).gen+1,.bh e xs⟩)])=(s.cA bU).cy b ⟨(s.aa b).gen+1,.bh e xs⟩:=by
    rw[Cf,tE]
   have pb:(s.cA bU).aa b=s.aa b:=by simp[az.cA,p7]
   have ag:=bb.Cq (b:=b) (g:=(s.aa b).gen+1) (zs:=xs) (k:=⟨w.heap.size,0,n,false⟩) (w':=w.alloc (.cells dh jJ)) (by grind) (.inr rfl) (by simp) (λr M=>o5 w _ M) (λ_=>by simp) ⟨rfl,rfl,rfl⟩
    (λH κ'=>⟨λh=>(by cases h),λ_=>⟨dh,jJ,p1 w _,by grind,by grind,by
     have:n<=n*e.size:=Nat.le_mul_of_pos_right _ (Nat.pos_of_ne_zero ov);grind,(aeJ.Co (pre:=[]) (post:=[]) (by simp)).later (c1.alloc bb.da _)⟩⟩)
   refine ht au c6 ?_;simp only[az.h5];rw[mS];exact⟨_,F',bl.set ag bg ⟨⟨by simp[az.cy],rfl⟩,λ_ _=>by simp[az.cy,bC.slice,bQ.len,ka.1]⟩⟩
  grind
 ·cases h
theorem Sv(nQ:Nat):∀ (m:Nat) (l:List Value),l.length=m*nQ->((List.range m).map λi=>(l.drop (i*nQ)).take nQ).flatten=l
 | 0,l,h=>by
  have:l=[]:=List.eq_nil_of_length_eq_zero (by omega);simp[this]
 | m+1,l,h=>by
  rw[Nat.add_mul]at h;have aJ:=Sv nQ m (l.take (m*nQ)) (by grind);rw[List.range_succ,List.map_append,List.flatten_append];have e:((List.range m).map λi=>(l.drop (i*nQ)).take nQ)=((List.range m).map λi=>((l.take (m*nQ)).drop (i*nQ)).take nQ):=by
   refine List.map_congr_left λi G=>?_;have hle:(i+1)*nQ<=m*nQ:=Nat.mul_le_mul_right _ (by have:=List.mem_range.1 G;omega);rw[Nat.add_mul]at hle;rw[List.drop_take,List.take_take,Nat.min_eq_left (by omega)]
  rw[e,aJ];have:(l.drop (m*nQ)).take nQ=l.drop (m*nQ):=List.take_of_length_le (by grind);simp[this]
theorem aeL(aU:dT C.P T){ty m:Nat}{e:ad}{ps:Array (Nat×Operand)}(bg:∀ i,o.dst=some i->i<C.nt)(af:o.op=.build ty ps)(aH:T ty=.array m e)
  (h:((tA e (iB (ps.toList.map λp=>(p.1,a7 C.aM s.ax p.2))) 0 m).cQ λ(xs,bU)=>if (bU.isEmpty&&decide ((iB (ps.toList.map λp=>(p.1,a7 C.aM s.ax p.2))).map (·.1)).Nodup&&(iB (ps.toList.map λp=>(p.1,a7 C.aM s.ax p.2))).all (λp=>decide (p.1<m)))=true then bN (r5 (ps.toList.map λp=>(p.1,a7 C.aM s.ax p.2))) True (.val (.array m e) xs) else .none).run s.aa=some res):cJ C o s res:=by
 obtain⟨ps⟩:=ps;simp only[aq.e4,Option.bind_eq_some_iff]at h;obtain⟨⟨xs,bU⟩,hS,h⟩:=h;have dp:=aU.b6 aH (by simp);obtain⟨jJ,aE,i',ov⟩:=dp.bh;obtain⟨i,z,E,U,ag,a1,bL,dm⟩:=ks dp.kr;split at h
 ·rename_i hc;simp only[Bool.and_eq_true,decide_eq_true_eq,List.isEmpty_iff,List.all_eq_true]at hc;obtain⟨⟨rfl,tL⟩,KP⟩:=hc;simp only[bN,aq.bM,Option.some.injEq]at h;subst h;refine cJ.pure (by grind) bg λa w κ F M bd _=>?_;obtain⟨aeH,FZ,ot,z2⟩:=u9 (P:=C.P) (H:=s.aa) (κ:=κ) (F:=F) (w:=w) (.array m e) bL;rw[List.append_nil]at FZ;have tQ:=(Cg (.array m e) (P:=C.P) bL).2;have axP:z.cells.size=m*e.size:=tQ;have KQ:=Kl M ps bd;have ka:=λ(zero:List Value) (bk:bI C.P e F w zero e.de)=>Sc M.bD (λ_ h=>h) bk (ps:=iB (ps.map λp=>(p.1,a7 C.aM s.ax p.2))) (qs:=ps.map λp=>(p.1,a.eval p.2)) (by simp[iB]) KQ m 0 hS (λ_ h=>by cases h);have KR:∀ p∈ps,p.1<m:=by
   intro p an;exact KP (p.1,(use (a7 C.aM s.ax p.2)).2) (by simp only[iB,List.map_map,List.mem_map];grind)
  have KS:((ps.map λp=>(p.1,a.eval p.2)).map (·.1)).Nodup:=by
   have:(iB (ps.map λp=>(p.1,a7 C.aM s.ax p.2))).map (·.1)=(ps.map λp=>(p.1,a.eval p.2)).map (·.1):=by simp[iB]
   grind
  have jk:∀ i,i<m->bI C.P e F w ((z.cells.toList.drop (i*e.size)).take e.size) e.de:=by
   intro i G;have aeM:bI C.P (.array m e) F w z.cells.toList (ad.array m e).de:=by rw[FZ];exact ot
   obtain⟨p,c,q,aP,aR,bO⟩:=Kf aeM G;have aj:=hO e bO;have:(ad.de (.array m e)).getD i e.de=e.de:=by
    show (List.replicate m e.de).getD i e.de=e.de;grind
   rw[this]at bO;have:(z.cells.toList.drop (i*e.size)).take e.size=c:=by
    rw[aP,<-aR];simp[aj]
   rw[this];exact bO
  have Sw:xs.length=m:=by
   rcases Nat.eq_zero_or_pos m with aX | aX
   ·subst aX;simp only[tA,aq.bM,Option.some.injEq,Prod.mk.injEq]at hS;rw[<-hS.1];rfl
   ·exact (ka _ (jk 0 aX)).1
  have Su:∀ q∈ps.map (λp=>(p.1,a.eval p.2)),q.2.cells.size=e.size/\q.1*e.size+e.size<=z.cells.size:=by
   intro q br;obtain⟨p,an,rfl⟩:=List.mem_map.1 br;have cb:=KR p an;refine⟨?_,by
    have:(p.1+1)*e.size<=m*e.size:=Nat.mul_le_mul_right _ (by omega);grind⟩
   obtain⟨bj,d1,d2⟩:=(ka _ (jk p.1 cb)).2 p.1 (by omega);rw[Nat.zero_add]at d2;have vk:(ps.map λp=>(p.1,a.eval p.2)).find? (λr=>r.1 == p.1)=some (p.1,a.eval p.2):=by
    have aeI:∀ (l:List (Nat×Value)),(l.map (·.1)).Nodup->∀ q∈l,l.find? (λr=>r.1 == q.1)=some q:=by
     intro l;induction l with
     | nil=>simp
     | cons c l aJ=>
      grind
    grind
   rw[vk]at d2;have:=hO e d1;grind
  obtain⟨dh,aP,aR,bO⟩:=KO (place:=λi=>some (i*e.size,e.size)) (λi=>rfl) (ps.map λp=>(p.1,a.eval p.2)) z.cells Su KS;refine⟨.agg dh,?_,⟨dh,rfl,by omega⟩,?_⟩
  ·simp only[execOp,af,Instr.build,Sem.run_bind,qT E a1,Result.andThen_ok,dC aE,i'.size];simp_all
  ·refine⟨(List.range m).map λi=>(dh.toList.drop (i*e.size)).take e.size,(Sv e.size m dh.toList (by grind)).symm,by simp,Sw,λi G dK=>?_⟩;simp only[List.getElem_map,List.getElem_range];have KM:i<m:=by omega
   have hle:(i+1)*e.size<=m*e.size:=Nat.mul_le_mul_right _ (by omega);rw[Nat.add_mul]at hle;obtain⟨bj,d1,d2⟩:=(ka _ (jk i KM)).2 i G;rw[Nat.zero_add]at d2;have:=bO i (by omega);have:(dh.toList.drop (i*e.size)).take e.size=bj:=by
    rw[this];split at d2<;>simp_all
   rw[this];exact d1
 ·cases h
theorem fp.mono{P:Program}{t:ad}{F F':Nat->Prop}{w w':World}{aC:List Value}{x:t.ai}(h:fp P t F w aC x)(bo:∀ r,F r->F' r)(he:c1 F w w'):fp P t F' w' aC x:=⟨h.1,fe t bo he h.2⟩
theorem aeN{k:FuncId}{cZ:List Operand}(bg:∀ i,o.dst=some i->i<C.nt)(af:o.op=.makeFunc (.func k) #[] ⟨cZ⟩){v:Fp}(ae:C.aM.tv k=some v)
  (h:((iX (gm (v.cs.map .bH)) ((cZ.map (a7 C.aM s.ax)).map λv=>(use v).2)).cQ λ(y,bU)=>(jF bU).bind λwl=>.ret (some ⟨jG (cZ.map (a7 C.aM s.ax)),True,.val (.fn (gm v.as) v.aV) (λx=>v.sh (Fo v.as (v.cs.map .bH) x y)),wl⟩):aq (Option eB)).run s.aa=some res):cJ C o s res:=by
 simp only[aq.e4,Option.bind_eq_some_iff,aq.run_bind,aq.bM,Option.some.injEq]at h;obtain⟨⟨y,l⟩,aQ,rfl⟩:=h;intro a w κ F Q M bd _;obtain⟨F',f1,bb,f2⟩:=bl.lg (p_ _ aQ) M;have dX:fp C.P (gm (v.cs.map .bH)) F' w (cZ.map a.eval) y:=by
  refine vj M.bD f1 _ aQ f2 (by simp) λi G dK=>?_;simp only[List.getElem_map];have dz:i<cZ.length:=by grind
  have E:=r8 bd i (by grind);have aw:(cZ.map (a7 C.aM s.ax)).getD i .undef=a7 C.aM s.ax cZ[i]:=by grind
  rw[aw]at E;exact o8 (j7 M cZ[i]) E
 obtain⟨aD,xh⟩:=M.jD.tv k v ae;have c6:(execOp a.eval o).run C.P w=.ok (.value (.func (.func k) #[] (cZ.map a.eval).toArray)) w:=by simp[execOp,af,Instr.makeFunc]
 refine ht (by grind) c6 ⟨κ,F',?_⟩;simp only[az.h5];rw[tE];refine bl.set bb bg ((dU rfl).2 ⟨rfl,_,rfl,⟨rfl,rfl⟩,λek c7 zB xi tS xj args x E U ag=>⟨k,_,rfl,xh.enter,?_⟩⟩);have aE:=Rk v.as (v.cs.map .bH) aD (P:=C.P) (F:=ek) (w:=c7) ⟨E,U⟩ (dX.mono zB xi);have:=xh.iU ek c7 _ _ tS xj aE ag;have e:(args++cZ.map a.eval).toArray=args.toArray++(cZ.map a.eval).toArray:=by simp
 rw[e]at this;exact this.mono λe tq ⟨v,y,aw,aN,⟨aC,cE,ed,dY⟩,la⟩=>⟨v,y,aC,aw,aN,cE,ed,dY,la⟩
theorem aeO{k:FuncId}{cZ:List Operand}(bg:∀ i,o.dst=some i->i<C.nt)(af:o.op=.makeFunc (.func k) #[] ⟨cZ⟩){v:wV}(ae:C.aM.wX k=some v)
  (h:((iX (gm (v.cs.map .bH)) ((cZ.map (a7 C.aM s.ax)).map λv=>(use v).2)).cQ λ(y,bU)=>(jF bU).bind λwl=>.ret (some ⟨jG (cZ.map (a7 C.aM s.ax)),True,.val (.cr v.aL) (v.S y),wl⟩):aq (Option eB)).run s.aa=some res):cJ C o s res:=by
 simp only[aq.e4,Option.bind_eq_some_iff,aq.run_bind,aq.bM,Option.some.injEq]at h;obtain⟨⟨y,l⟩,aQ,rfl⟩:=h;intro a w κ F Q M bd _;obtain⟨F',f1,bb,f2⟩:=bl.lg (p_ _ aQ) M;have dX:fp C.P (gm (v.cs.map .bH)) F' w (cZ.map a.eval) y:=by
  refine vj M.bD f1 _ aQ f2 (by simp) λi G dK=>?_;simp only[List.getElem_map];have dz:i<cZ.length:=by grind
  have E:=r8 bd i (by grind);have aw:(cZ.map (a7 C.aM s.ax)).getD i .undef=a7 C.aM s.ax cZ[i]:=by grind
  rw[aw]at E;exact o8 (j7 M cZ[i]) E
 have xh:=M.jD.wX k v ae;have c6:(execOp a.eval o).run C.P w=.ok (.value (.func (.func k) #[] (cZ.map a.eval).toArray)) w:=by simp[execOp,af,Instr.makeFunc]
 refine ht (by grind) c6 ⟨κ,F',?_⟩;simp only[az.h5];rw[tE];refine bl.set bb bg ((dU rfl).2 ⟨rfl,_,rfl,⟨rfl,rfl⟩,λek c7 zB xi tS xj eN=>⟨k,_,rfl,xh.enter,λl I Y iE jq eA=>?_⟩⟩);exact xh.iU ek c7 _ _ tS xj (dX.mono zB xi) eN l I Y iE jq eA
theorem aeP{k:FuncId}{cZ:Array Operand}(bg:∀ i,o.dst=some i->i<C.nt)(af:o.op=.makeFunc (.func k) #[] cZ)(h:(bw C.aM T bf (a7 C.aM s.ax) o).run s.aa=some res):cJ C o s res:=by
 obtain⟨cZ⟩:=cZ;simp only[bw,af,Array.isEmpty_empty,if_true]at h;split at h;case h_1 v ae=>exact aeN bg af ae h
 split at h;case h_1 v ae=>exact aeO bg af ae h
 simp only[bN,aq.bM,Option.some.injEq]at h;subst h;refine cJ.pure (by grind) bg λa w κ F M bd _=>?_;refine⟨.func (.func k) #[] (cZ.map a.eval).toArray,by simp[execOp,af,Instr.makeFunc],cZ.map a.eval,rfl,by simp,λi G=>?_⟩;have dK:i<cZ.length:=by grind
 have E:(use ((cZ.map (a7 C.aM s.ax)).getD i .undef)).1:=r8 bd i (by omega);have aw:(cZ.map (a7 C.aM s.ax)).getD i .undef=a7 C.aM s.ax cZ[i]:=by grind
 rw[aw]at E;have U:=o8 (j7 M cZ[i]) E;have aN:(cZ.map a.eval).getD i Go.undef=a.eval cZ[i]:=by grind
 have cE:hg ((cZ.map (a7 C.aM s.ax)).map λv=>(use v).2) i=(use (a7 C.aM s.ax cZ[i])).2:=by simp[hg,List.getD_eq_getElem?_getD,dK]
 grind
theorem aeQ{k:FuncId}{first cZ:Array Operand}(bg:∀ i,o.dst=some i->i<C.nt)(af:o.op=.makeFunc (.func k) first cZ)(ao:first.isEmpty=false)(h:(bw C.aM T bf (a7 C.aM s.ax) o).run s.aa=some res):cJ C o s res:=by
 obtain⟨first⟩:=first
 simp only[bw,af,ao,Bool.false_eq_true,if_false]at h;split at h
 ·rename_i hc;have hc:cZ=#[]:=by grind
  subst hc;simp only[bN,aq.bM,Option.some.injEq]at h;subst h;refine cJ.pure (by grind) bg λa w κ F M bd _=>?_;refine⟨.func (.func k) (first.map a.eval).toArray #[],by simp[execOp,af,Instr.makeFunc],first.map a.eval,rfl,by simp,λi G=>?_⟩;have dK:i<first.length:=by omega
  have E:(use ((first.map (a7 C.aM s.ax)).getD i .undef)).1:=r8 bd i (by grind);have aw:(first.map (a7 C.aM s.ax)).getD i .undef=a7 C.aM s.ax first[i]:=by grind
  rw[aw]at E;have U:=o8 (j7 M first[i]) E;have aN:(first.map a.eval).getD i Go.undef=a.eval first[i]:=by grind
  have cE:hg ((first.map (a7 C.aM s.ax)).map λv=>(use v).2) i=(use (a7 C.aM s.ax first[i])).2:=by simp[hg,List.getD_eq_getElem?_getD,dK]
  grind
 ·cases h
def lo(o:Oper)(nt:Nat):Bool:=
 (match o.dst with | some d=>decide (d<nt) | none=>true)&&(match o.op with | .store _ _ _=>o.dst.isNone | .mapUpdate _ _ _ _=>o.dst.isNone | .insert _ _ _ _=>o.dst.isNone | _=>true)
theorem xk(aU:dT C.P T)(cB:jm C.P bf)(au:lo o C.nt=true)(h:(bw C.aM T bf (a7 C.aM s.ax) o).run s.aa=some res):cJ C o s res:=by
 simp only[lo,Bool.and_eq_true]at au;have bg:∀ i,o.dst=some i->i<C.nt:=λi G=>by
  grind
 cases af:o.op with
 | move x=>exact adb bg af h
 | assign x=>exact ade bg af h
 | pick c a b=>exact adf bg af h
 | binOp op t x y cX=>exact adn aU bg af h
 | unOp op t x=>exact adg bg af h
 | extract t i=>exact adh bg af h
 | nilCheck x=>exact adi bg af h
 | fieldAddr t x f=>exact adj aU bg af h
 | field t x f=>exact adk aU bg af h
 | load t x=>exact ado aU bg af h
 | store t x y=>
  have:=au.2;rw[af]at this;exact adH aU (by grind) af h
 | alloc t=>
  by_cases aH:T t=.cT
  ·simp only[bw,af,aH]at h;obtain⟨_,_,al⟩:=qV h;grind
  ·exact ady aU bg af h aH
 | box t x=>exact adA bg af h
 | build t ps=>
  by_cases FL:∀ m e,T t≠.array m e
  ·exact adF aU bg af FL h
  ·obtain⟨m,e,aH⟩:∃ m e,T t=.array m e:=by grind
   refine aeL aU bg af aH ?_;simpa only [bw,af,aH]using h
 | buildSlice t n ps=>exact aeG aU bg af h
 | indexAddr t x i=>exact adN aU bg af h
 | index t x i=>exact adq aU bg af h
 | convert a b x=>exact ad9 aU bg af h
 | makeFunc fn first cZ=>
  cases fn with
  | func k=>
   by_cases ao:first=#[]
   ·subst ao;exact aeP bg af h
   ·exact aeQ bg af (by grind) h
  | _=>simp[bw,af,aq.none]at h
 | makeMap t r=>exact aeh bg af h
 | lookup t m x ok=>exact aei aU bg af h
 | mapUpdate t m x y=>
  have:=au.2;rw[af]at this;exact KI aU (by grind) (.inl af) h
 | insert t m x y=>
  have:=au.2;rw[af]at this;exact KI aU (by grind) (.inr af) h
 | makeSlice t l c=>exact aen aU bg af h
 | makeInterface t x=>exact Sr (by simp[bw,af,bN]) h
 | panic x=>exact Sr (by simp[bw,af,bN]) h
 | slice t x aY G o7=>
  cases o7 with
  | none=>exact adP aU bg af h
  | some m=>exact aeA aU bg af h
 | call c=>
  obtain⟨callee,args,dn⟩:=c;cases callee with
  | value f=>
   cases f with
   | func k=>exact aec cB bg af h
   | _=>simp[bw,af,mN,aq.none]at h
  | invoke r m=>simp[bw,af,mN,aq.none]at h
  | builtin b=>
   cases b with
   | len=>exact adv aU bg af h
   | append=>
    cases aD:w5 (a7 C.aM s.ax) args.toList with
    | none=>exact ad0 aU bg af (by simpa [bw,af,mN,aD]using h)
    | some p=>exact aeE aU bg af aD (by simpa [bw,af,mN,aD]using h)
   | clear=>exact aeF aU bg af (by simpa [bw,af,mN]using h)
   | copy=>exact aev aU bg af h
   | min=>exact RQ (.inl ⟨rfl,rfl⟩) bg af (by simpa [bw,af,mN]using h)
   | max=>exact RQ (.inr ⟨rfl,rfl⟩) bg af (by simpa [bw,af,mN]using h)
   | cap=>exact adw aU bg af (by simpa [bw,af,mN]using h)
   | _=>simp[bw,af,mN,aq.none]at h
 | _=>simp[bw,af,aq.none]at h
end
end Go.Fer
namespace Go.Fer
open Go.RowKit
def aq.cW{ak:Type}(p:ak->Prop):aq ak->Prop
 | .ret a=>p a
 | .eR _ k=>∀ x,(k x).cW p
theorem KU{aI:Operand->aG}{k:IntKind}:∀ (l:List Operand) {ca:Prop} {h4:z1'},(∀ x∈l,(use (aI x)).1)->mM aI k l=some (ca,h4)->ca
 | [],_,_,_,h=>by cases h
 | [x],ca,h4,hu,h=>by
  simp only[mM]at h;split at h
  ·split at h
   ·cases h;exact hu x (by simp)
   ·cases h
  ·cases h
 | x::y::l,ca,h4,hu,h=>by
  simp only[mM]at h;split at h
  ·rename_i aj;split at h
   ·cases h;exact⟨hu x (by simp),KU (y::l) (λz bk=>hu z (List.mem_cons_of_mem _ bk)) aj⟩
   ·cases h
  ·cases h
theorem aq.cW.run{ak:Type}{p:ak->Prop}{m:aq ak}(h:m.cW p)(H:Nat->bJ):p (m.run H):=by
 induction m with
 | ret a=>exact h
 | eR b k aJ=>exact aJ _ (h _)
theorem aq.cW.bind{ak β:Type}{p:β->Prop}{m:aq ak}{f:ak->aq β}(h:∀ a,(f a).cW p):(m.bind f).cW p:=by
 induction m with
 | ret a=>exact h a
 | eR b k aJ=>exact λx=>aJ x
def lp{ak:Type}(p:ak->Prop)(x:Option ak):Prop:=∀ a,x=some a->p a
theorem aq.cW.cQ{ak β:Type}{p:β->Prop}{m:aq (Option ak)}{f:ak->aq (Option β)}(h:∀ a,(f a).cW (lp p)):(m.cQ f).cW (lp p):=by
 refine aq.cW.bind λa=>?_;cases a with
 | none=>intro a h;cases h
 | some a=>grind
theorem aq.cW.Sx{ak β:Type}{q:ak->Prop}{p:β->Prop}{m:aq (Option ak)}{f:ak->aq (Option β)}(hm:m.cW (lp q))(h:∀ a,q a->(f a).cW (lp p)):(m.cQ f).cW (lp p):=by
 unfold aq.cQ;induction m with
 | ret a=>
  cases a with
  | none=>intro b W;cases W
  | some a=>exact h a (hm a rfl)
 | eR b k aJ=>exact λx=>aJ x (hm x)
theorem aq.cW.bX{ak:Type}{p:ak->Prop}:(aq.none:aq (Option ak)).cW (lp p):=by intro a h;cases h
theorem aq.cW.mX{ak:Type}{p:ak->Prop}{a:ak}(h:p a):(aq.ret (some a)).cW (lp p):=by intro b W;grind
theorem aq.cW.nil{ak:Type}{p:ak->Prop}:(aq.ret (Option.none:Option ak)).cW (lp p):=by intro b W;cases W
theorem aq.cW.bN{p:eB->Prop}{ca c:Prop}{v:aG}(h:p ⟨ca,c,v,[]⟩):(bN ca c v).cW (lp p):=aq.cW.mX h
theorem aq.cW.h3{p:eB->Prop}{d:Option Nat}{k:Nat->Nat->Option eB}(h:∀ b g,lp p (k b g)):(h3 d k).cW (lp p):=by
 unfold Go.Fer.h3;split
 ·exact .bX
 ·exact λx=>h _ _
def aG.zC:aG->Bool
 | .hB _ _=>true
 | _=>false
theorem F1{a:aG}(h:a.zC=false):(use a).1:=by
 cases a<;>first | trivial | cases h
def sg(aI:Operand->aG)(o:Oper):Bool:=o.op.operands.toList.all λx=>!(aI x).zC
def aG.aeR:aG->Bool
 | .fI _ _=>false
 | .val (.map _ _) _=>false
 | _=>true
def F2(aI:Operand->aG)(b:Builtin)(args:List Operand):Bool:=
 match b with
 | .len=>match args with
  | [x]=>(use (aI x)).2.aeR
  | _=>false
 | .min=>true
 | .max=>true
 | _=>false
def aG.Sy:aG->Bool
 | .iV ..=>true
 | _=>false
def mY(aI:Operand->aG)(o:Oper):Bool:=
 match o.op with
 | .move _ | .assign _ | .pick .. | .unOp .. | .extract .. | .fieldAddr .. | .field .. | .alloc .. | .box .. | .build .. | .buildSlice .. | .convert .. | .makeFunc .. | .makeMap .. | .lookup .. | .mapUpdate .. | .insert ..=>true
 | .load _ x=>!(use (aI x)).2.Sy
 | .store _ x _=>!(use (aI x)).2.Sy
 | .binOp op _ x _ _=>match op with
  | .quo | .rem | .shl | .shr=>false
  | .add=>(use (aI x)).2.mj.isSome
  | _=>true
 | .call c=>match c.callee with
  | .builtin b=>F2 aI b c.args.toList
  | _=>false
 | _=>false
theorem aeS{op:BinOp}{k:IntKind}{a b:Int}{c:Prop}{v:aG}(h:y8 op k a b=some (c,v))(E:op≠.quo)(U:op≠.rem):c:=by
 cases op<;>simp only[y8,Option.some.injEq,Prod.mk.injEq,reduceCtorEq]at h<;>first | (obtain⟨rfl,_⟩:=h;trivial) | contradiction
theorem aeT{op:BinOp}{a b:List UInt8}{c:Prop}{v:aG}(h:B1 op a b=some (c,v))(E:op≠.add):c:=by
 cases op<;>simp only[B1,Option.some.injEq,Prod.mk.injEq,reduceCtorEq]at h<;>first | (obtain⟨rfl,_⟩:=h;trivial) | contradiction
theorem aeU{op:BinOp}{t:ad}{x y:aG}:(y9 op t x y).cW (lp λr=>r.1):=by
 unfold y9;refine aq.cW.cQ λe=>?_;cases op<;>first | exact .mX trivial | exact .nil
section
variable {aO:dF} {T:Nat->ad} {bf:Nat->Option aK} {aI:Operand->aG} {o:Oper}
theorem aeV{op:BinOp}{ty:TypeId}{x y:Operand}{t:TypeId}(af:o.op=.binOp op ty x y t)(hc:mY aI o=true):(bw aO T bf aI o).cW (lp λr=>r.c):=by
 unfold bw;rw[af];simp only;simp only[mY,af]at hc;split
 ·rename_i k a k' b E U;split
  ·cases hc
  ·cases hc
  ·split
   ·split
    ·rename_i c v G;refine .bN (aeS G ?_ ?_)<;>(grind)
    ·exact .bX
   ·exact .bX
 ·rename_i pc;split
  ·rename_i a b E U;split
   ·rename_i c v G;refine .bN (aeT G ?_);intro e;subst e;simp only at hc;generalize (use (aI x)).2=z at hc E;cases z<;>try (cases E;done)
    rename_i t d;cases t<;>first | (cases E;done) | (cases hc;done)
   ·exact .bX
  ·exact aq.cW.Sx aeU λr M=>.bN M
theorem KV{p:eB->Prop}{ty:TypeId}{m x y:Operand}(h:∀ wl,p ⟨(use (aI m)).1/\(use (aI x)).1/\(use (aI y)).1,True,.undef,wl⟩):(qS T aI ty m x y).cW (lp p):=by
 unfold qS;split
 ·simp only;split
  ·split
   ·refine aq.cW.cQ λ_=>aq.cW.cQ λ_=>aq.cW.bind λ_=>λz=>?_;intro r M;split at M
    ·split at M
     ·simp only[Option.map_eq_some_iff]at M;grind
     grind
    grind
   ·exact .bX
  ·exact .bX
 ·exact .bX
theorem Sz{ty:TypeId}{m x y:Operand}:(qS T aI ty m x y).cW (lp λr=>r.c):=KV λ_=>trivial
theorem zD(hc:mY aI o=true):(bw aO T bf aI o).cW (lp λr=>r.c):=by
 cases af:o.op with
 | binOp op ty x y t=>exact aeV af hc
 | move x=>unfold bw;rw[af];exact .bN trivial
 | assign x=>
  unfold bw;rw[af];simp only;split
  ·exact .h3 λb g=>λr M=>by grind
  ·exact .bN trivial
 | pick c a b=>
  unfold bw;rw[af];simp only;split
  ·split
   ·split
    ·exact .bN trivial
    ·exact .bX
   ·split
    ·exact .bN trivial
    ·exact .bX
   ·exact .bX
  ·exact .bX
 | unOp op t x=>
  unfold bw;rw[af];simp only;split
  ·exact .bN trivial
  ·exact .bN trivial
  ·exact .bX
 | extract x i=>
  unfold bw;rw[af];simp only;split
  ·split
   ·exact .bN trivial
   ·exact .bX
  ·exact .bX
 | fieldAddr ty x f=>
  unfold bw;rw[af];simp only;repeat' first | exact .bX | exact .bN trivial | split
  all_goals first
   | (intro z;intro r M;grind)
 | field ty x f=>
  unfold bw;rw[af];simp only;repeat' first | exact .bX | exact .bN trivial | split
 | load ty x=>
  simp only[mY,af]at hc;unfold bw;rw[af];simp only;split
  ·rename_i ah;rw[ah]at hc;cases hc
  ·exact aq.cW.cQ λ_=>.bN trivial
 | store ty x y=>
  simp only[mY,af]at hc;unfold bw;rw[af];simp only;split
  ·rename_i ah;rw[ah]at hc;cases hc
  ·exact aq.cW.cQ λ_=>.mX trivial
 | alloc ty=>
  unfold bw;rw[af];simp only;exact .h3 λb g=>λr M=>by grind
 | box ty x=>
  unfold bw;rw[af];simp only;split
  ·exact .h3 λb g=>λr M=>by grind
  ·exact .bX
 | build ty ps=>
  unfold bw;rw[af];simp only;repeat' first | exact .bX | exact .bN trivial | refine aq.cW.cQ λ_=>?_ | split
 | buildSlice ty n ps=>
  unfold bw;rw[af];simp only;split
  ·refine aq.cW.cQ λ_=>aq.cW.bind λ_=>.h3 λb g=>λr M=>by grind
  ·exact .bX
 | convert a b x=>
  unfold bw;rw[af];simp only;repeat' first | exact .bX | exact .bN trivial | exact aq.cW.cQ λ_=>.bN trivial | split
 | makeFunc fn first cZ=>
  unfold bw;rw[af];simp only;split
  ·split
   ·split
    ·exact aq.cW.cQ λ_=>aq.cW.bind λ_=>.mX trivial
    ·split
     ·exact aq.cW.cQ λ_=>aq.cW.bind λ_=>.mX trivial
     ·exact .bN trivial
   ·split
    ·exact .bN trivial
    ·exact .bX
  ·exact .bX
 | makeMap ty r=>
  unfold bw;rw[af];simp only;split
  ·exact .bX
  ·split
   ·exact .h3 λb g=>λr M=>by grind
   ·exact .bX
 | lookup ty m x ok=>
  unfold bw;rw[af];simp only;unfold za;split
  ·simp only;split
   ·exact aq.cW.cQ λ_=>aq.cW.cQ λ_=>.bN trivial
   ·exact .bX
  ·exact .bX
 | mapUpdate ty m x y=>
  unfold bw;rw[af];exact Sz
 | insert ty m x y=>
  unfold bw;rw[af];exact Sz
 | call c=>
  obtain⟨callee,args,dn⟩:=c;simp only[mY,af]at hc;unfold bw;rw[af];simp only;unfold mN;cases callee with
  | builtin b=>
   simp only at hc ⊢;cases b with
   | len=>
    simp only[B3];split
    ·rename_i x t aw aN;simp only[F2,aw]at hc;generalize use (aI x)=u at hc;obtain⟨cD,dZ⟩:=u;simp only at hc ⊢;refine aq.cW.Sx (q:=λr:Prop×Int=>r.1) ?_ λr M=>.bN M;generalize T t=ty;cases ty<;>simp only[Fu]<;>first | exact .bX | skip
     ·cases dZ<;>first | exact .bX | skip
      ·rename_i cX d;cases cX<;>first | exact .bX | exact .mX trivial
     ·cases dZ<;>first | exact .bX | exact .mX trivial | skip
      ·rename_i cX d;cases cX<;>first | exact .bX | exact .mX trivial
      ·intro z r M;grind
      ·intro z r M;grind
     ·cases dZ<;>first | exact .bX | (cases hc;done) | skip
      ·rename_i cX d;cases cX<;>first | exact .bX | cases hc
    ·exact .bX
   | min=>
    simp only[r6];repeat' first | exact .bN trivial | exact .bX | split
   | max=>
    simp only[r6];repeat' first | exact .bN trivial | exact .bX | split
   | _=>simp[F2]at hc
  | _=>cases hc
 | _=>simp[mY,af]at hc
theorem CB:∀ {l:List aG},(∀ v∈l,(use v).1)->jG l
 | [],_=>trivial
 | v::l,h=>by
  have E:=h v (by simp);have U:=CB (l:=l) λu hu=>h u (by grind);cases v<;>first | exact U | exact⟨E,U⟩
theorem KW:∀ {l:List (Nat×aG)},(∀ v∈l,(use v.2).1)->r5 l
 | [],_=>trivial
 | (i,v)::l,h=>by
  have E:=h (i,v) (by simp);have U:=KW (l:=l) λu hu=>h u (by grind);cases v<;>first | exact U | exact⟨E,U⟩
theorem CC{x:Option Operand}{p:Prop}{n:Option Int}(h:ld aI x=some (p,n))(ah:∀ y,x=some y->(use (aI y)).1):p:=by
 unfold ld at h;grind
def q2(aI:Operand->aG)(o:Oper):Prop:=∀ x∈o.op.operands.toList,(use (aI x)).1
theorem KX{aI:Operand->aG}{o:Oper}(h:sg aI o=true):q2 aI o:=λx ah=>F1 (by simpa using List.all_eq_true.1 h x ah)
theorem q2.use{aI:Operand->aG}{o:Oper}(h:q2 aI o){x:Operand}(ah:x∈o.op.operands.toList){ca:Prop}{v:aG}(hu:use (aI x)=(ca,v)):ca:=by
 have:=h x ah;grind
theorem SA(fA:q2 aI o):(bw aO T bf aI o).cW (lp λr=>r.ca):=by
 unfold q2 at fA;have ao:∀ x∈o.op.operands.toList,(use (aI x)).1:=fA;have hu:∀ x∈o.op.operands.toList,∀ {ca:Prop} {v:aG},use (aI x)=(ca,v)->ca:=λx ah ca v h=>q2.use fA ah h;cases af:o.op with
 | move x=>unfold bw;rw[af];exact .bN trivial
 | assign x=>
  unfold bw;rw[af];simp only;split
  ·exact .h3 λb g=>λr M=>by grind
  ·exact .bN trivial
 | pick c a b=>
  rw[af]at hu;unfold bw;rw[af];simp only;split
  ·rename_i p4 iZ lT;have E:=hu c (by simp[Op.operands]) lT;split
   ·split
    ·rename_i zb av ba;exact .bN ⟨E,λ_=>hu a (by simp[Op.operands]) ba⟩
    ·exact .bX
   ·split
    ·rename_i zb av ba;exact .bN ⟨E,λ_=>hu b (by simp[Op.operands]) ba⟩
    ·exact .bX
   ·exact .bX
  ·exact .bX
 | binOp op ty x y t=>
  rw[af]at fA;have h:=And.intro (fA x (by simp[Op.operands])) (fA y (by simp[Op.operands]));unfold bw;rw[af];simp only;split
  ·split
   ·split
    ·exact .bN h
    ·exact .bX
   ·split
    ·exact .bN h
    ·exact .bX
   ·split
    ·split
     ·exact .bN h
     ·exact .bX
    ·exact .bX
  ·split
   ·split
    ·exact .bN h
    ·exact .bX
   ·exact aq.cW.cQ λ_=>.bN h
 | unOp op t x=>
  rw[af]at hu;unfold bw;rw[af];simp only;split
  ·rename_i ah;exact .bN (hu x (by simp[Op.operands]) ah)
  ·rename_i ah;exact .bN (hu x (by simp[Op.operands]) ah)
  ·exact .bX
 | extract x i=>
  rw[af]at hu;unfold bw;rw[af];simp only;split
  ·rename_i ah;split
   ·exact .bN (hu x (by simp[Op.operands]) ah)
   ·exact .bX
  ·exact .bX
 | nilCheck x=>
  rw[af]at hu;unfold bw;rw[af];simp only;split
  ·rename_i ah;intro z r M;split at M<;>cases M;exact hu x (by simp[Op.operands]) ah
  ·rename_i ah;exact .bN (hu x (by simp[Op.operands]) ah)
  ·rename_i ah;exact .bN (hu x (by simp[Op.operands]) ah)
  ·rename_i ah;intro z r M;split at M<;>cases M;exact hu x (by simp[Op.operands]) ah
  ·exact .bX
 | fieldAddr ty x f=>
  rw[af]at hu;unfold bw;rw[af];simp only;split
  ·split
   ·split
    ·rename_i ah;intro z r M;split at M<;>cases M;exact hu x (by simp[Op.operands]) ah
    ·rename_i ah;intro z r M;split at M<;>cases M;exact hu x (by simp[Op.operands]) ah
    ·rename_i ah;intro z r M;split at M<;>cases M;exact hu x (by simp[Op.operands]) ah
    ·rename_i ah;split
     ·split
      ·exact .bN (hu x (by simp[Op.operands]) ah)
      ·exact .bX
     ·exact .bX
    ·exact .bX
   ·exact .bX
  ·exact .bX
 | field ty x f=>
  rw[af]at hu;unfold bw;rw[af];simp only;split
  ·split
   ·rename_i ah;split
    ·split
     ·exact .bN (hu x (by simp[Op.operands]) ah)
     ·exact .bX
    ·exact .bX
   ·exact .bX
  ·exact .bX
 | load ty x=>
  rw[af]at hu;unfold bw;rw[af];simp only;split
  ·rename_i ah;have h:=hu x (by simp[Op.operands]) ah;intro z r M;repeat' split at M
   all_goals first | (cases M;exact h) | cases M
  ·rename_i ah;exact aq.cW.cQ λ_=>.bN (hu x (by simp[Op.operands]) ah)
 | store ty x y=>
  rw[af]at hu fA;unfold bw;rw[af];simp only;split
  ·rename_i ah;have h:=hu x (by simp[Op.operands]) ah;have ds:=fA y (by simp[Op.operands]);unfold J7;split
   ·intro z r M;repeat' split at M
    all_goals first | (cases M;exact⟨h,ds⟩) | cases M
   ·exact .bX
  ·rename_i ah;exact aq.cW.cQ λ_=>.mX ⟨hu x (by simp[Op.operands]) ah,fA y (by simp[Op.operands])⟩
 | alloc ty=>
  unfold bw;rw[af];simp only;exact .h3 λb g=>λr M=>by grind
 | box ty x=>
  rw[af]at fA;unfold bw;rw[af];simp only;split
  ·exact .h3 λb g=>λr M=>by split at M<;>cases M;exact fA x (by simp[Op.operands])
  ·exact .bX
 | build ty ps=>
  rw[af]at ao;have h:r5 (ps.toList.map λp=>(p.1,aI p.2)):=KW λv ae=>by
   simp only[List.mem_map]at ae;obtain⟨p,an,rfl⟩:=ae;exact ao p.2 (by simp only[Op.operands,List.mem_map];grind)
  unfold bw;rw[af];simp only;repeat' first | exact .bX | exact .bN h | refine aq.cW.cQ λ_=>?_ | split
 | buildSlice ty n ps=>
  rw[af]at ao;have h:r5 (ps.toList.map λp=>(p.1,aI p.2)):=KW λv ae=>by
   simp only[List.mem_map]at ae;obtain⟨p,an,rfl⟩:=ae;exact ao p.2 (by simp only[Op.operands,List.mem_map];grind)
  unfold bw;rw[af];simp only;split
  ·refine aq.cW.cQ λ_=>aq.cW.bind λ_=>.h3 λb g=>λr M=>by grind
  ·exact .bX
 | indexAddr ty x i=>
  rw[af]at fA;have h:=And.intro (fA x (by simp[Op.operands])) (fA i (by simp[Op.operands]));unfold bw;rw[af];simp only;split
  ·exact aq.cW.cQ λ_=>.bN h
  ·split
   ·split
    ·exact .bN h
    ·exact .bX
   ·intro z r M;grind
   ·exact .bX
  ·exact .bX
 | index ty x i=>
  rw[af]at fA;have h:=And.intro (fA x (by simp[Op.operands])) (fA i (by simp[Op.operands]));unfold bw;rw[af];simp only;split
  ·exact .bN h
  ·split
   ·split
    ·exact .bN h
    ·exact .bX
   ·split
    ·exact .bN h
    ·exact .bX
   ·exact .bX
  ·exact .bX
 | convert a b x=>
  rw[af]at fA;unfold bw;rw[af];simp only;split
  ·exact .bN (fA x (by simp[Op.operands]))
  ·exact aq.cW.cQ λ_=>.bN (fA x (by simp[Op.operands]))
  ·exact .bX
 | makeFunc fn first cZ=>
  rw[af]at ao;have h:jG (cZ.toList.map aI):=CB λv ae=>by
   simp only[List.mem_map]at ae;obtain⟨p,an,rfl⟩:=ae;exact ao p (by simp[Op.operands];simp_all)
  have U:jG (first.toList.map aI):=CB λv ae=>by
   simp only[List.mem_map]at ae;obtain⟨p,an,rfl⟩:=ae;exact ao p (by simp[Op.operands];simp_all)
  unfold bw;rw[af];simp only;split
  ·split
   ·split
    ·exact aq.cW.cQ λ_=>aq.cW.bind λ_=>.mX h
    ·split
     ·exact aq.cW.cQ λ_=>aq.cW.bind λ_=>.mX h
     ·exact .bN h
   ·split
    ·exact .bN U
    ·exact .bX
  ·exact .bX
 | slice ty x aY G o7=>
  rw[af]at ao fA;unfold bw;rw[af];simp only;split
  ·unfold Fx;simp only;split
   ·rename_i ol l qR h u_ m aj cV hm;have bd:=And.intro (fA x (by simp[Op.operands])) (And.intro (CC aj λy aQ=>ao y (by subst aQ;simp[Op.operands])) (And.intro (CC cV λy aQ=>ao y (by subst aQ;simp[Op.operands])) (CC hm λy aQ=>ao y (by subst aQ;simp[Op.operands]))));split
    ·exact aq.cW.cQ λ_=>.mX bd
    ·exact .bX
   ·exact .bX
  ·unfold Fw;simp only;split
   ·rename_i ol l qR h aj cV;have bd:=And.intro (fA x (by simp[Op.operands])) (And.intro (CC aj λy aQ=>ao y (by subst aQ;simp[Op.operands])) (CC cV λy aQ=>ao y (by subst aQ;simp[Op.operands])));split
    ·exact aq.cW.cQ λ_=>.mX bd
    ·split
     ·exact .bN bd
     ·exact .bX
    ·exact .bX
   ·exact .bX
 | call c=>
  rw[af]at ao fA;obtain⟨callee,args,dn⟩:=c;have dX:∀ x∈args.toList,(use (aI x)).1:=λx ah=>ao x (by simp[Op.operands,Call.operands];simp_all);have pd:∀ x∈args.toList,(use (aI x)).1:=dX;have fT:jG (args.toList.map aI):=CB λv ae=>by
   grind
  unfold bw;rw[af];simp only;unfold mN;simp only;split
  ·split
   ·unfold B3;split
    ·rename_i x t aw aN;exact aq.cW.cQ λ_=>.bN (pd x (by grind))
    ·exact .bX
   ·split
    ·unfold B8;split
     ·rename_i x y t u aw aN;have h:=And.intro (pd x (by grind)) (pd y (by grind));split
      ·simp only;refine aq.cW.cQ λ_=>λz=>?_;intro r M;grind
      ·exact .bX
     ·exact .bX
    unfold B4;split
    ·rename_i x y t u aw aN;have h:=And.intro (pd x (by grind)) (pd y (by grind));split
     ·simp only;unfold J5;split
      ·intro z;dsimp only;split
       ·split
        ·exact aq.cW.cQ λ_=>.mX h
        ·exact .bX
       ·exact .bX
      ·intro z;dsimp only;split
       ·split
        ·exact aq.cW.cQ λ_=>.mX h
        ·exact .bX
       ·exact .bX
      ·exact aq.cW.cQ λ_=>.h3 λb g=>λr M=>by grind
      ·split
       ·exact aq.cW.cQ λ_=>.h3 λb g=>λr M=>by grind
       ·exact .bX
      ·exact .bX
     ·exact .bX
    ·exact .bX
   ·unfold B9;split
    ·rename_i x t aw aN;have h:=pd x (by grind);split
     ·simp only;split
      ·intro z;intro r M;grind
      ·exact .bX
     ·exact .bX
    ·exact .bX
   ·unfold FA;split
    ·rename_i x y t u aw aN;have h:=And.intro (pd x (by grind)) (pd y (by grind));split
     ·simp only;split
      ·refine aq.cW.cQ λ_=>λz=>?_;intro r M;grind
      ·exact .bX
     ·exact .bX
    ·exact .bX
   ·unfold r6;split
    ·rename_i x y l aw;split
     ·split
      ·rename_i aj;exact .bN ⟨pd x (by grind),KU (y::l) (λp an=>pd p (by rw[aw];exact List.mem_cons_of_mem _ an)) aj⟩
      ·exact .bX
     ·exact .bX
    ·exact .bX
   ·unfold r6;split
    ·rename_i x y l aw;split
     ·split
      ·rename_i aj;exact .bN ⟨pd x (by grind),KU (y::l) (λp an=>pd p (by rw[aw];exact List.mem_cons_of_mem _ an)) aj⟩
      ·exact .bX
     ·exact .bX
    ·exact .bX
   ·unfold B5;split
    ·rename_i x t aw aN;have h:=pd x (by grind);split
     ·rename_i cE;exact .bN (by grind)
     ·exact .bX
    ·exact .bX
   ·exact .bX
  ·split
   ·unfold Fy;simp only;split
    ·refine aq.cW.cQ λ_=>?_;split
     ·refine aq.cW.bind λ_=>.h3 λb g=>λr M=>?_;split at M
      ·cases M
      ·cases M;exact fT
     ·exact aq.cW.bind λ_=>.mX fT
    ·exact .bX
   ·exact .bX
  ·exact .bX
 | makeMap ty r=>
  unfold bw;rw[af];simp only;split
  ·exact .bX
  ·split
   ·exact .h3 λb g=>λr M=>by grind
   ·exact .bX
 | lookup ty m x ok=>
  rw[af]at fA;have h:=And.intro (fA m (by simp[Op.operands])) (fA x (by simp[Op.operands]));unfold bw;rw[af];simp only;unfold za;split
  ·simp only;split
   ·exact aq.cW.cQ λ_=>aq.cW.cQ λ_=>.bN h
   ·exact .bX
  ·exact .bX
 | mapUpdate ty m x y=>
  rw[af]at fA;unfold bw;rw[af];exact KV λ_=>⟨fA m (by simp[Op.operands]),fA x (by simp[Op.operands]),fA y (by simp[Op.operands])⟩
 | insert ty m x y=>
  rw[af]at fA;unfold bw;rw[af];exact KV λ_=>⟨fA m (by simp[Op.operands]),fA x (by simp[Op.operands]),fA y (by simp[Op.operands])⟩
 | makeSlice ty l c=>
  rw[af]at fA;have h:=And.intro (fA l (by simp[Op.operands])) (fA c (by simp[Op.operands]));unfold bw;rw[af];simp only;unfold Fz;split
  ·simp only;split
   ·exact .h3 λb g=>λr M=>by grind
   ·exact .bX
  ·exact .bX
 | makeInterface t x=>unfold bw;rw[af];exact .bN trivial
 | panic x=>unfold bw;rw[af];exact .bN trivial
 | _=>unfold bw;rw[af];exact .bX
theorem SB(hc:sg aI o=true):(bw aO T bf aI o).cW (lp λr=>r.ca):=SA (KX hc)
end
end Go.Fer
namespace Go.Fer
open Go.RowKit
theorem KY{aI jr:Operand->aG}{k:IntKind}:∀ (l:List Operand),(∀ x∈l,aI x=jr x)->mM aI k l=mM jr k l
 | [],_=>rfl
 | [x],h=>by simp only[mM,h x (by simp)]
 | x::y::l,h=>by simp only[mM,h x (by simp),KY (y::l) λz bk=>h z (List.mem_cons_of_mem _ bk)]
section
variable {aO:dF} {T:Nat->ad} {bf:Nat->Option aK} {aI jr:Operand->aG} {o:Oper}
theorem KZ{x:Option Operand}(h:∀ y,x=some y->aI y=jr y):ld aI x=ld jr x:=by
 cases x with
 | none=>rfl
 | some y=>have:=h y rfl;unfold ld;grind
theorem aeW(h:∀ x∈o.op.operands.toList,aI x=jr x):bw aO T bf aI o=bw aO T bf jr o:=by
 cases af:o.op with
 | move x=>rw[af]at h;have E:=h x (by simp[Op.operands]);unfold bw;simp_all
 | assign x=>rw[af]at h;have E:=h x (by simp[Op.operands]);unfold bw;simp_all
 | pick c a b=>
  rw[af]at h;have E:=h c (by simp[Op.operands]);have U:=h a (by simp[Op.operands]);have ag:=h b (by simp[Op.operands]);unfold bw;simp_all
 | binOp op ty x y t=>
  rw[af]at h;have E:=h x (by simp[Op.operands]);have U:=h y (by simp[Op.operands]);unfold bw;simp_all
 | unOp op t x=>rw[af]at h;have E:=h x (by simp[Op.operands]);unfold bw;simp_all
 | extract x i=>rw[af]at h;have E:=h x (by simp[Op.operands]);unfold bw;simp_all
 | nilCheck x=>rw[af]at h;have E:=h x (by simp[Op.operands]);unfold bw;simp_all
 | fieldAddr ty x f=>rw[af]at h;have E:=h x (by simp[Op.operands]);unfold bw;simp_all
 | field ty x f=>rw[af]at h;have E:=h x (by simp[Op.operands]);unfold bw;simp_all
 | load ty x=>rw[af]at h;have E:=h x (by simp[Op.operands]);unfold bw;simp_all
 | store ty x y=>
  rw[af]at h;have E:=h x (by simp[Op.operands]);have U:=h y (by simp[Op.operands]);unfold bw;simp_all
 | alloc ty=>unfold bw;rw[af]
 | box ty x=>rw[af]at h;have E:=h x (by simp[Op.operands]);unfold bw;simp_all
 | build ty ps=>
  rw[af]at h;have E:ps.toList.map (λp=>(p.1,aI p.2))=ps.toList.map (λp=>(p.1,jr p.2)):=List.map_congr_left λp an=>by rw[h p.2 (by simp only[Op.operands,List.mem_map];grind)]
  unfold bw;rw[af];simp only[E]
 | buildSlice ty n ps=>
  rw[af]at h;have E:ps.toList.map (λp=>(p.1,aI p.2))=ps.toList.map (λp=>(p.1,jr p.2)):=List.map_congr_left λp an=>by rw[h p.2 (by simp only[Op.operands,List.mem_map];grind)]
  unfold bw;rw[af];simp only[E]
 | indexAddr ty x i=>
  rw[af]at h;have E:=h x (by simp[Op.operands]);have U:=h i (by simp[Op.operands]);unfold bw;simp_all
 | index ty x i=>
  rw[af]at h;have E:=h x (by simp[Op.operands]);have U:=h i (by simp[Op.operands]);unfold bw;simp_all
 | convert a b x=>rw[af]at h;have E:=h x (by simp[Op.operands]);unfold bw;simp_all
 | makeFunc fn first cZ=>
  rw[af]at h;have E:cZ.toList.map aI=cZ.toList.map jr:=List.map_congr_left λp an=>h p (by simp[Op.operands];simp_all);have U:first.toList.map aI=first.toList.map jr:=List.map_congr_left λp an=>h p (by simp[Op.operands];simp_all)
  unfold bw;rw[af];simp only[E,U]
 | lookup ty m x ok=>
  rw[af]at h;have E:=h m (by simp[Op.operands]);have U:=h x (by simp[Op.operands]);unfold bw;rw[af];simp only[za,E,U]
 | mapUpdate ty m x y=>
  rw[af]at h;have E:=h m (by simp[Op.operands]);have U:=h x (by simp[Op.operands]);have ag:=h y (by simp[Op.operands]);unfold bw;rw[af];simp only[qS,E,U,ag]
 | insert ty m x y=>
  rw[af]at h;have E:=h m (by simp[Op.operands]);have U:=h x (by simp[Op.operands]);have ag:=h y (by simp[Op.operands]);unfold bw;rw[af];simp only[qS,E,U,ag]
 | makeSlice ty l c=>
  rw[af]at h;have E:=h l (by simp[Op.operands]);have U:=h c (by simp[Op.operands]);unfold bw;rw[af];simp only[Fz,E,U]
 | slice ty x aY G o7=>
  rw[af]at h;have E:=h x (by simp[Op.operands]);have U:ld aI aY=ld jr aY:=KZ λy aQ=>h y (by subst aQ;simp[Op.operands]);have ag:ld aI G=ld jr G:=KZ λy aQ=>h y (by subst aQ;simp[Op.operands]);have a1:ld aI o7=ld jr o7:=KZ λy aQ=>h y (by subst aQ;simp[Op.operands]);unfold bw;rw[af];simp only[Fw,Fx,E,U,ag,a1]
 | call c=>
  rw[af]at h;obtain⟨callee,args,dn⟩:=c;have dX:∀ x∈args.toList,aI x=jr x:=λx ah=>h x (by simp[Op.operands,Call.operands];simp_all);have aj:args.toList.map aI=args.toList.map jr:=List.map_congr_left dX;unfold bw;rw[af];simp only;unfold mN;simp only;split
  ·split
   ·unfold B3;grind
   ·have q3:w5 aI args.toList=w5 jr args.toList:=by
     unfold w5;grind
    rw[q3];split
    ·unfold B8;split
     ·rename_i x y t u aw aN;rw[dX x (by simp[aw]),dX y (by simp[aw])]
     ·rfl
    ·unfold B4;grind
   ·unfold B9;split
    ·rename_i x t aw aN;rw[dX x (by simp[aw])]
    ·rfl
   ·unfold FA;split
    ·rename_i x y t u aw aN;rw[dX x (by grind),dX y (by grind)]
    ·rfl
   ·unfold r6;split
    ·rename_i x y l aw;have aj:∀ k,mM aI k (y::l)=mM jr k (y::l):=λk=>KY (y::l) λp an=>dX p (by rw[aw];exact List.mem_cons_of_mem _ an);simp only[dX x (by simp[aw]),aj]
    ·rfl
   ·unfold r6;split
    ·rename_i x y l aw;have aj:∀ k,mM aI k (y::l)=mM jr k (y::l):=λk=>KY (y::l) λp an=>dX p (by rw[aw];exact List.mem_cons_of_mem _ an);simp only[dX x (by simp[aw]),aj]
    ·rfl
   ·unfold B5;grind
   ·rfl
  ·split
   ·unfold Fy;simp only[aj]
   ·rfl
  ·rfl
 | _=>unfold bw;rw[af]
end
end Go.Fer
namespace Go.Fer
open Go.RowKit
def F3(want b:Bool):Bool:=match want with | true=>b | false=>!b
def ky(s:Nat->aG)(ops:Array Oper):Option (Nat×Bool)->Option (Option Bool)
 | none=>some none
 | some (j,want)=>match ops[j]? with
  | some o=>match o.dst with
   | some d=>match s d with
    | .val .bool b=>some (some (F3 want b))
    | .hB g (.val .bool b)=>some (some (g&&F3 want b))
    | _=>none
   | none=>none
  | none=>none
def F4(ops:Array Oper):Option (Nat×Bool)->List Nat
 | none=>[]
 | some (j,_)=>match ops[j]? with
  | some o=>o.dst.toList
  | none=>[]
def aeX(l:List Operand):List Nat:=l.filterMap fun | .tmp t=>some t | _=>none
def CD(ops:Array Oper)(o:Oper):List Nat:=F4 ops o.guard++aeX o.op.operands.toList
structure eO where
 cs:List Prop
 dst:Option Nat
 e9:aG
 hD:List (Nat×bJ)
 kz:List Nat
 tT:List Nat
def eO.h6(r:eO)(s:az):az:=(s.gh r.hD).set r.dst r.e9
def eO.nR(r:eO):List Nat:=r.dst.toList
def eO.mZ(r:eO):List Nat:=r.hD.map (·.1)
def CE(dy dO:Bool)(ca c:Prop):List Prop:=(match dy with | true=>[] | false=>[ca])++(match dO with | true=>[] | false=>[c])
def vl(aO:dF)(T:Nat->ad)(bf:Nat->Option aK)(ops:Array Oper)(s:az)(o:Oper):Option eO:=
 match ky s.ax ops o.guard with
 | none=>none
 | some g=>match (bw aO T bf (a7 aO s.ax) o).run s.aa with
  | none=>none
  | some res=>match g with
   | none=>some ⟨CE (sg (a7 aO s.ax) o) (mY (a7 aO s.ax) o) res.ca res.c,o.dst,res.e9,res.hD,CD ops o,(bw aO T bf (a7 aO s.ax) o).looks s.aa⟩
   | some b=>match res.hD with
    | []=>some ⟨CE (sg (a7 aO s.ax) o&&(mY (a7 aO s.ax) o&&!res.e9.zC)) true (b=true->res.ca/\(res.c/\(use res.e9).1)) True,o.dst,.hB b (use res.e9).2,[],CD ops o,(bw aO T bf (a7 aO s.ax) o).looks s.aa⟩
    | _=>none
def xl(aO:dF)(T:Nat->ad)(bf:Nat->Option aK)(ops:Array Oper):List Oper->az->Option (List eO×az)
 | [],s=>some ([],s)
 | o::os,s=>match vl aO T bf ops s o with
  | none=>none
  | some r=>match xl aO T bf ops os (r.h6 s) with
   | none=>none
   | some (l,s')=>some (r::l,s')
def CF(a b:List Nat):Bool:=a.all λx=>!b.contains x
def eO.apart(a b:eO):Bool:=CF a.nR (b.kz++b.nR)&&CF a.kz b.nR&&CF a.mZ (b.tT++b.mZ)&&CF a.tT b.mZ
def h7(o:Oper):List Nat:=o.after.toList.filterMap λe=>if Region.binds .any e then some e.on else none
def CG(acc:List Nat):List Nat->List Nat
 | []=>acc
 | x::l=>match acc.contains x with | true=>CG acc l | false=>CG (x::acc) l
theorem K1{x:Nat}:∀ {l acc:List Nat},x∈CG acc l->x∈acc\/x∈l
 | [],acc,h=>.inl h
 | y::l,acc,h=>by
  unfold CG at h;split at h
  ·exact (K1 h).imp_right (List.mem_cons_of_mem _)
  ·rcases K1 h with h | h
   ·rcases List.mem_cons.1 h with h | h
    ·exact .inr (h ▸ List.mem_cons_self)
    ·exact .inl h
   ·exact .inr (List.mem_cons_of_mem _ h)
def zE(acc:List (List Nat))(o:Oper):List (List Nat):=acc++[CG [] ((h7 o).flatMap λj=>j::acc.getD j [])]
def ih(ops:List Oper):List (List Nat):=ops.foldl zE []
def aeY(cl:List (List Nat))(l:List eO):Bool:=
 (List.range l.length).all λj=>(List.range j).all λi=>match l[i]?,l[j]? with
  | some a,some b=>(cl.getD j []).contains i||a.apart b
  | _,_=>false
def CH(ops:List Oper):Bool:=(List.range ops.length).all λj=>match ops[j]? with
 | some o=>(h7 o).all λi=>decide (i<j)
 | none=>false
def zF(ops:List Oper)(l:List eO):Bool:=CH ops&&aeY (ih ops) l
def xm(R:List Nat)(s s':az):Prop:=∀ t∈R,s.ax t=s'.ax t
def xn(B:List Nat)(s s':az):Prop:=∀ b∈B,s.aa b=s'.aa b
theorem F5{a b:List Nat}(h:CF a b=true){x:Nat}(ah:x∈a):x ∉ b:=by
 have:=List.all_eq_true.1 h x ah;grind
theorem zG(s:az):∀ (l:List (Nat×bJ)),(s.gh l).ax=s.ax:=by
 intro l;induction l generalizing s with
 | nil=>rfl
 | cons p l aJ=>simp only[az.gh];rw[aJ];rfl
theorem K2{b:Nat}:∀ (l:List (Nat×bJ)) (s:az),b ∉ l.map (·.1)->(s.gh l).aa b=s.aa b:=by
 intro l;induction l with
 | nil=>intro s _;rfl
 | cons p l aJ=>
  intro s h;simp only[List.map_cons,List.mem_cons,not_or]at h;simp only[az.gh];rw[aJ _ h.2];simp[az.cy,h.1]
theorem K3{b:Nat}:∀ (l:List (Nat×bJ)) (s s':az),b∈l.map (·.1)->(s.gh l).aa b=(s'.gh l).aa b:=by
 intro l;induction l with
 | nil=>simp
 | cons p l aJ=>
  intro s s' h;simp only[az.gh];by_cases W:b∈l.map (·.1)
  ·grind
  ·rw[K2 l _ W,K2 l _ W];have:b=p.1:=by grind
   simp[az.cy,this]
theorem aeZ(s:az)(d:Option Nat)(v:aG):(s.set d v).aa=s.aa:=by cases d<;>rfl
theorem F6(r:eO)(s:az)(t:Nat):(r.h6 s).ax t=if t∈r.nR then r.e9 else s.ax t:=by
 unfold eO.h6 eO.nR;cases h:r.dst with
 | none=>simp[az.set,zG]
 | some d=>simp[az.set,zG,eq_comm]
theorem xo(r:eO)(s:az)(b:Nat):(r.h6 s).aa b=(s.gh r.hD).aa b:=by unfold eO.h6;rw[aeZ]
theorem SC{r:eO}{s:az}{t:Nat}(h:t ∉ r.nR):(r.h6 s).ax t=s.ax t:=by rw[F6,if_neg h]
theorem tU{r:eO}{s:az}{b:Nat}(h:b ∉ r.mZ):(r.h6 s).aa b=s.aa b:=by rw[xo];exact K2 _ _ h
theorem az.ext'{s s':az}(E:∀ t,s.ax t=s'.ax t)(U:∀ b,s.aa b=s'.aa b):s=s':=by
 obtain⟨a,b⟩:=s;obtain⟨a',be⟩:=s';rw[show a=a' from funext E,show b=be from funext U]
theorem ae0{a b:eO}(E:∀ t∈a.nR,t ∉ b.nR)(U:∀ x∈a.mZ,x ∉ b.mZ)(s:az):a.h6 (b.h6 s)=b.h6 (a.h6 s):=by
 apply az.ext'
 ·intro t;simp only[F6];grind
 ·intro x;by_cases ba:x∈a.mZ
  ·have W:=U x ba;rw[tU W,xo,xo];exact K3 _ _ _ ba
  ·rw[tU ba];by_cases W:x∈b.mZ
   ·rw[xo,xo];exact K3 _ _ _ W
   ·rw[tU W,tU W,tU ba]
def jK(l:List eO)(s:az):az:=l.foldl (λs r=>r.h6 s) s
theorem ae1{R B:List Nat}:∀ (l:List eO) (s:az),(∀ r∈l,(∀ t∈R,t ∉ r.nR)/\∀ b∈B,b ∉ r.mZ)->xm R (jK l s) s/\xn B (jK l s) s:=by
 intro l;induction l with
 | nil=>intro s _;exact⟨λ_ _=>rfl,λ_ _=>rfl⟩
 | cons r l aJ=>
  intro s h;obtain⟨E,U⟩:=aJ (r.h6 s) λpY bb=>h pY (List.mem_cons_of_mem _ bb);have M:=h r (List.mem_cons_self);exact⟨λt aH=>(E t aH).trans (SC (M.1 t aH)),λb W=>(U b W).trans (tU (M.2 b W))⟩
theorem ae2{R B:List Nat}{r:eO}{s s':az}(E:xm R s s')(U:xn B s s'):xm R (r.h6 s) (r.h6 s')/\xn B (r.h6 s) (r.h6 s'):=by
 refine⟨λt aH=>?_,λb W=>?_⟩
 ·rw[F6,F6];split
  ·rfl
  ·exact E t aH
 ·by_cases hw:b∈r.mZ
  ·rw[xo,xo];exact K3 _ _ _ hw
  ·rw[tU hw,tU hw];exact U b W
theorem ae3{R B:List Nat}(p:Nat×eO->Bool):∀ (l:List (Nat×eO)) (s s':az),xm R s s'->xn B s s'->(∀ r∈l,p r=false->(∀ t∈R,t ∉ r.2.nR)/\∀ b∈B,b ∉ r.2.mZ)->
  xm R (jK ((l.filter p).map (·.2)) s) (jK (l.map (·.2)) s')/\xn B (jK ((l.filter p).map (·.2)) s) (jK (l.map (·.2)) s'):=by
 intro l;induction l with
 | nil=>intro s s' E U _;exact⟨E,U⟩
 | cons r l aJ=>
  intro s s' E U h;have aj:=λpY bb=>h pY (List.mem_cons_of_mem _ bb);cases an:p r with
  | true=>
   rw[List.filter_cons_of_pos an];obtain⟨aP,aR⟩:=ae2 (r:=r.2) E U;exact aJ _ _ aP aR aj
  | false=>
   rw[List.filter_cons_of_neg (by grind)];have M:=h r (List.mem_cons_self) an;exact aJ _ _ (λt aH=>(E t aH).trans (SC (M.1 t aH)).symm) (λb W=>(U b W).trans (tU (M.2 b W)).symm) aj
theorem ae4{r:eO}:∀ (l:List eO) (s:az),(∀ x∈l,(∀ t∈r.nR,t ∉ x.nR)/\∀ b∈r.mZ,b ∉ x.mZ)->jK l (r.h6 s)=r.h6 (jK l s):=by
 intro l;induction l with
 | nil=>intro s _;rfl
 | cons x l aJ=>
  intro s h;have ah:=h x (List.mem_cons_self);show jK l (x.h6 (r.h6 s))=r.h6 (jK l (x.h6 s));rw[<-ae0 ah.1 ah.2 s];grind
def iF:Nat->List eO->List (Nat×eO)
 | _,[]=>[]
 | n,r::l=>(n,r)::iF (n+1) l
theorem SD:∀ (l m:List eO) (n:Nat),iF n (l++m)=iF n l++iF (n+l.length) m
 | [],m,n=>by rfl
 | r::l,m,n=>by simp only[List.cons_append,iF,SD l m (n+1),List.length_cons];grind
theorem CJ:∀ (l:List eO) (n:Nat),(iF n l).map (·.2)=l
 | [],_=>rfl
 | r::l,n=>by simp only[iF,List.map_cons,CJ l (n+1)]
theorem zH:∀ {l:List eO} {n j:Nat} {x:eO},(j,x)∈iF n l->n<=j/\l[j - n]?=some x
 | r::l,n,j,x,h=>by
  simp only[iF,List.mem_cons,Prod.mk.injEq]at h;rcases h with⟨rfl,rfl⟩ | h
  ·simp
  ·obtain⟨E,U⟩:=zH h;grind
 | [],_,_,_,h=>by cases h
def js(l:List eO)(s:az)(f:Nat->Bool):az:=jK (((iF 0 l).filter λp=>f p.1).map (·.2)) s
theorem SE(l m:List eO)(s:az):jK (l++m) s=jK m (jK l s):=by simp[jK]
theorem K4{a b:eO}(h:a.apart b=true):(∀ t∈a.nR,t ∉ b.kz/\t ∉ b.nR)/\(∀ t∈a.kz,t ∉ b.nR)/\(∀ x∈a.mZ,x ∉ b.tT/\x ∉ b.mZ)/\∀ x∈a.tT,x ∉ b.mZ:=by
 simp only[eO.apart,Bool.and_eq_true]at h;obtain⟨⟨⟨E,U⟩,ag⟩,a1⟩:=h;refine⟨λt aH=>?_,λt aH=>F5 U aH,λx ah=>?_,λx ah=>F5 a1 ah⟩
 ·have:=F5 E aH;grind
 ·have:=F5 ag ah;grind
theorem SF{l:List eO}{s:az}{f:Nat->Bool}{i:Nat}{r:eO}(G:l[i]?=some r)(ao:f i=false)
  (gM:∀ j x,j<i->l[j]?=some x->f j=false->x.apart r=true) (tV:∀ j x,i<j->l[j]?=some x->f j=true->r.apart x=true) :
  xm r.kz (js l s f) (jK (l.take i) s)/\xn r.tT (js l s f) (jK (l.take i) s)/\js l s (λj=>if j=i then true else f j)=r.h6 (js l s f):=by
 obtain⟨cb,eU⟩:=List.getElem?_eq_some_iff.1 G;have hlen:(l.take i).length=i:=by grind
 have SG:iF 0 l=iF 0 (l.take i)++(i,r)::iF (i+1) (l.drop (i+1)):=by
  have E:l=l.take i++r::l.drop (i+1):=by
   have:=List.take_append_drop i l;rw[List.drop_eq_getElem_cons cb,eU]at this;grind
  have U:=SD (l.take i) (r::l.drop (i+1)) 0;rw[<-E,hlen]at U;simpa [iF]using U
 have ae5:∀ p∈iF 0 (l.take i),p.1<i/\l[p.1]?=some p.2:=by
  rintro⟨j,x⟩ an;obtain⟨_,U⟩:=zH an;grind
 have axQ:∀ p∈iF (i+1) (l.drop (i+1)),i<p.1/\l[p.1]?=some p.2:=by
  rintro⟨j,x⟩ an;obtain⟨E,U⟩:=zH an;grind
 have SH:∀ x∈((iF (i+1) (l.drop (i+1))).filter λp=>f p.1).map (·.2),r.apart x=true:=by
  grind
 have ij:js l s f=jK (((iF (i+1) (l.drop (i+1))).filter λp=>f p.1).map (·.2)) (jK (((iF 0 (l.take i)).filter λp=>f p.1).map (·.2)) s):=by
  unfold js;rw[SG,List.filter_append,List.filter_cons_of_neg (by grind),List.map_append,SE]
 have q3:=ae1 (R:=r.kz) (B:=r.tT) (((iF (i+1) (l.drop (i+1))).filter λp=>f p.1).map (·.2)) (jK (((iF 0 (l.take i)).filter λp=>f p.1).map (·.2)) s)
  (λx ah=>by
   have:=K4 (SH x ah);grind)
 have q4:=ae3 (R:=r.kz) (B:=r.tT) (λp=>f p.1) (iF 0 (l.take i)) s s (λ_ _=>rfl) (λ_ _=>rfl) (λp an ae6=>by
  obtain⟨E,U⟩:=ae5 p an;have:=K4 (gM p.1 p.2 E U ae6);grind)
 rw[CJ]at q4;refine⟨λt aH=>by rw[ij];exact (q3.1 t aH).trans (q4.1 t aH),λb W=>by rw[ij];exact (q3.2 b W).trans (q4.2 b W),?_⟩;rw[ij];unfold js;have aw:(iF 0 (l.take i)).filter (λp=>if p.1=i then true else f p.1)=(iF 0 (l.take i)).filter λp=>f p.1:=by
  apply List.filter_congr;grind
 have aN:(iF (i+1) (l.drop (i+1))).filter (λp=>if p.1=i then true else f p.1)=(iF (i+1) (l.drop (i+1))).filter λp=>f p.1:=by
  apply List.filter_congr;grind
 rw[SG,List.filter_append,List.filter_cons_of_pos (by simp),aw,aN,List.map_append,SE];show jK _ (r.h6 _)=_;refine ae4 _ _ λx ah=>?_;have:=K4 (SH x ah);grind
theorem xp{p:Nat->Prop}:∀ (ops:List Oper) (acc:List (List Nat)),(∀ j i,i∈acc.getD j []->p j->p i)->(∀ j o,ops[j]?=some o->∀ i∈h7 o,p (acc.length+j)->p i)->
  ∀ j i,i∈(ops.foldl zE acc).getD j []->p j->p i:=by
 intro ops;induction ops with
 | nil=>simp
 | cons o ops aJ=>
  intro acc h au;refine aJ (zE acc o) (λj i G aE=>?_) λj hR kc i G aE=>au (j+1) hR (by grind) i G (by
   have:(zE acc o).length=acc.length+1:=by simp[zE]
   grind)
  unfold zE at G;rw[List.getD_eq_getElem?_getD,List.getElem?_append]at G;split at G
  ·grind
  ·rename_i cb;by_cases e:j=acc.length
   ·subst e;simp only[Nat.sub_self,List.getElem?_cons_zero,Option.getD_some]at G;have G:=(K1 G).resolve_left (by simp);simp only[List.mem_flatMap,List.mem_cons]at G;obtain⟨k,al,G⟩:=G;have vm:=au 0 o (by simp) k al (by omega);grind
   grind
theorem SI{aO:dF}{T:Nat->ad}{bf:Nat->Option aK}{ops:Array Oper}:∀ (os:List Oper) (s:az) {l:List eO} {s':az},xl aO T bf ops os s=some (l,s')->
  l.length=os.length/\s'=jK l s/\∀ i o,os[i]?=some o->∃ r,l[i]?=some r/\vl aO T bf ops (jK (l.take i) s) o=some r:=by
 intro os;induction os with
 | nil=>intro s l s' h;cases h;exact⟨rfl,rfl,λi o h=>by cases h⟩
 | cons o os aJ=>
  intro s l s' h;simp only[xl]at h;split at h
  ·cases h
  ·rename_i r M;split at h
   ·cases h
   ·rename_i dH axR aj;cases h;obtain⟨E,U,ag⟩:=aJ _ aj;refine⟨by grind,U,λi hR kc=>?_⟩;cases i with
    | zero=>
     simp only[List.getElem?_cons_zero,Option.some.injEq]at kc;subst kc;exact⟨r,by simp,M⟩
    | succ i=>
     obtain⟨pY,aP,aR⟩:=ag i hR (by grind);exact⟨pY,by grind,aR⟩
theorem K5{ops:Array Oper}{f iC:Nat->aG}{g:Option (Nat×Bool)}(h:∀ t∈F4 ops g,f t=iC t):ky f ops g=ky iC ops g:=by
 unfold ky;cases g with
 | none=>rfl
 | some p=>
  obtain⟨j,want⟩:=p;simp only;cases aE:ops[j]? with
  | none=>rfl
  | some o=>
   simp only;cases au:o.dst with
   | none=>rfl
   | some d=>
    simp only;rw[h d (by simp[F4,aE,au])]
theorem SJ{aO:dF}{T:Nat->ad}{bf:Nat->Option aK}{ops:Array Oper}{s s':az}{o:Oper}{r:eO}(h:vl aO T bf ops s o=some r)(E:xm r.kz s' s)(U:xn r.tT s' s):vl aO T bf ops s' o=some r:=by
 have SK:r.kz=CD ops o/\r.tT=(bw aO T bf (a7 aO s.ax) o).looks s.aa:=by
  unfold vl at h;grind
 rw[SK.1]at E;rw[SK.2]at U;have kS:∀ x∈o.op.operands.toList,a7 aO s'.ax x=a7 aO s.ax x:=by
  intro x ah;cases x with
  | tmp t=>
   refine E t ?_;simp only[CD,List.mem_append];exact .inr (List.mem_filterMap.2 ⟨.tmp t,ah,rfl⟩)
  | _=>rfl
 have aw:ky s'.ax ops o.guard=ky s.ax ops o.guard:=K5 λt aH=>E t (by simp[CD,aH]);have aN:bw aO T bf (a7 aO s'.ax) o=bw aO T bf (a7 aO s.ax) o:=aeW kS;have cE:=aq.Rl (H:=s.aa) (H':=s'.aa) (bw aO T bf (a7 aO s.ax) o) U;have ed:sg (a7 aO s'.ax) o=sg (a7 aO s.ax) o:=by
  unfold sg;grind
 have dY:mY (a7 aO s'.ax) o=mY (a7 aO s.ax) o:=by
  unfold mY;cases af:o.op with
  | binOp op ty x y t=>
   rw[af]at kS;simp only;rw[kS x (by simp[Op.operands])]
  | load ty x=>rw[af]at kS;simp only;rw[kS x (by simp[Op.operands])]
  | store ty x y=>rw[af]at kS;simp only;rw[kS x (by simp[Op.operands])]
  | call c=>
   obtain⟨callee,args,dn⟩:=c;rw[af]at kS;cases callee with
   | builtin b=>
    have cV:∀ x∈args.toList,a7 aO s'.ax x=a7 aO s.ax x:=λx ah=>kS x (by simp[Op.operands,Call.operands];simp_all);simp only;unfold F2;grind
   | _=>rfl
  | _=>rfl
 unfold vl at h ⊢;simp_all
universe u
def A.fail{β:Type}:A β:=⟨False,λ_=>False⟩
inductive bW where
 | undef
 | val (t:ad)
 | dV (t:ad)
 | aW (b off:Nat)
 | own (b:Nat)
 | sub (b:Nat)
 | fI (b:Nat)
 | j2 (b:Nat)
 | cu
 | iy (k:FuncId) (fY:z8')
 | aV (aL:ad)
 | hd
 | hF (bs:List Nat)
 | iV (b:Nat)
 deriving DecidableEq
inductive b1 where
 | cells (t:ad) (l:List bW)
 | bh (e:ad)
 | hC (e:ad)
 | mp (k v:ad)
 | jh (k v:ad)
 | fZ (t:ad)
 | gJ (t:ad)
 | cr (k v:ad)
 | gn (e:ad) (t:bW)
def bW.cons(t:bW)(R:Type):Type:=
 match t with
 | .val t=>t.ai×R
 | .dV t=>t.ai×R
 | .sub _=>(Nat×Nat)×R
 | .aV aL=>(Nat×(List aL.ai->Prop)×List aL.ai×Bool)×R
 | .hd=>Nat×R
 | .iV _=>Nat×R
 | _=>R
def qc:List bW->Type->Type
 | [],R=>R
 | t::l,R=>t.cons (qc l R)
def b1.cons(t:b1)(R:Type):Type:=
 match t with
 | .cells _ l=>qc l R
 | .bh e=>List e.ai×R
 | .hC e=>List e.ai×R
 | .mp k v=>List (k.ai×v.ai)×R
 | .jh k v=>List (k.ai×v.ai)×R
 | .fZ t=>t.ai×R
 | .gJ t=>t.ai×R
 | .cr k v=>(Option (k.ai×v.ai)×List (k.ai×v.ai))×R
 | .gn e t=>(List e.ai×Nat)×t.cons R
def b1.CK:b1->Bool
 | .cells _ _ | .bh _ | .mp _ _ | .fZ _ | .cr _ _ | .gn _ _=>true
 | _=>false
def b1.F7(t u:b1):Bool:=
 match t,u with
 | .cells _ _,.cells _ _ | .cells _ _,.fZ _ | .fZ _,.cells _ _ | .fZ _,.fZ _ | .gJ _,.cells _ _ | .gJ _,.fZ _=>true
 | .mp _ _,.mp _ _ | .jh _ _,.mp _ _=>true
 | .bh e,.bh a6=>decide (e=a6)
 | .hC _,.bh _=>true
 | _,_=>false
structure dI where
 bT:List (Nat×bW)
 bD:List (Nat×b1)
def pe:List (Nat×b1)->Type
 | []=>Unit
 | p::l=>p.2.cons (pe l)
def oz:List (Nat×bW)->Type->Type
 | [],R=>R
 | p::l,R=>p.2.cons (oz l R)
def dI.ai(sh:dI):Type:=oz sh.bT (pe sh.bD)
def vn(g:Nat->Nat×Nat)(fY:z8'):Nat->aG:=hg (fY.map λp=>.aW (g p.1).1 (g p.1).2 p.2)
def vo(g:Nat->Nat×Nat)(bs:List Nat):Nat->aG:=hg (bs.map λb=>.own (g b).1 (g b).2)
def bW.av(g:Nat->Nat×Nat)(t:bW){R:Type}(x:t.cons R):aG×R:=
 match t,x with
 | .undef,x=>(.undef,x)
 | .val t,x=>(.val t x.1,x.2)
 | .dV t,x=>(.dV t x.1,x.2)
 | .aW b off,x=>(.aW (g b).1 (g b).2 off,x)
 | .own b,x=>(.own (g b).1 (g b).2,x)
 | .sub b,x=>(.sub (g b).1 (g b).2 x.1.1 x.1.2,x.2)
 | .fI b,x=>(.fI (g b).1 (g b).2,x)
 | .j2 b,x=>(.j2 (g b).1 (g b).2,x)
 | .cu,x=>(.cu,x)
 | .iy k fY,x=>(.iy k fY.length (vn g fY),x)
 | .aV aL,x=>(.aV x.1.1 aL x.1.2.1 x.1.2.2.1 x.1.2.2.2,x.2)
 | .hd,x=>(.hd x.1,x.2)
 | .hF bs,x=>(.agg bs.length (vo g bs),x)
 | .iV b,x=>(.iV (g b).1 (g b).2 x.1,x.2)
def pf(g:Nat->Nat×Nat):(l:List bW)->{R:Type}->qc l R->List aG×R
 | [],_,x=>([],x)
 | t::l,_,x=>let (a,y):=t.av g x;let (as,z):=pf g l y;(a::as,z)
def b1.body(g:Nat->Nat×Nat)(t:b1){R:Type}(x:t.cons R):bQ×R:=
 match t,x with
 | .cells t l,x=>let (as,y):=pf g l x;(.cells t (hg as),y)
 | .bh e,x=>(.bh e x.1,x.2)
 | .hC e,x=>(.hC e x.1,x.2)
 | .mp k v,x=>(.mp k v x.1,x.2)
 | .jh k v,x=>(.jh k v x.1,x.2)
 | .fZ t,x=>(.cells t (hg (nH t x.1)),x.2)
 | .gJ t,x=>(.gJ t x.1,x.2)
 | .cr k v,x=>(.cr k v x.1.1 x.1.2,x.2)
 | .gn e t,x=>let (a,y):=t.av g x.2;(.gn e x.1.1 x.1.2 a,y)
def eC(g:Nat->Nat×Nat):(l:List (Nat×bW))->{R:Type}->oz l R->List (Nat×aG)×R
 | [],_,x=>([],x)
 | p::l,_,x=>let (a,y):=p.2.av g x;let (as,z):=eC g l y;((p.1,a)::as,z)
def hi(g:Nat->Nat×Nat):(l:List (Nat×b1))->pe l->List (Nat×bQ)
 | [],_=>[]
 | p::l,x=>let (a,y):=p.2.body g x;(p.1,a)::hi g l y
def fr:List (Nat×aG)->Nat->aG
 | [],_=>.undef
 | p::l,i=>if i=p.1 then p.2 else fr l i
def eP:List (Nat×bQ)->Nat->bJ
 | [],_=>⟨0,.fy⟩
 | p::l,i=>if i=p.1 then ⟨0,p.2⟩ else eP l i
def SL(ae7:List (Nat×aG))(bs:List (Nat×bQ)):az:=⟨fr ae7,eP bs⟩
def c8(b:Nat):Nat×Nat:=(b,0)
def dI.st(sh:dI)(D:sh.ai):az:=
 SL (eC c8 sh.bT D).1 (hi c8 sh.bD (eC c8 sh.bT D).2)
def xq(H:Nat->bJ)(t:ad)(av:aG){R:Type}(r:Option (R×List Nat)):Option ((t.ai×R)×List Nat):=
 match (dB t av).run H with
 | some (x,l)=>match r with
  | some (y,m)=>some ((x,y),l++m)
  | none=>none
 | none=>none
def K6(t:ad)(av:aG){R:Type}(r:Option (R×List Nat)):Option ((t.ai×R)×List Nat):=
 match av with
 | .dV cX x=>match r with
  | some (y,m)=>if h:cX=t then some ((h ▸ x,y),m) else none
  | none=>none
 | _=>none
def K7(H:Nat->bJ)(b:Nat)(av:aG){R:Type}(r:Option (R×List Nat)):Option (((Nat×Nat)×R)×List Nat):=
 match r with
 | some (y,m)=>match av with
  | .own be g=>if (be == b&&g == (H b).gen&&(H b).body.fg)=true then some (((0,(H b).body.len),y),m) else none
  | .sub be g aY G=>if (be == b&&g == (H b).gen)=true then some (((aY,G),y),m) else none
  | _=>none
 | none=>none
def K8(aL:ad)(av:aG){R:Type}(r:Option (R×List Nat)):Option (((Nat×(List aL.ai->Prop)×List aL.ai×Bool)×R)×List Nat):=
 match av with
 | .aV l kA L n st=>match r with
  | some (y,m)=>if h:kA=aL then some (((l,h ▸ L,h ▸ n,st),y),m) else none
  | none=>none
 | _=>none
def K9(av:aG){R:Type}(r:Option (R×List Nat)):Option ((Nat×R)×List Nat):=
 match av with
 | .hd l=>match r with
  | some (y,m)=>some ((l,y),m)
  | none=>none
 | _=>none
def K_(H:Nat->bJ)(b:Nat)(av:aG){R:Type}(r:Option (R×List Nat)):Option ((Nat×R)×List Nat):=
 match av with
 | .iV be g i=>match r with
  | some (y,m)=>if (be == b&&g == (H b).gen)=true then some ((i,y),m) else none
  | none=>none
 | _=>none
def F8(H:Nat->bJ)(b off:Nat)(av:aG):Bool:=
 match av with
 | .aW be g ae8=>be == b&&ae8 == off&&g == (H b).gen
 | _=>false
def F9(H:Nat->bJ)(b:Nat)(av:aG):Bool:=
 match av with
 | .own be g=>be == b&&g == (H b).gen
 | _=>false
def K'(H:Nat->bJ)(b:Nat)(av:aG):Bool:=
 match av with
 | .fI be g=>be == b&&g == (H b).gen
 | _=>false
def La(H:Nat->bJ)(b:Nat)(av:aG):Bool:=
 match av with
 | .j2 be g=>be == b&&g == (H b).gen
 | _=>false
def Lb(av:aG):Bool:=
 match av with
 | .cu=>true
 | _=>false
def Lc(H:Nat->bJ)(f:Nat->Nat)(k:FuncId)(fY:z8')(av:aG):Bool:=
 match av with
 | .iy k' n cZ=>k' == k&&n == fY.length&&(List.range n).all λi=>match fY[i]? with
  | some p=>F8 H (f p.1) p.2 (cZ i)
  | none=>false
 | _=>false
def Ld(H:Nat->bJ)(f:Nat->Nat)(bs:List Nat)(av:aG):Bool:=
 match av with
 | .agg n h=>n == bs.length&&(List.range n).all λi=>match bs[i]? with
  | some b=>F9 H (f b) (h i)
  | none=>false
 | _=>false
def vp{ak:Type}(b:Bool)(r:Option ak):Option ak:=match b with | true=>r | false=>none
def bW.ja(H:Nat->bJ)(f:Nat->Nat)(t:bW)(av:aG){R:Type}(r:Option (R×List Nat)):Option (t.cons R×List Nat):=
 match t with
 | .undef=>r
 | .val t=>xq H t av r
 | .dV t=>K6 t av r
 | .aW b off=>vp (F8 H (f b) off av) r
 | .own b=>vp (F9 H (f b) av) r
 | .sub b=>K7 H (f b) av r
 | .fI b=>vp (K' H (f b) av) r
 | .j2 b=>vp (La H (f b) av) r
 | .cu=>vp (Lb av) r
 | .iy k fY=>vp (Lc H f k fY av) r
 | .aV aL=>K8 aL av r
 | .hd=>K9 av r
 | .hF bs=>vp (Ld H f bs av) r
 | .iV b=>K_ H (f b) av r
def zI(H:Nat->bJ)(f:Nat->Nat):(l:List bW)->(Nat->aG)->Nat->{R:Type}->Option (R×List Nat)->Option (qc l R×List Nat)
 | [],_,_,_,r=>r
 | t::l,c,i,_,r=>t.ja H f (c i) (zI H f l c (i+1) r)
def Le(H:Nat->bJ)(f:Nat->Nat)(t:ad)(l:List bW)(b:bQ){R:Type}(r:Option (R×List Nat)):Option (qc l R×List Nat):=
 match b with
 | .cells cX c=>if cX=t/\t.size=l.length then zI H f l c 0 r else none
 | _=>none
def Lf(e:ad)(b:bQ){R:Type}(r:Option (R×List Nat)):Option ((List e.ai×R)×List Nat):=
 match b with
 | .bh a6 xs=>match r with
  | some (y,m)=>if h:a6=e then some ((h ▸ xs,y),m) else none
  | none=>none
 | _=>none
def Lg(k v:ad)(b:bQ){R:Type}(r:Option (R×List Nat)):Option ((List (k.ai×v.ai)×R)×List Nat):=
 match b with
 | .mp k' h2 es=>match r with
  | some (y,m)=>if h:k'=k/\h2=v then some ((h.1 ▸ h.2 ▸ es,y),m) else none
  | none=>none
 | _=>none
def Lh(k v:ad)(b:bQ){R:Type}(r:Option (R×List Nat)):Option (((Option (k.ai×v.ai)×List (k.ai×v.ai))×R)×List Nat):=
 match b with
 | .cr k' h2 c es=>match r with
  | some (y,m)=>if h:k'=k/\h2=v then some (((h.1 ▸ h.2 ▸ c,h.1 ▸ h.2 ▸ es),y),m) else none
  | none=>none
 | _=>none
def Li(H:Nat->bJ)(f:Nat->Nat)(e:ad)(t:bW)(b:bQ){R:Type}(r:Option (R×List Nat)):Option (((List e.ai×Nat)×t.cons R)×List Nat):=
 match b with
 | .gn a6 xs i v=>match t.ja H f v r with
  | some (y,m)=>if h:a6=e then some (((h ▸ xs,i),y),m) else none
  | none=>none
 | _=>none
def Lj(H:Nat->bJ)(t:ad)(b:bQ){R:Type}(r:Option (R×List Nat)):Option ((t.ai×R)×List Nat):=
 match b with
 | .cells cX f=>if cX=t then xq H t (.agg t.size f) r else none
 | _=>none
def Lk(H:Nat->bJ)(t:ad)(b:Nat){R:Type}(r:Option (R×List Nat)):Option ((t.ai×R)×List Nat):=
 match (dB (.bH t) (.aW b (H b).gen 0)).run H with
 | some (some x,l)=>match r with
  | some (y,m)=>some ((x,y),l++m)
  | none=>none
 | _=>none
def b1.ja(H:Nat->bJ)(f:Nat->Nat)(t:b1)(b:Nat){R:Type}(r:Option (R×List Nat)):Option (t.cons R×List Nat):=
 match t with
 | .cells t l=>Le H f t l (H b).body r
 | .bh e=>Lf e (H b).body r
 | .hC e=>xq H (.slice e) (.own b (H b).gen) r
 | .mp k v=>Lg k v (H b).body r
 | .jh k v=>xq H (.map k v) (.fI b (H b).gen) r
 | .fZ t=>Lj H t (H b).body r
 | .gJ t=>Lk H t b r
 | .cr k v=>Lh k v (H b).body r
 | .gn e t=>Li H f e t (H b).body r
def xr(H:Nat->bJ)(f:Nat->Nat):(l:List (Nat×b1))->Option (pe l×List Nat)
 | []=>some ((),[])
 | p::l=>p.2.ja H f (f p.1) (xr H f l)
def xt(H:Nat->bJ)(f:Nat->Nat):(l:List (Nat×bW))->(Nat->aG)->{R:Type}->Option (R×List Nat)->Option (oz l R×List Nat)
 | [],_,_,r=>r
 | p::l,c,_,r=>p.2.ja H f (c p.1) (xt H f l c r)
def dI.oA(sh:dI):List Nat:=sh.bD.filterMap λp=>if p.2.CK then some p.1 else none
def dI.zJ(sh:dI)(f:Nat->Nat)(s:az):Option (sh.ai×List Nat):=
 match xt s.aa f sh.bT s.ax (xr s.aa f sh.bD) with
 | some (D,bU)=>if sh.oA.all (λb=>!bU.contains (f b))=true then some (D,bU) else none
 | none=>none
def Ll:List (Nat×b1)->Nat->Option b1
 | [],_=>none
 | p::l,b=>if b=p.1 then some p.2 else Ll l b
def Lm(s:az)(i b be g':Nat):az:=
 match decide (be≠b/\g'=(s.aa be).gen),(s.aa be).body with
 | true,.bh e xs=>⟨λj=>if j=i then .own b ((s.aa b).gen+1) else s.ax j,λj=>if j=b then ⟨(s.aa b).gen+1,.bh e xs⟩ else if j=be then ⟨(s.aa be).gen+1,.fy⟩ else s.aa j⟩
 | _,_=>s
def Ln(bs:List (Nat×b1))(s:az)(i b:Nat):az:=
 match s.ax i,Ll bs b with
 | .cu,some (.bh e)=>⟨λj=>if j=i then .own b ((s.aa b).gen+1) else s.ax j,(s.cy b ⟨(s.aa b).gen+1,.bh e []⟩).aa⟩
 | .own be g',some (.bh _)=>Lm s i b be g'
 | _,_=>s
def Lo(bs:List (Nat×b1))(s:az)(c j b:Nat):az:=
 match (s.aa c).body with
 | .cells t f=>match f j,(s.aa b).body,Ll bs b with
  | .cu,.fy,some (.bh e)=>(s.cy b ⟨(s.aa b).gen+1,.bh e []⟩).cy c ⟨(s.aa c).gen,.cells t λq=>if q=j then .own b ((s.aa b).gen+1) else f q⟩
  | _,_,_=>s
 | _=>s
def F_(bs:List (Nat×b1)):List (Nat×bW)->az->az
 | [],s=>s
 | p::l,s=>F_ bs l (match p.2 with | .own b=>Ln bs s p.1 b | _=>s)
def Ga(bs:List (Nat×b1))(c:Nat):List bW->Nat->az->az
 | [],_,s=>s
 | t::l,j,s=>Ga bs c l (j+1) (match t with | .own b=>Lo bs s c j b | _=>s)
def Gb(bs:List (Nat×b1)):List (Nat×b1)->az->az
 | [],s=>s
 | p::l,s=>Gb bs l (match p.2 with | .cells _ ts=>Ga bs p.1 ts 0 s | _=>s)
def dI.Gc(sh:dI)(s:az):az:=Gb sh.bD sh.bD (F_ sh.bD sh.bT s)
def b1.SM:b1->Bool
 | .bh _ | .hC _ | .gn _ _=>true
 | _=>false
def dI.Gd(sh:dI)(s:az):Bool:=sh.bD.all λp=>!(decide (w1<=p.1)&&p.2.SM)||decide ((s.aa p.1).gen=0)
def dI.ja(sh:dI)(s:az):Option (sh.ai):=
 match sh.Gd (sh.Gc s) with
 | true=>(sh.zJ (λb=>b) (sh.Gc s)).map (·.1)
 | false=>none
def dI.m_{β:Type}(sh:dI)(s:az)(k:sh.ai->A β):A β:=
 match sh.ja s with
 | some D=>k D
 | none=>A.fail
def bW.xu(t:bW){R:Type}(r:R):t.cons R:=
 match t with
 | .val t=>(t.de,r)
 | .dV t=>(t.de,r)
 | .sub _=>((0,0),r)
 | .aV _=>((0,λ_=>False,[],false),r)
 | .hd=>(0,r)
 | .iV _=>(0,r)
 | .undef | .aW _ _ | .own _ | .fI _ | .j2 _ | .cu | .iy _ _ | .hF _=>r
def SN:(l:List bW)->{R:Type}->R->qc l R
 | [],_,r=>r
 | t::l,_,r=>t.xu (SN l r)
def b1.xu(t:b1){R:Type}(r:R):t.cons R:=
 match t with
 | .cells _ l=>SN l r
 | .bh _=>([],r)
 | .hC _=>([],r)
 | .mp _ _=>([],r)
 | .jh _ _=>([],r)
 | .fZ t=>(t.de,r)
 | .gJ t=>(t.de,r)
 | .cr _ _=>((none,[]),r)
 | .gn _ t=>(([],0),t.xu r)
def SO:(l:List (Nat×b1))->pe l
 | []=>()
 | p::l=>p.2.xu (SO l)
def SP:(l:List (Nat×bW))->{R:Type}->R->oz l R
 | [],_,r=>r
 | p::l,_,r=>p.2.xu (SP l r)
def dI.xu(sh:dI):sh.ai:=SP sh.bT (SO sh.bD)
structure hG where
 ts:ad
 aV:ad
 sh:ts.ai->A aV.ai
 dR:Bool
def aK.dv(c:aK):hG:=⟨c.ts,c.aV,c.sh,true⟩
def A.CL{ak:Type}(m:A ak):Prop:=∀ x y,m.bK x->m.bK y->x=y
open Classical in
def A.val{ak:Type}(m:A ak)(d:ak):ak:=if h:∃ x,m.bK x then h.choose else d
def hG.Ge(c:hG):aK:=⟨c.ts,c.aV,λx=>(c.sh x).ck,λx=>(c.sh x).val c.aV.de⟩
structure cK where
 cp:dI
 bK:dI
 kB:z9'
 kd:Nat
 sh:cp.ai->A bK.ai
structure zK where
 ts:ad
 aL:ad
 pre:ts.ai->Prop
 seq:ts.ai->List aL.ai
inductive e5 where
 | dv (c:hG)
 | fa (c:cK)
 | cr (c:zK)
 | Lp (c:hG)
 | Gf (c:cK) (sh:Nat->c.cp.ai->A c.bK.ai) (ids:List Nat)
 | kC (c:aK)
def Gg(bf:Nat->Option aK)(Ψ:Nat->Option e5)(k:Nat):Option aK:=
 match Ψ k with
 | some (.dv c)=>match c.dR&&!nJ c.aV with
  | true=>some c.Ge
  | false=>none
 | some (.kC c)=>some c
 | some _=>none
 | none=>bf k
def Lq(bf:Nat->Option aK)(Ψ:Nat->Option e5)(k:Nat):Option hG:=
 match Ψ k with
 | some (.dv c)=>some c
 | some _=>none
 | none=>(bf k).bind λc=>if nJ c.aV=true then none else some c.dv
structure hU where
 ak:Type
 d:ak
 ca:Prop
 m:A ak
 st:ak->az
 CM:Option (Bool->ak->az)
def q5(s:az)(o:Oper)(aV:ad)(bU:List Nat)(v:aG):az:=(if aV.pure then s else s.cA bU).set o.dst v
def CN(aO:dF)(s:az)(o:Oper)(args:List Operand)(dv:hG):Option hU:=
 match (iX dv.ts ((args.map (a7 aO s.ax)).map λv=>(use v).2)).run s.aa with
 | some (x,bU)=>some ⟨dv.aV.ai,dv.aV.de,jG (args.map (a7 aO s.ax)),dv.sh x,λy=>q5 s o dv.aV bU (qQ dv.aV y),some λg y=>q5 s o dv.aV bU (.hB g (qQ dv.aV y))⟩
 | none=>none
def Gh(aO:dF)(s:az)(o:Oper)(args:List Operand)(dv:hG):Option hU:=
 match (iX dv.ts ((args.map (a7 aO s.ax)).map λv=>(use v).2)).run s.aa with
 | some (x,_)=>some ⟨dv.aV.ai,dv.aV.de,jG (args.map (a7 aO s.ax)),dv.sh x,λy=>s.set o.dst (qQ dv.aV y),none⟩
 | none=>none
def CO(aO:dF)(s:az)(o:Oper)(t:Nat)(args:List Operand):Option hU:=
 match use (s.ax t) with
 | (ca,.val (.fn a b) f)=>match (iX a ((args.map (a7 aO s.ax)).map λv=>(use v).2)).run s.aa with
  | some (x,bU)=>some ⟨b.ai,b.de,ca/\jG (args.map (a7 aO s.ax)),f x,λy=>q5 s o b bU (qQ b y),some λg y=>q5 s o b bU (.hB g (qQ b y))⟩
  | none=>none
 | _=>none
def SQ(t:bW)(av:aG):z8':=
 match t,av with
 | .aW be _,.aW b _ _=>[(be,b)]
 | .own be,.own b _=>[(be,b)]
 | .sub be,.own b _=>[(be,b)]
 | .sub be,.sub b _ _ _=>[(be,b)]
 | .fI be,.fI b _=>[(be,b)]
 | .j2 be,.j2 b _=>[(be,b)]
 | .iy _ fY,.iy _ _ cZ=>(List.range fY.length).filterMap λi=>match fY[i]?,cZ i with
  | some p,.aW b _ _=>some (p.1,b)
  | _,_=>none
 | _,_=>[]
def SR:List bW->(Nat->aG)->Nat->z8'
 | [],_,_=>[]
 | t::l,c,i=>SQ t (c i)++SR l c (i+1)
def Lr:z8'->Nat->Option Nat
 | [],_=>none
 | p::l,b=>if b=p.1 then some p.2 else Lr l b
def SS(H:Nat->bJ):List (Nat×b1)->z8'->z8'
 | [],m=>m
 | p::l,m=>SS H l (m++match p.2,Lr m p.1 with
  | .cells _ ts,some b=>(match (H b).body with | .cells _ c=>SR ts c 0 | _=>[])
  | _,_=>[])
def ae9(sh:dI)(s:az):z8':=SS s.aa sh.bD (sh.bT.flatMap λp=>SQ p.2 (s.ax p.1))
def si(s:az)(avs:List aG):az:=⟨λi=>if i=b5 then s.ax b5 else if i<avs.length then avs.getD i .undef else .undef,s.aa⟩
def m':Nat:=99999
def sj(s:az)(d:Nat)(f:Nat->Nat)(ins:List Nat):List (Nat×b1)->Nat->z6'
 | [],_=>[]
 | p::l,j=>(if ins.contains p.1 then (p.1,(f p.1,match p.2 with
   | .cells _ _ | .fZ _ | .mp _ _ | .gJ _ | .jh _ _=>(s.aa (f p.1)).gen
   | .bh _=>if w1<=p.1 then (s.aa (f p.1)).gen else (s.aa (f p.1)).gen+1
   | _=>(s.aa (f p.1)).gen+1)) else (p.1,(50000+10*d+j,(s.aa (50000+10*d+j)).gen+1)))::sj s d f ins l (j+1)
def hV:z6'->Nat->Nat×Nat
 | [],_=>(m',0)
 | p::l,b=>if b=p.1 then p.2 else hV l b
def pg:z9'->(Nat->aG)->Nat->List aG
 | [],_,_=>[]
 | none::l,c,i=>c i::pg l c (i+1)
 | some n::l,c,i=>.agg n (λj=>c (i+j))::pg l c (i+n)
def Ls(l:List aG):aG:=
 match l with
 | [v]=>v
 | l=>.pZ l.length (hg l)
def xv(s:az)(c:cK)(f:Nat->Nat)(cg:z6')(bm:c.bK.ai):az:=
 ⟨λi=>if i=b5 then (if c.bK.bT.any (λp=>p.1 == b5) then fr (eC (hV cg) c.bK.bT bm).1 b5 else if c.cp.bT.any (λp=>p.1 == b5) then .undef else s.ax b5) else s.ax i,λb=>match cg.find? (λp=>p.2.1 == b) with
  | some p=>⟨p.2.2,(eP (hi (hV cg) c.bK.bD (eC (hV cg) c.bK.bT bm).2) p.1).body⟩
  | none=>if (c.cp.oA.map f).contains b then ⟨(s.aa b).gen+1,.fy⟩ else s.aa b⟩
def ae_(s:az)(o:Oper)(c:cK)(f:Nat->Nat)(cg:z6')(bm:c.bK.ai):az:=
 az.set (xv s c f cg bm) o.dst (Ls (pg c.kB (fr (eC (hV cg) c.bK.bT bm).1) 0))
def Gi(l:List Nat):Bool:=decide l.Nodup
def CP(c:cK)(f:Nat->Nat)(dL:az)(cg:z6')(d n:Nat):Bool:=
  decide (d < 4000) && decide (c.bK.bD.length <= 10) && Gi (c.cp.bD.map (·.1)) && Gi (c.cp.bD.map λp => f p.1) && Gi (cg.map (·.1)) && Gi (cg.map (·.2.1)) && (c.cp.bD.map (·.1)).all (λb => decide (eQ <= b))
        &&!(cg.map (·.2.1)).contains m'&&(match (dL.aa m').body with | .fy=>true | _=>false)&&c.bK.bD.all (λp=>c.cp.bD.all λq=>!(p.1 == q.1&&q.2.CK)||p.2.F7 q.2)&&(decide (n=c.kd)&&decide (n<=eQ))
def q6(aO:dF)(s:az)(args:List Operand):List aG:=(args.map (a7 aO s.ax)).map λv=>(use v).2
def q7(c:cK)(eG:az)(b:Nat):Nat:=(Lr (ae9 c.cp eG) b).getD m'
def xw(aO:dF)(s:az)(o:Oper)(args:List Operand)(c:cK):Option hU:=
 match c.cp.zJ (q7 c (si s (q6 aO s args))) (si s (q6 aO s args)) with
 | some (D,bU)=>match CP c (q7 c (si s (q6 aO s args))) (s.cA bU) (sj (s.cA bU) (o.dst.getD 0) (q7 c (si s (q6 aO s args))) c.cp.oA c.bK.bD 0) (o.dst.getD 0) args.length with
  | true=>some ⟨c.bK.ai,c.bK.xu,jG (args.map (a7 aO s.ax)),c.sh D,λbm=>ae_ (s.cA bU) o c (q7 c (si s (q6 aO s args))) (sj (s.cA bU) (o.dst.getD 0) (q7 c (si s (q6 aO s args))) c.cp.oA c.bK.bD 0) bm,none⟩
  | false=>none
 | none=>none
def SU:Nat:=999999
def SV(c:cK)(sh:Nat->c.cp.ai->A c.bK.ai)(ids:List Nat)(n:Option Nat):cK:={ c with sh:=λD=>A.ab (∃ k∈ids,n=some k) (sh (n.getD 0) D) }
def Gj(aO:dF)(Ψ:Nat->Option e5)(s:az)(o:Oper)(t:Nat)(args:List Operand):Option hU:=
 match s.ax t with
 | .val .et n=>match Ψ SU with
  | some (.Gf c sh ids)=>xw aO s o args (SV c sh ids n)
  | _=>none
 | _=>none
def Gk(aO:dF)(s:az)(o:Oper)(t:Nat)(args:List Operand):Option hU:=
 match s.ax t,s.ax b5 with
 | .hd dH,.aV l aL L n st=>match (iX aL ((args.map (a7 aO s.ax)).map λv=>(use v).2)).run s.aa with
  | some (x,bU)=>some ⟨Bool,false,jG (args.map (a7 aO s.ax)),A.ab (dH=l/\st=false/\∃ T,L (n++x::T)) (A.any λ_=>True),λb=>az.set ⟨λi=>if i=b5 then .aV l aL L (n++[x]) (!b) else s.ax i,(s.cA bU).aa⟩ o.dst (.val .bool b),none⟩
  | none=>none
 | _,_=>none
def Gl(aO:dF)(T:Nat->ad)(s:az)(o:Oper)(ty:TypeId)(x:Operand):Option hU:=
 match T ty,o.dst with
 | .map k v,some d=>match use (a7 aO s.ax x) with
  | (ca,av)=>match (dB (.map k v) av).run s.aa with
   | some (es,bU)=>if bU.contains d then none else
    some ⟨Unit,(),ca,A.pure (),λ_=>((s.cA bU).cy d ⟨(s.aa d).gen+1,.cr k v none es⟩).set o.dst (.j2 d ((s.aa d).gen+1)),none⟩
   | none=>none
 | _,_=>none
def Gm{ak:Type}(l:List ak):A (Option Nat):=⟨True,λx=>match x with | none=>l=[] | some i=>i<l.length⟩
def SW(i:Option Nat):Nat:=match i with | none=>0 | some _=>2
def nS{ak:Type}(c:Option ak)(cm:List ak)(i:Option Nat):Option ak:=match i with | none=>c | some i=>cm[i]?
def CQ{ak:Type}(cm:List ak)(i:Option Nat):List ak:=match i with | none=>cm | some i=>cm.eraseIdx i
def Gn(aO:dF)(s:az)(o:Oper)(x:Operand)(str:Bool):Option hU:=
 match str,a7 aO s.ax x with
 | false,.j2 b g=>if (s.aa b).gen=g then (match (s.aa b).body with
  | .cr k v c cm=>some ⟨Option Nat,none,True,Gm cm,λi=>(s.cy b ⟨g,.cr k v (nS c cm i) (CQ cm i)⟩).set o.dst (.pZ (Nat.succ (SW i)) (hg [.val .bool i.isSome])),none⟩
  | _=>none) else none
 | _,_=>none
def Gp(aO:dF)(s:az)(o:Oper)(x:Operand):Option hU:=
 match a7 aO s.ax x with
 | .j2 b g=>if (s.aa b).gen=g then (match (s.aa b).body with
  | .cr k v c _=>some ⟨Unit,(),True,A.ab (c.isSome=true) (A.pure ()),λ_=>s.set o.dst (.pZ 2 (hg [.val k ((c.map (·.1)).getD k.de),.val v ((c.map (·.2)).getD v.de)])),none⟩
  | _=>none) else none
 | _=>none
def CR(aO:dF)(T:Nat->ad)(s:az)(o:Oper)(op:BinOp)(ty:TypeId)(x y:Operand):Option hU:=
 match T ty,a7 aO s.ax y with
 | .slice e,.cu=>match (dB (.slice e) (use (a7 aO s.ax x)).2).run s.aa with
  | some (xs,_)=>match op with
   | .eql=>some ⟨Bool,false,(use (a7 aO s.ax x)).1,A.any λb=>b=true->xs=[],λb=>s.set o.dst (.val .bool b),none⟩
   | .neq=>some ⟨Bool,false,(use (a7 aO s.ax x)).1,A.any λb=>b=true->xs=[],λb=>s.set o.dst (.val .bool (!b)),none⟩
   | _=>none
  | none=>none
 | _,_=>none
def q8(aO:dF)(T:Nat->ad)(bf:Nat->Option aK)(Ψ:Nat->Option e5)(s:az)(o:Oper):Option hU:=
 match o.op with
 | .call c=>match c.callee with
  | .value f=>match f with
   | .func k=>match Ψ k with
    | some (.fa c')=>xw aO s o c.args.toList c'
    | some (.Lp c')=>Gh aO s o c.args.toList c'
    | _=>match Lq bf Ψ k with
     | some dv=>CN aO s o c.args.toList dv
     | none=>none
   | .tmp t=>match CO aO s o t c.args.toList with
    | some r=>some r
    | none=>match Gj aO Ψ s o t c.args.toList with
     | some r=>some r
     | none=>Gk aO s o t c.args.toList
   | _=>none
  | _=>none
 | .range ty x=>Gl aO T s o ty x
 | .next x str=>Gn aO s o x str
 | .entry x=>Gp aO s o x
 | .binOp op ty x y _=>CR aO T s o op ty x y
 | _=>none
def cq{ak:Type}(g:Bool)(m:A ak)(d:ak):A ak:=if g=true then m else A.pure d
def sk{β:Type}(b:Bool)(p:Prop)(m:A β):A β:=match b with | true=>m | false=>A.ab p m
def CS(o:Oper)(e9:aG)(l:List (Nat×bJ)):Option (List (Nat×bJ)×aG):=
 match l with
 | []=>some ([],e9)
 | p::dH=>match o.op with
  | .makeFunc ..=>some (p::dH,e9)
  | .buildSlice _ n _=>match dH,e9,p.2.body with
   | [],.own be g',.bh e xs=>if (be=p.1/\g'=p.2.gen)/\n≠0 then some ([(p.1,⟨p.2.gen,.fy⟩)],.val (.slice e) xs) else none
   | _,_,_=>none
  | _=>none
def SX(hD:List (Nat×bJ))(e9:aG):aG:=
 match e9 with
 | .own b _=>match hD.find? (λp=>p.1 == b) with
  | some (_,⟨_,.bh e xs⟩)=>.val (.slice e) xs
  | _=>e9
 | _=>e9
abbrev ph:=List (Nat×(Nat×Bool))
def sn(ops:Array Oper)(j d:Nat):Bool:=match ops[j]? with | some o=>(match o.dst with | some e=>e == d | none=>false) | none=>false
def ae'(tg:ph)(t:Nat)(k:Nat×Bool):Bool:=tg.any λp=>p.1 == t&&(p.2.1 == k.1&&p.2.2 == k.2)
def xx(ops:Array Oper)(tg:ph)(o:Oper):ph:=
 match o.dst with
 | none=>tg
 | some d=>match o.guard with
  | some k=>if sn ops k.1 d=true then tg.filter λp=>p.1 != d&&!sn ops p.2.1 d else (d,k)::tg.filter λp=>p.1 != d&&!sn ops p.2.1 d
  | none=>tg.filter λp=>p.1 != d&&!sn ops p.2.1 d
def xy(aI:Operand->aG)(tg:ph)(gk:Option (Nat×Bool))(x:Operand):Bool:=
 !(aI x).zC||(match x,gk with | .tmp t,some k=>ae' tg t k | _,_=>false)
def Gq(ops:Array Oper)(tg:ph)(c x:Operand)(want:Bool):Bool:=
 match c,x with
 | .tmp c,.tmp t=>tg.any λp=>p.1 == t&&(sn ops p.2.1 c&&p.2.2 == want)
 | _,_=>false
def Lt(aI:Operand->aG)(tg:ph)(gk:Option (Nat×Bool))(o:Oper):Bool:=o.op.operands.toList.all (xy aI tg gk)
def zL(aI:Operand->aG)(ops:Array Oper)(tg:ph)(gk:Option (Nat×Bool))(o:Oper):Bool:=
 match o.op with
 | .pick c a b=>xy aI tg gk c&&((xy aI tg gk a||Gq ops tg c a true)&&(xy aI tg gk b||Gq ops tg c b false))
 | _=>Lt aI tg gk o
def Lu(aI:Operand->aG)(tg:ph)(gk:Option (Nat×Bool))(o:Oper)(e9:aG):Bool:=
 !e9.zC||(match o.op with | .move x=>xy aI tg gk x | _=>false)
def h8:Operand->Option Nat
 | .tmp t=>some t
 | _=>none
def zM(o gF kU:Oper):Option (Oper×Nat×Nat):=
 match o.op with
 | .mapEntry ty m x=>match gF.op with
  | .extract e 1=>match kU.op with
   | .entryStore mO dx a6 y=>match o.dst,gF.dst,kU.dst with
    | some d1,some d2,none=>if h8 e=some d1/\h8 a6=some d2/\mO=ty/\(h8 dx).isSome=true/\h8 dx=h8 m/\(h8 y).isSome=true/\h8 m≠some d1/\h8 m≠some d2/\h8 y≠some d1/\h8 y≠some d2/\o.guard.isNone=true/\gF.guard.isNone=true/\kU.guard.isNone=true
     then some ({ kU with op:=.mapUpdate ty m x y },d1,d2) else none
    | _,_,_=>none
   | _=>none
  | _=>none
 | _=>none
def zN(o:Oper)(os:List Oper):Option (Oper×Nat×Nat):=
 match os with
 | gF::kU::_=>zM o gF kU
 | _=>none
def Gr{β:Type}:Nat->Int->(Nat->A β)->A β
 | 0,_,_=>A.fail
 | 1,_,k=>k 0
 | n+2,v,k=>if v=((n+1:Nat):Int) then k (n+1) else Gr (n+1) v k
theorem SY{β:Type}{O:β->Prop}{k:Nat->A β}{v:Int}:∀ {n:Nat},A.cx (Gr n v k) O->0<=v->v<(n:Int)->A.cx (k v.toNat) O
 | 0,h,_,_=>h.1.elim
 | 1,h,aX,E=>by
  have:v.toNat=0:=by omega
  rw[this];exact h
 | n+2,h,aX,E=>by
  unfold Gr at h;split at h
  ·grind
  ·exact SY h aX (by omega)
def mq{β:Type}(aO:dF)(T:Nat->ad)(bf:Nat->Option aK)(Ψ:Nat->Option e5)(ops:Array Oper):List Oper->ph->az->(az->A β)->A β
 | [],_,s,k=>k s
 | o::os,tg,s,k=>
  match zN o os with
  | some (ke,d1,d2)=>match os with
   | _::_::afa=>match (bw aO T bf (a7 aO s.ax) ke).run s.aa with
    | some res=>A.ab res.ca (A.ab res.c (mq aO T bf Ψ ops afa [] (((s.h5 none res).set (some d1) .undef).set (some d2) .undef) k))
    | none=>A.fail
   | _=>A.fail
  | none=>
  match ky s.ax ops o.guard with
  | none=>A.fail
  | some none=>match (bw aO T bf (a7 aO s.ax) o).run s.aa with
   | some res=>sk (zL (a7 aO s.ax) ops tg none o) res.ca (sk (mY (a7 aO s.ax) o) res.c (mq aO T bf Ψ ops os (xx ops tg o) (s.h5 o.dst res) k))
   | none=>match q8 aO T bf Ψ s o with
    | some cc=>sk (sg (a7 aO s.ax) o) cc.ca (A.bind cc.m λy=>mq aO T bf Ψ ops os [] (cc.st y) k)
    | none=>A.fail
  | some (some g)=>match (bw aO T bf (a7 aO s.ax) o).run s.aa with
   | some ⟨ca,c,e9,hD⟩=>match CS o e9 hD with
    | some (xz,so)=>sk (zL (a7 aO s.ax) ops tg o.guard o&&(mY (a7 aO s.ax) o&&Lu (a7 aO s.ax) tg o.guard o so)) (g=true->ca/\(c/\(use so).1)) (mq aO T bf Ψ ops os (xx ops tg o) ((s.gh xz).set o.dst (.hB g (use so).2)) k)
    | none=>if g=true then A.ab ca (A.ab c (mq aO T bf Ψ ops os [] (s.h5 o.dst ⟨ca,c,e9,hD⟩) k)) else mq aO T bf Ψ ops os [] (s.set o.dst (.hB false (SX hD (use e9).2))) k
   | none=>match q8 aO T bf Ψ s o with
    | some cc=>match cc.CM with
     | some gs=>sk (Lt (a7 aO s.ax) tg o.guard o) (g=true->cc.ca) (A.bind (cq g cc.m cc.d) λy=>mq aO T bf Ψ ops os (xx ops tg o) (gs g y) k)
     | none=>if g=true then A.ab cc.ca (A.bind cc.m λy=>mq aO T bf Ψ ops os [] (cc.st y) k) else mq aO T bf Ψ ops os [] (s.set o.dst (.hB false (use ((cc.st cc.d).ax (o.dst.getD 0))).2)) k
    | none=>A.fail
def CT{β:Type}:List Prop->A β->A β
 | [],m=>m
 | p::l,m=>A.ab p (CT l m)
def zO(cl:List (List Nat)):Nat->Nat
 | 0=>0
 | n+1=>if (List.range n).all (λi=>(cl.getD n []).contains i)=true then zO cl n else n+1
def Lv(gG ik hH iG lU:Oper):Bool:=
 match gG.op,ik.op,hH.op with
 | .lookup ty m x false,.binOp .add _ (.tmp t) (.const (.int k c)) _,.mapEntry mO dx dJ=>match gG.dst,ik.dst,zM hH iG lU with
  | some eg,some fL,some (_,d1,d2)=>decide (t=eg/\mO=ty/\fU k c/\h8 dx=h8 m/\h8 dJ=h8 x/\eg≠fL/\eg≠d1/\eg≠d2/\fL≠d1/\fL≠d2/\d1≠d2/\
    (h8 m).isSome=true/\(h8 x).isSome=true/\h8 m≠some eg/\h8 m≠some fL/\h8 m≠some d1/\h8 m≠some d2/\h8 x≠some eg/\h8 x≠some fL/\h8 x≠some d1/\h8 x≠some d2/\gG.guard.isNone=true/\ik.guard.isNone=true)
  | _,_,_=>false
 | _,_,_=>false
def Gs(ops:List Oper):Bool:=
 match ops.drop (ops.length - 5) with
 | [gG,ik,hH,iG,lU]=>Lv gG ik hH iG lU&&(CH ops&&((List.range 5).all λq=>(List.range (ops.length - 5)).all λi=>((ih ops).getD (ops.length - 5+q) []).contains i)&&
   ((ih ops).getD (ops.length - 5+1) []).contains (ops.length - 5)&&((ih ops).getD (ops.length - 5+3) []).contains (ops.length - 5+2)&&((List.range 4).all λq=>((ih ops).getD (ops.length - 5+4) []).contains (ops.length - 5+q))&&
   (h7 hH).all (λi=>decide (i<ops.length - 5))&&(h7 iG).all (λi=>decide (i<ops.length - 5)||decide (i=ops.length - 5+2)))
 | _=>false
def lV(ops:List Oper):Nat:=if Gs ops=true then ops.length - 5 else zO (ih ops) ops.length
def A.afb{ak:Type}(l:List (A ak)):A ak:=⟨∀ m∈l,m.ck,λx=>∃ m∈l,m.bK x⟩
def vq(ops:List Oper)(done:List Nat):List Nat:=(List.range ops.length).filter λi=>!done.contains i&&match ops[i]? with | some o=>(h7 o).all λj=>done.contains j | none=>false
def q9(ops:List Oper):Nat->List Nat->List (List Nat)
 | 0,_=>[[]]
 | f+1,done=>match vq ops done with
  | []=>[[]]
  | l=>l.flatMap λi=>(q9 ops f (i::done)).map (i::·)
def Gt(ops:List Oper):Nat->List Nat->Bool
 | 0,done=>(vq ops done).isEmpty
 | f+1,done=>(vq ops done).all λi=>Gt ops f (i::done)
def Gu{β:Type}(aO:dF)(T:Nat->ad)(bf:Nat->Option aK)(Ψ:Nat->Option e5)(ops:Array Oper)(o:Oper)(s:az)(k:az->A β):A β:=
 match o.guard with
 | some _=>A.fail
 | none=>match (bw aO T bf (a7 aO s.ax) o).run s.aa with
  | some res=>sk (zL (a7 aO s.ax) ops [] none o) res.ca (sk (mY (a7 aO s.ax) o) res.c (k (s.h5 o.dst res)))
  | none=>match q8 aO T bf Ψ s o with
   | some cc=>sk (sg (a7 aO s.ax) o) cc.ca (A.bind cc.m λy=>k (cc.st y))
   | none=>A.fail
def zP{β:Type}(aO:dF)(T:Nat->ad)(bf:Nat->Option aK)(Ψ:Nat->Option e5)(ops:Array Oper):List Nat->az->(az->A β)->A β
 | [],s,k=>k s
 | i::b6,s,k=>match ops[i]? with
  | some o=>Gu aO T bf Ψ ops o s λs'=>zP aO T bf Ψ ops b6 s' k
  | none=>A.fail
def SZ{β:Type}(aO:dF)(T:Nat->ad)(bf:Nat->Option aK)(Ψ:Nat->Option e5)(ops:Array Oper)(s:az)(k:az->A β):A β:=
 match Gt ops.toList ops.size [] with
 | true=>A.afb ((q9 ops.toList ops.size []).map λl=>zP aO T bf Ψ ops l s k)
 | false=>A.fail
def zQ{β:Type}(aO:dF)(T:Nat->ad)(bf:Nat->Option aK)(Ψ:Nat->Option e5)(ops:Array Oper)(s:az)(k:az->A β):A β:=
 match xl aO T bf ops ops.toList s with
 | some (l,s')=>match zF ops.toList l with
  | true=>CT (l.flatMap eO.cs) (k s')
  | false=>A.fail
 | none=>match xl aO T bf ops (ops.toList.take (lV ops.toList)) s with
  | some (l,s')=>match zF (ops.toList.take (lV ops.toList)) l&&CH ops.toList with
   | true=>CT (l.flatMap eO.cs) (mq aO T bf Ψ ops (ops.toList.drop (lV ops.toList)) [] s' k)
   | false=>A.fail
  | none=>SZ aO T bf Ψ ops s k
def lq(ops:List Oper):List Oper:=
 match ops with
 | []=>[]
 | o::l=>o::l.map λp=>{ p with after:=p.after.push ⟨0,.phase⟩ }
def Lw(ops:Array Oper):Bool:=
 match ops.toList with
 | []=>false
 | o::l=>(match o.op with | .move _=>true | _=>false)&&(o.guard.isNone&&(o.after.isEmpty&&(Region.noSelect ops&&l.all λp=>(h7 p).contains 0||o.apart ops p)))
inductive cC where
 | eM
 | seq (a b:cC)
 | join (sh:dI) (a b:cC)
 | cond (a b:cC)
 | block (a:cC)
 | loop (sh:dI) (a:cC)
 | scope (a:cC)
 | range (sh rin rout:dI) (a b:cC)
 | nT (a b:cC)
 | split (i off n:Nat) (a:cC)
 | num (i n:Nat) (a:cC)
 | nO (i:Nat) (a:cC)
 | Gv (b:Nat) (a:cC)
 | Gw
def cC.ej:cC->Bool
 | .eM=>true
 | .seq a b=>a.ej&&b.ej
 | .join _ a b=>a.ej&&b.ej
 | .cond a b=>a.ej&&b.ej
 | .block a=>a.ej
 | .loop _ a=>a.ej
 | .scope a=>a.ej
 | .range ..=>false
 | .nT a b=>a.ej&&b.ej
 | .split _ _ _ a=>a.ej
 | .num _ _ a=>a.ej
 | .nO _ a=>a.ej
 | .Gv _ a=>a.ej
 | .Gw=>false
def cC.oB:cC->Bool
 | .nT ..=>true
 | .eM=>true
 | _=>false
inductive di where
 | normal
 | exit (id:Nat)
 | ret
def di.pj:di->Exit
 | .normal=>.normal
 | .exit id=>.exit id
 | .ret=>.ret
open A (V)
def S0{β:Type}(k:di->az->A β)(f:az->A β)(e:di)(s:az):A β:=
 match e with
 | .normal=>f s
 | .exit id=>k (.exit id) s
 | .ret=>k .ret s
def xA{D β:Type}(k:di->az->A β)(f:az->A (V D β))(e:di)(s:az):A (V D β):=
 match e with
 | .normal=>f s
 | .exit id=>A.bind (k (.exit id) s) λr=>A.pure (.done r)
 | .ret=>A.bind (k .ret s) λr=>A.pure (.done r)
def S1{β:Type}(id:Nat)(k:di->az->A β)(e:di)(s:az):A β:=
 match e with
 | .normal=>k .normal s
 | .exit Gx=>if Gx=id then k .normal s else k (.exit Gx) s
 | .ret=>k .ret s
def V.bx{D β:Type}(f:D->A β)(st:V D β):A β:=
 match st with
 | .next x=>f x
 | .done r=>A.pure r
def S2{β:Type}(v:aG)(m n:A β):A β:=
 match v with
 | .val .bool t=>if t=true then m else n
 | .hB g (.val .bool t)=>A.ab (g=true) (if t=true then m else n)
 | _=>A.fail
def qd(s:az)(i off:Nat):Option (Int×(Nat->az)):=
 match s.ax i with
 | .aW b _ o=>match (s.aa b).body with
  | .cells t f=>match f (o+off) with
   | .val (.int tW) x=>some (x,λj=>⟨s.ax,λbe=>if be=b then ⟨(s.aa b).gen,.cells t λq=>if q=o+off then .val (.int tW) (j:Int) else f q⟩ else s.aa be⟩)
   | _=>none
  | _=>none
 | _=>none
theorem afc{s:az}{i off:Nat}{x:Int}{f:Nat->az}(h:qd s i off=some (x,f))(aX:0<=x):f x.toNat=s:=by
 unfold qd at h;split at h
 ·rename_i b g o aD;split at h
  ·rename_i t iC W;split at h
   ·rename_i tW dJ ah;simp only[Option.some.injEq,Prod.mk.injEq]at h;obtain⟨rfl,rfl⟩:=h;have bG:((dJ.toNat:Nat):Int)=dJ:=by omega
    have aw:(λq=>if q=o+off then aG.val (.int tW) (show (ad.int tW).ai from ((dJ.toNat:Nat):Int)) else iC q)=iC:=by
     grind
    have aN:(λbe=>if be=b then (⟨(s.aa b).gen,.cells t iC⟩:bJ) else s.aa be)=s.aa:=by
     funext q;split
     ·rename_i e;rw[e,<-W]
     ·rfl
    simp_all
   grind
  grind
 grind
def q_(s:az)(i:Nat):Option (Int×(Nat->az)):=
 match s.ax i with
 | .val (.int tW) x=>some (x,λn=>⟨λj=>if j=i then .val (.int tW) (n:Int) else s.ax j,s.aa⟩)
 | _=>none
theorem afd{s:az}{i n:Nat}{x:Int}{f:Nat->az}(h:q_ s i=some (x,f))(aX:x=(n:Int)):f n=s:=by
 unfold q_ at h;split at h
 ·rename_i tW dJ aD;simp only[Option.some.injEq,Prod.mk.injEq]at h;obtain⟨rfl,rfl⟩:=h;have aw:(λj=>if j=i then aG.val (.int tW) (show (ad.int tW).ai from (n:Int)) else s.ax j)=s.ax:=by
   grind
  simp_all
 grind
def Lx(s:az)(i:Nat):Option az:=
 match s.ax i with
 | .oh b g n off=>match (s.aa b).body,off with
  | .bh (.st (.slice e)) xs,0=>if g=(s.aa b).gen then some ⟨λj=>if j=i then .iV b g n else s.ax j,λbe=>if be=b then ⟨g,.gn (.st (.slice e)) xs n (.val (.slice e) (xs.getD n []))⟩ else s.aa be⟩ else none
  | _,_=>none
 | _=>none
def Ly(s:az)(b:Nat):Option az:=
 match (s.aa b).body with
 | .gn (.st (.slice e)) xs n v=>match (dB (.slice e) v).run s.aa with
  | some (y,bU)=>if bU.contains b then none else some ((s.cA bU).cy b ⟨(s.aa b).gen,.bh (.st (.slice e)) (xs.set n y)⟩)
  | none=>none
 | _=>none
def jL{D ak:Type}(body:D->ak->A (di×D)):List ak->D->A (di×D)
 | [],D=>A.pure (.normal,D)
 | x::xs,D=>A.bind (body D x) λp=>match p.1 with
  | .normal=>jL body xs p.2
  | .exit id=>A.pure (.exit id,p.2)
  | .ret=>A.pure (.ret,p.2)
def zR(aL:ad)(x:aL.ai):List Tmp->Nat->(Nat->aG)->Nat->aG
 | [],_,f=>f
 | p::ps,i,f=>zR aL x ps (i+1) (λj=>if j=p then kt aL x i else f j)
def xB(s:az)(aL:ad)(x:aL.ai)(ps:List Tmp):az:=⟨λi=>if i=b5 then s.ax b5 else zR aL x ps 0 s.ax i,s.aa⟩
def vr(rin rout:dI):cK:=⟨rin,rout,[],0,λ_=>A.fail⟩
def tX{bm:Type}(sh rin rout:dI)(aL:ad)(ps:List Tmp)(D:sh.ai)(x:aL.ai)(run:az->A (bm×rout.ai)):A (bm×sh.ai):=
 match rin.zJ (q7 (vr rin rout) (xB (sh.st D) aL x ps)) (xB (sh.st D) aL x ps) with
 | some (aI,bU)=>match CP (vr rin rout) (q7 (vr rin rout) (xB (sh.st D) aL x ps)) ((sh.st D).cA bU) (sj ((sh.st D).cA bU) 0 (q7 (vr rin rout) (xB (sh.st D) aL x ps)) rin.oA rout.bD 0) 0 0 with
  | true=>A.bind (run (rin.st aI)) λp=>sh.m_ (xv ((sh.st D).cA bU) (vr rin rout) (q7 (vr rin rout) (xB (sh.st D) aL x ps)) (sj ((sh.st D).cA bU) 0 (q7 (vr rin rout) (xB (sh.st D) aL x ps)) rin.oA rout.bD 0) p.2) λiH=>A.pure (p.1,iH)
  | false=>A.fail
 | none=>A.fail
def nU(sh rout:dI)(aL:ad)(ps:List Tmp)(nt:Nat):Bool:=
 rout.bT.isEmpty&&!sh.bT.any (λp=>p.1 == b5)&&decide (aL≠.cT)&&decide (ps.length=j5 aL)&&ps.all λp=>decide (p<nt)
def Gy{β:Type}(f:az->A β)(e:di)(s:az):A β:=
 match e with
 | .normal=>f s
 | .exit _=>A.fail
 | .ret=>A.fail
def sq{β:Type}(n:A β)(x:Nat->A β)(r:A β)(e:di):A β:=
 match e with
 | .normal=>n
 | .exit id=>x id
 | .ret=>r
def Lz{β:Type}(k:di->az->A β)(e:di)(s:az):A β:=sq (k .normal s) (λid=>k (.exit id) s) (k .ret s) e
theorem S3{β:Type}(k:di->az->A β)(e:di)(s:az):Lz k e s=k e s:=by cases e<;>rfl
def eH(aO:dF)(T:Nat->ad)(bf:Nat->Option aK)(Ψ:Nat->Option e5):cC->{β:Type}->Code->az->(di->az->A β)->A β
 | .seq a b,_,c,s,k=>match c with
  | .seq x y=>eH aO T bf Ψ a x s (S0 k λs'=>eH aO T bf Ψ b y s' k)
  | _=>A.fail
 | .join sh a b,β,c,s,k=>match c with
  | .seq x y=>A.bind (eH aO T bf Ψ a (β:=V sh.ai β) x s (xA k λs'=>sh.m_ s' λD=>A.pure (.next D))) (V.bx λD=>eH aO T bf Ψ b y (sh.st D) k)
  | _=>A.fail
 | .cond a b,_,c,s,k=>match c with
  | .cond c x y=>S2 (a7 aO s.ax c) (eH aO T bf Ψ a x s k) (eH aO T bf Ψ b y s k)
  | _=>A.fail
 | .block a,_,c,s,k=>match c with
  | .block id c=>eH aO T bf Ψ a c s (S1 id k)
  | _=>A.fail
 | .loop sh a,β,c,s,k=>match c with
  | .loop c=>sh.m_ s λD=>A.loop (λD=>eH aO T bf Ψ a (β:=V sh.ai β) c (sh.st D) (xA k λs'=>sh.m_ s' λiH=>A.pure (.next iH))) D
  | _=>A.fail
 | .nT a b,_,c,s,k=>match c with
  | .loop x=>match b.oB with
   | true=>eH aO T bf Ψ a x s (S0 k λs'=>eH aO T bf Ψ b (.loop x) s' k)
   | false=>A.fail
  | _=>A.fail
 | .scope a,_,c,s,k=>match c with
  | .scope c=>eH aO T bf Ψ a c s k
  | _=>A.fail
 | .num i n a,_,c,s,k=>match q_ s i with
  | some (x,f)=>A.ab (x=(n:Int)) (eH aO T bf Ψ a c (f n) k)
  | none=>A.fail
 | .nO i a,_,c,s,k=>match Lx s i with
  | some s'=>eH aO T bf Ψ a c s' k
  | none=>A.fail
 | .Gv b a,_,c,s,k=>match Ly s b with
  | some s'=>eH aO T bf Ψ a c s' k
  | none=>A.fail
 | .split i off n a,_,c,s,k=>match qd s i off with
  | some (x,f)=>A.ab (0<=x/\x<(n:Int)) (Gr n x λj=>eH aO T bf Ψ a c (f j) k)
  | none=>A.fail
 | .range sh rin rout a b,_,c,s,k=>match c with
  | .rangeFunc g ps assign body=>match a7 aO s.ax g with
   | .r2 ra n eT=>match Ψ ra with
    | some (.cr ic)=>match (iX ic.ts ((List.range n).map eT)).run s.aa with
     | some (x,bU)=>match nU sh rout ic.aL ps.toList eQ&&(a.ej&&b.ej) with
      | true=>sh.m_ (s.cA bU) λD=>A.ab (ic.pre x) (A.bind (jL (λD y=>tX sh rin rout ic.aL ps.toList D y λeG=>
       eH aO T bf Ψ a (β:=di×rout.ai) assign eG (Gy λdL=>eH aO T bf Ψ b body dL λe eI=>rout.m_ eI λbm=>A.pure (e,bm))) (ic.seq x) D) λp=>Lz k p.1 (sh.st p.2))
      | false=>A.fail
     | none=>A.fail
    | _=>A.fail
   | .val (.cr aL) S=>match nU sh rout aL ps.toList eQ&&(a.ej&&b.ej) with
    | true=>sh.m_ s λD=>A.bind (A.any S) λL=>A.bind (jL (λD y=>tX sh rin rout aL ps.toList D y λeG=>
     eH aO T bf Ψ a (β:=di×rout.ai) assign eG (Gy λdL=>eH aO T bf Ψ b body dL λe eI=>rout.m_ eI λbm=>A.pure (e,bm))) L D) λp=>Lz k p.1 (sh.st p.2)
    | false=>A.fail
   | _=>A.fail
  | _=>A.fail
 | .Gw,_,c,s,k=>match c with
  | .region _ ops draw=>match draw&&Lw ops with
   | true=>zQ aO T (Gg bf Ψ) Ψ (lq ops.toList).toArray s (k .normal)
   | false=>A.fail
  | _=>A.fail
 | .eM,_,c,s,k=>match c with
  | .region _ ops draw=>match draw with
   | true=>zQ aO T (Gg bf Ψ) Ψ ops s (k .normal)
   | false=>mq aO T bf Ψ ops ops.toList [] s (k .normal)
  | .skip=>k .normal s
  | .label _=>k .normal s
  | .exit id=>k (.exit id) s
  | .ret=>k .ret s
  | _=>A.fail
def lr(nt:Nat):Code->Bool
 | .region _ ops _=>ops.toList.all λo=>lo o nt
 | .seq a b=>lr nt a&&lr nt b
 | .cond _ a b=>lr nt a&&lr nt b
 | .block _ a=>lr nt a
 | .loop a=>lr nt a
 | .scope a=>lr nt a
 | .rangeFunc _ ps a b=>ps.toList.all (λp=>decide (p<nt))&&(lr nt a&&lr nt b)
 | .skip=>true
 | .label _=>true
 | .exit _=>true
 | .ret=>true
 | _=>false
end Go.Fer
