/- Part 2 of the proof of Dropped: shallow programs of Go functions, and what they compute. No condition. -/
import Derived.Test.YtplfnoecifjgeaaGreatDoorDroppedA
import Derived.Laws.BytesString
noncomputable section
set_option linter.unusedVariables false
set_option linter.unusedSimpArgs false
namespace Go.Fer
open Go.RowKit
theorem Ci{p:Addr}(h:p.spot=none)(n:Nat):p.add n=⟨p.block,p.off+n,none⟩:=by
 obtain⟨b,o,sp⟩:=p;simp only at h;subst h;exact u7 b o n
theorem Kr{e:ad}{xs:List e.aj}{i:Int}(E:0<=i)(U:i<(xs.length:Int)):kL e xs i=xs[i.toNat]'(by omega):=by
 unfold kL;grind
section
variable {C:b_} {T:Nat->ad} {bg:Nat->Option aP} {o:Oper} {s:aB} {res:eC}
theorem Ks{P:Program}{w:World}{e:ad}{ty:TypeId}(h:b' P (.slice e) ty){p:Addr}(ao:p.spot=none){n cap:Nat}{k:IntKind}{i:Int}(E:0<=i)(U:i<(n:Int)) :
  (Instr.indexAt ty (.slice (some p) n cap) (.int k i)).run P w=.ok (.pointer (some ⟨p.block,p.off+i.toNat*e.size,none⟩)) w:=by
 obtain⟨j,aG,iZ,_⟩:=h.sl;simp[Instr.indexAt,asIntOf,dC aG,E,U,iZ.size,Ci ao]
theorem adO(aV:dS C.P T){ty:TypeId}{x i:Operand}(bh:∀ i,o.dst=some i->i<C.nt)(ag:o.op=.indexAddr ty x i)(h:(bt C.aO T bg (a8 C.aO s.ax) o).run s.ab=some res):cJ C o s res:=by
 simp only[bt,ag]at h;split at h
 ·rename_i bG k n aK G;have dp:=aV.cb aK (by simp);simp only[bN,aq.e6,Option.bind_eq_some_iff,aq.bL,Option.some.injEq]at h;obtain⟨⟨c,v⟩,hi,rfl⟩:=h;refine cJ.pure (by grind) bh λa w κ F M bd hc=>?_;have ai:bu C.P s.ab κ F w (use (a8 C.aO s.ax x)).2 (a.eval x):=cN M x rfl bd.1;have U:=oo (cN M i rfl bd.2) G;have zk:∀ (xs:List bG.aj),bJ C.P (.slice bG) F w [a.eval x] xs->0<=n/\n<(xs.length:Int)->∃ r,(execOp a.eval o).run C.P w=.ok (.value r) w/\bu C.P s.ab κ F w (.dV bG (kL bG xs n)) r:=by
   intro xs hV aA;obtain⟨a',cap,ay,m1,m2,m3,m4⟩:=hV;have ay:=(List.cons.inj ay).1;cases a' with
   | none=>grind
   | some p=>
    obtain⟨ee,eh,jI⟩:=m4 p rfl (by omega);obtain⟨bj,d1,d2⟩:=jI n.toNat (by omega);refine⟨_,by simp[execOp,ag,ay,U.1,Ks dp eh aA.1 aA.2],⟨p.block,p.off+n.toNat*bG.size,none⟩,bj,rfl,d1,?_⟩;rw[Kr aA.1 aA.2];exact d2
  unfold Rx at hi;split at hi
  ·rename_i e xs e_;simp only[aq.bL]at hi;split at hi
   ·rename_i he;subst he;simp only[Option.some.injEq,Prod.mk.injEq]at hi;obtain⟨rfl,rfl⟩:=hi;rw[e_]at ai;exact zk xs ((dT rfl).1 ai).2 hc
   grind
  ·rename_i b g e_;rw[e_]at ai;simp only[aq.e5,aq.bL]at hi;split at hi
   ·rename_i aC;have aU:=M.bE b;unfold cE at aU;split at hi
    ·rename_i e xs bS;split at hi
     ·rename_i he;subst he;simp only[Option.some.injEq,Prod.mk.injEq]at hi;obtain⟨rfl,rfl⟩:=hi;have af:=ai.2 aC.symm (by rw[bS];rfl);rw[bS]at af aU;have vd:(κ b).e8=false:=by
       cases aA:(κ b).e8 with
       | false=>rfl
       | true=>rw[aU.1 aA]at hc;grind
      simp only[bD.slice,vd,Bool.false_eq_true,if_false,bP.len]at af;refine⟨_,by simp[execOp,ag,af,U.1,Ks dp (p:=⟨(κ b).ab,(κ b).off,none⟩) rfl hc.1 hc.2];rfl,⟨ai.1.1,rfl⟩,λ_ _=>?_⟩;rw[bS];exact⟨by simp only[bP.len];omega,vd,rfl⟩
     grind
    ·rename_i e xs bS;split at hi
     ·rename_i he;subst he;simp only[Option.some.injEq,Prod.mk.injEq]at hi;obtain⟨rfl,rfl⟩:=hi;have af:=ai.2 aC.symm (by rw[bS];rfl);rw[bS]at af aU;simp only[bP.len]at af;refine zk xs ?_ hc;rw[af];exact aU
     grind
    grind
   grind
  ·rename_i b g aT G e_;rw[e_]at ai;simp only[aq.e5,aq.bL]at hi;split at hi
   ·rename_i aC;have aU:=M.bE b;unfold cE at aU;split at hi
    ·rename_i e xs bS;split at hi
     ·rename_i he;subst he;simp only[Option.some.injEq,Prod.mk.injEq]at hi;obtain⟨rfl,rfl⟩:=hi;obtain⟨⟨aW,aY⟩,bO⟩:=ai.2 aC.symm (by rw[bS];rfl);rw[bS]at aY bO aU;simp only[bP.len,bP.e4]at aY bO;rcases bO with⟨aA,_⟩ | ⟨aA,ml,af,hT,gB⟩
      ·rw[aU.1 aA]at aY;grind
      ·obtain⟨cs,hW,bF,c2,c3,c4,c5⟩:=aU.2 aA;refine⟨_,by simp[execOp,ag,af,U.1,Ks dp (p:=⟨(κ b).ab,ml,none⟩) rfl hc.1 hc.2];rfl,⟨ai.1.1,rfl⟩,λ_ _=>?_⟩;rw[bS];refine⟨by simp only[bP.len];omega,aA,?_⟩;rw[gB (by omega)];simp only[bP.e4,Nat.add_mul];grind
     grind
    ·rename_i e xs bS;split at hi
     ·rename_i he;subst he;simp only[Option.some.injEq,Prod.mk.injEq]at hi;obtain⟨rfl,rfl⟩:=hi;obtain⟨⟨aW,aY⟩,bO⟩:=ai.2 aC.symm (by rw[bS];rfl);rw[bS]at aY bO aU;simp only[bP.len,bP.e4]at aY bO;have hlen:((xs.take G).drop aT).length=G - aT:=by grind
      obtain⟨r,cj,cK⟩:=zk ((xs.take G).drop aT) (Fm aU aW aY bO) (by omega);refine⟨r,cj,?_⟩;have ay:kL e ((xs.take G).drop aT) n=kL e xs ((aT:Int)+n):=by
       rw[Kr hc.1 (by omega),Kr (by omega) (by omega)];grind
      grind
     grind
    grind
   grind
  ·simp_all
  ·cases hi
 ·rename_i m bG k n aK G;split at h
  ·rename_i dx a1 xs e_;split at h
   ·rename_i he;obtain⟨rfl,rfl⟩:=he;simp only[bN,aq.bL,Option.some.injEq]at h;subst h;refine cJ.pure (by grind) bh λa w κ F M bd hc=>?_;have ai:bu C.P s.ab κ F w (use (a8 C.aO s.ax x)).2 (a.eval x):=cN M x rfl bd.1;rw[e_]at ai;have U:=oo (cN M i rfl bd.2) G;obtain⟨j,aG,qY,_⟩:=(aV.cb aK (by simp)).bf;obtain⟨p,bj,af,c7,nL⟩:=ai;obtain⟨bF,c2,c3,rfl,aN,cA⟩:=Kf nL (i:=n.toNat) (by omega);refine⟨.pointer (some ⟨p.block,p.off+n.toNat*a1.size,none⟩),?_,⟨p.block,p.off+n.toNat*a1.size,none⟩,c2,rfl,⟨c7.1,rfl,λq bq=>?_⟩,cA⟩
    ·simp[execOp,ag,Instr.indexAt,af,U.1,asIntOf,dC aG,hc.1,hc.2,qY.size,Ci c7.2.1,Instr.sureAddr]
    ·have:=c7.2.2 (bF.length+q) (by grind);grind
   ·cases h
  ·rename_i b g off e_;simp only[aq.e5,aq.bL]at h;split at h
   ·rename_i bk;simp only[Bool.and_eq_true,decide_eq_true_eq]at bk;simp only[Option.some.injEq]at h;subst h;refine cJ.pure (by grind) bh λa w κ F M bd hc=>?_;have E:bu C.P s.ab κ F w (use (a8 C.aO s.ax x)).2 (a.eval x):=cN M x rfl bd.1;rw[e_]at E;have U:=oo (cN M i rfl bd.2) G;have ah:=E.2 bk.1.symm bk.2;obtain⟨j,aG,qY,_⟩:=(aV.cb aK (by simp)).bf;exact⟨_,by simp[execOp,ag,Instr.indexAt,ah,U.1,asIntOf,dC aG,hc.1,hc.2,qY.size,Ci (p:=⟨(κ b).ab,off,none⟩) rfl,Instr.sureAddr],⟨E.1.1,rfl⟩,λ_ _=>rfl⟩
   grind
  ·cases h
 ·cases h
theorem Cj{a:Act}{w:World}{κ:Nat->bD}{F:Nat->Prop}(M:bl C s a w κ F){x:Option Operand}{p:Prop}{n:Option Int}(h:k7 (a8 C.aO s.ax) x=some (p,n))(ao:p) :
  (x=none/\n=none)\/∃ y k m,x=some y/\n=some m/\a.eval y=.int k m:=by
 cases x with
 | none=>simp only[k7,Option.some.injEq,Prod.mk.injEq]at h;grind
 | some y=>
  simp only[k7]at h;split at h
  ·rename_i q k m hu;simp only[Option.some.injEq,Prod.mk.injEq]at h;obtain⟨rfl,rfl⟩:=h;exact .inr ⟨y,k,m,rfl,rfl,(gT.1 (cN M y hu ao)).1⟩
  grind
theorem R3{P:Program}{w:World}{isS:Bool}{len cap:Nat}{aT G:Option Value}{l h:Option Int}(ak:(aT=none/\l=none)\/∃ k m,aT=some (.int k m)/\l=some m)(c7:(G=none/\h=none)\/∃ k m,G=some (.int k m)/\h=some m)
  (E:0<=dr l) (U:dr l<=fA len h) (ah:fA len h<=(cap:Int)) (_h4:len<=cap):(Instr.sliceBounds isS len cap aT G none).run P w=.ok ((dr l).toNat,(fA len h).toNat,cap) w:=by
 rcases ak with⟨rfl,rfl⟩ | ⟨k,m,rfl,rfl⟩<;>rcases c7 with⟨rfl,rfl⟩ | ⟨k',dx,rfl,rfl⟩<;>simp only[dr,fA]at E U ah ⊢
 ·rfl
 ·have:0<=dx/\dx<=(cap:Int):=by omega
  simp[Instr.sliceBounds,Instr.sliceBound,asIntOf,this]
 ·have:0<=m/\m<=(len:Int):=by omega
  simp[Instr.sliceBounds,Instr.sliceBound,asIntOf,this]
 ·have ay:0<=dx/\dx<=(cap:Int):=by omega
  have aN:0<=m/\m<=dx:=by omega
  have cA:max dx 0=dx:=by omega
  simp[Instr.sliceBounds,Instr.sliceBound,asIntOf,ay,aN,cA]
theorem adP{l h:Option Int}{n m:Nat}(R4:n<=m):B1 l h n m<=m:=by
 unfold B1;grind
theorem adQ(aV:dS C.P T){ty:TypeId}{x:Operand}{aT G:Option Operand}(bh:∀ i,o.dst=some i->i<C.nt)(ag:o.op=.slice ty x aT G none)(h:(bt C.aO T bg (a8 C.aO s.ax) o).run s.ab=some res):cJ C o s res:=by
 simp only[bt,ag,Option.isSome_none,Bool.false_eq_true,if_false,Fq]at h;split at h
 ·rename_i ol l qT lQ r_ Kt;have aw:∀ c,o.op≠.defer c:=by grind
  have r0:∀ (a:Act) (w:World) κ F,bl C s a w κ F->ol->qT->((aT.map a.eval=none/\l=none)\/∃ k m,aT.map a.eval=some (.int k m)/\l=some m)/\((G.map a.eval=none/\lQ=none)\/∃ k m,G.map a.eval=some (.int k m)/\lQ=some m):=by
   intro a w κ F M Ck Cl;constructor
   ·rcases Cj M r_ Ck with⟨rfl,rfl⟩ | ⟨y,k,m,rfl,rfl,e⟩
    ·exact .inl ⟨rfl,rfl⟩
    ·exact .inr ⟨k,m,by simp[e],rfl⟩
   ·rcases Cj M Kt Cl with⟨rfl,rfl⟩ | ⟨y,k,m,rfl,rfl,e⟩
    ·exact .inl ⟨rfl,rfl⟩
    ·exact .inr ⟨k,m,by simp[e],rfl⟩
  split at h
  ·rename_i bG aK;have dp:=aV.cb aK (by simp);obtain⟨j,aG,iZ,ov⟩:=dp.sl;simp only[aq.e6,Option.bind_eq_some_iff]at h;obtain⟨⟨c,v⟩,fT,h⟩:=h;simp only[bN,aq.bL,Option.some.injEq]at h;subst h;have runs:∀ (a:Act) (w:World) κ F,bl C s a w κ F->ol->qT->∀ (q:Option Addr) (n cap:Nat),a.eval x=.slice q n cap->n<=cap->0<=dr l/\dr l<=fA n lQ/\fA n lQ<=(cap:Int)->
     (execOp a.eval o).run C.P w=.ok (.value (.slice (if cap=(dr l).toNat then q else q.map (·.add ((dr l).toNat*bG.size))) ((fA n lQ).toNat - (dr l).toNat) (cap - (dr l).toNat))) w:=by
    intro a w κ F M Ck Cl q n cap af aA hc;obtain⟨dP,e2⟩:=r0 a w κ F M Ck Cl;have:=R3 (P:=C.P) (w:=w) (isS:=true) dP e2 hc.1 hc.2.1 hc.2.2 aA;simp[execOp,ag,af,Instr.sliceAt,Instr.slice,dC aG,this,iZ.size]
   unfold Ry at fT;split at fT
   ·rename_i e xs e_;simp only[aq.bL]at fT;split at fT
    ·rename_i he;subst he;simp only[Option.some.injEq,Prod.mk.injEq]at fT;obtain⟨rfl,rfl⟩:=fT;refine cJ.pure aw bh λa w κ F M bd hc=>?_;have ai:bu C.P s.ab κ F w (use (a8 C.aO s.ax x)).2 (a.eval x):=cN M x rfl bd.1;rw[e_]at ai;obtain⟨_,a',cap,ay,m1,m2,m3,m4⟩:=(dT rfl).1 ai;have ay:=(List.cons.inj ay).1;refine⟨_,runs a w κ F M bd.2.1 bd.2.2 a' xs.length cap ay m1 ⟨hc.1,hc.2.1,by omega⟩,(dT rfl).2 ⟨rfl,?_⟩⟩;have hlen:((xs.take (fA xs.length lQ).toNat).drop (dr l).toNat).length=(fA xs.length lQ).toNat - (dr l).toNat:=by
      simp;omega
     refine⟨_,_,by rw[hlen],by omega,by omega,?_,λp ao u3=>?_⟩
     ·intro aA;split at aA
      ·omega
      ·cases a' with
       | none=>have:=m3 rfl;omega
       | some q=>cases aA
     ·cases a' with
      | none=>split at ao<;>cases ao
      | some q=>
       obtain⟨ee,eh,jI⟩:=m4 q rfl (by omega);have bq:∃ d,p=⟨q.block,q.off+d,none⟩/\(d=(dr l).toNat*e.size\/cap=(dr l).toNat):=by
        split at ao
        ·omega
        ·simp only[Option.map_some,Option.some.injEq]at ao;rw[Ci eh]at ao;grind
       obtain⟨d,rfl,qO⟩:=bq;refine⟨ee,rfl,λi G=>?_⟩;rw[hlen]at G;obtain⟨bj,d1,d2⟩:=jI ((dr l).toNat+i) (by omega);rcases qO with rfl | w8
       ·refine⟨bj,⟨d1.1,rfl,λk an=>?_⟩,?_⟩
        ·have:=d1.2.2 k an;rw[Nat.add_mul]at this;rw[show q.off+(dr l).toNat*e.size+i*e.size=q.off+((dr l).toNat*e.size+i*e.size) from by omega];exact this
        ·have aN:((xs.take (fA xs.length lQ).toNat).drop (dr l).toNat)[i]'(by rw[hlen];exact G)=xs[(dr l).toNat+i]'(by omega):=by simp
         rw[aN];exact d2
       ·omega
    grind
   ·rename_i e_;simp only[aq.bL,Option.some.injEq,Prod.mk.injEq]at fT;obtain⟨rfl,rfl⟩:=fT;refine cJ.pure aw bh λa w κ F M bd hc=>?_;have ai:bu C.P s.ab κ F w (use (a8 C.aO s.ax x)).2 (a.eval x):=cN M x rfl bd.1;rw[e_]at ai;simp only[bu]at ai;have i_:0<=dr l/\dr l<=fA 0 lQ/\fA 0 lQ<=((0:Nat):Int):=hc;have c_:=runs a w κ F M bd.2.1 bd.2.2 none 0 0 ai (Nat.le_refl _) i_;have aX:(fA 0 lQ).toNat=0:=by omega
    rw[aX]at c_;refine⟨_,c_,?_⟩;simp only[bu];simp
   ·rename_i b g e_;simp only[aq.e5,aq.bL]at fT;split at fT
    ·rename_i bk;simp only[Bool.and_eq_true,decide_eq_true_eq,beq_iff_eq]at bk;obtain⟨⟨aC,e'⟩,Cb⟩:=bk;simp only[Option.some.injEq,Prod.mk.injEq]at fT;obtain⟨rfl,rfl⟩:=fT;refine cJ.pure aw bh λa w κ F M bd hc=>?_;have ai:bu C.P s.ab κ F w (use (a8 C.aO s.ax x)).2 (a.eval x):=cN M x rfl bd.1;rw[e_]at ai;have af:=ai.2 aC.symm e';obtain⟨ee,eh⟩:=w3 M e';cases aA:(κ b).e8 with
     | true=>
      have aX:=ee aA;simp only[bD.slice,aA,if_true]at af;rw[aX]at hc;have c_:=runs a w κ F M bd.2.1 bd.2.2 none 0 0 af (Nat.le_refl _) hc;refine⟨_,c_,⟨ai.1.1,by rfl⟩,λ_ _=>⟨by grind,.inl ⟨aA,?_⟩⟩⟩;grind
     | false=>
      have w8:=Kg M e' aA;simp only[bD.slice,aA,Bool.false_eq_true,if_false]at af;have c_:=runs a w κ F M bd.2.1 bd.2.2 _ _ _ af w8 ⟨hc.1,hc.2.1,by omega⟩;refine⟨_,c_,⟨ai.1.1,by rfl⟩,λ_ _=>⟨by omega,.inr ⟨aA,?_⟩⟩⟩;rw[<-Cb];by_cases lL:(κ b).cap=(dr l).toNat
      ·grind
      ·rw[if_neg lL];simp only[Option.map_some,u7];simp
    grind
   ·rename_i b g fg aX e_;simp only[aq.e5,aq.bL]at fT;split at fT
    ·rename_i bk;simp only[Bool.and_eq_true,decide_eq_true_eq,beq_iff_eq]at bk;obtain⟨⟨aC,e'⟩,Cb⟩:=bk;simp only[Option.some.injEq,Prod.mk.injEq]at fT;obtain⟨rfl,rfl⟩:=fT;refine cJ.pure aw bh λa w κ F M bd hc=>?_;have ai:bu C.P s.ab κ F w (use (a8 C.aO s.ax x)).2 (a.eval x):=cN M x rfl bd.1;rw[e_]at ai;obtain⟨⟨aW,aY⟩,bO⟩:=ai.2 aC.symm e';obtain⟨ee,eh⟩:=w3 M e';have r':B1 l lQ (aX - fg) ((s.ab b).body.len - fg)<=(s.ab b).body.len - fg:=adP (by omega);revert hc r';generalize B1 l lQ (aX - fg) ((s.ab b).body.len - fg)=lim;intro hc r';rcases bO with⟨aA,af⟩ | ⟨aA,ml,af,hT,gB⟩
     ·have Ku:=ee aA;have bG:aX - fg=0:=by omega
      have elim:lim=0:=by omega
      rw[bG,elim]at hc;grind
     ·have w8:=Kg M e' aA;have c_:=runs a w κ F M bd.2.1 bd.2.2 _ _ _ af (by omega) ⟨hc.1,hc.2.1,by omega⟩;refine⟨_,c_,⟨ai.1.1,by rfl⟩,λ_ _=>⟨by omega,.inr ⟨aA,?_⟩⟩⟩;rw[<-Cb];rw[<-Cb]at c_;have ay:(fA (aX - fg) lQ).toNat - (dr l).toNat=fg+(fA (aX - fg) lQ).toNat - (fg+(dr l).toNat):=by omega
      have aN:(κ b).cap - fg - (dr l).toNat=(κ b).cap - (fg+(dr l).toNat):=by omega
      rw[ay,aN];have cA:(fg+(dr l).toNat)*(s.ab b).body.e4=fg*(s.ab b).body.e4+(dr l).toNat*(s.ab b).body.e4:=Nat.add_mul _ _ _;by_cases lL:(κ b).cap - fg=(dr l).toNat
      ·rw[if_pos lL];exact⟨_,rfl,by omega,λh=>by omega⟩
      ·rw[if_neg lL];simp only[Option.map_some,u7];exact⟨_,rfl,by omega,λh=>by omega⟩
    grind
   ·cases fT
  ·rename_i aK;have dp:=(aV.cb aK (by simp)).str;split at h
   ·rename_i c v fT;simp only[bN,aq.bL,Option.some.injEq]at h;subst h;unfold Rz at fT;split at fT
    ·rename_i xs e_;simp only[Option.some.injEq,Prod.mk.injEq]at fT;obtain⟨rfl,rfl⟩:=fT;refine cJ.pure aw bh λa w κ F M bd hc=>?_;have ai:bu C.P s.ab κ F w (use (a8 C.aO s.ax x)).2 (a.eval x):=cN M x rfl bd.1;rw[e_]at ai;obtain⟨af,cc⟩:=ma.1 ai;obtain⟨dP,e2⟩:=r0 a w κ F M bd.2.1 bd.2.2;have aD:ByteArray.size ⟨xs.toArray⟩=xs.length:=by rfl
     have:=R3 (P:=C.P) (w:=w) (isS:=false) (len:=xs.length) (cap:=xs.length) dP e2 hc.1 hc.2.1 hc.2.2 (Nat.le_refl _);refine⟨.string ⟨((xs.take (fA xs.length lQ).toNat).drop (dr l).toNat).toArray⟩,?_,ma.2 ⟨rfl,by grind⟩⟩;simp only[execOp,ag,af,Instr.sliceAt,Instr.slice,Sem.run_bind,dC dp,Result.andThen_ok,Option.map_none,Option.isSome_none,Bool.false_eq_true,if_false,aD,this,Sem.run_pure];have he:ByteArray.extract ⟨xs.toArray⟩ (dr l).toNat (fA xs.length lQ).toNat=⟨((xs.take (fA xs.length lQ).toNat).drop (dr l).toNat).toArray⟩:=by
      apply ByteArray.ext;rw[ByteArray.data_extract];grind
     rw[he]
    grind
   ·cases h
  ·cases h
 ·cases h
end
end Go.Fer
namespace Go.Fer
open Go.RowKit
def gp(P:Program)(e:ad)(F:Nat->Prop)(w:World)(all:List Value)(xs:List e.aj):Prop:=
 all.length=xs.length*e.size/\∀ i (h:i<xs.length),bJ P e F w ((all.drop (i*e.size)).take e.size) xs[i]
theorem gp.append{P:Program}{e:ad}{F:Nat->Prop}{w:World}{l m:List Value}{xs ys:List e.aj}(h:gp P e F w l xs)(k:gp P e F w m ys):gp P e F w (l++m) (xs++ys):=by
 refine⟨by simp[h.1,k.1,Nat.add_mul],λi G=>?_⟩;by_cases ai:i<xs.length
 ·have ay:(xs++ys)[i]=xs[i]:=List.getElem_append_left ai;rw[ay];have hle:(i+1)*e.size<=xs.length*e.size:=Nat.mul_le_mul_right _ (by omega);rw[Nat.add_mul,Nat.one_mul]at hle;have:((l++m).drop (i*e.size)).take e.size=(l.drop (i*e.size)).take e.size:=by
   rw[List.drop_append_of_le_length (by rw[h.1];omega),List.take_append_of_le_length (by simp[h.1];omega)]
  rw[this];exact h.2 i ai
 ·have dM:i - xs.length<ys.length:=by grind
  have ay:(xs++ys)[i]=ys[i - xs.length]:=List.getElem_append_right (by omega);rw[ay];have hm:i*e.size=xs.length*e.size+(i - xs.length)*e.size:=by rw[<-Nat.add_mul];grind
  have:(l++m).drop (i*e.size)=m.drop ((i - xs.length)*e.size):=by
   rw[hm,<-h.1,List.drop_append,List.drop_of_length_le (by omega)];simp
  rw[this];exact k.2 _ dM
theorem gp.Cm{P:Program}{e:ad}{F:Nat->Prop}{w:World}{all pre post:List Value}{cs:Array Value}{xs:List e.aj}(h:gp P e F w all xs)(hc:cs.toList=pre++(all++post)):lF P e F w cs pre.length xs:=by
 intro i G;have hle:(i+1)*e.size<=xs.length*e.size:=Nat.mul_le_mul_right _ (by omega);rw[Nat.add_mul,Nat.one_mul]at hle;refine⟨_,λj aG=>?_,h.2 i G⟩;have fS:j<e.size:=by grind
 rw[<-Array.getElem?_toList,hc,List.getElem?_append_right (by omega),List.getElem?_append_left (by grind)];grind
theorem FJ{P:Program}{e:ad}{F:Nat->Prop}{w:World}:∀ {xs:List e.aj} {p:Addr},(0<xs.length->p.spot=none)->(∀ i (h:i<xs.length),∃ bj,ks w ⟨p.block,p.off+i*e.size,none⟩ bj/\bJ P e F w bj xs[i])->
  ∃ all,gp P e F w all xs/\ks w p all
 | [],p,ao,_=>⟨[],⟨by simp,λi G=>by grind⟩,λh=>by grind,λj aG=>by grind⟩
 | x::xs,p,ao,h=>by
  obtain⟨bj,d1,d2⟩:=h 0 (by simp);have vc:=hR e d2;obtain⟨all,b9,a2⟩:=FJ (P:=P) (F:=F) (w:=w) (xs:=xs) (p:=⟨p.block,p.off+e.size,none⟩) (λ_=>rfl) (λi G=>by
   obtain⟨R2,aW,aY⟩:=h (i+1) (by grind);grind)
  refine⟨bj++all,?_,λ_=>ao (by simp),λj aG=>?_⟩
  ·have E:gp P e F w bj [x]:=⟨by grind,λi G=>by
    have:i=0:=by grind
    subst this;grind⟩
   exact E.append b9
  ·rcases Nat.lt_or_ge j bj.length with E | E
   ·rw[List.getElem_append_left E];have:=d1.2 j E;grind
   ·rw[List.getElem_append_right E];have:=a2.2 (j - bj.length) (by grind);grind
section
variable {C:b_} {T:Nat->ad} {bg:Nat->Option aP} {o:Oper} {s:aB} {res:eC}
theorem sa{a:Act}{w:World}{κ:Nat->bD}{F:Nat->Prop}(M:bl C s a w κ F){e:ad}{av:aF}{v:Value}{ys:List e.aj}{l:List Nat}(h:(dz (.slice e) av).run s.ab=some (ys,l))(af:bu C.P s.ab κ F w av v) :
  ∃ q cap,v=.slice q ys.length cap/\((q=none/\ys=[]/\cap=0)\/∃ p all,q=some p/\gp C.P e F w all ys/\ks w p all):=by
 have zk:∀ {xs:List e.aj},bJ C.P (.slice e) F w [v] xs->∃ q cap,v=.slice q xs.length cap/\((q=none/\xs=[]/\cap=0)\/∃ p all,q=some p/\gp C.P e F w all xs/\ks w p all):=by
  intro xs ai;obtain⟨q,cap,ay,m1,m2,m3,m4⟩:=ai;refine⟨q,cap,(List.cons.inj ay).1,?_⟩;cases q with
  | none=>
   simp_all
  | some p=>
   obtain⟨all,b9,a2⟩:=FJ (P:=C.P) (F:=F) (w:=w) (xs:=xs) (p:=p) (λh=>(m4 p rfl (by omega)).2.1) (λi G=>let ⟨bj,d1,d2⟩:=(m4 p rfl (by omega)).2.2 i G;⟨bj,d1.J9,d2⟩);grind
 cases av with
 | val c1 y=>
  simp only[dz,aq.bL,Option.map_eq_some_iff,Prod.mk.injEq]at h;obtain⟨z,bk,rfl,_⟩:=h;exact zk (((dT rfl).1 (Fl bk af)).2)
 | cS=>
  simp only[dz,kn,ad.eG,if_true,dW,aq.bL,Option.some.injEq,Prod.mk.injEq]at h;obtain⟨rfl,_⟩:=h;simp only[bu]at af;grind
 | own b g=>
  simp only[dz,kn,ad.eG,if_true,dW,aq.e5,aq.bL]at h;split at h
  ·rename_i aC;have aU:=M.bE b;unfold cE at aU;split at h
   ·rename_i a1 xs bS;simp only[Option.map_eq_some_iff,Prod.mk.injEq]at h;obtain⟨z,bk,rfl,_⟩:=h;obtain⟨qZ,rfl⟩:=kK bk;cases qZ;have tI:=af.2 aC.symm (by rw[bS];rfl);rw[bS]at tI aU;simp only[bP.len]at tI;cases aA:(κ b).e8 with
    | true=>
     have hV:=aU.1 aA;subst hV;simp only[bD.slice,aA,if_true]at tI;grind
    | false=>
     obtain⟨cs,hW,bF,c2,c3,c4,c5⟩:=aU.2 aA;simp only[bD.slice,aA,Bool.false_eq_true,if_false]at tI;obtain⟨all,b9,a2⟩:=FJ (P:=C.P) (F:=F) (w:=w) (xs:=xs) (p:=⟨(κ b).ab,(κ b).off,none⟩) (λ_=>rfl) (λi G=>by
      obtain⟨bj,d1,d2⟩:=c5 i G;exact⟨bj,⟨λ_=>rfl,λj aG=>by rw[u_ bF];grind⟩,d2⟩)
     grind
   ·rename_i a1 xs bS;simp only[Option.map_eq_some_iff,Prod.mk.injEq]at h;obtain⟨z,bk,rfl,_⟩:=h;obtain⟨qZ,rfl⟩:=kK bk;cases qZ;have tI:=af.2 aC.symm (by rw[bS];rfl);rw[bS]at tI aU;simp only[bP.len]at tI;simp only[jC]at aU;grind
   grind
  grind
 | sub b g aT G=>
  simp only[dz,kn,ad.eG,if_true,dW,aq.e5,aq.bL]at h;split at h
  ·rename_i aC;have aU:=M.bE b;unfold cE at aU;split at h
   ·rename_i a1 xs bS;simp only[Option.map_eq_some_iff,Prod.mk.injEq]at h;obtain⟨z,bk,rfl,_⟩:=h;obtain⟨qZ,rfl⟩:=kK bk;cases qZ;obtain⟨⟨aW,aY⟩,bO⟩:=af.2 aC.symm (by rw[bS];rfl);rw[bS]at aY bO aU;simp only[bP.len,bP.e4]at aY bO;have hlen:((xs.take G).drop aT).length=G - aT:=by grind
    rcases bO with⟨aA,tI⟩ | ⟨aA,ml,tI,hT,gB⟩
    ·have hV:=aU.1 aA;grind
    ·obtain⟨cs,hW,bF,c2,c3,c4,c5⟩:=aU.2 aA;obtain⟨all,b9,a2⟩:=FJ (P:=C.P) (F:=F) (w:=w) (xs:=(xs.take G).drop aT) (p:=⟨(κ b).ab,ml,none⟩) (λ_=>rfl) (λi dM=>by
      rw[hlen]at dM;obtain⟨bj,d1,d2⟩:=c5 (aT+i) (by omega);refine⟨bj,⟨λ_=>rfl,λj aG=>?_⟩,?_⟩
      ·rw[u_ bF,<-d1 j aG];grind
      grind)
     grind
   ·rename_i a1 xs bS;simp only[Option.map_eq_some_iff,Prod.mk.injEq]at h;obtain⟨z,bk,rfl,_⟩:=h;obtain⟨qZ,rfl⟩:=kK bk;cases qZ;obtain⟨⟨aW,aY⟩,bO⟩:=af.2 aC.symm (by rw[bS];rfl);rw[bS]at aY bO aU;exact zk (Fm aU aW aY bO)
   grind
  grind
 | dV c1 y=>simp[dz,kn,ad.eG,dW,aq.none]at h
 | jB u=>simp[dz,kn,ad.eG,dW,BX]at h
 | _=>simp[dz,kn,ad.eG,dW,aq.none]at h
theorem zl{P:Program}{w:World}{e:ad}{q:Option Addr}{n cap:Nat}{xs:List e.aj}{F:Nat->Prop}(aA:n=xs.length)(h:(q=none/\xs=[]/\cap=0)\/∃ p all,q=some p/\gp P e F w all xs/\ks w p all) :
  ∃ all,(Builtin.firstCells e.size n (.slice q n cap)).run P w=.ok all.toArray w/\gp P e F w all xs:=by
 subst aA;rcases h with⟨rfl,rfl,rfl⟩ | ⟨p,all,rfl,b9,a2⟩
 ·exact⟨[],by rfl,by simp[gp]⟩
 ·refine⟨all,?_,b9⟩;simp only[Builtin.firstCells];rw[<-b9.1];exact Fy a2
theorem adR(n:Nat):∀ (k c:Nat),Builtin.growBy n k c<=max c (2*n+768):=by
 intro k;induction k with
 | zero=>intro c;simp only[Builtin.growBy];omega
 | succ k aJ=>
  intro c;simp only[Builtin.growBy];grind
theorem adS{FK cap:Nat}(h:cap<FK):Builtin.nextslicecap FK cap<=2*FK+768:=by
 unfold Builtin.nextslicecap;split
 ·omega
 ·split
  ·omega
  ·have:=adR FK 4 cap;omega
theorem adT{z:Array Value}{n k:Nat}(h:z.size=k):(Builtin.zeroCells z n).size=n*k:=by simp[Builtin.zeroCells,h]
theorem adU{P:Program}{w:World}{e:ad}{ty mM:TypeId}{F:Nat->Prop}(h:b' P (.slice e) ty)(de:b' P (.slice e) mM\/∃ a1,b' P (.slice a1) mM){q q':Option Addr}{cap cap':Nat}{xs ys:List e.aj}
  (ai:(q=none/\xs=[]/\cap=0)\/∃ p all,q=some p/\gp P e F w all xs/\ks w p all) (aS:(q'=none/\ys=[]/\cap'=0)\/∃ p all,q'=some p/\gp P e F w all ys/\ks w p all)
  (hc:cap<xs.length+ys.length) (ak:b6 (xs.length+ys.length)) (rt:TypeId) :
  ∃ jK q0 cs,(Builtin.append_ #[ty,mM] rt #[.slice q xs.length cap,.slice q' ys.length cap']).run P w=.ok (.slice (some ⟨w.heap.size,0,none⟩) (xs.length+ys.length) q0) (w.drew.alloc (.cells cs jK))/\
   q0<2 ^ 63/\xs.length+ys.length<=q0/\cs.size=q0*e.size/\lF P e F w cs 0 (xs++ys):=by
 obtain⟨jK,aG,iZ,ov⟩:=h.sl;obtain⟨j9,fS⟩:∃ j9,P.underlying mM=some (.slice j9):=by
  rcases de with de | ⟨a1,de⟩
  ·obtain⟨j9,k,_⟩:=de.sl;grind
  ·obtain⟨j9,k,_⟩:=de.sl;grind
 obtain⟨i,z,i1,i2,i3,i4,i5,i6⟩:=kp iZ.ko;have bk:=(Ce e (P:=P) i5).2;have adV:∀ t:Nat,xs.length+ys.length<=xs.length+ys.length+t % (2 ^ 63 - (xs.length+ys.length))/\xs.length+ys.length+t % (2 ^ 63 - (xs.length+ys.length))<2 ^ 63:=by
  intro t;unfold b6 at ak;have:t % (2 ^ 63 - (xs.length+ys.length))<2 ^ 63 - (xs.length+ys.length):=Nat.mod_lt _ (by omega);omega
 generalize Kv:xs.length+ys.length+(w.tape w.drawn (.appendCap (xs.length+ys.length) cap jK)) % (2 ^ 63 - (xs.length+ys.length))=q0;have Kw:=adV (w.tape w.drawn (.appendCap (xs.length+ys.length) cap jK));rw[Kv]at Kw;have R5:∀ {p:Addr} {all:List Value},ks w p all->ks w.drew p all:=λh=>h;have R6:∀ {all:List Value} {zs:List e.aj},gp P e F w all zs->gp P e F w.drew all zs:=λh=>⟨h.1,λi G=>fe e (F:=F) (F':=F) (w:=w) (w':=w.drew) (λ_ M=>M) ⟨Nat.le_refl _,λ_ _=>rfl⟩ (h.2 i G)⟩
 have nK:(q=none/\xs=[]/\cap=0)\/∃ p all,q=some p/\gp P e F w.drew all xs/\ks w.drew p all:=ai.imp id λ⟨p,all,a,b,c⟩=>⟨p,all,a,R6 b,R5 c⟩
 have Cn:(q'=none/\ys=[]/\cap'=0)\/∃ p all,q'=some p/\gp P e F w.drew all ys/\ks w.drew p all:=aS.imp id λ⟨p,all,a,b,c⟩=>⟨p,all,a,R6 b,R5 c⟩
 obtain⟨ve,hT,gB⟩:=zl (P:=P) (w:=w.drew) (cap:=cap) rfl nK;obtain⟨ey,ee,eh⟩:=zl (P:=P) (w:=w.drew) (cap:=cap') rfl Cn;refine⟨jK,q0,ve.toArray++ey.toArray++Builtin.zeroCells z.cells (q0 - (xs.length+ys.length)),?_,Kw.2,Kw.1,?_,?_⟩
 ·have aa:=adS hc;have q1:Builtin.nextslicecap (xs.length+ys.length) cap*i.bytes<=281474976710656:=by
   unfold b6 at ak;calc Builtin.nextslicecap (xs.length+ys.length) cap*i.bytes<=(2*4294967296+768)*1024:=Nat.mul_le_mul (by omega) i3
    _<=281474976710656:=by decide
  have zm:¬((xs.length+ys.length:Nat):Int) > IntKind.i64.max:=by
   unfold b6 at ak;have:IntKind.i64.max=9223372036854775807:=by decide
   omega
  have adW:¬Builtin.nextslicecap (xs.length+ys.length) cap*i.bytes > 2 ^ 48:=by
   omega
  have R7:(Question.appendCap (xs.length+ys.length) cap jK).cut (w.tape w.drawn (.appendCap (xs.length+ys.length) cap jK))=q0:=by
   rw[<-Kv];rfl
  have adX:(Question.appendCap (xs.length+ys.length) cap jK).forced=false:=rfl;simp only[Builtin.append_,List.getElem?_toArray,List.getElem?_cons_zero,List.getElem?_cons_succ,Sem.run_bind,dC aG,dC fS,Result.andThen_ok,r5 i1,i2,Sem.run_pure,Builtin.lenOf,Bool.false_eq_true,if_false,if_neg (show ¬xs.length+ys.length<=cap by omega),zm,false_and,Fw i1,adW,run_choose,adX,R7,run_askRoom,Bool.not_false,if_true,World.drew_eq,hT,ee,qV i1 i4];rfl
 ·have E:=gB.1;have U:=eh.1;simp only[Array.size_append,List.size_toArray,adT bk,E,U];rw[<-Nat.add_mul,<-Nat.add_mul];grind
 ·have jk:=gB.append eh;have adY:gp P e F w (ve++ey) (xs++ys):=⟨jk.1,λi G=>fe e (F:=F) (F':=F) (w:=w.drew) (w':=w) (λ_ M=>M) ⟨Nat.le_refl _,λ_ _=>rfl⟩ (jk.2 i G)⟩
  exact adY.Cm (pre:=[]) (post:=(Builtin.zeroCells z.cells (q0 - (xs.length+ys.length))).toList) (by simp)
end
end Go.Fer
namespace Go.Fer
open Go.RowKit
section
variable {C:b_} {T:Nat->ad} {bg:Nat->Option aP} {o:Oper} {s:aB} {res:eC}
theorem bl.Co{a:Act}{w w':World}{κ:Nat->bD}{F:Nat->Prop}(h:bl C s a w κ F){b g:Nat}{e:ad}{zs:List e.aj}{k:bD}(aC:(s.ab b).gen<g)(lb:k.e8=true\/k.ab=w.heap.size)(cd:w.heap.size<=w'.heap.size)
  (nN:∀ r,r<w.heap.size->w'.heap[r]?=w.heap[r]?) (cc:k.e8=false->k.ab<w'.heap.size) (hc:df w w')
  (bS:∀ H κ',jC C.P H κ' F w' k (.bf e zs)):bl C (s.cx b ⟨g,.bf e zs⟩) a w' (λi=>if i=b then k else κ i) F:=by
 have ak:fo s.ab κ (λi=>if i=b then (⟨g,.bf e zs⟩:bK) else s.ab i) (λi=>if i=b then k else κ i):=y1 aC λbe cW=>by grind
 have he:c8 F w w':=⟨cd,λr M=>nN r (h.dd r M)⟩
 refine h.move (H':=λi=>if i=b then (⟨g,.bf e zs⟩:bK) else s.ab i) ak (λ_ M=>M) (λ_ M=>.inl M) cd (λr M _=>nN r M) hc (λ_=>?_) ?_ ?_ (λr M=>Nat.lt_of_lt_of_le (h.dd r M) cd) (y2 (.inr ⟨rfl,rfl⟩) λbe cW=>by grind)
 ·intro i;by_cases G:i=b
  ·subst G;simp only[cE,if_true];grind
  ·exact cE.k6 (h.bE i) ak (λ_ M=>M) he (by grind) (by grind) λag=>nN _ (h.own i ag).1
 ·intro i G;by_cases eM:i=b
  ·subst eM;simp only[if_true,bP.b1,Bool.not_eq_true']at G ⊢;have an:=lb.resolve_left (by grind);refine⟨cc G,λar=>?_,.inr (by omega)⟩;have:=h.dd _ ar;omega
  ·simp only[if_neg eM]at G ⊢;have:=h.own i G;grind
 ·intro i j G aG a1;by_cases eM:i=b<;>by_cases mc:j=b
  ·omega
  ·simp only[if_pos eM,if_neg mc,bP.b1,Bool.not_eq_true']at G aG a1;have an:=lb.resolve_left (by grind);have:=(h.own j aG).1;omega
  ·simp only[if_neg eM,if_pos mc,bP.b1,Bool.not_eq_true']at G aG a1;have an:=lb.resolve_left (by grind);have:=(h.own i G).1;omega
  ·simp only[if_neg eM,if_neg mc]at G aG a1;exact h.inj i j G aG a1
theorem adZ(s:aB)(b:Nat)(x y:bK):(s.cx b x).cx b y=s.cx b y:=by
 unfold aB.cx;grind
theorem bl.ad0{a:Act}{w:World}{κ:Nat->bD}{F:Nat->Prop}(h:bl C s a w κ F){b:Nat}{e:ad}{xs:List e.aj}(aa:(s.ab b).body=.bf e xs){aT G:Nat}(E:aT<=G)(U:G<=xs.length){v:Value}(aD:Fk (κ b) e.size aT G v) :
  ∃ κ',bl C (s.cx b ⟨(s.ab b).gen+1,.bf e ((xs.take G).drop aT)⟩) a w κ' F/\v=(κ' b).slice ((xs.take G).drop aT).length:=by
 have hlen:((xs.take G).drop aT).length=G - aT:=by grind
 have gn:∀ κ':Nat->bD,(∀ be,be≠b->κ' be=κ be)->fo s.ab κ (λi=>if i=b then (⟨(s.ab b).gen+1,.bf e ((xs.take G).drop aT)⟩:bK) else s.ab i) κ':=
  λκ' BV=>y1 (Nat.lt_succ_self _) BV
 have aU:=h.bE b;unfold cE at aU;rw[aa]at aU;rcases aD with⟨aA,rfl⟩ | ⟨aA,o,rfl,hT,gB⟩
 ·have hV:=aU.1 aA;subst hV;refine⟨κ,?_,by simp[bD.slice,aA]⟩;refine h.move (H':=λi=>if i=b then (⟨(s.ab b).gen+1,.bf e ((([]:List e.aj).take G).drop aT)⟩:bK) else s.ab i) (gn κ λ_ _=>rfl) (λ_ M=>M) (λ_ M=>.inl M) (Nat.le_refl _) (λ_ _ _=>rfl) (df.refl _) (λ_=>?_) ?_ ?_ h.dd (y2 (.inr ⟨rfl,rfl⟩) λ_ _=>rfl)
  ·intro i;by_cases G:i=b
   ·subst G;simp only[cE,if_true];exact⟨λ_=>by simp,λh=>by grind⟩
   ·exact cE.k6 (h.bE i) (gn κ λ_ _=>rfl) (λ_ M=>M) (c8.refl _ _) (by grind) rfl λ_=>rfl
  ·intro i G;by_cases eM:i=b
   ·subst eM;simp[bP.b1,aA]at G
   ·simp only[if_neg eM]at G;exact⟨(h.own i G).1,(h.own i G).2.1,.inl ⟨i,G,rfl⟩⟩
  ·intro i j G aG a1;by_cases eM:i=b
   ·subst eM;simp[bP.b1,aA]at G
   ·by_cases mc:j=b
    ·subst mc;simp[bP.b1,aA]at aG
    ·simp only[if_neg eM,if_neg mc]at G aG;exact h.inj i j G aG a1
 ·obtain⟨cs,hW,bF,c2,c3,c4,c5⟩:=aU.2 aA;let k':bD:=⟨(κ b).ab,o,(κ b).cap - aT,false⟩
  let κ':Nat->bD:=λi=>if i=b then k' else κ i
  have Cp:∀ be,be≠b->κ' be=κ be:=λbe h=>if_neg h;have zn:κ' b=k':=if_pos rfl;have gj:=h.own b (by rw[aa];simp[bP.b1,aA]);refine⟨κ',?_,by rw[zn,hlen];rfl⟩;refine h.move (H':=λi=>if i=b then (⟨(s.ab b).gen+1,.bf e ((xs.take G).drop aT)⟩:bK) else s.ab i) (gn κ' Cp) (λ_ M=>M) (λ_ M=>.inl M) (Nat.le_refl _) (λ_ _ _=>rfl) (df.refl _) (λ_=>?_) ?_ ?_ h.dd (y2 (.inr ⟨rfl,rfl⟩) Cp)
  ·intro i;by_cases dM:i=b
   ·subst dM;simp only[cE,if_true,zn];have hmul:aT*e.size<=(κ i).cap*e.size:=Nat.mul_le_mul_right _ (by omega);refine⟨λh=>(by cases h),λ_=>⟨cs,hW,bF,?_,by grind,by grind,λj aG=>?_⟩⟩
    ·simp only[k'];rw[Nat.sub_mul];omega
    ·rw[hlen]at aG;obtain⟨bj,d1,d2⟩:=c5 (aT+j) (by omega);grind
   ·exact cE.k6 (h.bE i) (gn κ' Cp) (λ_ M=>M) (c8.refl _ _) (by grind) (Cp i dM) λ_=>rfl
  ·intro i dM;by_cases eM:i=b
   ·subst eM;rw[zn];exact⟨gj.1,gj.2.1,.inl ⟨i,by rw[aa];simp[bP.b1,aA],rfl⟩⟩
   ·simp only[if_neg eM]at dM;rw[Cp i eM]at dM ⊢;exact⟨(h.own i dM).1,(h.own i dM).2.1,.inl ⟨i,dM,rfl⟩⟩
  ·intro i j dM aG a1;have R8:∀ i,(κ' i).ab=(κ i).ab:=λi=>by
    grind
   have b7:∀ i,((if i=b then (⟨(s.ab b).gen+1,.bf e ((xs.take G).drop aT)⟩:bK) else s.ab i).body.b1 (κ' i)=true)->(s.ab i).body.b1 (κ i)=true:=λi G=>by
    by_cases eM:i=b
    ·subst eM;rw[aa];simp[bP.b1,aA]
    grind
   rw[R8,R8]at a1;exact h.inj i j (b7 i dM) (b7 j aG) a1
theorem lF.later{P:Program}{e:ad}{F:Nat->Prop}{w w':World}{cs:Array Value}{off:Nat}{xs:List e.aj}(h:lF P e F w cs off xs)(he:c8 F w w'):lF P e F w' cs off xs:=h.mono (λ_ M=>M) he
theorem ad1(aV:dS C.P T){args:Array Operand}{dn:Array TypeId}(bh:∀ i,o.dst=some i->i<C.nt)(ag:o.op=.call { callee:=.builtin .append,args:=args,argTypes:=dn })(h:(B3 T (a8 C.aO s.ax) o.dst args.toList dn.toList).run s.ab=some res):cJ C o s res:=by
 obtain⟨args⟩:=args;obtain⟨dn⟩:=dn;have aw:∀ c,o.op≠.defer c:=by grind
 simp only[B3]at h;split at h
 ·rename_i x y t u;split at h
  ·rename_i e aN aK hu;have dp:=aV.cb aK (by simp);have va:=aV.cb hu (by simp);obtain⟨jK,aG,iZ,ov⟩:=dp.sl;obtain⟨ad2,fS,_⟩:=va.sl;obtain⟨inf,z,i1,i2,i3,i4,i5,i6⟩:=kp iZ.ko;have mN:∀ (a:Act) (w w':World) v,(Builtin.append_ #[t,u] o.type #[a.eval x,a.eval y]).run C.P w=.ok v w'->(execOp a.eval o).run C.P w=.ok (.value v) w':=by
    intro a w w' v af;refine w5 ag ?_;simp[builtin,af]
   have main:∀ (s:aB) (a:Act) (w:World) (κ:Nat->bD) (F:Nat->Prop) (Q:Exit->Act->World->Prop) (b g:Nat) (xs ys:List e.aj),bl C s a w κ F->
     (∃ q cap,a.eval y=.slice q ys.length cap/\((q=none/\ys=[]/\cap=0)\/∃ p all,q=some p/\gp C.P e F w all ys/\ks w p all))->
     (s.ab b).gen<g->(∃ q cap,a.eval x=.slice q xs.length cap/\((q=none/\xs=[]/\cap=0)\/∃ p all,q=some p/\gp C.P e F w all xs/\ks w p all))->
     (∀ q cap,a.eval x=.slice q xs.length cap->q≠none->xs.length+ys.length<=cap->(s.ab b).body=.bf e xs/\(κ b).e8=false/\q=some ⟨(κ b).ab,(κ b).off,none⟩/\cap=(κ b).cap)->b6 (xs.length+ys.length)->
     o.wpIn (dR C.r) 0 C.P a w (λa' w'=>cr C ((s.cx b ⟨g,.bf e (xs++ys)⟩).set o.dst (.own b g)) a' w') Q:=by
    intro s a w κ F Q b g xs ys M nO Kx sb ad3 hlen;obtain⟨q,cap,sb,Ky⟩:=sb;obtain⟨q',cap',tJ,nO⟩:=nO;have Kz:∀ (κ':Nat->bD) (v:Value) (w':World),bl C (s.cx b ⟨g,.bf e (xs++ys)⟩) a w' κ' F->v=(κ' b).slice (xs++ys).length->cr C ((s.cx b ⟨g,.bf e (xs++ys)⟩).set o.dst (.own b g)) (a.put o.dst v) w':=by
     intro κ' v w' bc af;refine⟨κ',F,bl.set bc bh ⟨⟨by simp[aB.cx],?_⟩,λ_ _=>?_⟩⟩
     ·rw[af];unfold bD.slice;split<;>rfl
     ·rw[af];simp[aB.cx,bP.len]
    by_cases w9:xs.length+ys.length<=cap
    ·cases bq:q with
     | none=>
      subst bq;obtain⟨ad4,u3⟩:xs=[]/\cap=0:=by
       grind
      subst ad4;subst u3;have KA:ys=[]:=by grind
      subst KA;obtain⟨ey,ee,eh⟩:=zl (P:=C.P) (w:=w) (cap:=cap') rfl nO;have c_:(Builtin.append_ #[t,u] o.type #[a.eval x,a.eval y]).run C.P w=.ok (.slice none 0 0) w:=by
       rw[sb,tJ];simp only[List.length_nil]at ee ⊢;simp[Builtin.append_,dC aG,dC fS,r5 i1,Builtin.lenOf];rw[i2,ee];simp
      refine hx aw (mN a w w _ c_) (Kz _ _ _ (M.Co (k:=⟨0,0,0,true⟩) Kx (.inl rfl) (Nat.le_refl _) (λ_ _=>rfl) (λh=>by cases h) (df.refl _) λH κ'=>⟨λ_=>rfl,λh=>by cases h⟩) ?_);simp[bD.slice]
     | some FL=>
      obtain⟨aa,vd,ao,w8⟩:=ad3 q cap sb (by grind) w9;rw[bq]at ao;have ao:=Option.some.inj ao;subst ao;subst w8;have aU:=M.bE b;unfold cE at aU;rw[aa]at aU;obtain⟨cs,hW,bF,c2,c3,c4,c5⟩:=aU.2 vd;obtain⟨ey,ee,eh⟩:=zl (P:=C.P) (w:=w) (cap:=cap') rfl nO;have pa:=eh.1;have nM:∀ v∈ey,v.oneCell'=true:=by
       intro v af;obtain⟨j,aG,rfl⟩:=List.mem_iff_getElem.1 af;have la:0<e.size:=Nat.pos_of_ne_zero ov;have hdiv:j / e.size<ys.length:=(Nat.div_lt_iff_lt_mul la).2 (by omega);have nL:=eh.2 (j / e.size) hdiv;have iz:=y5 (P:=C.P) (H:=λ_=>⟨0,.fz⟩) (κ:=λ_=>⟨0,0,0,true⟩) e nL;have zo:=Nat.mod_lt j la;have ad5:j / e.size*e.size+j % e.size=j:=Nat.div_add_mod' j e.size;have Cq:((ey.drop (j / e.size*e.size)).take e.size).length=e.size:=hR e nL;have:=(iz.kL (j % e.size) (by rw[iz.len,Cq];omega)).2;grind
      have ad6:(κ b).off+xs.length*e.size+0+ey.length<=cs.size:=by
       rw[pa];have:(xs.length+ys.length)*e.size<=(κ b).cap*e.size:=Nat.mul_le_mul_right _ w9;grind
      obtain⟨w',di,cj,cK,eu,lM,lN,mh⟩:=u' (P:=C.P) ey ((κ b).off+xs.length*e.size) 0 w cs bF ad6 nM;have c_:(Builtin.append_ #[t,u] o.type #[a.eval x,a.eval y]).run C.P w=.ok (.slice (some ⟨(κ b).ab,(κ b).off,none⟩) (xs.length+ys.length) (κ b).cap) w':=by
       rw[sb,tJ,bq];simp only[Builtin.append_,List.getElem?_toArray,List.getElem?_cons_zero,List.getElem?_cons_succ,Sem.run_bind,dC aG,dC fS,Result.andThen_ok,r5 i1,i2,Sem.run_pure,Builtin.lenOf,Bool.false_eq_true,if_false,if_pos w9,Bool.not_false,if_true,ee,u7];simp only[cj,Result.andThen_ok]
      have gn:fo s.ab κ (λi=>if i=b then (⟨g,.bf e (xs++ys)⟩:bK) else s.ab i) κ:=y1 Kx λ_ _=>rfl;refine hx aw (mN a w w' _ c_) (Kz κ _ _ (M.o6 (b:=b) (by rw[aa];simp[bP.b1,vd]) (by simp[bP.b1,vd]) gn (λh=>by cases h) (λh=>by cases h) lM lN mh λH mP cc he=>?_) (by simp[bD.slice,vd]));refine⟨λh=>(by grind),λ_=>?_⟩;have FH:di.size=cs.size:=by
       rw[<-Array.length_toList,eu];grind
      refine⟨di,hW,cK,by omega,by grind,c4,λi G=>?_⟩;simp only[Nat.add_zero]at eu;have gH:(cs.toList.take ((κ b).off+xs.length*e.size)).length=(κ b).off+xs.length*e.size:=by grind
      by_cases R9:i<xs.length
      ·obtain⟨bj,d1,d2⟩:=c5 i R9;have ay:(xs++ys)[i]=xs[i]:=List.getElem_append_left R9;rw[ay];refine⟨bj,λk an=>?_,fe e (λ_ M=>M) he d2⟩;have R_:=hR e d2;have hle:(i+1)*e.size<=xs.length*e.size:=Nat.mul_le_mul_right _ (by omega);rw[Nat.add_mul]at hle;rw[<-Array.getElem?_toList,eu,List.getElem?_append_left (by omega),List.getElem?_take,if_pos (by omega)];grind
      ·have dM:i - xs.length<ys.length:=by grind
       have ay:(xs++ys)[i]=ys[i - xs.length]:=List.getElem_append_right (by omega);rw[ay];have Cr:=eh.Cm (pre:=cs.toList.take ((κ b).off+xs.length*e.size)) (post:=cs.toList.drop ((κ b).off+xs.length*e.size+ey.length)) eu;obtain⟨bj,d1,d2⟩:=Cr (i - xs.length) dM;refine⟨bj,λk an=>?_,fe e (λ_ M=>M) he d2⟩;have:=d1 k an;rw[gH]at this;rw[<-this];congr 1;have:i*e.size=xs.length*e.size+(i - xs.length)*e.size:=by rw[<-Nat.add_mul];grind
       omega
    ·obtain⟨ad7,q0,cs,cj,cK,eu,lM,lN⟩:=adU (P:=C.P) (w:=w) (F:=F) (cap:=cap) (cap':=cap') dp (.inr ⟨aN,va⟩) Ky nO (by omega) hlen o.type;rw[<-sb,<-tJ]at cj;refine hx aw (mN a w _ _ cj) (Kz _ _ _ (M.Co (k:=⟨w.heap.size,0,q0,false⟩) Kx (.inr rfl) (by simp) (λr M=>?_) (λ_=>by simp) ⟨rfl,rfl,rfl⟩ λH κ'=>⟨λh=>(by cases h),λ_=>⟨cs,ad7,?_,by grind,by grind,cK,?_⟩⟩) ?_)
     ·exact o5 w.drew _ M
     ·exact p2 w.drew _
     ·exact lN.later ⟨by simp,λr bc=>o5 w.drew _ (M.dd r bc)⟩
     ·simp[bD.slice]
   simp only[J5]at h;split at h
   ·rename_i b g e_;simp only[aq.e5]at h;split at h
    ·rename_i a1 xs bS;split at h
     ·rename_i q2;subst q2;simp only[aq.e6,Option.bind_eq_some_iff,aq.bL,Option.some.injEq]at h;obtain⟨⟨ys,l⟩,j8,rfl⟩:=h;have aC:(s.ab b).gen=g/\(s.ab b).body=.bf a1 xs:=by
       grind
      intro a w κ F Q M bd hc;have ai:bu C.P s.ab κ F w (use (a8 C.aO s.ax x)).2 (a.eval x):=cN M x rfl bd.1;have nK:=ai;rw[e_]at nK;have af:=nK.2 aC.1.symm (by rw[aC.2];rfl);rw[aC.2]at af;simp only[bP.len]at af;have hV:(dz (.slice a1) (use (a8 C.aO s.ax x)).2).run s.ab=some (xs,[b]):=by
       rw[e_];simp[dz,kn,ad.eG,dW,aC.1,aC.2,eS]
      refine main s a w κ F Q b (g+1) xs ys M (sa M j8 (cN M y rfl bd.2)) (by omega) (sa M hV ai) (λq cap bq KB _=>?_) hc;rw[af]at bq;cases aA:(κ b).e8 with
      | true=>
       simp only[bD.slice,aA,if_true,Value.slice.injEq]at bq;grind
      | false=>
       simp only[bD.slice,aA,Bool.false_eq_true,if_false,Value.slice.injEq]at bq;grind
     ·cases h
    ·cases h
   ·rename_i b g aT G e_;simp only[aq.e5]at h;split at h
    ·rename_i a1 xs bS;split at h
     ·rename_i q2;subst q2;simp only[aq.e6,Option.bind_eq_some_iff,aq.bL,Option.some.injEq]at h;obtain⟨⟨ys,l⟩,j8,rfl⟩:=h;have aC:(s.ab b).gen=g/\(s.ab b).body=.bf a1 xs:=by
       grind
      intro a w κ F Q M bd hc;have ai:bu C.P s.ab κ F w (use (a8 C.aO s.ax x)).2 (a.eval x):=cN M x rfl bd.1;rw[e_]at ai;obtain⟨⟨aW,aY⟩,bO⟩:=ai.2 aC.1.symm (by rw[aC.2];rfl);rw[aC.2]at aY bO;simp only[bP.len,bP.e4]at aY bO;obtain⟨κ',bc,af⟩:=M.ad0 aC.2 aW aY bO;have nO:=sa M j8 (cN M y rfl bd.2);have R':(s.cx b ⟨(s.ab b).gen+1,.bf a1 ((xs.take G).drop aT)⟩).ab b=⟨(s.ab b).gen+1,.bf a1 ((xs.take G).drop aT)⟩:=by simp[aB.cx]
      have hV:(dz (.slice a1) (.own b (g+1))).run (s.cx b ⟨(s.ab b).gen+1,.bf a1 ((xs.take G).drop aT)⟩).ab=some ((xs.take G).drop aT,[b]):=by
       simp[dz,kn,ad.eG,dW,aB.cx,aC.1,eS]
      have Ky:bu C.P (s.cx b ⟨(s.ab b).gen+1,.bf a1 ((xs.take G).drop aT)⟩).ab κ' F w (.own b (g+1)) (a.eval x):=by
       refine⟨⟨by grind,ai.1.2⟩,λ_ _=>?_⟩;rw[R'];exact af
      have:=main (s.cx b ⟨(s.ab b).gen+1,.bf a1 ((xs.take G).drop aT)⟩) a w κ' F Q b (g+2) ((xs.take G).drop aT) ys bc nO (by grind) (sa bc hV Ky) (λq cap bq KB _=>?_) hc
      ·rw[adZ]at this;exact this
      ·rw[af]at bq;cases aA:(κ' b).e8 with
       | true=>
        simp only[bD.slice,aA,if_true,Value.slice.injEq]at bq;grind
       | false=>
        simp only[bD.slice,aA,Bool.false_eq_true,if_false,Value.slice.injEq]at bq;grind
     ·cases h
    ·cases h
   ·rename_i e_;simp only[aq.e6,Option.bind_eq_some_iff]at h;obtain⟨⟨ys,l⟩,j8,h⟩:=h;obtain⟨b,aa,an⟩:=qX h;simp only[Option.some.injEq]at an;subst an;intro a w κ F Q M bd hc;have ai:bu C.P s.ab κ F w (use (a8 C.aO s.ax x)).2 (a.eval x):=cN M x rfl bd.1;rw[e_]at ai;simp only[bu]at ai;have:=main s a w κ F Q b ((s.ab b).gen+1) [] ys M (sa M j8 (cN M y rfl bd.2)) (Nat.lt_succ_self _) ⟨none,0,ai,.inl ⟨rfl,rfl,rfl⟩⟩ (λq cap bq KB _=>by grind) (by grind);exact this
   ·rename_i a1 xs e_;split at h
    ·rename_i q2;subst q2;simp only[aq.e6,Option.bind_eq_some_iff]at h;obtain⟨⟨ys,l⟩,j8,h⟩:=h;obtain⟨b,aa,an⟩:=qX h;simp only[Option.some.injEq]at an;subst an;intro a w κ F Q M bd hc;have ai:bu C.P s.ab κ F w (use (a8 C.aO s.ax x)).2 (a.eval x):=cN M x rfl bd.1;rw[e_]at ai;obtain⟨Ko,w4,FI⟩:=ai;have hV:(dz (.slice a1) (.val (.slice a1) xs)).run s.ab=some (xs,[]):=by
      simp[dz,eS]
     exact main s a w κ F Q b ((s.ab b).gen+1) xs ys M (sa M j8 (cN M y rfl bd.2)) (Nat.lt_succ_self _) (sa M hV Ko) (λq cap bq KB w9=>by
      grind) hc.2
    ·cases h
   ·cases h
  ·cases h
 ·cases h
theorem ad8{P:Program}{F:Nat->Prop}{w:World}{all:List Value}{ys:z1'}(h:gp P (.int .u8) F w all ys):all=ys.map (Value.int .u8):=by
 obtain⟨E,U⟩:=h;have E:all.length=ys.length:=E.trans (Nat.mul_one _);apply List.ext_getElem (by simpa using E);intro i G dM;have dA:i<ys.length:=by omega
 obtain⟨e,_⟩:=U i dA;have aD:ad.size (.int .u8)=1:=rfl;rw[aD,Nat.mul_one,List.drop_eq_getElem_cons G]at e;have:=(List.cons.inj e).1;rw[this];simp
theorem Sa:∀ (ys:z1') (s:ByteArray),ys.foldl (λr n=>r.push (UInt8.ofNat n.toNat)) s=⟨s.data++(u6 ys).toArray⟩
 | [],s=>by simp[u6]
 | y::ys,s=>by
  rw[List.foldl_cons,Sa ys];refine congrArg ByteArray.mk ?_;apply Array.ext';simp[u6,ByteArray.push]
theorem ad9(ys:z1'):ys.foldl (λr n=>r.push (UInt8.ofNat n.toNat)) ByteArray.empty=⟨(u6 ys).toArray⟩:=by
 rw[Sa];refine congrArg ByteArray.mk ?_;apply Array.ext';simp[ByteArray.empty,ByteArray.emptyWithCapacity];rfl
theorem ad_(aV:dS C.P T){KC KD:TypeId}{x:Operand}(bh:∀ i,o.dst=some i->i<C.nt)(ag:o.op=.convert KC KD x)(h:(bt C.aO T bg (a8 C.aO s.ax) o).run s.ab=some res):cJ C o s res:=by
 simp only[bt,ag]at h;split at h
 ·rename_i aW k aY n t1 t2 ai;simp only[bN,aq.bL,Option.some.injEq]at h;subst h;refine cJ.pure (by grind) bh λa w κ F M bd _=>?_;have E:=oo (cN M x rfl bd) ai;have ay:=(aV.cb t1 (by simp)).int;have aN:=(aV.cb t2 (by simp)).int;refine⟨.int k (k.wrap n),?_,gT.2 ⟨rfl,p6 _ _⟩⟩;simp[execOp,ag,convert,dC ay,dC aN,E.1,Conv.intToInt]
 ·rename_i t1 t2;simp only[aq.e6,Option.bind_eq_some_iff,bN,aq.bL,Option.some.injEq]at h;obtain⟨⟨ys,l⟩,j8,rfl⟩:=h;refine cJ.pure (by grind) bh λa w κ F M bd _=>?_;have hu:=cN M x rfl bd;obtain⟨q,cap,af,nO⟩:=sa M j8 hu;have cc:ys.length<2 ^ 63:=by
   have E:=mf (F':=λ_=>True) M.bE (λ_ _=>trivial) j8 (λ_ _ _=>trivial) hu;obtain⟨_,U⟩:=(dT rfl).1 E;obtain⟨q',cap',ay,m1,m2,_⟩:=U;have aN:=(List.cons.inj (ay.symm.trans rfl)).1;omega
  obtain⟨jK,aG,iZ,_⟩:=(aV.cb t1 (by simp)).sl;have ay:=iZ.int;have aN:=(aV.cb t2 (by simp)).str;refine⟨.string ⟨(u6 ys).toArray⟩,?_,ma.2 ⟨rfl,by simpa [u6]using cc⟩⟩;have hc:(convert KC KD (a.eval x)).run C.P w=.ok (.string ⟨(u6 ys).toArray⟩) w:=by
   rw[af,run_convert_bytes_string w KC KD jK q ys.length cap aG ay aN];rcases nO with⟨rfl,rfl,rfl⟩ | ⟨p,all,rfl,bb,ow⟩
   ·rfl
   ·have fG:all=ys.map (Value.int .u8):=ad8 bb;have ak:=Fy (P:=C.P) ow;rw[fG,List.length_map]at ak;rw[run_bytesToString w p ys.length cap ys ak];refine congrArg (λs=>Result.ok (Value.string s) w) ?_;exact ad9 ys
  simp[execOp,ag,hc]
 ·cases h
end
end Go.Fer
namespace Go.Fer
open Go.RowKit
theorem gU.y4{P:Program}{k:FuncId}{ts aR:ad}{sh Sb:ts.aj->A aR.aj}(h:gU P k ts aR sh)(aD:∀ x,A.le (sh x) (Sb x)):gU P k ts aR Sb where
 enter:=h.enter
 iw:=λF w args x bn gl bb q3=>by
  obtain⟨E,U⟩:=aD x q3;exact (h.iw F w args x bn gl bb E).mono λe w' ⟨v,y,ay,aN,cA⟩=>⟨v,y,ay,U y aN,cA⟩
def aP.sh(c:aP)(x:c.ts.aj):A c.aR.aj:=A.dI (c.pre x) (c.g x)
def ad'(P:Program)(k:FuncId)(ts:ad)(x:ts.aj)(e:ad)(ys:List e.aj):Prop:=
 ∀ (F:Nat->Prop) (w:World) (args:List Value),(∀ r,F r->r<w.heap.size)->nF P F w->fm P ts F w args x->Calls P k args.toArray w λz w'=>∃ (b:bD) (F':Nat->Prop),z=.returned (b.slice ys.length)/\(∀ r,F r->F' r)/\(∀ r,F' r->F r\/(w.heap.size<=r/\r<w'.heap.size))/\
  (b.e8=true->ys=[])/\(b.e8=false->(w.heap.size<=b.ab/\b.ab<w'.heap.size/\¬F' b.ab)/\∃ cs T,w'.heap[b.ab]?=some (.cells cs T (0,0))/\b.off+b.cap*e.size<=cs.size/\ys.length<=b.cap/\b.cap<2 ^ 63/\lF P e F' w' cs b.off ys)/\Below w.heap.size w w'
def zp(P:Program)(k:FuncId)(c:aP):Prop:=(∀ args w,(callFunc k args).run P w=.ok (.enter k args) w)/\∀ x,c.pre x->∀ y,B5 c.aR (c.g x)=some y->ad' P k c.ts x y.1 y.2
def jm(P:Program)(bg:Nat->Option aP):Prop:=∀ k c,bg k=some c->(k8 c.aR=false->gU P k c.ts c.aR c.sh)/\(k8 c.aR=true->zp P k c)
theorem aea{t:ad}{y:t.aj}{z:(e:ad)×List e.aj}(h:B5 t y=some z):k8 t=true:=by
 unfold B5 at h;unfold k8;split at h<;>simp_all
theorem aeb{t:ad}{y:t.aj}(h:B5 t y=none):k8 t=false:=by
 cases hc:k8 t with
 | false=>rfl
 | true=>
  unfold k8 at hc;split at hc
  ·cases h
  ·cases hc
theorem j_{t:ad}(aK:t.gA=true)(avs:List aF):iV t avs=(match avs with | [v]=>dz t v | _=>.none:aq (Option (t.aj×List Nat))):=by
 cases t<;>first
  | (cases aK;done)
  | (rcases avs with _ | ⟨v,_ | ⟨u,aE⟩⟩<;>rfl)
theorem vf{P:Program}{H:Nat->bK}{κ:Nat->bD}{F F':Nat->Prop}{w:World}(aU:∀ b,cE P H κ F w b)(bn:∀ r,F r->F' r):∀ (t:ad) {avs:List aF} {aE:List Value} {x:t.aj} {l:List Nat},(iV t avs).run H=some (x,l)->
  iU H κ F' l->avs.length=aE.length->(∀ i (h:i<avs.length) (de:i<aE.length),bu P H κ F w avs[i] aE[i])->fm P t F' w aE x:=by
 have gA:∀ (t:ad),t.gA=true->∀ {avs:List aF} {aE:List Value} {x:t.aj} {l:List Nat},(match avs with | [v]=>dz t v | _=>.none:aq (Option (t.aj×List Nat))).run H=some (x,l)->
   iU H κ F' l->avs.length=aE.length->(∀ i (h:i<avs.length) (de:i<aE.length),bu P H κ F w avs[i] aE[i])->fm P t F' w aE x:=by
  intro t aK avs aE x l h ak hlen fG;split at h
  ·rename_i v;match aE,hlen with
   | [u],_=>
    refine (rY aK).2 ⟨u,rfl,mf aU bn h ak ?_⟩;exact fG 0 (by simp) (by simp)
  ·cases h
 intro t;induction t with
 | az a b fy eL=>
  intro avs aE x l h ak hlen fG;match avs,aE,hlen with
  | [],_,_=>simp[iV,aq.none]at h
  | v::avs,u::aE,hlen=>
   simp only[iV,aq.e6,Option.bind_eq_some_iff,aq.bL,Option.some.injEq,Prod.mk.injEq]at h;obtain⟨⟨y,m⟩,E,⟨z,dx⟩,U,rfl,rfl⟩:=h;refine BR.2 ⟨mf aU bn E ak.left (fG 0 (by simp) (by simp)),?_⟩;exact eL U ak.right (by grind) λi G dM=>by
    have:=fG (i+1) (by grind) (by grind);grind
 | cV=>
  intro avs aE x l h ak hlen fG;match avs,aE,hlen with
  | [],[],_=>exact⟨rfl,rfl⟩
  | _::_,_,_=>simp[iV,aq.none]at h
 | bool=>intro avs aE x l h;rw[j_ rfl]at h;exact gA _ rfl h
 | int k=>intro avs aE x l h;rw[j_ rfl]at h;exact gA (.int k) rfl h
 | str=>intro avs aE x l h;rw[j_ rfl]at h;exact gA _ rfl h
 | st t _=>intro avs aE x l h;rw[j_ rfl]at h;exact gA (.st t) rfl h
 | slice e _=>intro avs aE x l h;rw[j_ rfl]at h;exact gA (.slice e) rfl h
 | array n e _=>intro avs aE x l h;rw[j_ rfl]at h;exact gA (.array n e) rfl h
 | bH e _=>intro avs aE x l h;rw[j_ rfl]at h;exact gA (.bH e) rfl h
 | map k v _ _=>intro avs aE x l h;rw[j_ rfl]at h;exact gA (.map k v) rfl h
 | fn a b _ _=>intro avs aE x l h;rw[j_ rfl]at h;exact gA (.fn a b) rfl h
 | cu a _=>intro avs aE x l h;rw[j_ rfl]at h;exact gA (.cu a) rfl h
 | eo=>intro avs aE x l h;rw[j_ rfl]at h;exact gA .eo rfl h
theorem p_{H:Nat->bK}:∀ (t:ad) {avs:List aF} {x:t.aj} {l:List Nat},(iV t avs).run H=some (x,l)->gK H l:=by
 have gA:∀ (t:ad),t.gA=true->∀ {avs:List aF} {x:t.aj} {l:List Nat},(match avs with | [v]=>dz t v | _=>.none:aq (Option (t.aj×List Nat))).run H=some (x,l)->gK H l:=by
  intro t _ avs x l h;split at h
  ·exact mO h
  ·cases h
 intro t;induction t with
 | az a b fy eL=>
  intro avs x l h;match avs with
  | []=>simp[iV,aq.none]at h
  | v::avs=>
   simp only[iV,aq.e6,Option.bind_eq_some_iff,aq.bL,Option.some.injEq,Prod.mk.injEq]at h;obtain⟨⟨y,m⟩,E,⟨z,dx⟩,U,rfl,rfl⟩:=h;exact (mO E).append (eL U)
 | cV=>
  intro avs x l h;match avs with
  | []=>
   simp only[iV,aq.bL,Option.some.injEq,Prod.mk.injEq]at h;rw[<-h.2];exact .nil H
  | _::_=>simp[iV,aq.none]at h
 | bool=>intro avs x l h;rw[j_ rfl]at h;exact gA _ rfl h
 | int k=>intro avs x l h;rw[j_ rfl]at h;exact gA (.int k) rfl h
 | str=>intro avs x l h;rw[j_ rfl]at h;exact gA _ rfl h
 | st t _=>intro avs x l h;rw[j_ rfl]at h;exact gA (.st t) rfl h
 | slice e _=>intro avs x l h;rw[j_ rfl]at h;exact gA (.slice e) rfl h
 | array n e _=>intro avs x l h;rw[j_ rfl]at h;exact gA (.array n e) rfl h
 | bH e _=>intro avs x l h;rw[j_ rfl]at h;exact gA (.bH e) rfl h
 | map k v _ _=>intro avs x l h;rw[j_ rfl]at h;exact gA (.map k v) rfl h
 | fn a b _ _=>intro avs x l h;rw[j_ rfl]at h;exact gA (.fn a b) rfl h
 | cu a _=>intro avs x l h;rw[j_ rfl]at h;exact gA (.cu a) rfl h
 | eo=>intro avs x l h;rw[j_ rfl]at h;exact gA .eo rfl h
theorem aec{H:Nat->bK}{e:ad}{ps:List (Nat×aF)}:∀ (n i:Nat) {xs:List e.aj} {l:List Nat},(tA e ps i n).run H=some (xs,l)->gK H l:=by
 intro n;induction n with
 | zero=>intro i xs l h;cases h;exact .nil H
 | succ n aJ=>
  intro i xs l h;simp only[tA,aq.e6,Option.bind_eq_some_iff,aq.bL,Option.some.injEq,Prod.mk.injEq]at h;obtain⟨⟨x,m⟩,E,⟨ys,dx⟩,U,rfl,rfl⟩:=h;refine gK.append ?_ (aJ (i+1) U);split at E
  ·exact mO E
  ·simp only[aq.bL,Option.some.injEq,Prod.mk.injEq]at E;rw[<-E.2];exact .nil H
theorem KE{P:Program}{F F':Nat->Prop}{w w':World}{t:ad}{aE:List Value}{x:t.aj}(aK:t.pure=true)(h:fm P t F w aE x):fm P t F' w' aE x:=⟨h.1,acY t aK h.2⟩
theorem tK{P:Program}{H:Nat->bK}{κ:Nat->bD}{F:Nat->Prop}{w:World}:∀ (t:ad) {aE:List Value} {y:t.aj},fm P t F w aE y->t≠.cV->aE.length=j5 t/\∀ i,i<j5 t->bu P H κ F w (kq t y i) (aE.getD i Go.undef):=by
 intro t;induction t with
 | az a b _ eL=>
  intro aE y h _;obtain⟨v,us,rfl,E,U⟩:=Fg h;by_cases aa:b=.cV
  ·subst aa;have:us=[]:=U.1;subst this;refine⟨rfl,λi G=>?_⟩;cases i with
   | zero=>exact E
   | succ i=>simp only[j5]at G;omega
  ·obtain⟨aW,aY⟩:=eL U aa;refine⟨by simp[j5,aW],λi G=>?_⟩;cases i with
   | zero=>exact E
   | succ i=>
    have:=aY i (by simp only[j5]at G;omega);simpa [kq]using this
 | cV=>simp
 | _=>
  intro aE y h _;obtain⟨v,rfl,E⟩:=(rY rfl).1 h;refine⟨rfl,λi G=>?_⟩;simp only[j5]at G;have:i=0:=by omega
  subst this;exact E
theorem Cs{P:Program}{H:Nat->bK}{κ:Nat->bD}{F:Nat->Prop}{w:World}{t:ad}{v:Value}{y:t.aj}(h:tr P t F w v y):bu P H κ F w (qS t y) v:=by
 have p0:=@tK P H κ F w;obtain⟨aE,E,U⟩:=h;cases t with
 | az a b=>
  simp only[yX]at E;obtain⟨aW,aY⟩:=p0 (.az a b) U (by simp);exact⟨aE,E,aW,aY⟩
 | cV=>exact E.1
 | _=>
  obtain⟨u,rfl,hu⟩:=(rY rfl).1 U;have:v=u:=by simpa [yX,eq_comm]using E
  rw[this];exact hu
section
variable {C:b_} {T:Nat->ad} {bg:Nat->Option aP} {o:Oper} {s:aB} {res:eC}
theorem bl.grow{a:Act}{w w':World}{κ:Nat->bD}{F:Nat->Prop}(h:bl C s a w κ F)(aa:Below w.heap.size w w'):bl C s a w' κ (u0 F w w'):=by
 have he:c8 F w w':=⟨aa.size,λr M=>aa.block r (h.dd r M)⟩
 refine h.move (H':=s.ab) (fo.refl _ _) (λ_ M=>.inl M) (λr M=>M.imp id λM=>.inr M.1) aa.size (λr M _=>aa.block r M) ⟨aa.os,aa.tape,aa.output⟩ (λ_=>?_) ?_ h.inj ?_ (λ_ _ h=>⟨rfl,h⟩)
 ·intro b;exact cE.k6 (h.bE b) (fo.refl _ _) (λ_ M=>.inl M) he rfl rfl λag=>aa.block _ (h.own b ag).1
 ·intro b ag;have:=h.own b ag;refine⟨Nat.lt_of_lt_of_le this.1 aa.size,λar=>?_,.inl ⟨b,ag,rfl⟩⟩;rcases ar with ar | ⟨ar,_⟩
  ·exact this.2.1 ar
  ·omega
 ·intro r M;rcases M with M | ⟨_,M⟩
  ·exact Nat.lt_of_lt_of_le (h.dd r M) aa.size
  omega
theorem Ct{r:Option Nat}{P:Program}{o:Oper}{a:Act}{w:World}{K:Act->World->Prop}{Q:Exit->Act->World->Prop}{f:FuncId}{args:Array Value}{R:Ending->World->Prop}(aw:∀ c,o.op≠.defer c)
  (h:(execOp a.eval o).run P w=.ok (.enter f args) w) (hc:Calls P f args w R) (an:∀ e w',R e w'->∃ v,e=.returned v/\K (a.put o.dst v) w'):o.wpIn (dR r) 0 P a w K Q:=by
 refine⟨λ_ _=>trivial,?_⟩;rw[zc aw,h];refine⟨λaD=>(by cases aD),?_⟩;have E:CallsIn Fence.wide 0 P f args w R:=callsIn_wide.2 hc;have U:CallsIn (dR r) 0 P f args w R:=by
  cases r with
  | none=>exact E
  | some l=>exact CallsIn.inRound l E
 refine U.mono λe w' he=>?_;grind
theorem Sc{a:Act}{w:World}{κ:Nat->bD}{F:Nat->Prop}{ts:ad}(M:bl C s a w κ F){args:Array Operand}(bd:jH (args.toList.map (a8 C.aO s.ax))){x:ts.aj}{l:List Nat}
  (ai:(iV ts ((args.toList.map (a8 C.aO s.ax)).map λv=>(use v).2)).run s.ab=some (x,l)):∃ F',(∀ r,F r->F' r)/\bl C (s.cB l) a w κ F'/\fm C.P ts F' w (args.toList.map a.eval) x:=by
 obtain⟨args⟩:=args;obtain⟨F',f1,bc,f2⟩:=bl.k_ (p_ ts ai) M;refine⟨F',f1,bc,vf M.bE f1 ts ai f2 (by simp) λi G dM=>?_⟩;simp only[List.getElem_map];have dA:i<args.length:=by grind
 have E:=r6 bd i (by grind);have ay:(args.map (a8 C.aO s.ax)).getD i .undef=a8 C.aO s.ax args[i]:=by grind
 rw[show (List.map (a8 C.aO s.ax) (⟨args⟩:Array Operand).toList)=args.map (a8 C.aO s.ax) from rfl,ay]at E;exact o8 (j7 M args[i]) E
theorem Sd{a:Act}{w:World}{κ:Nat->bD}{F:Nat->Prop}{Q:Exit->Act->World->Prop}{K:Act->World->Prop}{k:FuncId}{ts aR:ad}{sh:ts.aj->A aR.aj}(M:bl C s a w κ F)(ar:gU C.P k ts aR sh)
  (bh:∀ i,o.dst=some i->i<C.nt) {args:Array Operand} {dn:Array TypeId} (ag:o.op=.call { callee:=.value (.func k),args:=args,argTypes:=dn }) (bd:jH (args.toList.map (a8 C.aO s.ax))) {x:ts.aj} {l:List Nat}
  (ai:(iV ts ((args.toList.map (a8 C.aO s.ax)).map λv=>(use v).2)).run s.ab=some (x,l)) (aD:(sh x).cq)
  (an:∀ y w',(sh x).bQ y->∀ v,cr C ((if aR.pure then s else s.cB l).set o.dst (qS aR y)) (a.put o.dst v) w'->K (a.put o.dst v) w'):o.wpIn (dR C.r) 0 C.P a w K Q:=by
 have aw:∀ c,o.op≠.defer c:=by grind
 obtain⟨args⟩:=args;have c_:(execOp a.eval o).run C.P w=.ok (.enter k (args.map a.eval).toArray) w:=by
  simp only[execOp,ag,Sem.run_bind,resolve,Act.eval,Deferred.ofValue,Sem.run_pure,Result.andThen_ok,invoke];have:=ar.enter (args.map a.eval).toArray w;grind
 obtain⟨F',f1,bc,dX⟩:=Sc M bd ai;refine Ct aw c_ (ar.iw F' w _ x bc.dd bc.iy dX aD) λe w' ⟨v,y,he,aS,gm,aa⟩=>⟨v,he,an y w' aS v ?_⟩
 by_cases ao:aR.pure=true
 ·rw[if_pos ao];have aC:=M.grow aa;refine⟨κ,_,aC.set bh (Cs ?_)⟩;obtain⟨aE,du,dF⟩:=gm;exact⟨aE,du,KE ao dF⟩
 ·rw[if_neg ao];have aC:=bc.grow aa;exact⟨κ,_,aC.set bh (Cs gm)⟩
theorem bl.hG{a:Act}{w w':World}{κ:Nat->bD}{F F':Nat->Prop}(h:bl C s a w κ F){b g:Nat}{e:ad}{ys:List e.aj}{k:bD}(BW:b<eQ)(aC:(s.ab b).gen<g)(aa:Below w.heap.size w w')
  (bn:∀ r,F r->F' r) (tq:∀ r,F' r->F r\/(w.heap.size<=r/\r<w'.heap.size)) (E:k.e8=true->ys=[])
  (U:k.e8=false->(w.heap.size<=k.ab/\k.ab<w'.heap.size/\¬F' k.ab)/\∃ cs T,w'.heap[k.ab]?=some (.cells cs T (0,0))/\k.off+k.cap*e.size<=cs.size/\ys.length<=k.cap/\k.cap<2 ^ 63/\lF C.P e F' w' cs k.off ys) :
  bl C (s.cx b ⟨g,.bf e ys⟩) a w' (λi=>if i=b then k else κ i) F':=by
 have ak:fo s.ab κ (λi=>if i=b then ⟨g,.bf e ys⟩ else s.ab i) (λi=>if i=b then k else κ i):=y1 aC λbe cW=>by grind
 refine h.move (H':=λi=>if i=b then ⟨g,.bf e ys⟩ else s.ab i) ak bn (λr M=>(tq r M).imp id λh=>.inr h.1) aa.size (λr M _=>aa.block r M) ⟨aa.os,aa.tape,aa.output⟩ (λhe=>?_) ?_ ?_ ?_ (y2 (.inl BW) λbe cW=>by grind)
 ·intro i;by_cases G:i=b
  ·subst G;simp only[cE,if_true];exact⟨E,λaA=>(U aA).2⟩
  ·refine cE.k6 (h.bE i) ak bn he (by grind) (by grind) λag=>?_;exact aa.block _ (h.own i ag).1
 ·intro i G;by_cases eM:i=b
  ·subst eM;simp only[if_true,bP.b1,Bool.not_eq_true']at G ⊢;obtain⟨⟨aW,aY,bO⟩,_⟩:=U G;exact⟨aY,bO,.inr aW⟩
  ·simp only[if_neg eM]at G ⊢;have:=h.own i G;refine⟨Nat.lt_of_lt_of_le this.1 aa.size,λar=>?_,.inl ⟨i,G,rfl⟩⟩;rcases tq _ ar with ar | ar
   ·exact this.2.1 ar
   ·omega
 ·intro i j G aG a1;by_cases eM:i=b<;>by_cases mc:j=b
  ·omega
  ·simp only[if_pos eM,if_neg mc,bP.b1,Bool.not_eq_true']at G aG a1;have:=(h.own j aG).1;have:=(U G).1.1;omega
  ·simp only[if_neg eM,if_pos mc,bP.b1,Bool.not_eq_true']at G aG a1;have:=(h.own i G).1;have:=(U aG).1.1;omega
  ·simp only[if_neg eM,if_neg mc]at G aG a1;exact h.inj i j G aG a1
 ·intro r M;rcases tq r M with de | de
  ·exact Nat.lt_of_lt_of_le (h.dd r de) aa.size
  ·exact de.2
theorem aed(cv:jm C.P bg){k:FuncId}{args:Array Operand}{dn:Array TypeId}(bh:∀ i,o.dst=some i->i<C.nt)(ag:o.op=.call { callee:=.value (.func k),args:=args,argTypes:=dn })(h:(bt C.aO T bg (a8 C.aO s.ax) o).run s.ab=some res):cJ C o s res:=by
 simp only[bt,ag,mL,Ft]at h;split at h
 ·rename_i c hc;simp only[aq.e6,Option.bind_eq_some_iff]at h;obtain⟨⟨x,l⟩,ai,h⟩:=h;split at h
  ·rename_i y aS;simp only[aq.run_bind]at h;obtain⟨d,aw,h⟩:=qX h;split at h
   ·cases h
   rename_i tL;cases h;have tL:d ∉ l:=by simpa using tL
   have KF:=bh d aw;intro a w κ F Q M bd gH;obtain⟨aW,aY⟩:=(cv k c hc).2 (aea aS);obtain⟨F',f1,bc,dX⟩:=Sc M bd ai;have c_:(execOp a.eval o).run C.P w=.ok (.enter k (args.map a.eval)) w:=by
    simp only[execOp,ag,Sem.run_bind,resolve,Act.eval,Deferred.ofValue,Sem.run_pure,Result.andThen_ok,invoke];have:=aW (args.map a.eval) w;grind
   have jn:=aY x gH y aS F' w _ bc.dd bc.iy dX;rw[show (args.toList.map a.eval).toArray=args.map a.eval from by rw[<-Array.toList_map,Array.toArray_toList]]at jn;refine Ct (by grind) c_ jn λz w' ⟨b,ei,bk,g1,et,g3,g4,g5⟩=>⟨_,bk,?_⟩
   have zq:(s.cB l).ab d=s.ab d:=by simp[aB.cB,tL]
   have jk:=bc.hG (b:=d) (g:=(s.ab d).gen+1) (e:=y.1) (ys:=y.2) (k:=b) (Nat.lt_of_lt_of_le KF M.gi) (by rw[zq];omega) g5 g1 et g3 g4;refine⟨λi=>if i=d then b else κ i,ei,?_⟩;simp only[aB.h8];rw[Cd,tE];refine jk.set bh ⟨⟨by simp[aB.cx],by unfold bD.slice;split<;>rfl⟩,λ_ _=>by simp[aB.cx,bP.len]⟩
  rename_i aS;simp only[aq.run_bind,aq.bL,Option.some.injEq]at h;subst h;intro a w κ F Q M bd gH;refine Sd M ((cv k c hc).1 (aeb aS)) bh ag bd ai gH λy w' aS v j'=>?_;have aS:y=c.g x:=aS;subst aS;have e:∀ (r:aq (List (Nat×bK))),r=(if c.aR.pure then .ret [] else jG l)->s.fY (r.run s.ab)=(if c.aR.pure then s else s.cB l):=by
   intro r M;subst M;split
   ·rfl
   ·exact tE s l
  simp only[aB.h8];grind
 ·cases h
theorem Se{P:Program}{H:Nat->bK}{κ:Nat->bD}{F F':Nat->Prop}{w:World}(aU:∀ b,cE P H κ F w b)(bn:∀ r,F r->F' r){e:ad}{zero:List Value}(bk:bJ P e F' w zero e.dh){ps:List (Nat×aF)}{qs:List (Nat×Value)}(hlen:ps.length=qs.length)
  (fG:∀ i (h:i<ps.length) (de:i<qs.length),ps[i].1=qs[i].1/\bu P H κ F w ps[i].2 qs[i].2):∀ (n i:Nat) {xs:List e.aj} {l:List Nat},(tA e ps i n).run H=some (xs,l)->
  iU H κ F' l->xs.length=n/\∀ j (h:j<xs.length),∃ bj,bJ P e F' w bj xs[j]/\(match qs.find? (λp=>p.1 == i+j) with | some q=>bj=q.2.cells.toList | none=>bj=zero):=by
 have find:∀ (ps:List (Nat×aF)) (qs:List (Nat×Value)),ps.length=qs.length->(∀ i (h:i<ps.length) (de:i<qs.length),ps[i].1=qs[i].1/\bu P H κ F w ps[i].2 qs[i].2)->∀ i,(ps.find? (λp=>p.1 == i)=none/\qs.find? (λp=>p.1 == i)=none)\/∃ p q,ps.find? (λp=>p.1 == i)=some p/\qs.find? (λp=>p.1 == i)=some q/\bu P H κ F w p.2 q.2:=by
  intro ps;induction ps with
  | nil=>grind
  | cons p ps aJ=>
   intro qs ak h i;cases qs with
   | nil=>grind
   | cons q qs=>
    have aX:=h 0 (by simp) (by simp);simp only[List.getElem_cons_zero]at aX;by_cases ao:p.1=i
    ·grind
    ·have bq:q.1≠i:=by omega
     have:=aJ qs (by grind) (λj aG fS=>by have:=h (j+1) (by grind) (by grind);grind) i;grind
 intro n;induction n with
 | zero=>intro i xs l h _;cases h;simp
 | succ n aJ=>
  intro i xs l h ak;simp only[tA,aq.e6,Option.bind_eq_some_iff,aq.bL,Option.some.injEq,Prod.mk.injEq]at h;obtain⟨⟨x,m⟩,E,⟨ys,dx⟩,U,rfl,rfl⟩:=h;obtain⟨aW,aY⟩:=aJ (i+1) U ak.right;refine⟨by grind,λj aG=>?_⟩;cases j with
  | zero=>
   rcases find ps qs hlen fG i with⟨f1,f2⟩ | ⟨p,q,f1,f2,f3⟩
   ·rw[f1]at E;simp only[aq.bL,Option.some.injEq,Prod.mk.injEq]at E;grind
   ·rw[f1]at E;refine⟨q.2.cells.toList,(mf aU bn E ak.left f3).2,?_⟩;grind
  | succ j=>
   obtain⟨bj,d1,d2⟩:=aY j (by grind);grind
end
end Go.Fer
namespace Go.Fer
open Go.RowKit
def sc(d:Nat)(em:Bool)(xs:Array Value):List Field->Sem Unit
 | []=>pure ()
 | f::eT=>
  if f.name ≠ "_" then do
   let a <-part f.type xs f.offset
   Instr.checkKey em d f.type a
   sc d em xs eT
  else sc d em xs eT
theorem aee{P:Program}(w:World)(em:Bool)(d:Nat)(t:TypeId)(xs:Array Value)(aK:P.underlying t=some (.struct (P.fieldsOf t))) :
  (Instr.checkKey em (d+1) t (.agg xs)).run P w=(sc d em xs (P.fieldsOf t).toList).run P w:=by
 simp only[Instr.checkKey,Sem.run_bind,dC aK,Result.andThen_ok];rw[<-Array.forIn_toList];generalize (P.fieldsOf t).toList=eT;clear aK;induction eT generalizing w with
 | nil=>rfl
 | cons f eT aJ=>
  simp only[List.forIn_cons,sc,Sem.run_bind,Sem.run_ite];split
  ·generalize (part f.type xs f.offset).run P w=cj;cases cj with
   | ok a cn=>
    simp only[Result.andThen_ok];generalize (Instr.checkKey em d f.type a).run P cn=cK;cases cK with
    | ok b da=>
     simp_all
    | halt x da=>rfl
   | halt x cn=>rfl
  simp_all
theorem Cu{P:Program}{F:Nat->Prop}{w:World}{em:Bool}:∀ (t:ad) (d:Nat),t.kM=true->t.j6<=d->
  (∀ {id:TypeId} {v:Value} {x:t.aj},b' P t id->ep P t F w v x->(Instr.checkKey em d id v).run P w=.ok () w)/\
  (∀ {l:List Field} {off:Nat} {xs:Array Value} {p c q:List Value} {x:t.aj},cF P t (.inr (l,off))=true->xs.toList=p++(c++q)->p.length=off->bJ P t F w c x->
   (sc d em xs l).run P w=.ok () w):=by
 intro t;induction t with
 | bool=>
  intro d _ aw;refine⟨λ{id v x} h E=>?_,λh=>by simp[cF]at h⟩;rw[ff.1 E];obtain⟨d,rfl⟩:∃ e,d=e+1:=⟨d - 1,by simp only[ad.j6]at aw;omega⟩
  unfold b' at h;simp only[cF,Bool.and_eq_true]at h;obtain⟨_,h⟩:=h;split at h
  ·rename_i hu;simp[Instr.checkKey,dC hu]
  grind
 | int k=>
  intro d _ aw;refine⟨λ{id v x} h E=>?_,λh=>by simp[cF]at h⟩;rw[(gT.1 E).1];obtain⟨d,rfl⟩:∃ e,d=e+1:=⟨d - 1,by simp only[ad.j6]at aw;omega⟩
  simp[Instr.checkKey,dC (b'.int h)]
 | str=>
  intro d _ aw;refine⟨λ{id v x} h E=>?_,λh=>by simp[cF]at h⟩;rw[(ma.1 E).1];obtain⟨d,rfl⟩:∃ e,d=e+1:=⟨d - 1,by simp only[ad.j6]at aw;omega⟩
  simp[Instr.checkKey,dC (b'.str h)]
 | cV=>intro d h;cases h
 | slice e _=>intro d h;cases h
 | array n e _=>intro d h;cases h
 | bH e _=>intro d h;cases h
 | map k v _ _=>intro d h;cases h
 | fn a b _ _=>intro d h;cases h
 | cu a _=>intro d h;cases h
 | eo=>intro d h;cases h
 | az a b fy eL=>
  intro d hc aw;simp only[ad.kM,Bool.and_eq_true]at hc;simp only[ad.j6]at aw;have Kb:=fy d hc.1 (by omega);have o3:=eL d hc.2 (by omega);refine⟨λh=>by unfold b' at h;simp[cF]at h,?_⟩;intro l off xs p c q x h ai ao o9;simp only[bJ]at o9;obtain⟨bF,c2,rfl,aW,aY⟩:=o9;have fc:=hR a aW;have step : ∀ (f : Field) (ch : List Field), f.offset = off -> b' P a f.type -> f.name ≠ "_" -> (sc d em xs (f :: ch)).run P w = (sc d em xs ch).run P w := by
   intro f ch ag ar aA;obtain⟨v,cj,cK⟩:=qW (cs:=xs) (p:=p) (c:=bF) (q:=c2++q) ar (by grind) aW;simp only[sc,aA,ne_eq,not_false_eq_true,if_true,Sem.run_bind];rw[ag,<-ao,cj,Result.andThen_ok,Kb.1 ar cK,Result.andThen_ok]
  match l,h with
  | [],h=>rfl
  | [f],h=>simp only[cF,Bool.false_eq_true]at h
  | [f,g],h=>
   simp only[cF,Bool.and_eq_true,beq_iff_eq,bne_iff_ne,ne_eq]at h;obtain⟨⟨⟨⟨E,U⟩,ah⟩,aZ⟩,⟨⟨⟨bM,dt⟩,gb⟩,iQ⟩⟩:=h;rw[step f [g] E U aZ];obtain⟨v,cj,cK⟩:=qW (cs:=xs) (p:=p++bF) (c:=c2) (q:=q) dt (by grind) aY;have ay:(p++bF).length=g.offset:=by grind
   rw[ay]at cj;simp only[sc,iQ,ne_eq,not_false_eq_true,if_true,Sem.run_bind,cj,Result.andThen_ok,o3.1 dt cK,Sem.run_pure]
  | f::g::i::l,h=>
   simp only[cF,Bool.and_eq_true,beq_iff_eq,bne_iff_ne,ne_eq]at h;obtain⟨⟨⟨⟨E,U⟩,ah⟩,aZ⟩,bM⟩:=h;rw[step f _ E U aZ,o3.2 bM (p:=p++bF) (c:=c2) (q:=q) (by grind) (by grind) aY]
 | st t aJ=>
  intro d hc aw;simp only[ad.j6]at aw;obtain⟨d,rfl⟩:∃ e,d=e+1:=⟨d - 1,by omega⟩
  refine⟨λ{id v x} h E=>?_,λh=>by simp[cF]at h⟩;have i:=aJ d hc (by omega);obtain⟨ay,aN,cA,ea⟩:=h.B9;obtain⟨⟨xs,rfl,hV⟩,o9⟩:=E;simp only[Value.cells,bJ]at o9;rw[aee w em d id xs ea];rcases cA with cA | ⟨f,cA,dU,k5,tC⟩ | ⟨rfl,cA⟩
  ·exact i.2 cA (p:=[]) (c:=xs.toList) (q:=[]) (by simp) rfl o9
  ·rw[cA];obtain⟨v,cj,cK⟩:=qW (cs:=xs) (p:=[]) (c:=xs.toList) (q:=[]) k5 (by simp) o9;simp only[List.length_nil]at cj;simp only[sc,tC,ne_eq,not_false_eq_true,if_true,Sem.run_bind,dU,cj,Result.andThen_ok,i.1 k5 cK,Sem.run_pure]
  ·cases hc
theorem KG:∀ (t:ad),t.kM=true->∀ (x y:t.aj),gJ t x y=true<->x=y:=by
 intro t;induction t with
 | bool=>intro _ x y;simp[gJ]
 | int k=>intro _ x y;simp[gJ]
 | str=>intro _ x y;simp[gJ]
 | st t aJ=>intro h x y;exact aJ h x y
 | az a b fy eL=>
  intro h x y;simp only[ad.kM,Bool.and_eq_true]at h;simp only[gJ,Bool.and_eq_true,fy h.1,eL h.2];grind
 | _=>intro h;cases h
def zr{k:ad}{β:Type}(x:k.aj)(es:List MapEntry)(xs:List (k.aj×β))(i:Nat)(r:Option (Nat×Value)):Prop:=
 (r=none/\∀ p∈xs,gJ k x p.1=false)\/∃ j e p,es[j]?=some e/\xs[j]?=some p/\gJ k x p.1=true/\(∀ j9 q,j9<j->xs[j9]?=some q->gJ k x q.1=false)/\r=some (i+j,e.val)
theorem zr.next{k:ad}{β:Type}{x:k.aj}{e:MapEntry}{es:List MapEntry}{p:k.aj×β}{xs:List (k.aj×β)}{i:Nat}{r:Option (Nat×Value)}(h:zr x es xs (i+1) r)(ao:gJ k x p.1=false):zr x (e::es) (p::xs) i r:=by
 rcases h with⟨E,U⟩ | ⟨j,a1,p',E,U,ah,aZ,bM⟩
 ·exact .inl ⟨E,λq bq=>by
   grind⟩
 ·refine .inr ⟨j+1,a1,p',by grind,by grind,ah,λj9 q fS bq=>?_,by grind⟩;grind
theorem Sf{P:Program}{F:Nat->Prop}{w:World}{k:ad}{β:Type}(hc:k.kM=true)(aA:k.j6<=10000){ld:TypeId}(an:b' P k ld){tM:Value}{x:k.aj}(ai:ep P k F w tM x):∀ (es:List MapEntry) (xs:List (k.aj×β)) (i:Nat),es.length=xs.length->(∀ (j:Nat) (e:MapEntry) (p:k.aj×β),es[j]?=some e->xs[j]?=some p->ep P k F w e.key p.1)->∃ r,(Instr.findAsking ld tM es i).run P w=.ok r w/\zr x es xs i r
 | [],[],i,_,_=>⟨none,rfl,.inl ⟨rfl,λp ao=>by cases ao⟩⟩
 | e::es,p::xs,i,ak,h=>by
  have aX:=h 0 e p rfl rfl;have he:=(Ka k 10000 hc aA).1 an ai aX;obtain⟨r,cj,cK⟩:=Sf (β:=β) hc aA an ai es xs (i+1) (by grind) λj a1 p' E U=>h (j+1) a1 p' (by grind) (by grind);cases bq:gJ k x p.1 with
  | true=>
   refine⟨some (i,e.val),by simp[Instr.findAsking,Op.equal,Op.maxDepth,he,bq],.inr ⟨0,e,p,rfl,rfl,bq,λj9 q fS=>by omega,rfl⟩⟩
  | false=>exact⟨r,by simp[Instr.findAsking,Op.equal,Op.maxDepth,he,bq,cj],cK.next bq⟩
theorem Sg{P:Program}{F:Nat->Prop}{w:World}{k:ad}{ld:TypeId}(an:b' P k ld){d:TypeDesc}(aw:P.underlying ld=some d){u v:Value}{x y:k.aj}(hu:ep P k F w u x)(af:ep P k F w v y){b:Bool}(h:Instr.sameNow d u v=some b):b=gJ k x y:=by
 cases k with
 | bool=>
  rw[ff.1 hu,ff.1 af]at h;cases d<;>simp only[Instr.sameNow,Option.some.injEq,reduceCtorEq]at h;rw[<-h];rfl
 | int k=>
  rw[(gT.1 hu).1,(gT.1 af).1]at h;cases d<;>simp only[Instr.sameNow,if_true,Option.some.injEq,reduceCtorEq]at h;rw[<-h];rfl
 | str=>
  rw[(ma.1 hu).1,(ma.1 af).1]at h;cases d<;>simp only[Instr.sameNow,Option.some.injEq,reduceCtorEq]at h;rw[<-h,beq_toListBytes,ByteArray.toList_eq,ByteArray.toList_eq];simp only[gJ];grind
 | st t=>
  obtain⟨⟨us,rfl,_⟩,_⟩:=hu;cases d<;>cases v<;>simp[Instr.sameNow]at h
 | array n t=>
  obtain⟨⟨us,rfl,_⟩,_⟩:=hu;cases d<;>cases v<;>simp[Instr.sameNow]at h
 | cV=>exact hu.1.elim
 | az a b=>exact hu.1.elim
 | slice e=>
  obtain⟨_,a,cap,ay,_⟩:=(dT rfl).1 hu;obtain rfl:=(List.cons.inj ay).1;cases d<;>simp[Instr.sameNow]at h
 | bH e=>
  obtain⟨_,ai⟩:=(dT rfl).1 hu;rcases ai with⟨ay,_⟩ | ⟨p,y,bj,ay,_⟩<;>(obtain rfl:=(List.cons.inj ay).1;cases d<;>simp[Instr.sameNow]at h)
 | map k' h5=>
  obtain⟨_,ai⟩:=(dT rfl).1 hu;rcases ai with⟨ay,_⟩ | ⟨r,es,clk,ay,_⟩<;>(obtain rfl:=(List.cons.inj ay).1;cases d<;>simp[Instr.sameNow]at h)
 | fn a b=>
  obtain⟨i,z,E,U,ah,aZ,bM,dt⟩:=kp an.ko;unfold b' at an;simp only[cF,Bool.and_eq_true,aw]at an;cases d<;>simp[Instr.sameNow]at an h
 | cu a=>
  obtain⟨i,z,E,U,ah,aZ,bM,dt⟩:=kp an.ko;unfold b' at an;simp only[cF,Bool.and_eq_true,aw]at an;cases d<;>simp[Instr.sameNow]at an h
 | eo=>
  obtain⟨i,z,E,U,ah,aZ,bM,dt⟩:=kp an.ko;unfold b' at an;simp only[cF,Bool.and_eq_true,aw]at an;cases d<;>simp[Instr.sameNow]at an h
theorem Sh{P:Program}{F:Nat->Prop}{w:World}{k:ad}{β:Type}{ld:TypeId}(an:b' P k ld){d:TypeDesc}(aw:P.underlying ld=some d){tM:Value}{x:k.aj}(ai:ep P k F w tM x):∀ (es:List MapEntry) (xs:List (k.aj×β)) (i:Nat) {r:Option (Nat×Value)},es.length=xs.length->(∀ (j:Nat) (e:MapEntry) (p:k.aj×β),es[j]?=some e->xs[j]?=some p->ep P k F w e.key p.1)->Instr.findNow d tM es i=some r->zr x es xs i r
 | [],[],i,r,_,_,h=>by cases h;exact .inl ⟨rfl,λp ao=>by cases ao⟩
 | e::es,p::xs,i,r,ak,h,ar=>by
  have aX:=h 0 e p rfl rfl;simp only[Instr.findNow]at ar;split at ar
  ·rename_i aD;have:=Sg an aw ai aX aD;cases ar;exact .inr ⟨0,e,p,rfl,rfl,this.symm,λj9 q fS=>by omega,rfl⟩
  ·rename_i aD;have:=Sg an aw ai aX aD;exact (Sh an aw ai es xs (i+1) (by grind) (λj a1 p' E U=>h (j+1) a1 p' (by grind) (by grind)) ar).next this.symm
  grind
theorem b'.aef{P:Program}{t:ad}{id:TypeId}(h:b' P t id)(hc:t.kM=true):∃ d,P.underlying id=some d:=by
 cases t with
 | bool=>
  unfold b' at h;simp only[cF,Bool.and_eq_true]at h;grind
 | int k=>exact⟨_,b'.int h⟩
 | str=>exact⟨_,b'.str h⟩
 | st t=>exact⟨_,h.B9.2.2.2⟩
 | az a b=>unfold b' at h;simp[cF]at h
 | _=>cases hc
theorem w_{P:Program}{F:Nat->Prop}{w:World}{k:ad}{β:Type}(hc:tB k=true){ld:TypeId}(an:b' P k ld){tM:Value}{x:k.aj}(ai:ep P k F w tM x){es:List MapEntry}{xs:List (k.aj×β)}
  (ak:es.length=xs.length) (h:∀ (j:Nat) (e:MapEntry) (p:k.aj×β),es[j]?=some e->xs[j]?=some p->ep P k F w e.key p.1):∃ r,(Instr.findKey ld tM es).run P w=.ok r w/\zr x es xs 0 r:=by
 simp only[tB,Bool.and_eq_true,decide_eq_true_eq]at hc;obtain⟨d,aw⟩:=an.aef hc.1;simp only[Instr.findKey,Sem.run_bind,dC aw,Result.andThen_ok];cases aA:Instr.findNow d tM es 0 with
 | some r=>exact⟨r,rfl,Sh an aw ai es xs 0 ak h aA⟩
 | none=>exact Sf hc.1 (by omega) an ai es xs 0 ak h
theorem Si{k v:ad}{es:List (k.aj×v.aj)}{x:k.aj}:∀ {j:Nat} {p:k.aj×v.aj},es[j]?=some p->gJ k x p.1=true->(∀ j9 q,j9<j->es[j9]?=some q->gJ k x q.1=false)->y9 es x=some p.2/\∀ y,lJ es x y=es.set j (p.1,y):=by
 induction es with
 | nil=>simp
 | cons q es aJ=>
  intro j p E U ah;cases j with
  | zero=>
   simp at E;subst E;exact⟨by simp[y9,U],λy=>by simp[lJ,U]⟩
  | succ j=>
   have aX:=ah 0 q (by omega) rfl;obtain⟨aW,aY⟩:=aJ (j:=j) (p:=p) (by grind) U λj9 q' fS tH=>ah (j9+1) q' (by omega) (by grind);exact⟨by simpa [y9,List.find?_cons,aX]using aW,λy=>by simp[lJ,aX,aY y]⟩
theorem Sj{k v:ad}{es:List (k.aj×v.aj)}{x:k.aj}(h:∀ p∈es,gJ k x p.1=false):y9 es x=none/\∀ y,lJ es x y=es++[(x,y)]:=by
 induction es with
 | nil=>exact⟨rfl,λ_=>rfl⟩
 | cons q es aJ=>
  have aX:=h q (by simp);obtain⟨aW,aY⟩:=aJ λp ao=>h p (by grind);exact⟨by simpa [y9,List.find?_cons,aX]using aW,λy=>by simp[lJ,aX,aY y]⟩
section
variable {C:b_} {T:Nat->ad} {bg:Nat->Option aP} {o:Oper} {s:aB} {res:eC}
theorem aeg{P:Program}{F:Nat->Prop}{w:World}{v:ad}{z:Value}(af:v.eG=true\/v.isAgg=true)(i5:j4 v z.cells.toList=some [])(i6:(∃ cs,z=.agg cs)<->v.isAgg=true):ep P v F w z v.dh:=by
 obtain⟨c,e,ot,z2⟩:=u4 (P:=P) (H:=λ_=>⟨0,.fz⟩) (κ:=λ_=>⟨0,0,0,true⟩) (F:=F) (w:=w) v i5;rw[List.append_nil]at e;refine⟨?_,by grind⟩;have ak:=hR v ot;rcases af with af | af
 ·obtain⟨u,rfl,hu⟩:=BS af ot;have FG:∀ cs,z≠.agg cs:=λcs bk=>by
   have:=i6.1 ⟨cs,bk⟩;cases v<;>simp[ad.eG,ad.isAgg]at af this
  have bk:z.cells=#[z]:=by
   cases z<;>first | rfl | grind
  cases v<;>simp only[ad.eG,Bool.false_eq_true]at af<;>exact bk
 ·obtain⟨cs,rfl⟩:=i6.2 af;have a1:cs.toList=c:=e;cases v<;>simp only[ad.isAgg,Bool.false_eq_true]at af
  ·exact⟨cs,rfl,by rw[<-Array.length_toList,a1,ak];rfl⟩
  ·exact⟨cs,rfl,by rw[<-Array.length_toList,a1,ak];rfl⟩
def KH(P:Program)(k v:ad)(F:Nat->Prop)(w:World)(ms:List MapEntry)(xs:List (k.aj×v.aj)):Prop:=
 ms.length=xs.length/\∀ (j:Nat) (e:MapEntry) (p:k.aj×v.aj),ms[j]?=some e->xs[j]?=some p->ep P k F w e.key p.1/\ep P v F w e.val p.2
theorem u1.es{P:Program}{k v:ad}{F:Nat->Prop}{w:World}{ms:Array MapEntry}{clk:Nat}{xs:List (k.aj×v.aj)}(h:u1 P k v F w ms clk xs):KH P k v F w ms.toList xs:=by
 obtain⟨E,U,ah,aZ⟩:=h;refine⟨by omega,λj e p he ao=>?_⟩;obtain⟨aG,rfl⟩:=List.getElem?_eq_some_iff.1 ao;obtain⟨fS,rfl⟩:=List.getElem?_eq_some_iff.1 he;obtain⟨a,b,c,d,_⟩:=ah j aG (by omega);exact⟨⟨a,by grind⟩,c,by grind⟩
theorem aeh{a:Act}{w:World}{κ:Nat->bD}{F:Nat->Prop}(M:bl C s a w κ F){k v:ad}{av:aF}{u:Value}{xs:List (k.aj×v.aj)}(h:(B6 k v av).run s.ab=some xs)(hu:bu C.P s.ab κ F w av u) :
  (u=.map none/\xs=[])\/∃ r ms clk,u=.map (some r)/\w.heap[r]?=some (.map ms clk)/\KH C.P k v F w ms.toList xs:=by
 have cB:∀ {xs:List (k.aj×v.aj)},bJ C.P (.map k v) F w [u] xs->(u=.map none/\xs=[])\/∃ r ms clk,u=.map (some r)/\w.heap[r]?=some (.map ms clk)/\KH C.P k v F w ms.toList xs:=by
  intro xs ai;rcases ai with⟨ay,aN⟩ | ⟨r,ms,clk,ay,E,U,ah,aZ,bM,dt⟩
  ·grind
  ·exact .inr ⟨r,ms,clk,(List.cons.inj ay).1,U,u1.es ⟨ah,aZ,bM,dt⟩⟩
 cases av with
 | val t es=>
  simp only[B6,aq.bL]at h;exact cB ((dT rfl).1 (Fl h hu)).2
 | jB x=>
  simp only[bu]at hu;subst hu;have ai:u=.map none/\xs=[]:=by
   unfold B6 at h;split at h
   ·grind
   ·simp_all
   ·grind
   ·cases h
  grind
 | fH b g=>
  simp only[B6,aq.e5,aq.bL]at h;split at h
  ·rename_i aC;have aU:=M.bE b;unfold cE at aU;split at h
   ·rename_i k' h5 es aa;obtain⟨e,rfl⟩:=kK h;cases e;rw[aa]at aU;obtain⟨ms,clk,E,U⟩:=aU;exact .inr ⟨_,ms,clk,hu.2 aC.symm (by rw[aa];rfl),E,U.es⟩
   ·rename_i k' h5 es aa;obtain⟨e,rfl⟩:=kK h;cases e;rw[aa]at aU;have:=hu.2 aC.symm (by rw[aa];rfl);simp only[jC]at aU;grind
   grind
  grind
 | _=>cases h
theorem aei{ty:TypeId}{r:Option Operand}(bh:∀ i,o.dst=some i->i<C.nt)(ag:o.op=.makeMap ty r)(h:(bt C.aO T bg (a8 C.aO s.ax) o).run s.ab=some res):cJ C o s res:=by
 simp only[bt,ag]at h;split at h
 ·cases h
 ·rename_i Sk;have Sk:r=none:=by simp_all
  subst Sk;split at h
  ·rename_i k v aK;obtain⟨b,aw,an⟩:=qX h;simp only[Option.some.injEq]at an;subst an;intro a w κ F Q M _ _;have c_:(execOp a.eval o).run C.P w=.ok (.value (.map (some w.heap.size))) (w.alloc (.map #[] 0)):=by
    simp[execOp,ag,Instr.makeMap]
   have E:=M.alloc (b:=b) (x:=⟨(s.ab b).gen+1,.mp k v []⟩) (M.gL (bh b aw)) (Nat.lt_succ_self _) (o:=.map #[] 0) (k:=⟨w.heap.size,0,0,false⟩) rfl λH κ' _ _ _=>
    ⟨#[],0,p2 _ _,rfl,by simp,λi G=>by simp,λi j G=>by simp⟩
   refine hx (by grind) c_ ⟨_,F,bl.set (s:=s.cx b _) E bh ⟨⟨by simp[aB.cx],rfl⟩,λ_ _=>by simp⟩⟩
  ·cases h
theorem aej(aV:dS C.P T){ty:TypeId}{m x:Operand}{ok:Bool}(bh:∀ i,o.dst=some i->i<C.nt)(ag:o.op=.lookup ty m x ok)(h:(bt C.aO T bg (a8 C.aO s.ax) o).run s.ab=some res):cJ C o s res:=by
 simp only[bt,ag,y_]at h;split at h
 ·rename_i k v aK;split at h
  ·rename_i hc;simp only[Bool.and_eq_true,Bool.or_eq_true]at hc;obtain⟨i,j,G,mQ,hi⟩:=(aV.cb aK (by simp)).mp;simp only[aq.e6,Option.bind_eq_some_iff,bN,aq.bL,Option.some.injEq]at h;obtain⟨es,o_,⟨y,l⟩,aS,rfl⟩:=h;refine cJ.pure (by grind) bh λa w κ F M bd _=>?_;have hm:=cN M m rfl bd.1;have ai:=Ca M aS (cN M x rfl bd.2);obtain⟨inf,z,i1,i2,i3,i4,i5,i6⟩:=kp hi.ko;have hzero:ep C.P v F w z v.dh:=aeg hc.2 i5 i6;have fin:∀ (u:Value) (q:Option v.aj),ep C.P v F w u (q.getD v.dh)->bu C.P s.ab κ F w (RB v q ok) (if ok=true then .tuple #[u,.bool q.isSome] else u):=by
    intro u q ah;cases ok with
    | true=>
     refine⟨[u,.bool q.isSome],rfl,rfl,λi G=>?_⟩;match i,G with
     | 0,_=>exact ah
     | 1,_=>exact ff.2 rfl
    | false=>exact ah
   have mb:tB k=true:=hc.1;have fi:k.kM=true/\k.j6<=100:=by simpa [tB]using mb
   rcases aeh M o_ hm with⟨hu,aA⟩ | ⟨r,ms,clk,hu,hw,ka⟩
   ·subst aA;have eb:=(Cu (em:=true) k 10000 fi.1 (by omega)).1 mQ ai;obtain⟨f,f1,f2⟩:=w_ (β:=v.aj) (xs:=[]) (es:=[]) mb mQ ai rfl (λj e p h=>by cases h);rcases f2 with⟨rfl,_⟩ | ⟨j,e,p,E,_⟩
    ·refine⟨_,?_,fin z none hzero⟩;simp only[execOp,ag,hu,Instr.lookup,Sem.run_bind,dC G,Result.andThen_ok,Sem.run_pure];simp only[show (#[]:Array MapEntry).isEmpty=true from rfl,eb,Result.andThen_ok,f1];cases ok<;>simp[qV i1 i4]
    grind
   ·have eb:=(Cu (em:=ms.isEmpty) k 10000 fi.1 (by omega)).1 mQ ai;obtain⟨f,f1,f2⟩:=w_ (β:=v.aj) (xs:=es) (es:=ms.toList) mb mQ ai ka.1 (λj e p E U=>by
     have:=(ka.2 j e p E U).1;exact⟨this.1,fe k (λ_ _=>trivial) (c8.refl F w) this.2⟩)
    have eU:(getObj r).run C.P w=.ok (.map ms clk) w:=by simp[getObj,Sem.run,hw]
    rcases f2 with⟨rfl,eD⟩ | ⟨j,e,p,E,U,ah,aZ,rfl⟩
    ·refine⟨_,?_,by rw[(Sj eD).1];exact fin z none hzero⟩;simp only[execOp,ag,hu,Instr.lookup,Sem.run_bind,dC G,Result.andThen_ok,Sem.run_pure,eU,eb,f1,qV i1 i4];rfl
    ·refine⟨_,?_,by rw[(Si U ah aZ).1];exact fin e.val (some p.2) (ka.2 j e p E U).2⟩;simp only[execOp,ag,hu,Instr.lookup,Sem.run_bind,dC G,Result.andThen_ok,Sem.run_pure,eU,eb,f1];rfl
  ·cases h
 ·cases h
theorem KI(P:Program)(w:World)(ve ey:Value):∃ k' w',(Instr.keyThatStays ve ey).run P w=.ok k' w'/\(k'=ey\/k'=ve)/\(w'=w\/w'=w.drew):=by
 unfold Instr.keyThatStays;split
 ·exact⟨ey,w,rfl,.inl rfl,.inl rfl⟩
 ·have ar : (Question.extern "map.whichKeyStays" 2).forced = false := rfl;simp only[Sem.run_bind,run_choose,ar,Bool.false_eq_true,if_false,Result.andThen_ok];split
  ·exact⟨ey,_,rfl,.inl rfl,.inr rfl⟩
  ·exact⟨ve,_,rfl,.inr rfl,.inr rfl⟩
theorem sd{P:Program}{w:World}{r:Nat}{es:Array MapEntry}{clk:Nat}(h:w.heap[r]?=some (.map es clk))(o:Obj):(setObj r o).run P w=.ok () { w with heap:=w.heap.setIfInBounds r o }:=by
 simp[setObj,Sem.run,h]
theorem KJ(aV:dS C.P T){ty:TypeId}{m x y:Operand}(KF:o.dst=none)(ag:o.op=.mapUpdate ty m x y\/o.op=.insert ty m x y)(h:(bt C.aO T bg (a8 C.aO s.ax) o).run s.ab=some res):cJ C o s res:=by
 have aw:∀ c,o.op≠.defer c:=by grind
 have kO:∀ aI,bt C.aO T bg aI o=qU T aI ty m x y:=λaI=>by rcases ag with ag | ag<;>simp only[bt,ag]
 have hex:∀ aI w,(execOp aI o).run C.P w=(do Instr.mapUpdate ty (aI m) (aI x) (aI y);pure .skip:Sem Next).run C.P w:=λaI w=>by rcases ag with ag | ag<;>simp only[execOp,ag]
 rw[kO]at h;simp only[qU]at h;split at h
 ·rename_i k v aK;obtain⟨ld,zt,G,mQ,hi⟩:=(aV.cb aK (by simp)).mp;split at h
  ·rename_i hc;split at h
   ·rename_i b g tN;simp only[aq.e6,Option.bind_eq_some_iff,aq.run_bind,aq.e5,aq.bL]at h;obtain⟨⟨dK,oj⟩,ai,⟨mR,om⟩,aS,h⟩:=h;split at h
    ·rename_i aC;obtain⟨aC,p8⟩:=aC;have p8:b ∉ oj++om:=by
      grind
     split at h
     ·rename_i k' h5 es aa;simp only[Option.map_eq_some_iff]at h;obtain⟨Sl,o_,rfl⟩:=h;obtain⟨e,rfl⟩:=kK o_;cases e;intro a w κ F Q M bd _;obtain⟨F',f1,bc,f2⟩:=bl.k_ ((mO ai).append (mO aS)) M;have hm:bu C.P s.ab κ F w (use (a8 C.aO s.ax m)).2 (a.eval m):=cN M m rfl bd.1;rw[tN]at hm;have kP:=hm.2 aC.symm (by rw[aa];rfl);have tO:=mf M.bE f1 ai f2.left (cN M x rfl bd.2.1);have FM:=mf M.bE f1 aS f2.right (cN M y rfl bd.2.2);have pb:(s.cB (oj++om)).ab b=s.ab b:=by simp only[aB.cB];grind
      have aU:=bc.bE b;unfold cE at aU;rw[pb,aa]at aU;obtain⟨ms,clk,hw,tP⟩:=aU;have fi:k.kM=true/\k.j6<=100:=by simpa [tB]using hc
      have eb:=(Cu (em:=false) k 10000 fi.1 (by omega)).1 mQ tO;have ka:=tP.es;obtain⟨f,du,dF⟩:=w_ (β:=v.aj) (xs:=es) (es:=ms.toList) hc mQ tO ka.1 (λj e p E U=>(ka.2 j e p E U).1);have eU:(getObj (κ b).ab).run C.P w=.ok (.map ms clk) w:=by simp[getObj,Sem.run,hw]
      have o':s.fY ((jG (oj++om)).run s.ab++[(b,⟨(s.ab b).gen,.mp k v (lJ es dK mR)⟩)])=(s.cB (oj++om)).cx b ⟨(s.ab b).gen,.mp k v (lJ es dK mR)⟩:=by
       rw[Cd,tE]
      have gn:fo (s.cB (oj++om)).ab κ (λi=>if i=b then (⟨(s.ab b).gen,.mp k v (lJ es dK mR)⟩:bK) else (s.cB (oj++om)).ab i) κ:=
       qP (by rw[pb]) (λh=>by cases h) (λh=>by cases h) (λ_=>by rw[pb,aa];rfl) (λh=>by cases h)
      obtain⟨hv,KK,FN,Sm⟩:=tP;have done:∀ (cn:World) (FO:Array MapEntry) (FP:Nat),(cn=w\/cn=w.drew)->
        (execOp a.eval o).run C.P w=.ok .skip { cn with heap:=cn.heap.setIfInBounds (κ b).ab (.map FO FP) }->
        (∀ {w'},c8 F' w w'->u1 C.P k v F' w' FO FP (lJ es dK mR))->
        o.wpIn (dR C.r) 0 C.P a w (λa' w'=>cr C (s.h8 o.dst ⟨(use (a8 C.aO s.ax m)).1/\(use (a8 C.aO s.ax x)).1/\(use (a8 C.aO s.ax y)).1,True,.undef,(jG (oj++om)).run s.ab++[(b,⟨(s.ab b).gen,.mp k v (lJ es dK mR)⟩)]⟩) a' w') Q:=by
       intro cn FO FP lR c_ aek;have c7:cn.heap=w.heap:=by rcases lR with rfl | rfl<;>rfl
       have iY:df w cn:=by rcases lR with rfl | rfl<;>exact⟨rfl,rfl,rfl⟩
       refine Fz aw c_ ⟨κ,F',?_⟩;simp only[aB.h8];rw[o',KF];refine bc.o6 (b:=b) (x:=⟨(s.ab b).gen,.mp k v (lJ es dK mR)⟩) (by rw[pb,aa];rfl) rfl gn (λh=>by cases h) (λ_=>by rw[pb,aa];rfl) (λr KL=>?_) (by grind) ⟨iY.os,iY.tape,iY.output⟩ λH _ _ he=>?_
       ·grind
       ·have cc:(κ b).ab<w.heap.size:=(Array.getElem?_eq_some_iff.1 hw).1;exact⟨FO,FP,by grind,aek he⟩
      rcases dF with⟨rfl,eD⟩ | ⟨j,e,p,E,U,ah,aZ,rfl⟩
      ·refine done w (ms.push { key:=a.eval x,val:=a.eval y,born:=clk }) (clk+1) (.inl rfl) ?_ λ{w'} he=>?_
       ·rw[hex];simp only[kP,Instr.mapUpdate,Sem.run_bind,dC G,Result.andThen_ok,eU,eb,du,sd hw,Sem.run_pure]
       ·rw[(Sj eD).2];refine⟨by grind,?_,λi G dM=>?_,λi j G aG e=>?_⟩
        ·rw[List.map_append,List.nodup_append];refine⟨KK,by simp,λq bq q' tH=>?_⟩;obtain⟨p,ao,rfl⟩:=List.mem_map.1 bq;simp only[List.map_cons,List.map_nil,List.mem_singleton]at tH;subst tH;intro e;have:=eD p ao;rw[e,(KG k fi.1 _ _).2 rfl]at this;grind
        ·by_cases qa:i<es.length
         ·obtain⟨aW,aY,bO,gC,pc⟩:=FN i qa (by omega);have ay:(es++[(dK,mR)])[i]=es[i]:=List.getElem_append_left qa;have aN:(ms.push { key:=a.eval x,val:=a.eval y,born:=clk })[i]=ms[i]'(by omega):=Array.getElem_push_lt (by omega);rw[ay,aN];exact⟨aW,fe k (λ_ h=>h) he aY,bO,fe v (λ_ h=>h) he gC,by omega⟩
         ·have ael:i=es.length:=by grind
          subst ael;have ay:(es++[(dK,mR)])[es.length]=(dK,mR):=by simp
          have aN:(ms.push { key:=a.eval x,val:=a.eval y,born:=clk })[es.length]={ key:=a.eval x,val:=a.eval y,born:=clk }:=by
           grind
          rw[ay,aN];exact⟨tO.1,fe k (λ_ h=>h) he tO.2,FM.1,fe v (λ_ h=>h) he FM.2,by simp⟩
        ·have born:∀ i (h:i<(ms.push { key:=a.eval x,val:=a.eval y,born:=clk }).size),(∃ de:i<ms.size,(ms.push { key:=a.eval x,val:=a.eval y,born:=clk })[i]=ms[i])\/(i=ms.size/\((ms.push { key:=a.eval x,val:=a.eval y,born:=clk })[i]).born=clk):=by
          grind
         grind
      ·have aG:j<es.length:=(List.getElem?_eq_some_iff.1 U).1;have xa:j<ms.size:=by omega
       have KM:ms[j]=e:=by
        grind
       have mS:es[j]=p:=(List.getElem?_eq_some_iff.1 U).2;have aem:dK=p.1:=(KG k fi.1 _ _).1 ah;obtain⟨jo,cn,cj,cK,eu⟩:=KI C.P w e.key (a.eval x);have lR:cn.heap[(κ b).ab]?=some (.map ms clk):=by rcases eu with rfl | rfl<;>exact hw
       refine done cn (ms.modify j λe=>{ e with key:=jo,val:=a.eval y }) clk eu ?_ λ{w'} he=>?_
       ·rw[hex];rw[Nat.zero_add]at du;simp only[kP,Instr.mapUpdate,Sem.run_bind,dC G,Result.andThen_ok,eU,eb,du];have nN:((ms[j]?).map (·.key)).getD (a.eval x)=e.key:=by
         grind
        rw[nN,cj];simp only[Result.andThen_ok,sd lR,Sem.run_pure]
       ·rw[(Si U ah aZ).2];refine⟨by grind,?_,λi G dM=>?_,λi j9 G fS a1=>?_⟩
        ·have:(es.set j (p.1,mR)).map (·.1)=es.map (·.1):=by
          apply List.ext_getElem?;grind
         grind
        ·have qa:i<es.length:=by grind
         have KN:i<ms.size:=by omega
         obtain⟨aW,aY,bO,gC,pc⟩:=FN i qa KN;by_cases zu:j=i
         ·subst zu;have ay:(es.set j (p.1,mR))[j]=(p.1,mR):=by simp
          have aN:(ms.modify j λe=>{ e with key:=jo,val:=a.eval y })[j]={ key:=jo,val:=a.eval y,born:=ms[j].born }:=by grind
          rw[ay,aN];have u9:ep C.P k F' w jo p.1:=by
           rcases cK with rfl | rfl
           ·grind
           ·rw[<-KM,<-mS];exact⟨aW,aY⟩
          exact⟨u9.1,fe k (λ_ h=>h) he u9.2,FM.1,fe v (λ_ h=>h) he FM.2,pc⟩
         ·have ay:(es.set j (p.1,mR))[i]=es[i]:=by grind
          have aN:(ms.modify j λe=>{ e with key:=jo,val:=a.eval y })[i]=ms[i]:=by grind
          rw[ay,aN];exact⟨aW,fe k (λ_ h=>h) he aY,bO,fe v (λ_ h=>h) he gC,pc⟩
        grind
     grind
    grind
   ·cases h
  ·cases h
 ·cases h
end
end Go.Fer
namespace Go.Fer
open Go.RowKit
section
variable {C:b_} {T:Nat->ad} {bg:Nat->Option aP} {o:Oper} {s:aB} {res:eC}
theorem Sn{P:Program}{F:Nat->Prop}{w:World}{e:ad}{z:Value}(bM:j4 e z.cells.toList=some [])(n:Nat) :
  gp P e F w ((Array.range (n*e.size)).map (λi=>z.cells[i % z.cells.size]!)).toList (List.replicate n e.dh):=by
 obtain⟨c,zv,ot,z2⟩:=u4 (P:=P) (H:=λ_=>⟨0,.fz⟩) (κ:=λ_=>⟨0,0,0,true⟩) (F:=F) (w:=w) e bM;rw[List.append_nil]at zv;have tQ:z.cells.size=e.size:=by rw[<-Array.length_toList,zv];exact hR e ot
 refine⟨by simp,λi G=>?_⟩;have dM:i<n:=by grind
 have hle:(i+1)*e.size<=n*e.size:=Nat.mul_le_mul_right _ (by omega);rw[Nat.add_mul]at hle;have:((((Array.range (n*e.size)).map (λi=>z.cells[i % z.cells.size]!)).toList.drop (i*e.size)).take e.size)=z.cells.toList:=by
  apply List.ext_getElem?;intro j;simp only[List.getElem?_take,List.getElem?_drop];split
  ·rename_i aG;have fS:j<z.cells.size:=by omega
   rw[Array.getElem?_toList,Array.getElem?_toList];have zo:(i*e.size+j) % z.cells.size=j:=by rw[tQ,Nat.add_comm,Nat.add_mul_mod_self_right,Nat.mod_eq_of_lt aG]
   grind
  grind
 grind
theorem aen{n:Int}(aX:0<=n)(E:n<=4294967296):IntKind.i64.wrap n=n:=by
 simp only[IntKind.wrap,IntKind.signed,IntKind.bits];grind
theorem aeo(aV:dS C.P T){ty:TypeId}{l c:Operand}(bh:∀ i,o.dst=some i->i<C.nt)(ag:o.op=.makeSlice ty l c)(h:(bt C.aO T bg (a8 C.aO s.ax) o).run s.ab=some res):cJ C o s res:=by
 simp only[bt,ag,Fu]at h;split at h
 ·rename_i e aK;split at h
  ·rename_i n m ak hm;have dp:=aV.cb aK (by simp);obtain⟨jK,aG,iZ,ov⟩:=dp.sl;obtain⟨inf,z,i1,i2,i3,i4,i5,i6⟩:=kp iZ.ko;obtain⟨b,aw,an⟩:=qX h;simp only[Option.some.injEq]at an;subst an;intro a w κ F Q M bd hc;have aep:=oo (cN M l rfl bd.1) ak;have iY:=oo (cN M c rfl bd.2) hm;obtain⟨c0,rfl,bF⟩:0<=n/\n=m/\b6 n.toNat:=hc;unfold b6 at bF;obtain⟨k,rfl⟩:∃ k:Nat,n=k:=⟨n.toNat,by omega⟩
   simp only[Int.toNat_natCast]at bF;have hw:IntKind.i64.wrap (k:Int)=k:=aen (by omega) (by omega);let cs:Array Value:=(Array.range (k*e.size)).map (λi=>z.cells[i % z.cells.size]!);have jk:gp C.P e F w cs.toList (List.replicate k e.dh):=Sn i5 k;have axf:inf.bytes*k<=2 ^ 47:=by
    calc inf.bytes*k<=1024*4294967296:=Nat.mul_le_mul i3 (by omega)
     _<=2 ^ 47:=by decide
   have c_:(execOp a.eval o).run C.P w=.ok (.value (.slice (some ⟨w.heap.size,0,none⟩) k k)) (w.alloc (.cells cs jK)):=by
    have aeq:¬((inf.bytes:Int)*(k:Int) > 2 ^ 48):=by
     omega
    have mT:¬((k:Int)<0):=by omega
    have w9:¬(k*inf.bytes > roomBytes):=by
     have:roomBytes=2 ^ 47:=rfl;grind
    have u9:¬((k:Int) > (k:Int)):=by omega
    simp only[execOp,ag,Instr.makeSlice,aep.1,iY.1,Sem.run_bind,dC aG,Result.andThen_ok,asInt,asIntOf,Sem.run_pure,Fw i1,hw,aeq,mT,u9,decide_false,Bool.or_false,Bool.false_or,Bool.false_eq_true,if_false,run_askRoom,Int.toNat_natCast,r5 i1,i2];by_cases se:k*e.size=0
    ·have aer:cs=#[]:=Array.eq_empty_of_size_eq_zero (by grind);rw[aer];have aes:(Array.map (λ_:Nat=>(default:Value)) (Array.range 0))=#[]:=by simp
     simp[se,newRow];rw[aes]
    ·simp[se,qV i1 i4,newRow,cs]
   have ah:=M.Co (b:=b) (g:=(s.ab b).gen+1) (zs:=List.replicate k e.dh) (k:=⟨w.heap.size,0,k,false⟩) (w':=w.alloc (.cells cs jK)) (Nat.lt_succ_self _) (.inr rfl) (by simp) (λr M=>o5 w _ M) (λ_=>by simp) ⟨rfl,rfl,rfl⟩
    (λH κ'=>⟨λh=>(by cases h),λ_=>⟨cs,jK,p2 w _,by grind,by simp,by grind,(jk.Cm (pre:=[]) (post:=[]) (by simp)).later (c8.alloc M.dd _)⟩⟩)
   refine hx (by grind) c_ ⟨_,F,bl.set (s:=s.cx b _) ah bh ⟨⟨by simp[aB.cx],rfl⟩,λ_ _=>by simp[aB.cx,bD.slice,bP.len]⟩⟩
  ·cases h
 ·cases h
theorem gp.take{P:Program}{e:ad}{F:Nat->Prop}{w:World}{all:List Value}{xs:List e.aj}(h:gp P e F w all xs){n:Nat}(aA:n<=xs.length):gp P e F w (all.take (n*e.size)) (xs.take n):=by
 have hle:n*e.size<=xs.length*e.size:=Nat.mul_le_mul_right _ aA;refine⟨by simp only[List.length_take,h.1];simp,λi G=>?_⟩;have dM:i<n:=by grind
 have aet:(i+1)*e.size<=n*e.size:=Nat.mul_le_mul_right _ (by omega);rw[Nat.add_mul]at aet;have:((all.take (n*e.size)).drop (i*e.size)).take e.size=(all.drop (i*e.size)).take e.size:=by
  rw[List.drop_take,List.take_take,Nat.min_eq_left (by omega)]
 rw[this];simpa using h.2 i (by omega)
theorem Sp{P:Program}{w:World}{e:ad}{q:Option Addr}{n cap:Nat}{xs:List e.aj}{F:Nat->Prop}(aA:n<=xs.length)(h:(q=none/\xs=[]/\cap=0)\/∃ p all,q=some p/\gp P e F w all xs/\ks w p all) :
  ∃ all,(Builtin.firstCells e.size n (.slice q xs.length cap)).run P w=.ok all.toArray w/\gp P e F w all (xs.take n):=by
 rcases h with⟨rfl,rfl,rfl⟩ | ⟨p,all,rfl,b9,a2⟩
 ·exact⟨[],by rfl,by simp[gp]⟩
 ·have hle:n*e.size<=xs.length*e.size:=Nat.mul_le_mul_right _ aA;refine⟨all.take (n*e.size),?_,b9.take aA⟩;simp only[Builtin.firstCells];have ak:(all.take (n*e.size)).length=n*e.size:=by simp only[List.length_take,b9.1];omega
  have M:ks w p (all.take (n*e.size)):=⟨λaX=>a2.1 (by grind),λj aG=>by
   have fS:j<all.length:=by grind
   rw[List.getElem_take];exact a2.2 j fS⟩
  have:=Fy (P:=P) M;grind
theorem lF.gf{P:Program}{e:ad}{F:Nat->Prop}{w w':World}{cs di:Array Value}{off aT:Nat}{xs zs:List e.aj}{ey:List Value}(h:lF P e F w cs off xs)(he:c8 F w w')(aA:gp P e F w ey zs)(ak:aT+zs.length<=xs.length)
  (nJ:off+xs.length*e.size<=cs.size) (hc:di.toList=cs.toList.take (off+aT*e.size)++(ey++cs.toList.drop (off+aT*e.size+ey.length))):lF P e F w' di off (Go.Fer.gf xs aT zs):=by
 have hlen:(Go.Fer.gf xs aT zs).length=xs.length:=by simp[Go.Fer.gf];omega
 have aeu:(aT+zs.length)*e.size<=xs.length*e.size:=Nat.mul_le_mul_right _ ak;rw[Nat.add_mul]at aeu;have pa:=aA.1;have gH:(cs.toList.take (off+aT*e.size)).length=off+aT*e.size:=by grind
 intro i G;rw[hlen]at G;have aev:i<aT\/(aT<=i/\i<aT+zs.length)\/aT+zs.length<=i:=by omega
 rcases aev with E | ⟨E,U⟩ | E
 ·obtain⟨bj,d1,d2⟩:=h i G;have R_:=hR e d2;have ay:(Go.Fer.gf xs aT zs)[i]'(by omega)=xs[i]:=by
   simp only[Go.Fer.gf,List.append_assoc];grind
  rw[ay];refine⟨bj,λj aG=>?_,fe e (λ_ h=>h) he d2⟩;have hle:(i+1)*e.size<=aT*e.size:=Nat.mul_le_mul_right _ (by omega);rw[Nat.add_mul]at hle;rw[<-Array.getElem?_toList,hc,List.getElem?_append_left (by omega),List.getElem?_take,if_pos (by omega),Array.getElem?_toList];grind
 ·have Cr:=aA.Cm (pre:=cs.toList.take (off+aT*e.size)) (post:=cs.toList.drop (off+aT*e.size+ey.length)) hc;obtain⟨bj,d1,d2⟩:=Cr (i - aT) (by omega);have ay:(Go.Fer.gf xs aT zs)[i]'(by omega)=zs[i - aT]'(by omega):=by
   simp only[Go.Fer.gf,List.append_assoc];grind
  rw[ay];refine⟨bj,λj aG=>?_,fe e (λ_ h=>h) he d2⟩;have:=d1 j aG;rw[gH]at this;rw[<-this];congr 1;have:i*e.size=aT*e.size+(i - aT)*e.size:=by rw[<-Nat.add_mul];grind
  omega
 ·obtain⟨bj,d1,d2⟩:=h i G;have R_:=hR e d2;have ay:(Go.Fer.gf xs aT zs)[i]'(by omega)=xs[i]:=by
   simp only[Go.Fer.gf,List.append_assoc];have gn:(xs.take aT).length=aT:=by grind
   rw[List.getElem_append_right (by omega),List.getElem_append_right (by omega)];grind
  rw[ay];refine⟨bj,λj aG=>?_,fe e (λ_ h=>h) he d2⟩;have FQ:(aT+zs.length)*e.size<=i*e.size:=Nat.mul_le_mul_right _ E;rw[Nat.add_mul]at FQ;rw[<-Array.getElem?_toList,hc,List.getElem?_append_right (by omega),List.getElem?_append_right (by omega),List.getElem?_drop,gH];grind
theorem gp.one{P:Program}{e:ad}{F:Nat->Prop}{w:World}{ey:List Value}{ys:List e.aj}(h:gp P e F w ey ys)(la:0<e.size):∀ v∈ey,v.oneCell'=true:=by
 intro v af;obtain⟨j,aG,rfl⟩:=List.mem_iff_getElem.1 af;have hdiv:j / e.size<ys.length:=(Nat.div_lt_iff_lt_mul la).2 (by rw[<-h.1];exact aG);have nL:=h.2 (j / e.size) hdiv;have iz:=y5 (P:=P) (H:=λ_=>⟨0,.fz⟩) (κ:=λ_=>⟨0,0,0,true⟩) e nL;have zo:=Nat.mod_lt j la;have ad5:j / e.size*e.size+j % e.size=j:=Nat.div_add_mod' j e.size;have Cq:((ey.drop (j / e.size*e.size)).take e.size).length=e.size:=hR e nL;have:=(iz.kL (j % e.size) (by rw[iz.len,Cq];omega)).2;grind
theorem aew(aV:dS C.P T){args:Array Operand}{dn:Array TypeId}(bh:∀ i,o.dst=some i->i<C.nt)(ag:o.op=.call { callee:=.builtin .copy,args:=args,argTypes:=dn })(h:(bt C.aO T bg (a8 C.aO s.ax) o).run s.ab=some res):cJ C o s res:=by
 obtain⟨args⟩:=args;obtain⟨dn⟩:=dn;have aw:∀ c,o.op≠.defer c:=by grind
 simp only[bt,ag,mL,Fv]at h;split at h
 ·rename_i x y t u;split at h
  ·rename_i e aN aK hu;have dp:=aV.cb aK (by simp);obtain⟨jK,aG,iZ,ov⟩:=dp.sl;obtain⟨inf,z,i1,i2,i3,i4,i5,i6⟩:=kp iZ.ko;have la:0<e.size:=Nat.pos_of_ne_zero ov;split at h
   ·rename_i b g aT G Cv;simp only[aq.e6,Option.bind_eq_some_iff,aq.e5,aq.bL]at h;obtain⟨⟨ys,l⟩,j8,h⟩:=h;split at h
    ·rename_i aC;split at h
     ·rename_i a1 xs aa;split at h
      ·rename_i q2;subst q2;simp only[Option.some.injEq]at h;subst h;intro a w κ F Q M bd _;obtain⟨q',cap',tJ,nO⟩:=sa M j8 (cN M y rfl bd.2);have ai:bu C.P s.ab κ F w (use (a8 C.aO s.ax x)).2 (a.eval x):=cN M x rfl bd.1;have aU:=M.bE b;unfold cE at aU;rw[aa]at aU;have place:aT<=G.getD xs.length/\G.getD xs.length<=xs.length/\(((κ b).e8=true/\∃ cap,a.eval x=.slice none 0 cap)\/((κ b).e8=false/\∃ ml cap,a.eval x=.slice (some ⟨(κ b).ab,ml,none⟩) (G.getD xs.length - aT) cap/\(aT<G.getD xs.length->ml=(κ b).off+aT*a1.size))):=by
        split at Cv
        ·rename_i be g' e_;simp only[Option.some.injEq,Prod.mk.injEq]at Cv;obtain⟨rfl,rfl,rfl,rfl⟩:=Cv;rw[e_]at ai;have af:=ai.2 aC.symm (by rw[aa];rfl);rw[aa]at af;simp only[bP.len]at af;refine⟨Nat.zero_le _,Nat.le_refl _,?_⟩;cases aA:(κ be).e8 with
         | true=>exact .inl ⟨rfl,0,by simpa [bD.slice,aA]using af⟩
         | false=>exact .inr ⟨rfl,(κ be).off,(κ be).cap,by simpa [bD.slice,aA]using af,λ_=>by simp⟩
        ·rename_i be g' axg dM e_;simp only[Option.some.injEq,Prod.mk.injEq]at Cv;obtain⟨rfl,rfl,rfl,rfl⟩:=Cv;rw[e_]at ai;obtain⟨⟨aW,aY⟩,bO⟩:=ai.2 aC.symm (by rw[aa];rfl);rw[aa]at aY bO;simp only[bP.len,bP.e4]at aY bO;refine⟨aW,aY,?_⟩;rcases bO with⟨aA,af⟩ | ⟨aA,ml,af,hT,gB⟩
         ·grind
         ·obtain⟨cs,hW,bF,c2,c3,c4,c5⟩:=aU.2 aA;grind
        grind
       obtain⟨jJ,p9,mj⟩:=place;have Sq:∀ m:Nat,m<=ys.length->m<=xs.length->fR .i64 (m:Int):=by
        intro m _ hm;have:=w3 M (b:=b) (by rw[aa];rfl);rw[aa]at this;simp only[bP.len]at this;exact Cc (by omega)
       generalize Sr:G.getD xs.length=c7 at *
       have R4:Nat.min ys.length (c7 - aT)=min (c7 - aT) ys.length:=Nat.min_comm _ _;have aex:(ys.take (c7 - aT)).length=min (c7 - aT) ys.length:=by simp
       have zw:(gf xs aT (ys.take (c7 - aT))).length=xs.length:=by simp[gf];omega
       have gn:fo s.ab κ (λi=>if i=b then (⟨(s.ab b).gen,.bf a1 (gf xs aT (ys.take (c7 - aT)))⟩:bK) else s.ab i) κ:=
        qP rfl (λh=>by cases h) (λ_=>by rw[aa];exact⟨rfl,zw,rfl⟩) (λh=>by cases h) (λh=>by cases h)
       have mN:∀ (w':World) v,(Builtin.copy_ #[t,u] o.type #[a.eval x,a.eval y]).run C.P w=.ok v w'->(execOp a.eval o).run C.P w=.ok (.value v) w':=by
        intro w' v af;refine w5 ag ?_;simp[builtin,af]
       rcases mj with⟨aA,cap,sb⟩ | ⟨aA,ml,cap,sb,aey⟩
       ·have hV:=aU.1 aA;subst hV;have aez:c7=0:=by grind
        subst aez;have KO:aT=0:=by omega
        subst KO;obtain⟨ey,ee,eh⟩:=Sp (P:=C.P) (w:=w) (n:=0) (Nat.zero_le _) nO;have c_:(Builtin.copy_ #[t,u] o.type #[a.eval x,a.eval y]).run C.P w=.ok (.int .i64 ((0:Nat):Int)) w:=by
         simp only[Builtin.copy_,List.getElem?_toArray,List.getElem?_cons_zero,List.getElem?_cons_succ,Sem.run_bind,dC aG,Result.andThen_ok,sb,tJ,Builtin.lenOf,Sem.run_pure,r5 i1,i2,Nat.min_zero];rw[ee];rfl
        refine hx aw (mN w _ c_) ⟨κ,F,bl.set (s:=s.cx b _) ?_ bh (gT.2 ⟨by simp,Sq _ (by simp) (by simp)⟩)⟩;have bG:gf ([]:List a1.aj) 0 (ys.take (0 - 0))=[]:=by rfl
        have es:s.cx b ⟨(s.ab b).gen,.bf a1 (gf ([]:List a1.aj) 0 (ys.take (0 - 0)))⟩=s:=by
         rw[bG];unfold aB.cx;have:(λi=>if i=b then (⟨(s.ab b).gen,.bf a1 []⟩:bK) else s.ab i)=s.ab:=by
          funext i;by_cases G:i=b
          ·subst G;simp only[if_true];rw[<-aa]
          grind
         rw[this]
        grind
       ·obtain⟨cs,hW,bF,c2,c3,c4,c5⟩:=aU.2 aA;have Cf:min (c7 - aT) ys.length<=ys.length:=Nat.min_le_right _ _;obtain⟨ey,ee,eh⟩:=Sp (P:=C.P) (w:=w) Cf nO;have kN:ys.take (min (c7 - aT) ys.length)=ys.take (c7 - aT):=by
         simp
        rw[kN]at eh;have pa:=eh.1;rw[aex]at pa;have nM:=eh.one la;have Ss:xs.length*a1.size<=(κ b).cap*a1.size:=Nat.mul_le_mul_right _ c3;have Cw:(aT+min (c7 - aT) ys.length)*a1.size<=xs.length*a1.size:=Nat.mul_le_mul_right _ (by omega);rw[Nat.add_mul]at Cw;obtain⟨w',di,cj,cK,eu,lM,lN,mh⟩:∃ w' di,(storeCells ⟨(κ b).ab,ml,none⟩ ey).run C.P w=.ok () w'/\w'.heap[(κ b).ab]?=some (.cells di hW (0,0))/\di.toList=cs.toList.take ((κ b).off+aT*a1.size)++(ey++cs.toList.drop ((κ b).off+aT*a1.size+ey.length))/\
          (∀ r,r≠(κ b).ab->w'.heap[r]?=w.heap[r]?)/\w'.heap.size=w.heap.size/\df w w':=by
         by_cases cc:aT<c7
         ·rw[aey cc];obtain⟨w',di,cj,cK,eu,lM,lN,mh⟩:=u' (P:=C.P) ey ((κ b).off+aT*a1.size) 0 w cs bF (by omega) nM;grind
         ·have aX:min (c7 - aT) ys.length=0:=by omega
          rw[aX,Nat.zero_mul]at pa;have:ey=[]:=List.eq_nil_of_length_eq_zero pa;subst this;exact⟨w,cs,by rfl,bF,by simp,λ_ _=>rfl,rfl,df.refl w⟩
        have c_:(Builtin.copy_ #[t,u] o.type #[a.eval x,a.eval y]).run C.P w=.ok (.int .i64 ((min (c7 - aT) ys.length:Nat):Int)) w':=by
         simp only[Builtin.copy_,List.getElem?_toArray,List.getElem?_cons_zero,List.getElem?_cons_succ,Sem.run_bind,dC aG,Result.andThen_ok,sb,tJ,Builtin.lenOf,Sem.run_pure,r5 i1,i2];rw[R4,ee];simp only[Result.andThen_ok,cj];rfl
        refine hx aw (mN w' _ c_) ⟨κ,F,bl.set (s:=s.cx b _) ?_ bh (gT.2 ⟨rfl,Sq _ (by omega) (by omega)⟩)⟩;refine M.o6 (b:=b) (by rw[aa];simp[bP.b1,aA]) (by simp[bP.b1,aA]) gn (λh=>by cases h) (λh=>by cases h) lM lN mh λH mP cc he=>?_;refine⟨λh=>(by grind),λ_=>⟨di,hW,cK,?_,by omega,c4,?_⟩⟩
        ·have:di.size=cs.size:=by
          rw[<-Array.length_toList,eu];simp only[List.length_append,List.length_take,List.length_drop,Array.length_toList];omega
         omega
        ·exact c5.gf he eh (by omega) (by omega) eu
      grind
     grind
    grind
   ·cases h
  ·cases h
 ·cases h
theorem St(ag:(bt C.aO T bg (a8 C.aO s.ax) o).run s.ab=some ⟨True,False,.undef,[]⟩)(h:(bt C.aO T bg (a8 C.aO s.ax) o).run s.ab=some res):cJ C o s res:=by
 rw[ag]at h;cases h;intro a w κ F Q _ _ hc;grind
end
end Go.Fer
namespace Go.Fer
open Go.RowKit
section
variable {C:b_} {T:Nat->ad} {bg:Nat->Option aP} {o:Oper} {s:aB} {res:eC}
theorem aeA{P:Program}{w:World}{len cap:Nat}{aT:Option Value}{l:Option Int}{k k':IntKind}{h m:Int}(ak:(aT=none/\l=none)\/∃ k m,aT=some (.int k m)/\l=some m)
  (E:0<=dr l) (U:dr l<=h) (ah:h<=m) (aZ:m<=(cap:Int)):(Instr.sliceBounds true len cap aT (some (.int k h)) (some (.int k' m))).run P w=.ok ((dr l).toNat,h.toNat,m.toNat) w:=by
 rcases ak with⟨rfl,rfl⟩ | ⟨k,n,rfl,rfl⟩<;>simp only[dr]at E U ⊢
 ·have ay:0<=m/\m<=(cap:Int):=by omega
  have aN:0<=h/\h<=m:=by omega
  have cA:max m 0=m:=by omega
  simp[Instr.sliceBounds,Instr.sliceBound,asIntOf,ay,aN,cA]
 ·have ay:0<=m/\m<=(cap:Int):=by omega
  have aN:0<=h/\h<=m:=by omega
  have cA:max m 0=m:=by omega
  have ea:0<=n/\n<=h:=by omega
  have dU:max h 0=h:=by omega
  simp[Instr.sliceBounds,Instr.sliceBound,asIntOf,ay,aN,cA,ea,dU]
theorem aeB(aV:dS C.P T){ty:TypeId}{x:Operand}{aT G:Option Operand}{o7:Operand}(bh:∀ i,o.dst=some i->i<C.nt)(ag:o.op=.slice ty x aT G (some o7))(h:(bt C.aO T bg (a8 C.aO s.ax) o).run s.ab=some res):cJ C o s res:=by
 simp only[bt,ag,Option.isSome_some,if_true,Fs]at h;split at h
 ·rename_i ol l qT c7 u5 m r_ Kt aeC;have aw:∀ c,o.op≠.defer c:=by grind
  split at h
  ·rename_i bG aK;have dp:=aV.cb aK (by simp);obtain⟨j,aG,iZ,ov⟩:=dp.sl;simp only[aq.e6,Option.bind_eq_some_iff]at h;obtain⟨⟨c,v⟩,fT,h⟩:=h;simp only[bN,aq.bL,Option.some.injEq]at h;subst h;have runs:∀ (a:Act) (w:World) κ F,bl C s a w κ F->ol->qT->u5->∀ (q:Option Addr) (n cap:Nat),a.eval x=.slice q n cap->0<=dr l->dr l<=c7->c7<=m->m<=(cap:Int)->
     (execOp a.eval o).run C.P w=.ok (.value (.slice (if m.toNat=(dr l).toNat then q else q.map (·.add ((dr l).toNat*bG.size))) (c7.toNat - (dr l).toNat) (m.toNat - (dr l).toNat))) w:=by
    intro a w κ F M Ck Cl aeD q n cap af bF c2 c3 c4;have dP:(aT.map a.eval=none/\l=none)\/∃ k m,aT.map a.eval=some (.int k m)/\l=some m:=by
     rcases Cj M r_ Ck with⟨rfl,rfl⟩ | ⟨y,k,m,rfl,rfl,e⟩
     ·exact .inl ⟨rfl,rfl⟩
     ·exact .inr ⟨k,m,by simp[e],rfl⟩
    obtain⟨axh,aY,m2,rfl,aN,cA⟩:∃ y k n,G=some y/\c7=n/\a.eval y=.int k n:=by
     rcases Cj M Kt Cl with⟨_,h⟩ | ⟨y,k,m,rfl,h,e⟩
     ·cases h
     ·exact⟨y,k,m,rfl,Option.some.inj h,e⟩
    obtain⟨bO,ea⟩:∃ k,a.eval o7=.int k m:=by
     rcases Cj M aeC aeD with⟨h,_⟩ | ⟨y,k,m,E,U,e⟩
     ·cases h
     ·cases E;cases U;exact⟨k,e⟩
    subst aN;have:=aeA (P:=C.P) (w:=w) (len:=n) (k:=aY) (k':=bO) dP bF c2 c3 c4;simp[execOp,ag,af,Instr.sliceAt,Instr.slice,dC aG,cA,ea,this,iZ.size]
   unfold RA at fT;split at fT
   ·rename_i e xs e_;simp only[aq.bL]at fT;split at fT
    ·rename_i he;subst he;simp only[Option.some.injEq,Prod.mk.injEq]at fT;obtain⟨rfl,rfl⟩:=fT;refine cJ.pure aw bh λa w κ F M bd hc=>?_;have ai:bu C.P s.ab κ F w (use (a8 C.aO s.ax x)).2 (a.eval x):=cN M x rfl bd.1;rw[e_]at ai;obtain⟨_,a',cap,ay,m1,m2,m3,m4⟩:=(dT rfl).1 ai;have ay:=(List.cons.inj ay).1;simp only[fA]at hc;obtain⟨bF,c2,c3,c4⟩:=hc;subst c3;have hlen:((xs.take c7.toNat).drop (dr l).toNat).length=c7.toNat - (dr l).toNat:=by
      grind
     have axi:(xs.length:Int)<=cap:=by omega
     refine⟨_,runs a w κ F M bd.2.1 bd.2.2.1 bd.2.2.2 a' xs.length cap ay bF c2 (Int.le_refl _) (by omega),(dT rfl).2 ⟨rfl,?_⟩,_,by rw[hlen]⟩;refine⟨_,_,by rw[hlen],by omega,by omega,?_,λp ao u3=>?_⟩
     ·intro aA;split at aA
      ·omega
      ·cases a' with
       | none=>grind
       | some q=>cases aA
     ·cases a' with
      | none=>grind
      | some q=>
       obtain⟨ee,eh,jI⟩:=m4 q rfl (by omega);have bq:p=⟨q.block,q.off+(dr l).toNat*e.size,none⟩:=by
        split at ao
        ·omega
        ·simp only[Option.map_some,Option.some.injEq]at ao;rw[Ci eh]at ao;grind
       subst bq;refine⟨ee,rfl,λi G=>?_⟩;rw[hlen]at G;obtain⟨bj,d1,d2⟩:=jI ((dr l).toNat+i) (by omega);grind
    grind
   ·rename_i e_;simp only[aq.bL,Option.some.injEq,Prod.mk.injEq]at fT;obtain⟨rfl,rfl⟩:=fT;refine cJ.pure aw bh λa w κ F M bd hc=>?_;have ai:bu C.P s.ab κ F w (use (a8 C.aO s.ax x)).2 (a.eval x):=cN M x rfl bd.1;rw[e_]at ai;simp only[bu]at ai;simp only[fA]at hc;obtain⟨bF,c2,c3⟩:=hc;have c_:=runs a w κ F M bd.2.1 bd.2.2.1 bd.2.2.2 none 0 0 ai (by omega) (by omega) (by omega) (by omega);have aX:c7.toNat=0:=by omega
    have E:m.toNat=0:=by omega
    have U:(dr l).toNat=0:=by omega
    rw[aX,E,U]at c_;simp only[if_true,Nat.sub_zero]at c_;exact⟨_,c_,(dT rfl).2 ⟨rfl,none,0,rfl,Nat.le_refl _,by decide,λ_=>rfl,λp ao=>by simp⟩,none,rfl⟩
   ·rename_i b g e_;simp only[aq.e5,aq.bL]at fT;split at fT
    ·rename_i bk;simp only[Bool.and_eq_true,decide_eq_true_eq]at bk;obtain⟨aC,e'⟩:=bk;simp only[Option.some.injEq,Prod.mk.injEq]at fT;obtain⟨rfl,rfl⟩:=fT;refine cJ.pure aw bh λa w κ F M bd hc=>?_;have ai:bu C.P s.ab κ F w (use (a8 C.aO s.ax x)).2 (a.eval x):=cN M x rfl bd.1;rw[e_]at ai;have af:=ai.2 aC.symm e';obtain⟨ee,eh⟩:=w3 M e';simp only[fA]at hc;obtain⟨bF,c2,c3,c4⟩:=hc;cases aA:(κ b).e8 with
     | true=>
      have aX:=ee aA;simp only[bD.slice,aA,if_true]at af;exact⟨_,runs a w κ F M bd.2.1 bd.2.2.1 bd.2.2.2 none 0 0 af bF c2 c3 (by omega),trivial⟩
     | false=>
      have w8:=Kg M e' aA;simp only[bD.slice,aA,Bool.false_eq_true,if_false]at af;exact⟨_,runs a w κ F M bd.2.1 bd.2.2.1 bd.2.2.2 _ _ _ af bF c2 c3 (by omega),trivial⟩
    grind
   ·cases fT
  ·cases h
 ·cases h
theorem aeE{b:Nat}{e:ad}(aa:(s.ab b).body=.bf e []):s.cx b ⟨(s.ab b).gen,.bf e []⟩=s:=by
 unfold aB.cx;have:(λi=>if i=b then (⟨(s.ab b).gen,.bf e []⟩:bK) else s.ab i)=s.ab:=by
  funext i;by_cases G:i=b
  ·subst G;simp only[if_true];rw[<-aa]
  grind
 rw[this]
theorem aeF(aV:dS C.P T){args:Array Operand}{dn:Array TypeId}(bh:∀ i,o.dst=some i->i<C.nt)(ag:o.op=.call { callee:=.builtin .append,args:=args,argTypes:=dn }){b g aT G:Nat}(aD:wW (a8 C.aO s.ax) args.toList=some (b,g,aT,G))
  (h:(B7 T (a8 C.aO s.ax) args.toList dn.toList b g aT G).run s.ab=some res):cJ C o s res:=by
 obtain⟨args⟩:=args;obtain⟨dn⟩:=dn;have aw:∀ c,o.op≠.defer c:=by grind
 simp only[B7]at h;split at h
 ·rename_i x y t u;have e_:(use (a8 C.aO s.ax x)).2=.sub b g aT G:=by
   simp only[wW]at aD;grind
  split at h
  ·rename_i e aN aK hu;have dp:=aV.cb aK (by simp);have va:=aV.cb hu (by simp);obtain⟨jK,aG,iZ,ov⟩:=dp.sl;obtain⟨ad2,fS,_⟩:=va.sl;obtain⟨inf,z,i1,i2,i3,i4,i5,i6⟩:=kp iZ.ko;have la:0<e.size:=Nat.pos_of_ne_zero ov;simp only[aq.e6,Option.bind_eq_some_iff,aq.e5,aq.bL]at h;obtain⟨⟨ys,l⟩,j8,h⟩:=h;split at h
   ·rename_i aC;split at h
    ·rename_i a1 xs aa;split at h
     ·rename_i q2;subst q2;simp only[Option.some.injEq]at h;subst h;intro a w κ F Q M bd hc;change G+ys.length<=xs.length at hc;obtain⟨q',cap',tJ,nO⟩:=sa M j8 (cN M y rfl bd.2);have ai:bu C.P s.ab κ F w (use (a8 C.aO s.ax x)).2 (a.eval x):=cN M x rfl bd.1;rw[e_]at ai;have aU:=M.bE b;unfold cE at aU;rw[aa]at aU;obtain⟨⟨aW,aY⟩,bO⟩:=ai.2 aC.symm (by rw[aa];rfl);rw[aa]at aY bO;simp only[bP.len,bP.e4]at aY bO;have mN:∀ (w':World) v,(Builtin.append_ #[t,u] o.type #[a.eval x,a.eval y]).run C.P w=.ok v w'->(execOp a.eval o).run C.P w=.ok (.value v) w':=by
       intro w' v af;refine w5 ag ?_;simp[builtin,af]
      have zw:(gf xs G ys).length=xs.length:=by simp[gf];omega
      have gn:fo s.ab κ (λi=>if i=b then (⟨(s.ab b).gen,.bf a1 (gf xs G ys)⟩:bK) else s.ab i) κ:=
       qP rfl (λh=>by cases h) (λ_=>by rw[aa];exact⟨rfl,zw,rfl⟩) (λh=>by cases h) (λh=>by cases h)
      rcases bO with⟨aA,af⟩ | ⟨aA,ml,af,hT,gB⟩
      ·have hV:=aU.1 aA;subst hV;have ox:G=0:=by grind
       subst ox;have KO:aT=0:=by omega
       subst KO;have KA:ys=[]:=by grind
       subst KA;obtain⟨ey,ee,eh⟩:=zl (P:=C.P) (w:=w) (cap:=cap') rfl nO;have c_:(Builtin.append_ #[t,u] o.type #[a.eval x,a.eval y]).run C.P w=.ok (.slice none 0 0) w:=by
        rw[af,tJ];simp only[List.length_nil]at ee ⊢;simp[Builtin.append_,dC aG,dC fS,r5 i1,Builtin.lenOf];simp_all
       have bG:gf ([]:List a1.aj) 0 []=[]:=by rfl
       refine hx aw (mN w _ c_) ⟨κ,F,bl.set (s:=s.cx b _) ?_ bh ⟨⟨by simp[aB.cx,aC],rfl⟩,λ_ _=>⟨by simp,.inl ⟨aA,rfl⟩⟩⟩⟩;rw[bG,aeE aa];exact M
      ·obtain⟨cs,hW,bF,c2,c3,c4,c5⟩:=aU.2 aA;obtain⟨ey,ee,eh⟩:=zl (P:=C.P) (w:=w) (cap:=cap') rfl nO;have pa:=eh.1;have nM:=eh.one la;have Ss:xs.length*a1.size<=(κ b).cap*a1.size:=Nat.mul_le_mul_right _ c3;have Cw:(G+ys.length)*a1.size<=xs.length*a1.size:=Nat.mul_le_mul_right _ hc;rw[Nat.add_mul]at Cw;obtain⟨w',di,cj,cK,eu,lM,lN,mh⟩:∃ w' di,(storeCells ⟨(κ b).ab,ml+(G - aT)*a1.size,none⟩ ey).run C.P w=.ok () w'/\w'.heap[(κ b).ab]?=some (.cells di hW (0,0))/\di.toList=cs.toList.take ((κ b).off+G*a1.size)++(ey++cs.toList.drop ((κ b).off+G*a1.size+ey.length))/\
         (∀ r,r≠(κ b).ab->w'.heap[r]?=w.heap[r]?)/\w'.heap.size=w.heap.size/\df w w':=by
        by_cases cc:aT<(κ b).cap
        ·have zx:ml+(G - aT)*a1.size=(κ b).off+G*a1.size:=by
          rw[gB cc,Nat.add_assoc,<-Nat.add_mul];grind
         rw[zx];obtain⟨w',di,cj,cK,eu,lM,lN,mh⟩:=u' (P:=C.P) ey ((κ b).off+G*a1.size) 0 w cs bF (by omega) nM;grind
        ·have aX:ys.length=0:=by omega
         rw[aX,Nat.zero_mul]at pa;have:ey=[]:=List.eq_nil_of_length_eq_zero pa;subst this;exact⟨w,cs,by rfl,bF,by simp,λ_ _=>rfl,rfl,df.refl w⟩
       have w9:G - aT+ys.length<=(κ b).cap - aT:=by omega
       have c_:(Builtin.append_ #[t,u] o.type #[a.eval x,a.eval y]).run C.P w=.ok (.slice (some ⟨(κ b).ab,ml,none⟩) (G - aT+ys.length) ((κ b).cap - aT)) w':=by
        rw[af,tJ];simp only[Builtin.append_,List.getElem?_toArray,List.getElem?_cons_zero,List.getElem?_cons_succ,Sem.run_bind,dC aG,dC fS,Result.andThen_ok,r5 i1,i2,Sem.run_pure,Builtin.lenOf,Bool.false_eq_true,if_false,if_pos w9,Bool.not_false,if_true,ee,u7];simp_all
       refine hx aw (mN w' _ c_) ⟨κ,F,bl.set (s:=s.cx b _) ?_ bh ⟨⟨by simp[aB.cx,aC],rfl⟩,λ_ _=>⟨by simp only[aB.cx,if_true,bP.len,zw];omega,.inr ⟨aA,ml,?_,?_,?_⟩⟩⟩⟩
       ·refine M.o6 (b:=b) (by rw[aa];simp[bP.b1,aA]) (by simp[bP.b1,aA]) gn (λh=>by cases h) (λh=>by cases h) lM lN mh λH mP cc he=>?_;refine⟨λh=>(by grind),λ_=>⟨di,hW,cK,?_,by omega,c4,?_⟩⟩
        ·have:di.size=cs.size:=by
          rw[<-Array.length_toList,eu];grind
         omega
        ·exact c5.gf he eh hc (by omega) eu
       ·grind
       ·simp only[aB.cx,if_true,bP.e4];exact hT
       ·simp only[aB.cx,if_true,bP.e4];exact gB
     grind
    grind
   grind
  ·cases h
 ·cases h
theorem aeG(aV:dS C.P T){args:Array Operand}{dn:Array TypeId}(bh:∀ i,o.dst=some i->i<C.nt)(ag:o.op=.call { callee:=.builtin .clear,args:=args,argTypes:=dn })
  (h:(B8 T (a8 C.aO s.ax) args.toList dn.toList).run s.ab=some res):cJ C o s res:=by
 obtain⟨args⟩:=args;obtain⟨dn⟩:=dn;have aw:∀ c,o.op≠.defer c:=by grind
 simp only[B8]at h;split at h
 ·rename_i x t;split at h
  ·rename_i e aK;have dp:=aV.cb aK (by simp);obtain⟨jK,aG,iZ,ov⟩:=dp.sl;obtain⟨inf,z,i1,i2,i3,i4,i5,i6⟩:=kp iZ.ko;have la:0<e.size:=Nat.pos_of_ne_zero ov;split at h
   ·rename_i b g aT G e_;simp only[aq.e5,aq.bL]at h;split at h
    ·rename_i aC;split at h
     ·rename_i a1 xs aa;split at h
      ·rename_i q2;subst q2;simp only[Option.some.injEq]at h;subst h;intro a w κ F Q M bd _;have ai:bu C.P s.ab κ F w (use (a8 C.aO s.ax x)).2 (a.eval x):=cN M x rfl bd;rw[e_]at ai;have aU:=M.bE b;unfold cE at aU;rw[aa]at aU;obtain⟨⟨aW,aY⟩,bO⟩:=ai.2 aC.symm (by rw[aa];rfl);rw[aa]at aY bO;simp only[bP.len,bP.e4]at aY bO;have mN:∀ (w':World) v,(Builtin.clear_ #[t] o.type #[a.eval x]).run C.P w=.ok v w'->(execOp a.eval o).run C.P w=.ok (.value v) w':=by
        intro w' v af;refine w5 ag ?_;simp[builtin,af]
       have tR:(List.replicate (G - aT) a1.dh).length=G - aT:=by simp
       have zw:(gf xs aT (List.replicate (G - aT) a1.dh)).length=xs.length:=by simp[gf];omega
       have gn:fo s.ab κ (λi=>if i=b then (⟨(s.ab b).gen,.bf a1 (gf xs aT (List.replicate (G - aT) a1.dh))⟩:bK) else s.ab i) κ:=
        qP rfl (λh=>by cases h) (λ_=>by rw[aa];exact⟨rfl,zw,rfl⟩) (λh=>by cases h) (λh=>by cases h)
       have nothing:G - aT=0->gf xs aT (List.replicate (G - aT) a1.dh)=xs:=λaX=>by rw[aX];simp[gf]
       have hF:G - aT=0->s.cx b ⟨(s.ab b).gen,.bf a1 (gf xs aT (List.replicate (G - aT) a1.dh))⟩=s:=λaX=>by
        rw[nothing aX];unfold aB.cx;have:(λi=>if i=b then (⟨(s.ab b).gen,.bf a1 xs⟩:bK) else s.ab i)=s.ab:=by
         funext i;by_cases G:i=b
         ·subst G;simp only[if_true];rw[<-aa]
         grind
        rw[this]
       rcases bO with⟨aA,af⟩ | ⟨aA,ml,af,hT,gB⟩
       ·have hV:=aU.1 aA;subst hV;have ox:G - aT=0:=by grind
        have c_:(Builtin.clear_ #[t] o.type #[a.eval x]).run C.P w=.ok (.tuple #[]) w:=by
         rw[af];simp[Builtin.clear_,dC aG]
        refine hx aw (mN w _ c_) ⟨κ,F,bl.set (s:=s.cx b _) ?_ bh trivial⟩;grind
       ·obtain⟨cs,hW,bF,c2,c3,c4,c5⟩:=aU.2 aA;by_cases aX:G - aT=0
        ·have c_:(Builtin.clear_ #[t] o.type #[a.eval x]).run C.P w=.ok (.tuple #[]) w:=by
          rw[af,aX];simp[Builtin.clear_,dC aG]
         refine hx aw (mN w _ c_) ⟨κ,F,bl.set (s:=s.cx b _) ?_ bh trivial⟩;grind
        ·obtain⟨n,qb⟩:∃ n,G - aT=n+1:=⟨G - aT - 1,by omega⟩
         have jk:gp C.P a1 F w ((Array.range ((G - aT)*a1.size)).map (λi=>z.cells[i % z.cells.size]!)).toList (List.replicate (G - aT) a1.dh):=Sn i5 _;have tQ:z.cells.size=a1.size:=by
          obtain⟨c,zv,ot,z2⟩:=u4 (P:=C.P) (H:=λ_=>⟨0,.fz⟩) (κ:=λ_=>⟨0,0,0,true⟩) (F:=F) (w:=w) a1 i5;rw[List.append_nil]at zv;rw[<-Array.length_toList,zv];exact hR a1 ot
         have pa:=jk.1;rw[tR]at pa;have nM:=jk.one la;revert jk pa nM;generalize lb:((Array.range ((G - aT)*a1.size)).map (λi=>z.cells[i % z.cells.size]!)).toList=ey;intro jk pa nM;have Ss:xs.length*a1.size<=(κ b).cap*a1.size:=Nat.mul_le_mul_right _ c3;have Cw:(aT+(G - aT))*a1.size<=xs.length*a1.size:=Nat.mul_le_mul_right _ (by omega);rw[Nat.add_mul]at Cw;have zx:ml=(κ b).off+aT*a1.size:=gB (by omega);obtain⟨w',di,cj,cK,eu,lM,lN,mh⟩:=u' (P:=C.P) ey ((κ b).off+aT*a1.size) 0 w cs bF (by omega) nM;have c_:(Builtin.clear_ #[t] o.type #[a.eval x]).run C.P w=.ok (.tuple #[]) w':=by
          rw[af,zx];have bk:(Builtin.zeroCells z.cells (G - aT)).toList=ey:=by rw[<-lb,<-tQ];rfl
          simp only[Builtin.clear_,List.getElem?_toArray,List.getElem?_cons_zero,Sem.run_bind,dC aG,Result.andThen_ok,qV i1 i4,qb];simp_all
         refine hx aw (mN w' _ c_) ⟨κ,F,bl.set (s:=s.cx b _) ?_ bh trivial⟩;refine M.o6 (b:=b) (by rw[aa];simp[bP.b1,aA]) (by simp[bP.b1,aA]) gn (λh=>by cases h) (λh=>by cases h) lM lN mh λH mP cc he=>?_;refine⟨λh=>(by grind),λ_=>⟨di,hW,cK,?_,by omega,c4,?_⟩⟩
         ·have:di.size=cs.size:=by
           rw[<-Array.length_toList,eu];grind
          omega
         ·exact c5.gf he jk (by omega) (by omega) (by omega)
      grind
     grind
    grind
   ·cases h
  ·cases h
 ·cases h
end
end Go.Fer
namespace Go.Fer
open Go.RowKit
section
variable {C:b_} {T:Nat->ad} {bg:Nat->Option aP} {o:Oper} {s:aB} {res:eC}
theorem KP{place:Nat->Option (Nat×Nat)}{size:Nat}(ao:∀ i,place i=some (i*size,size)):∀ (qs:List (Nat×Value)) (cs:Array Value),(∀ q∈qs,q.2.cells.size=size/\q.1*size+size<=cs.size)->(qs.map (·.1)).Nodup->
  ∃ di,Instr.fill place cs qs=some di/\di.size=cs.size/\∀ i,i*size+size<=cs.size->(di.toList.drop (i*size)).take size=(match qs.find? (λp=>p.1 == i) with | some q=>q.2.cells.toList | none=>(cs.toList.drop (i*size)).take size)
 | [],cs,_,_=>⟨cs,rfl,rfl,λi _=>rfl⟩
 | (k,v)::qs,cs,h,aA=>by
  obtain⟨E,U⟩:=h (k,v) (by simp);simp only at E U;have FF:=FD v.cells.toList 0 (k*size) cs (by grind);have e:(v.cells.zipIdx.foldl (λ(cs:Array Value) (p:Value×Nat)=>cs.setIfInBounds (k*size+p.2) p.1) cs)=((v.cells.toList.zipIdx 0).foldl (λ(cs:Array Value) (p:Value×Nat)=>cs.setIfInBounds (k*size+p.2) p.1) cs):=by
   rw[<-Array.foldl_toList];simp
  generalize axj:(v.cells.zipIdx.foldl (λ(cs:Array Value) (p:Value×Nat)=>cs.setIfInBounds (k*size+p.2) p.1) cs)=FR at *
  have Su:FR.toList=cs.toList.take (k*size)++(v.cells.toList++cs.toList.drop (k*size+size)):=by
   grind
  have cd:FR.size=cs.size:=by
   rw[<-Array.length_toList,Su];grind
  have Cx:(qs.map (·.1)).Nodup/\k ∉ qs.map (·.1):=by
   grind
  obtain⟨di,aW,aY,bO⟩:=KP ao qs FR (λq bq=>by grind) Cx.1;refine⟨di,?_,by omega,λi G=>?_⟩
  ·simp only[Instr.fill,ao];grind
  ·rw[bO i (by omega)];by_cases mQ:k=i
   ·grind
   ·have:((k,v)::qs).find? (λp=>p.1 == i)=qs.find? (λp=>p.1 == i):=by grind
    rw[this];have jk:(FR.toList.drop (i*size)).take size=(cs.toList.drop (i*size)).take size:=by
     apply List.ext_getElem?;intro j;simp only[List.getElem?_take,List.getElem?_drop];split
     ·rename_i aG;rw[Su];have kN:(List.take (k*size) cs.toList).length=k*size:=by grind
      have w7:v.cells.toList.length=size:=by omega
      rcases Nat.lt_or_ge i k with ah | ah
      ·have:(i+1)*size<=k*size:=Nat.mul_le_mul_right _ (by omega);grind
      ·have:(k+1)*size<=i*size:=Nat.mul_le_mul_right _ (by omega);rw[Nat.add_mul]at this;rw[List.getElem?_append_right (by omega),kN,List.getElem?_append_right (by omega),List.getElem?_drop];congr 1;omega
     ·rfl
    grind
theorem aeH(aV:dS C.P T){ty n:Nat}{ps:Array (Nat×Operand)}(bh:∀ i,o.dst=some i->i<C.nt)(ag:o.op=.buildSlice ty n ps)(h:(bt C.aO T bg (a8 C.aO s.ax) o).run s.ab=some res):cJ C o s res:=by
 obtain⟨ps⟩:=ps;have aw:∀ c,o.op≠.defer c:=by grind
 simp only[bt,ag]at h;split at h
 ·rename_i e aK;have dp:=aV.cb aK (by simp);obtain⟨jK,aG,iZ,ov⟩:=dp.sl;obtain⟨inf,z,i1,i2,i3,i4,i5,i6⟩:=kp iZ.ko;simp only[aq.e6,Option.bind_eq_some_iff,aq.run_bind]at h;obtain⟨⟨xs,bV⟩,hV,h⟩:=h;obtain⟨b,axk,an⟩:=qX h;split at an
  ·rename_i FT;obtain⟨axl,Sv⟩:=FT;simp only[Bool.and_eq_true,Bool.not_eq_true',decide_eq_true_eq]at Sv;obtain⟨⟨fB,tL⟩,KQ⟩:=Sv;have p8:b ∉ bV:=by grind
   simp only[Option.some.injEq]at an;subst an;intro a w κ F Q M bd _;obtain⟨F',f1,bc,f2⟩:=bl.k_ (aec n 0 hV) M;obtain⟨aeI,FU,ot,z2⟩:=u4 (P:=C.P) (H:=s.ab) (κ:=κ) (F:=F') (w:=w) e i5;rw[List.append_nil]at FU;have KR:=Kl M ps bd;have kc:=Se M.bE f1 ot (ps:=iA (ps.map λp=>(p.1,a8 C.aO s.ax p.2))) (qs:=ps.map λp=>(p.1,a.eval p.2)) (by simp[iA]) KR n 0 hV f2;have tQ:=(Ce e (P:=C.P) i5).2;have KS:∀ p∈ps,p.1<n:=by
    intro p ao;have:=List.all_eq_true.1 KQ (p.1,(use (a8 C.aO s.ax p.2)).2) (by simp only[iA,List.map_map,List.mem_map];grind);grind
   have KT:((ps.map λp=>(p.1,a.eval p.2)).map (·.1)).Nodup:=by
    have:(iA (ps.map λp=>(p.1,a8 C.aO s.ax p.2))).map (·.1)=(ps.map λp=>(p.1,a.eval p.2)).map (·.1):=by simp[iA]
    grind
   have Sw:∀ q∈ps.map (λp=>(p.1,a.eval p.2)),q.2.cells.size=e.size/\q.1*e.size+e.size<=n*e.size:=by
    intro q bq;obtain⟨p,ao,rfl⟩:=List.mem_map.1 bq;have cc:=KS p ao;refine⟨?_,by
     have:(p.1+1)*e.size<=n*e.size:=Nat.mul_le_mul_right _ (by omega);grind⟩
    obtain⟨bj,d1,d2⟩:=kc.2 p.1 (by omega);rw[Nat.zero_add]at d2;have vg:(ps.map λp=>(p.1,a.eval p.2)).find? (λr=>r.1 == p.1)=some (p.1,a.eval p.2):=by
     have aeJ:∀ (l:List (Nat×Value)),(l.map (·.1)).Nodup->∀ q∈l,l.find? (λr=>r.1 == q.1)=some q:=by
      intro l;induction l with
      | nil=>simp
      | cons c l aJ=>
       grind
     grind
    rw[vg]at d2;have:=hR e d1;grind
   have KU:z.cells.size≠0:=by omega
   let base:Array Value:=(Array.range (n*e.size)).map (λi=>z.cells[i % z.cells.size]!);have axm:base.size=n*e.size:=by grind
   obtain⟨di,aW,aY,bO⟩:=KP (place:=λi=>some (i*e.size,e.size)) (λi=>rfl) (ps.map λp=>(p.1,a.eval p.2)) base (by grind) KT;have axn:∀ i,i<n->(base.toList.drop (i*e.size)).take e.size=z.cells.toList:=by
    intro i G;have hle:(i+1)*e.size<=n*e.size:=Nat.mul_le_mul_right _ (by omega);rw[Nat.add_mul]at hle;apply List.ext_getElem?;intro j;simp only[List.getElem?_take,List.getElem?_drop];split
    ·rename_i aG;have fS:j<z.cells.size:=by omega
     rw[Array.getElem?_toList,Array.getElem?_toList];have zo:(i*e.size+j) % z.cells.size=j:=by rw[tQ,Nat.add_comm,Nat.add_mul_mod_self_right,Nat.mod_eq_of_lt aG]
     grind
    grind
   have aeK:gp C.P e F' w di.toList xs:=by
    refine⟨by grind,λi G=>?_⟩;have dM:i<n:=by omega
    have hle:(i+1)*e.size<=n*e.size:=Nat.mul_le_mul_right _ (by omega);grind
   have c_:(execOp a.eval o).run C.P w=.ok (.value (.slice (some ⟨w.heap.size,0,none⟩) n n)) (w.alloc (.cells di jK)):=by
    have aeL:¬n*e.size > 2 ^ 24:=by omega
    simp only[execOp,ag,Instr.buildSlice,Sem.run_bind,dC aG,Result.andThen_ok,r5 i1,i2,aeL,if_false];by_cases se:n*e.size=0
    ·have zy:base=#[]:=Array.eq_empty_of_size_eq_zero (by omega);rw[zy]at aW;simp only[se,if_true,Sem.run_bind,Sem.run_pure,Result.andThen_ok];rw[show ((Array.range 0).map (λi=>(#[]:Array Value)[i % (#[]:Array Value).size]!))=#[] from by simp];simp only[List.map_toArray]at aW ⊢;rw[show Instr.fill (λi=>some (i*e.size,e.size)) #[] (ps.map λx=>(x.1,a.eval x.2))=some di from aW];rfl
    ·simp only[se,if_false,Sem.run_bind,qV i1 i4,Result.andThen_ok,Sem.run_pure];simp only[List.map_toArray];rw[show Instr.fill (λi=>some (i*e.size,e.size)) ((Array.range (n*e.size)).map (λi=>z.cells[i % z.cells.size]!)) (ps.map λx=>(x.1,a.eval x.2))=some di from aW];rfl
   have o':s.fY ((jG bV).run s.ab++[(b,⟨(s.ab b).gen+1,.bf e xs⟩)])=(s.cB bV).cx b ⟨(s.ab b).gen+1,.bf e xs⟩:=by
    rw[Cd,tE]
   have pb:(s.cB bV).ab b=s.ab b:=by simp[aB.cB,p8]
   have ah:=bc.Co (b:=b) (g:=(s.ab b).gen+1) (zs:=xs) (k:=⟨w.heap.size,0,n,false⟩) (w':=w.alloc (.cells di jK)) (by grind) (.inr rfl) (by simp) (λr M=>o5 w _ M) (λ_=>by simp) ⟨rfl,rfl,rfl⟩
    (λH κ'=>⟨λh=>(by cases h),λ_=>⟨di,jK,p2 w _,by grind,by grind,by
     have:n<=n*e.size:=Nat.le_mul_of_pos_right _ (Nat.pos_of_ne_zero ov);grind,(aeK.Cm (pre:=[]) (post:=[]) (by simp)).later (c8.alloc bc.dd _)⟩⟩)
   refine hx aw c_ ?_;simp only[aB.h8];rw[o'];exact⟨_,F',bl.set ah bh ⟨⟨by simp[aB.cx],rfl⟩,λ_ _=>by simp[aB.cx,bD.slice,bP.len,kc.1]⟩⟩
  grind
 ·cases h
theorem Sx(nP:Nat):∀ (m:Nat) (l:List Value),l.length=m*nP->((List.range m).map λi=>(l.drop (i*nP)).take nP).flatten=l
 | 0,l,h=>by
  have:l=[]:=List.eq_nil_of_length_eq_zero (by omega);simp[this]
 | m+1,l,h=>by
  rw[Nat.add_mul]at h;have aJ:=Sx nP m (l.take (m*nP)) (by grind);rw[List.range_succ,List.map_append,List.flatten_append];have e:((List.range m).map λi=>(l.drop (i*nP)).take nP)=((List.range m).map λi=>((l.take (m*nP)).drop (i*nP)).take nP):=by
   refine List.map_congr_left λi G=>?_;have hle:(i+1)*nP<=m*nP:=Nat.mul_le_mul_right _ (by have:=List.mem_range.1 G;omega);rw[Nat.add_mul]at hle;rw[List.drop_take,List.take_take,Nat.min_eq_left (by omega)]
  rw[e,aJ];have:(l.drop (m*nP)).take nP=l.drop (m*nP):=List.take_of_length_le (by grind);simp[this]
theorem aeM(aV:dS C.P T){ty m:Nat}{e:ad}{ps:Array (Nat×Operand)}(bh:∀ i,o.dst=some i->i<C.nt)(ag:o.op=.build ty ps)(aK:T ty=.array m e)
  (h:((tA e (iA (ps.toList.map λp=>(p.1,a8 C.aO s.ax p.2))) 0 m).cR λ(xs,bV)=>if (bV.isEmpty&&decide ((iA (ps.toList.map λp=>(p.1,a8 C.aO s.ax p.2))).map (·.1)).Nodup&&(iA (ps.toList.map λp=>(p.1,a8 C.aO s.ax p.2))).all (λp=>decide (p.1<m)))=true then bN (r3 (ps.toList.map λp=>(p.1,a8 C.aO s.ax p.2))) True (.val (.array m e) xs) else .none).run s.ab=some res):cJ C o s res:=by
 obtain⟨ps⟩:=ps;simp only[aq.e6,Option.bind_eq_some_iff]at h;obtain⟨⟨xs,bV⟩,hV,h⟩:=h;have dp:=aV.cb aK (by simp);obtain⟨jK,aG,iZ,ov⟩:=dp.bf;obtain⟨i,z,E,U,ah,aZ,bM,dt⟩:=kp dp.ko;split at h
 ·rename_i hc;simp only[Bool.and_eq_true,decide_eq_true_eq,List.isEmpty_iff,List.all_eq_true]at hc;obtain⟨⟨rfl,tL⟩,KQ⟩:=hc;simp only[bN,aq.bL,Option.some.injEq]at h;subst h;refine cJ.pure (by grind) bh λa w κ F M bd _=>?_;obtain⟨aeI,FU,ot,z2⟩:=u4 (P:=C.P) (H:=s.ab) (κ:=κ) (F:=F) (w:=w) (.array m e) bM;rw[List.append_nil]at FU;have tQ:=(Ce (.array m e) (P:=C.P) bM).2;have axo:z.cells.size=m*e.size:=tQ;have KR:=Kl M ps bd;have kc:=λ(zero:List Value) (bk:bJ C.P e F w zero e.dh)=>Se M.bE (λ_ h=>h) bk (ps:=iA (ps.map λp=>(p.1,a8 C.aO s.ax p.2))) (qs:=ps.map λp=>(p.1,a.eval p.2)) (by simp[iA]) KR m 0 hV (λ_ h=>by cases h);have KS:∀ p∈ps,p.1<m:=by
   intro p ao;exact KQ (p.1,(use (a8 C.aO s.ax p.2)).2) (by simp only[iA,List.map_map,List.mem_map];grind)
  have KT:((ps.map λp=>(p.1,a.eval p.2)).map (·.1)).Nodup:=by
   have:(iA (ps.map λp=>(p.1,a8 C.aO s.ax p.2))).map (·.1)=(ps.map λp=>(p.1,a.eval p.2)).map (·.1):=by simp[iA]
   grind
  have jk:∀ i,i<m->bJ C.P e F w ((z.cells.toList.drop (i*e.size)).take e.size) e.dh:=by
   intro i G;have aeN:bJ C.P (.array m e) F w z.cells.toList (ad.array m e).dh:=by rw[FU];exact ot
   obtain⟨p,c,q,aW,aY,bO⟩:=Kf aeN G;have ak:=hR e bO;have:(ad.dh (.array m e)).getD i e.dh=e.dh:=by
    show (List.replicate m e.dh).getD i e.dh=e.dh;grind
   rw[this]at bO;have:(z.cells.toList.drop (i*e.size)).take e.size=c:=by
    rw[aW,<-aY];simp[ak]
   rw[this];exact bO
  have Sy:xs.length=m:=by
   rcases Nat.eq_zero_or_pos m with aX | aX
   ·subst aX;simp only[tA,aq.bL,Option.some.injEq,Prod.mk.injEq]at hV;rw[<-hV.1];rfl
   ·exact (kc _ (jk 0 aX)).1
  have Sw:∀ q∈ps.map (λp=>(p.1,a.eval p.2)),q.2.cells.size=e.size/\q.1*e.size+e.size<=z.cells.size:=by
   intro q bq;obtain⟨p,ao,rfl⟩:=List.mem_map.1 bq;have cc:=KS p ao;refine⟨?_,by
    have:(p.1+1)*e.size<=m*e.size:=Nat.mul_le_mul_right _ (by omega);grind⟩
   obtain⟨bj,d1,d2⟩:=(kc _ (jk p.1 cc)).2 p.1 (by omega);rw[Nat.zero_add]at d2;have vg:(ps.map λp=>(p.1,a.eval p.2)).find? (λr=>r.1 == p.1)=some (p.1,a.eval p.2):=by
    have aeJ:∀ (l:List (Nat×Value)),(l.map (·.1)).Nodup->∀ q∈l,l.find? (λr=>r.1 == q.1)=some q:=by
     intro l;induction l with
     | nil=>simp
     | cons c l aJ=>
      grind
    grind
   rw[vg]at d2;have:=hR e d1;grind
  obtain⟨di,aW,aY,bO⟩:=KP (place:=λi=>some (i*e.size,e.size)) (λi=>rfl) (ps.map λp=>(p.1,a.eval p.2)) z.cells Sw KT;refine⟨.agg di,?_,⟨di,rfl,by omega⟩,?_⟩
  ·simp only[execOp,ag,Instr.build,Sem.run_bind,qV E aZ,Result.andThen_ok,dC aG,iZ.size];simp_all
  ·refine⟨(List.range m).map λi=>(di.toList.drop (i*e.size)).take e.size,(Sx e.size m di.toList (by grind)).symm,by simp,Sy,λi G dM=>?_⟩;simp only[List.getElem_map,List.getElem_range];have KN:i<m:=by omega
   have hle:(i+1)*e.size<=m*e.size:=Nat.mul_le_mul_right _ (by omega);rw[Nat.add_mul]at hle;obtain⟨bj,d1,d2⟩:=(kc _ (jk i KN)).2 i G;rw[Nat.zero_add]at d2;have:=bO i (by omega);have:(di.toList.drop (i*e.size)).take e.size=bj:=by
    rw[this];split at d2<;>simp_all
   rw[this];exact d1
 ·cases h
theorem fm.mono{P:Program}{t:ad}{F F':Nat->Prop}{w w':World}{aE:List Value}{x:t.aj}(h:fm P t F w aE x)(bn:∀ r,F r->F' r)(he:c8 F w w'):fm P t F' w' aE x:=⟨h.1,fe t bn he h.2⟩
theorem aeO{k:FuncId}{c6:List Operand}(bh:∀ i,o.dst=some i->i<C.nt)(ag:o.op=.makeFunc (.func k) #[] ⟨c6⟩){v:Fj}(af:C.aO.tu k=some v)
  (h:((iV (gg (v.cs.map .bH)) ((c6.map (a8 C.aO s.ax)).map λv=>(use v).2)).cR λ(y,bV)=>(jG bV).bind λwl=>.ret (some ⟨jH (c6.map (a8 C.aO s.ax)),True,.val (.fn (gg v.as) v.aR) (λx=>v.sh (Fi v.as (v.cs.map .bH) x y)),wl⟩):aq (Option eC)).run s.ab=some res):cJ C o s res:=by
 simp only[aq.e6,Option.bind_eq_some_iff,aq.run_bind,aq.bL,Option.some.injEq]at h;obtain⟨⟨y,l⟩,aS,rfl⟩:=h;intro a w κ F Q M bd _;obtain⟨F',f1,bc,f2⟩:=bl.k_ (p_ _ aS) M;have dX:fm C.P (gg (v.cs.map .bH)) F' w (c6.map a.eval) y:=by
  refine vf M.bE f1 _ aS f2 (by simp) λi G dM=>?_;simp only[List.getElem_map];have dA:i<c6.length:=by grind
  have E:=r6 bd i (by grind);have ay:(c6.map (a8 C.aO s.ax)).getD i .undef=a8 C.aO s.ax c6[i]:=by grind
  rw[ay]at E;exact o8 (j7 M c6[i]) E
 obtain⟨aD,xb⟩:=M.jE.tu k v af;have c_:(execOp a.eval o).run C.P w=.ok (.value (.func (.func k) #[] (c6.map a.eval).toArray)) w:=by simp[execOp,ag,Instr.makeFunc]
 refine hx (by grind) c_ ⟨κ,F',?_⟩;simp only[aB.h8];rw[tE];refine bl.set bc bh ((dT rfl).2 ⟨rfl,_,rfl,⟨rfl,rfl⟩,λei da zz xc tS xd args x E U ah=>⟨k,_,rfl,xb.enter,?_⟩⟩);have aG:=Rl v.as (v.cs.map .bH) aD (P:=C.P) (F:=ei) (w:=da) ⟨E,U⟩ (dX.mono zz xc);have:=xb.iw ei da _ _ tS xd aG ah;have e:(args++c6.map a.eval).toArray=args.toArray++(c6.map a.eval).toArray:=by simp
 rw[e]at this;exact this.mono λe tp ⟨v,y,ay,aN,⟨aE,cA,ea,dU⟩,k5⟩=>⟨v,y,aE,ay,aN,cA,ea,dU,k5⟩
theorem aeP{k:FuncId}{c6:List Operand}(bh:∀ i,o.dst=some i->i<C.nt)(ag:o.op=.makeFunc (.func k) #[] ⟨c6⟩){v:wN}(af:C.aO.wP k=some v)
  (h:((iV (gg (v.cs.map .bH)) ((c6.map (a8 C.aO s.ax)).map λv=>(use v).2)).cR λ(y,bV)=>(jG bV).bind λwl=>.ret (some ⟨jH (c6.map (a8 C.aO s.ax)),True,.val (.cu v.aL) (v.S y),wl⟩):aq (Option eC)).run s.ab=some res):cJ C o s res:=by
 simp only[aq.e6,Option.bind_eq_some_iff,aq.run_bind,aq.bL,Option.some.injEq]at h;obtain⟨⟨y,l⟩,aS,rfl⟩:=h;intro a w κ F Q M bd _;obtain⟨F',f1,bc,f2⟩:=bl.k_ (p_ _ aS) M;have dX:fm C.P (gg (v.cs.map .bH)) F' w (c6.map a.eval) y:=by
  refine vf M.bE f1 _ aS f2 (by simp) λi G dM=>?_;simp only[List.getElem_map];have dA:i<c6.length:=by grind
  have E:=r6 bd i (by grind);have ay:(c6.map (a8 C.aO s.ax)).getD i .undef=a8 C.aO s.ax c6[i]:=by grind
  rw[ay]at E;exact o8 (j7 M c6[i]) E
 have xb:=M.jE.wP k v af;have c_:(execOp a.eval o).run C.P w=.ok (.value (.func (.func k) #[] (c6.map a.eval).toArray)) w:=by simp[execOp,ag,Instr.makeFunc]
 refine hx (by grind) c_ ⟨κ,F',?_⟩;simp only[aB.h8];rw[tE];refine bl.set bc bh ((dT rfl).2 ⟨rfl,_,rfl,⟨rfl,rfl⟩,λei da zz xc tS xd eD=>⟨k,_,rfl,xb.enter,λl I Y hX jq eA=>?_⟩⟩);exact xb.iw ei da _ _ tS xd (dX.mono zz xc) eD l I Y hX jq eA
theorem aeQ{k:FuncId}{c6:Array Operand}(bh:∀ i,o.dst=some i->i<C.nt)(ag:o.op=.makeFunc (.func k) #[] c6)(h:(bt C.aO T bg (a8 C.aO s.ax) o).run s.ab=some res):cJ C o s res:=by
 obtain⟨c6⟩:=c6;simp only[bt,ag,Array.isEmpty_empty,if_true]at h;split at h;case h_1 v af=>exact aeO bh ag af h
 split at h;case h_1 v af=>exact aeP bh ag af h
 simp only[bN,aq.bL,Option.some.injEq]at h;subst h;refine cJ.pure (by grind) bh λa w κ F M bd _=>?_;refine⟨.func (.func k) #[] (c6.map a.eval).toArray,by simp[execOp,ag,Instr.makeFunc],c6.map a.eval,rfl,by simp,λi G=>?_⟩;have dM:i<c6.length:=by grind
 have E:(use ((c6.map (a8 C.aO s.ax)).getD i .undef)).1:=r6 bd i (by omega);have ay:(c6.map (a8 C.aO s.ax)).getD i .undef=a8 C.aO s.ax c6[i]:=by grind
 rw[ay]at E;have U:=o8 (j7 M c6[i]) E;have aN:(c6.map a.eval).getD i Go.undef=a.eval c6[i]:=by grind
 have cA:hh ((c6.map (a8 C.aO s.ax)).map λv=>(use v).2) i=(use (a8 C.aO s.ax c6[i])).2:=by simp[hh,List.getD_eq_getElem?_getD,dM]
 grind
theorem aeR{k:FuncId}{first c6:Array Operand}(bh:∀ i,o.dst=some i->i<C.nt)(ag:o.op=.makeFunc (.func k) first c6)(ar:first.isEmpty=false)(h:(bt C.aO T bg (a8 C.aO s.ax) o).run s.ab=some res):cJ C o s res:=by
 obtain⟨first⟩:=first
 simp only[bt,ag,ar,Bool.false_eq_true,if_false]at h;split at h
 ·rename_i hc;have hc:c6=#[]:=by grind
  subst hc;simp only[bN,aq.bL,Option.some.injEq]at h;subst h;refine cJ.pure (by grind) bh λa w κ F M bd _=>?_;refine⟨.func (.func k) (first.map a.eval).toArray #[],by simp[execOp,ag,Instr.makeFunc],first.map a.eval,rfl,by simp,λi G=>?_⟩;have dM:i<first.length:=by omega
  have E:(use ((first.map (a8 C.aO s.ax)).getD i .undef)).1:=r6 bd i (by grind);have ay:(first.map (a8 C.aO s.ax)).getD i .undef=a8 C.aO s.ax first[i]:=by grind
  rw[ay]at E;have U:=o8 (j7 M first[i]) E;have aN:(first.map a.eval).getD i Go.undef=a.eval first[i]:=by grind
  have cA:hh ((first.map (a8 C.aO s.ax)).map λv=>(use v).2) i=(use (a8 C.aO s.ax first[i])).2:=by simp[hh,List.getD_eq_getElem?_getD,dM]
  grind
 ·cases h
def lf(o:Oper)(nt:Nat):Bool:=
 (match o.dst with | some d=>decide (d<nt) | none=>true)&&(match o.op with | .store _ _ _=>o.dst.isNone | .mapUpdate _ _ _ _=>o.dst.isNone | .insert _ _ _ _=>o.dst.isNone | _=>true)
theorem xe(aV:dS C.P T)(cv:jm C.P bg)(aw:lf o C.nt=true)(h:(bt C.aO T bg (a8 C.aO s.ax) o).run s.ab=some res):cJ C o s res:=by
 simp only[lf,Bool.and_eq_true]at aw;have bh:∀ i,o.dst=some i->i<C.nt:=λi G=>by
  grind
 cases ag:o.op with
 | move x=>exact ade bh ag h
 | assign x=>exact adf bh ag h
 | pick c a b=>exact adg bh ag h
 | binOp op t x y c1=>exact ado aV bh ag h
 | unOp op t x=>exact adh bh ag h
 | extract t i=>exact adi bh ag h
 | nilCheck x=>exact adj bh ag h
 | fieldAddr t x f=>exact adk aV bh ag h
 | field t x f=>exact adl aV bh ag h
 | load t x=>exact adp aV bh ag h
 | store t x y=>
  have:=aw.2;rw[ag]at this;exact adI aV (by grind) ag h
 | alloc t=>
  by_cases aK:T t=.cV
  ·simp only[bt,ag,aK]at h;obtain⟨_,_,an⟩:=qX h;grind
  ·exact adz aV bh ag h aK
 | box t x=>exact adB bh ag h
 | build t ps=>
  by_cases FG:∀ m e,T t≠.array m e
  ·exact adG aV bh ag FG h
  ·obtain⟨m,e,aK⟩:∃ m e,T t=.array m e:=by grind
   refine aeM aV bh ag aK ?_;simpa only [bt,ag,aK]using h
 | buildSlice t n ps=>exact aeH aV bh ag h
 | indexAddr t x i=>exact adO aV bh ag h
 | index t x i=>exact adr aV bh ag h
 | convert a b x=>exact ad_ aV bh ag h
 | makeFunc fn first c6=>
  cases fn with
  | func k=>
   by_cases ar:first=#[]
   ·subst ar;exact aeQ bh ag h
   ·exact aeR bh ag (by grind) h
  | _=>simp[bt,ag,aq.none]at h
 | makeMap t r=>exact aei bh ag h
 | lookup t m x ok=>exact aej aV bh ag h
 | mapUpdate t m x y=>
  have:=aw.2;rw[ag]at this;exact KJ aV (by grind) (.inl ag) h
 | insert t m x y=>
  have:=aw.2;rw[ag]at this;exact KJ aV (by grind) (.inr ag) h
 | makeSlice t l c=>exact aeo aV bh ag h
 | makeInterface t x=>exact St (by simp[bt,ag,bN]) h
 | panic x=>exact St (by simp[bt,ag,bN]) h
 | slice t x aT G o7=>
  cases o7 with
  | none=>exact adQ aV bh ag h
  | some m=>exact aeB aV bh ag h
 | call c=>
  obtain⟨callee,args,dn⟩:=c;cases callee with
  | value f=>
   cases f with
   | func k=>exact aed cv bh ag h
   | _=>simp[bt,ag,mL,aq.none]at h
  | invoke r m=>simp[bt,ag,mL,aq.none]at h
  | builtin b=>
   cases b with
   | len=>exact adw aV bh ag h
   | append=>
    cases aD:wW (a8 C.aO s.ax) args.toList with
    | none=>exact ad1 aV bh ag (by simpa [bt,ag,mL,aD]using h)
    | some p=>exact aeF aV bh ag aD (by simpa [bt,ag,mL,aD]using h)
   | clear=>exact aeG aV bh ag (by simpa [bt,ag,mL]using h)
   | copy=>exact aew aV bh ag h
   | min=>exact RT (.inl ⟨rfl,rfl⟩) bh ag (by simpa [bt,ag,mL]using h)
   | max=>exact RT (.inr ⟨rfl,rfl⟩) bh ag (by simpa [bt,ag,mL]using h)
   | cap=>exact adx aV bh ag (by simpa [bt,ag,mL]using h)
   | _=>simp[bt,ag,mL,aq.none]at h
 | _=>simp[bt,ag,aq.none]at h
end
end Go.Fer
namespace Go.Fer
open Go.RowKit
def aq.cX{al:Type}(p:al->Prop):aq al->Prop
 | .ret a=>p a
 | .eR _ k=>∀ x,(k x).cX p
theorem KV{aI:Operand->aF}{k:IntKind}:∀ (l:List Operand) {b7:Prop} {h7:z1'},(∀ x∈l,(use (aI x)).1)->mK aI k l=some (b7,h7)->b7
 | [],_,_,_,h=>by cases h
 | [x],b7,h7,hu,h=>by
  simp only[mK]at h;split at h
  ·split at h
   ·cases h;exact hu x (by simp)
   ·cases h
  ·cases h
 | x::y::l,b7,h7,hu,h=>by
  simp only[mK]at h;split at h
  ·rename_i ak;split at h
   ·cases h;exact⟨hu x (by simp),KV (y::l) (λz bk=>hu z (List.mem_cons_of_mem _ bk)) ak⟩
   ·cases h
  ·cases h
theorem aq.cX.run{al:Type}{p:al->Prop}{m:aq al}(h:m.cX p)(H:Nat->bK):p (m.run H):=by
 induction m with
 | ret a=>exact h
 | eR b k aJ=>exact aJ _ (h _)
theorem aq.cX.bind{al β:Type}{p:β->Prop}{m:aq al}{f:al->aq β}(h:∀ a,(f a).cX p):(m.bind f).cX p:=by
 induction m with
 | ret a=>exact h a
 | eR b k aJ=>exact λx=>aJ x
def lg{al:Type}(p:al->Prop)(x:Option al):Prop:=∀ a,x=some a->p a
theorem aq.cX.cR{al β:Type}{p:β->Prop}{m:aq (Option al)}{f:al->aq (Option β)}(h:∀ a,(f a).cX (lg p)):(m.cR f).cX (lg p):=by
 refine aq.cX.bind λa=>?_;cases a with
 | none=>intro a h;cases h
 | some a=>grind
theorem aq.cX.Sz{al β:Type}{q:al->Prop}{p:β->Prop}{m:aq (Option al)}{f:al->aq (Option β)}(hm:m.cX (lg q))(h:∀ a,q a->(f a).cX (lg p)):(m.cR f).cX (lg p):=by
 unfold aq.cR;induction m with
 | ret a=>
  cases a with
  | none=>intro b aa;cases aa
  | some a=>exact h a (hm a rfl)
 | eR b k aJ=>exact λx=>aJ x (hm x)
theorem aq.cX.bX{al:Type}{p:al->Prop}:(aq.none:aq (Option al)).cX (lg p):=by intro a h;cases h
theorem aq.cX.mU{al:Type}{p:al->Prop}{a:al}(h:p a):(aq.ret (some a)).cX (lg p):=by intro b aa;grind
theorem aq.cX.nil{al:Type}{p:al->Prop}:(aq.ret (Option.none:Option al)).cX (lg p):=by intro b aa;cases aa
theorem aq.cX.bN{p:eC->Prop}{b7 c:Prop}{v:aF}(h:p ⟨b7,c,v,[]⟩):(bN b7 c v).cX (lg p):=aq.cX.mU h
theorem aq.cX.h6{p:eC->Prop}{d:Option Nat}{k:Nat->Nat->Option eC}(h:∀ b g,lg p (k b g)):(h6 d k).cX (lg p):=by
 unfold Go.Fer.h6;split
 ·exact .bX
 ·exact λx=>h _ _
def aF.zA:aF->Bool
 | .hC _ _=>true
 | _=>false
theorem FV{a:aF}(h:a.zA=false):(use a).1:=by
 cases a<;>first | trivial | cases h
def sf(aI:Operand->aF)(o:Oper):Bool:=o.op.operands.toList.all λx=>!(aI x).zA
def aF.aeS:aF->Bool
 | .fH _ _=>false
 | .val (.map _ _) _=>false
 | _=>true
def FW(aI:Operand->aF)(b:Builtin)(args:List Operand):Bool:=
 match b with
 | .len=>match args with
  | [x]=>(use (aI x)).2.aeS
  | _=>false
 | .min=>true
 | .max=>true
 | _=>false
def aF.SA:aF->Bool
 | .iT ..=>true
 | _=>false
def mV(aI:Operand->aF)(o:Oper):Bool:=
 match o.op with
 | .move _ | .assign _ | .pick .. | .unOp .. | .extract .. | .fieldAddr .. | .field .. | .alloc .. | .box .. | .build .. | .buildSlice .. | .convert .. | .makeFunc .. | .makeMap .. | .lookup .. | .mapUpdate .. | .insert ..=>true
 | .load _ x=>!(use (aI x)).2.SA
 | .store _ x _=>!(use (aI x)).2.SA
 | .binOp op _ x _ _=>match op with
  | .quo | .rem | .shl | .shr=>false
  | .add=>(use (aI x)).2.mg.isSome
  | _=>true
 | .call c=>match c.callee with
  | .builtin b=>FW aI b c.args.toList
  | _=>false
 | _=>false
theorem aeT{op:BinOp}{k:IntKind}{a b:Int}{c:Prop}{v:aF}(h:y6 op k a b=some (c,v))(E:op≠.quo)(U:op≠.rem):c:=by
 cases op<;>simp only[y6,Option.some.injEq,Prod.mk.injEq,reduceCtorEq]at h<;>first | (obtain⟨rfl,_⟩:=h;trivial) | contradiction
theorem aeU{op:BinOp}{a b:List UInt8}{c:Prop}{v:aF}(h:B0 op a b=some (c,v))(E:op≠.add):c:=by
 cases op<;>simp only[B0,Option.some.injEq,Prod.mk.injEq,reduceCtorEq]at h<;>first | (obtain⟨rfl,_⟩:=h;trivial) | contradiction
theorem aeV{op:BinOp}{t:ad}{x y:aF}:(y7 op t x y).cX (lg λr=>r.1):=by
 unfold y7;refine aq.cX.cR λe=>?_;cases op<;>first | exact .mU trivial | exact .nil
section
variable {aQ:dD} {T:Nat->ad} {bg:Nat->Option aP} {aI:Operand->aF} {o:Oper}
theorem aeW{op:BinOp}{ty:TypeId}{x y:Operand}{t:TypeId}(ag:o.op=.binOp op ty x y t)(hc:mV aI o=true):(bt aQ T bg aI o).cX (lg λr=>r.c):=by
 unfold bt;rw[ag];simp only;simp only[mV,ag]at hc;split
 ·rename_i k a k' b E U;split
  ·cases hc
  ·cases hc
  ·split
   ·split
    ·rename_i c v G;refine .bN (aeT G ?_ ?_)<;>(grind)
    ·exact .bX
   ·exact .bX
 ·rename_i pd;split
  ·rename_i a b E U;split
   ·rename_i c v G;refine .bN (aeU G ?_);intro e;subst e;simp only at hc;generalize (use (aI x)).2=z at hc E;cases z<;>try (cases E;done)
    rename_i t d;cases t<;>first | (cases E;done) | (cases hc;done)
   ·exact .bX
  ·exact aq.cX.Sz aeV λr M=>.bN M
theorem KW{p:eC->Prop}{ty:TypeId}{m x y:Operand}(h:∀ wl,p ⟨(use (aI m)).1/\(use (aI x)).1/\(use (aI y)).1,True,.undef,wl⟩):(qU T aI ty m x y).cX (lg p):=by
 unfold qU;split
 ·simp only;split
  ·split
   ·refine aq.cX.cR λ_=>aq.cX.cR λ_=>aq.cX.bind λ_=>λz=>?_;intro r M;split at M
    ·split at M
     ·simp only[Option.map_eq_some_iff]at M;grind
     grind
    grind
   ·exact .bX
  ·exact .bX
 ·exact .bX
theorem SB{ty:TypeId}{m x y:Operand}:(qU T aI ty m x y).cX (lg λr=>r.c):=KW λ_=>trivial
theorem zB(hc:mV aI o=true):(bt aQ T bg aI o).cX (lg λr=>r.c):=by
 cases ag:o.op with
 | binOp op ty x y t=>exact aeW ag hc
 | move x=>unfold bt;rw[ag];exact .bN trivial
 | assign x=>
  unfold bt;rw[ag];simp only;split
  ·exact .h6 λb g=>λr M=>by grind
  ·exact .bN trivial
 | pick c a b=>
  unfold bt;rw[ag];simp only;split
  ·split
   ·split
    ·exact .bN trivial
    ·exact .bX
   ·split
    ·exact .bN trivial
    ·exact .bX
   ·exact .bX
  ·exact .bX
 | unOp op t x=>
  unfold bt;rw[ag];simp only;split
  ·exact .bN trivial
  ·exact .bN trivial
  ·exact .bX
 | extract x i=>
  unfold bt;rw[ag];simp only;split
  ·split
   ·exact .bN trivial
   ·exact .bX
  ·exact .bX
 | fieldAddr ty x f=>
  unfold bt;rw[ag];simp only;repeat' first | exact .bX | exact .bN trivial | split
  all_goals first
   | (intro z;intro r M;grind)
 | field ty x f=>
  unfold bt;rw[ag];simp only;repeat' first | exact .bX | exact .bN trivial | split
 | load ty x=>
  simp only[mV,ag]at hc;unfold bt;rw[ag];simp only;split
  ·rename_i ai;rw[ai]at hc;cases hc
  ·exact aq.cX.cR λ_=>.bN trivial
 | store ty x y=>
  simp only[mV,ag]at hc;unfold bt;rw[ag];simp only;split
  ·rename_i ai;rw[ai]at hc;cases hc
  ·exact aq.cX.cR λ_=>.mU trivial
 | alloc ty=>
  unfold bt;rw[ag];simp only;exact .h6 λb g=>λr M=>by grind
 | box ty x=>
  unfold bt;rw[ag];simp only;split
  ·exact .h6 λb g=>λr M=>by grind
  ·exact .bX
 | build ty ps=>
  unfold bt;rw[ag];simp only;repeat' first | exact .bX | exact .bN trivial | refine aq.cX.cR λ_=>?_ | split
 | buildSlice ty n ps=>
  unfold bt;rw[ag];simp only;split
  ·refine aq.cX.cR λ_=>aq.cX.bind λ_=>.h6 λb g=>λr M=>by grind
  ·exact .bX
 | convert a b x=>
  unfold bt;rw[ag];simp only;repeat' first | exact .bX | exact .bN trivial | exact aq.cX.cR λ_=>.bN trivial | split
 | makeFunc fn first c6=>
  unfold bt;rw[ag];simp only;split
  ·split
   ·split
    ·exact aq.cX.cR λ_=>aq.cX.bind λ_=>.mU trivial
    ·split
     ·exact aq.cX.cR λ_=>aq.cX.bind λ_=>.mU trivial
     ·exact .bN trivial
   ·split
    ·exact .bN trivial
    ·exact .bX
  ·exact .bX
 | makeMap ty r=>
  unfold bt;rw[ag];simp only;split
  ·exact .bX
  ·split
   ·exact .h6 λb g=>λr M=>by grind
   ·exact .bX
 | lookup ty m x ok=>
  unfold bt;rw[ag];simp only;unfold y_;split
  ·simp only;split
   ·exact aq.cX.cR λ_=>aq.cX.cR λ_=>.bN trivial
   ·exact .bX
  ·exact .bX
 | mapUpdate ty m x y=>
  unfold bt;rw[ag];exact SB
 | insert ty m x y=>
  unfold bt;rw[ag];exact SB
 | call c=>
  obtain⟨callee,args,dn⟩:=c;simp only[mV,ag]at hc;unfold bt;rw[ag];simp only;unfold mL;cases callee with
  | builtin b=>
   simp only at hc ⊢;cases b with
   | len=>
    simp only[B2];split
    ·rename_i x t ay aN;simp only[FW,ay]at hc;generalize use (aI x)=u at hc;obtain⟨cD,dZ⟩:=u;simp only at hc ⊢;refine aq.cX.Sz (q:=λr:Prop×Int=>r.1) ?_ λr M=>.bN M;generalize T t=ty;cases ty<;>simp only[Fo]<;>first | exact .bX | skip
     ·cases dZ<;>first | exact .bX | skip
      ·rename_i c1 d;cases c1<;>first | exact .bX | exact .mU trivial
     ·cases dZ<;>first | exact .bX | exact .mU trivial | skip
      ·rename_i c1 d;cases c1<;>first | exact .bX | exact .mU trivial
      ·intro z r M;grind
      ·intro z r M;grind
     ·cases dZ<;>first | exact .bX | (cases hc;done) | skip
      ·rename_i c1 d;cases c1<;>first | exact .bX | cases hc
    ·exact .bX
   | min=>
    simp only[r4];repeat' first | exact .bN trivial | exact .bX | split
   | max=>
    simp only[r4];repeat' first | exact .bN trivial | exact .bX | split
   | _=>simp[FW]at hc
  | _=>cases hc
 | _=>simp[mV,ag]at hc
theorem Cy:∀ {l:List aF},(∀ v∈l,(use v).1)->jH l
 | [],_=>trivial
 | v::l,h=>by
  have E:=h v (by simp);have U:=Cy (l:=l) λu hu=>h u (by grind);cases v<;>first | exact U | exact⟨E,U⟩
theorem KX:∀ {l:List (Nat×aF)},(∀ v∈l,(use v.2).1)->r3 l
 | [],_=>trivial
 | (i,v)::l,h=>by
  have E:=h (i,v) (by simp);have U:=KX (l:=l) λu hu=>h u (by grind);cases v<;>first | exact U | exact⟨E,U⟩
theorem Cz{x:Option Operand}{p:Prop}{n:Option Int}(h:k7 aI x=some (p,n))(ai:∀ y,x=some y->(use (aI y)).1):p:=by
 unfold k7 at h;grind
def q4(aI:Operand->aF)(o:Oper):Prop:=∀ x∈o.op.operands.toList,(use (aI x)).1
theorem KY{aI:Operand->aF}{o:Oper}(h:sf aI o=true):q4 aI o:=λx ai=>FV (by simpa using List.all_eq_true.1 h x ai)
theorem q4.use{aI:Operand->aF}{o:Oper}(h:q4 aI o){x:Operand}(ai:x∈o.op.operands.toList){b7:Prop}{v:aF}(hu:use (aI x)=(b7,v)):b7:=by
 have:=h x ai;grind
theorem SC(fC:q4 aI o):(bt aQ T bg aI o).cX (lg λr=>r.b7):=by
 unfold q4 at fC;have ar:∀ x∈o.op.operands.toList,(use (aI x)).1:=fC;have hu:∀ x∈o.op.operands.toList,∀ {b7:Prop} {v:aF},use (aI x)=(b7,v)->b7:=λx ai b7 v h=>q4.use fC ai h;cases ag:o.op with
 | move x=>unfold bt;rw[ag];exact .bN trivial
 | assign x=>
  unfold bt;rw[ag];simp only;split
  ·exact .h6 λb g=>λr M=>by grind
  ·exact .bN trivial
 | pick c a b=>
  rw[ag]at hu;unfold bt;rw[ag];simp only;split
  ·rename_i p5 iX lS;have E:=hu c (by simp[Op.operands]) lS;split
   ·split
    ·rename_i y' av bb;exact .bN ⟨E,λ_=>hu a (by simp[Op.operands]) bb⟩
    ·exact .bX
   ·split
    ·rename_i y' av bb;exact .bN ⟨E,λ_=>hu b (by simp[Op.operands]) bb⟩
    ·exact .bX
   ·exact .bX
  ·exact .bX
 | binOp op ty x y t=>
  rw[ag]at fC;have h:=And.intro (fC x (by simp[Op.operands])) (fC y (by simp[Op.operands]));unfold bt;rw[ag];simp only;split
  ·split
   ·split
    ·exact .bN h
    ·exact .bX
   ·split
    ·exact .bN h
    ·exact .bX
   ·split
    ·split
     ·exact .bN h
     ·exact .bX
    ·exact .bX
  ·split
   ·split
    ·exact .bN h
    ·exact .bX
   ·exact aq.cX.cR λ_=>.bN h
 | unOp op t x=>
  rw[ag]at hu;unfold bt;rw[ag];simp only;split
  ·rename_i ai;exact .bN (hu x (by simp[Op.operands]) ai)
  ·rename_i ai;exact .bN (hu x (by simp[Op.operands]) ai)
  ·exact .bX
 | extract x i=>
  rw[ag]at hu;unfold bt;rw[ag];simp only;split
  ·rename_i ai;split
   ·exact .bN (hu x (by simp[Op.operands]) ai)
   ·exact .bX
  ·exact .bX
 | nilCheck x=>
  rw[ag]at hu;unfold bt;rw[ag];simp only;split
  ·rename_i ai;intro z r M;split at M<;>cases M;exact hu x (by simp[Op.operands]) ai
  ·rename_i ai;exact .bN (hu x (by simp[Op.operands]) ai)
  ·rename_i ai;exact .bN (hu x (by simp[Op.operands]) ai)
  ·rename_i ai;intro z r M;split at M<;>cases M;exact hu x (by simp[Op.operands]) ai
  ·exact .bX
 | fieldAddr ty x f=>
  rw[ag]at hu;unfold bt;rw[ag];simp only;split
  ·split
   ·split
    ·rename_i ai;intro z r M;split at M<;>cases M;exact hu x (by simp[Op.operands]) ai
    ·rename_i ai;intro z r M;split at M<;>cases M;exact hu x (by simp[Op.operands]) ai
    ·rename_i ai;intro z r M;split at M<;>cases M;exact hu x (by simp[Op.operands]) ai
    ·rename_i ai;split
     ·split
      ·exact .bN (hu x (by simp[Op.operands]) ai)
      ·exact .bX
     ·exact .bX
    ·exact .bX
   ·exact .bX
  ·exact .bX
 | field ty x f=>
  rw[ag]at hu;unfold bt;rw[ag];simp only;split
  ·split
   ·rename_i ai;split
    ·split
     ·exact .bN (hu x (by simp[Op.operands]) ai)
     ·exact .bX
    ·exact .bX
   ·exact .bX
  ·exact .bX
 | load ty x=>
  rw[ag]at hu;unfold bt;rw[ag];simp only;split
  ·rename_i ai;have h:=hu x (by simp[Op.operands]) ai;intro z r M;repeat' split at M
   all_goals first | (cases M;exact h) | cases M
  ·rename_i ai;exact aq.cX.cR λ_=>.bN (hu x (by simp[Op.operands]) ai)
 | store ty x y=>
  rw[ag]at hu fC;unfold bt;rw[ag];simp only;split
  ·rename_i ai;have h:=hu x (by simp[Op.operands]) ai;have de:=fC y (by simp[Op.operands]);unfold J7;split
   ·intro z r M;repeat' split at M
    all_goals first | (cases M;exact⟨h,de⟩) | cases M
   ·exact .bX
  ·rename_i ai;exact aq.cX.cR λ_=>.mU ⟨hu x (by simp[Op.operands]) ai,fC y (by simp[Op.operands])⟩
 | alloc ty=>
  unfold bt;rw[ag];simp only;exact .h6 λb g=>λr M=>by grind
 | box ty x=>
  rw[ag]at fC;unfold bt;rw[ag];simp only;split
  ·exact .h6 λb g=>λr M=>by split at M<;>cases M;exact fC x (by simp[Op.operands])
  ·exact .bX
 | build ty ps=>
  rw[ag]at ar;have h:r3 (ps.toList.map λp=>(p.1,aI p.2)):=KX λv af=>by
   simp only[List.mem_map]at af;obtain⟨p,ao,rfl⟩:=af;exact ar p.2 (by simp only[Op.operands,List.mem_map];grind)
  unfold bt;rw[ag];simp only;repeat' first | exact .bX | exact .bN h | refine aq.cX.cR λ_=>?_ | split
 | buildSlice ty n ps=>
  rw[ag]at ar;have h:r3 (ps.toList.map λp=>(p.1,aI p.2)):=KX λv af=>by
   simp only[List.mem_map]at af;obtain⟨p,ao,rfl⟩:=af;exact ar p.2 (by simp only[Op.operands,List.mem_map];grind)
  unfold bt;rw[ag];simp only;split
  ·refine aq.cX.cR λ_=>aq.cX.bind λ_=>.h6 λb g=>λr M=>by grind
  ·exact .bX
 | indexAddr ty x i=>
  rw[ag]at fC;have h:=And.intro (fC x (by simp[Op.operands])) (fC i (by simp[Op.operands]));unfold bt;rw[ag];simp only;split
  ·exact aq.cX.cR λ_=>.bN h
  ·split
   ·split
    ·exact .bN h
    ·exact .bX
   ·intro z r M;grind
   ·exact .bX
  ·exact .bX
 | index ty x i=>
  rw[ag]at fC;have h:=And.intro (fC x (by simp[Op.operands])) (fC i (by simp[Op.operands]));unfold bt;rw[ag];simp only;split
  ·exact .bN h
  ·split
   ·split
    ·exact .bN h
    ·exact .bX
   ·split
    ·exact .bN h
    ·exact .bX
   ·exact .bX
  ·exact .bX
 | convert a b x=>
  rw[ag]at fC;unfold bt;rw[ag];simp only;split
  ·exact .bN (fC x (by simp[Op.operands]))
  ·exact aq.cX.cR λ_=>.bN (fC x (by simp[Op.operands]))
  ·exact .bX
 | makeFunc fn first c6=>
  rw[ag]at ar;have h:jH (c6.toList.map aI):=Cy λv af=>by
   simp only[List.mem_map]at af;obtain⟨p,ao,rfl⟩:=af;exact ar p (by simp[Op.operands];simp_all)
  have U:jH (first.toList.map aI):=Cy λv af=>by
   simp only[List.mem_map]at af;obtain⟨p,ao,rfl⟩:=af;exact ar p (by simp[Op.operands];simp_all)
  unfold bt;rw[ag];simp only;split
  ·split
   ·split
    ·exact aq.cX.cR λ_=>aq.cX.bind λ_=>.mU h
    ·split
     ·exact aq.cX.cR λ_=>aq.cX.bind λ_=>.mU h
     ·exact .bN h
   ·split
    ·exact .bN U
    ·exact .bX
  ·exact .bX
 | slice ty x aT G o7=>
  rw[ag]at ar fC;unfold bt;rw[ag];simp only;split
  ·unfold Fs;simp only;split
   ·rename_i ol l qT h u5 m ak c7 hm;have bd:=And.intro (fC x (by simp[Op.operands])) (And.intro (Cz ak λy aS=>ar y (by subst aS;simp[Op.operands])) (And.intro (Cz c7 λy aS=>ar y (by subst aS;simp[Op.operands])) (Cz hm λy aS=>ar y (by subst aS;simp[Op.operands]))));split
    ·exact aq.cX.cR λ_=>.mU bd
    ·exact .bX
   ·exact .bX
  ·unfold Fq;simp only;split
   ·rename_i ol l qT h ak c7;have bd:=And.intro (fC x (by simp[Op.operands])) (And.intro (Cz ak λy aS=>ar y (by subst aS;simp[Op.operands])) (Cz c7 λy aS=>ar y (by subst aS;simp[Op.operands])));split
    ·exact aq.cX.cR λ_=>.mU bd
    ·split
     ·exact .bN bd
     ·exact .bX
    ·exact .bX
   ·exact .bX
 | call c=>
  rw[ag]at ar fC;obtain⟨callee,args,dn⟩:=c;have dX:∀ x∈args.toList,(use (aI x)).1:=λx ai=>ar x (by simp[Op.operands,Call.operands];simp_all);have pe:∀ x∈args.toList,(use (aI x)).1:=dX;have fG:jH (args.toList.map aI):=Cy λv af=>by
   grind
  unfold bt;rw[ag];simp only;unfold mL;simp only;split
  ·split
   ·unfold B2;split
    ·rename_i x t ay aN;exact aq.cX.cR λ_=>.bN (pe x (by grind))
    ·exact .bX
   ·split
    ·unfold B7;split
     ·rename_i x y t u ay aN;have h:=And.intro (pe x (by grind)) (pe y (by grind));split
      ·simp only;refine aq.cX.cR λ_=>λz=>?_;intro r M;grind
      ·exact .bX
     ·exact .bX
    unfold B3;split
    ·rename_i x y t u ay aN;have h:=And.intro (pe x (by grind)) (pe y (by grind));split
     ·simp only;unfold J5;split
      ·intro z;dsimp only;split
       ·split
        ·exact aq.cX.cR λ_=>.mU h
        ·exact .bX
       ·exact .bX
      ·intro z;dsimp only;split
       ·split
        ·exact aq.cX.cR λ_=>.mU h
        ·exact .bX
       ·exact .bX
      ·exact aq.cX.cR λ_=>.h6 λb g=>λr M=>by grind
      ·split
       ·exact aq.cX.cR λ_=>.h6 λb g=>λr M=>by grind
       ·exact .bX
      ·exact .bX
     ·exact .bX
    ·exact .bX
   ·unfold B8;split
    ·rename_i x t ay aN;have h:=pe x (by grind);split
     ·simp only;split
      ·intro z;intro r M;grind
      ·exact .bX
     ·exact .bX
    ·exact .bX
   ·unfold Fv;split
    ·rename_i x y t u ay aN;have h:=And.intro (pe x (by grind)) (pe y (by grind));split
     ·simp only;split
      ·refine aq.cX.cR λ_=>λz=>?_;intro r M;grind
      ·exact .bX
     ·exact .bX
    ·exact .bX
   ·unfold r4;split
    ·rename_i x y l ay;split
     ·split
      ·rename_i ak;exact .bN ⟨pe x (by grind),KV (y::l) (λp ao=>pe p (by rw[ay];exact List.mem_cons_of_mem _ ao)) ak⟩
      ·exact .bX
     ·exact .bX
    ·exact .bX
   ·unfold r4;split
    ·rename_i x y l ay;split
     ·split
      ·rename_i ak;exact .bN ⟨pe x (by grind),KV (y::l) (λp ao=>pe p (by rw[ay];exact List.mem_cons_of_mem _ ao)) ak⟩
      ·exact .bX
     ·exact .bX
    ·exact .bX
   ·unfold B4;split
    ·rename_i x t ay aN;have h:=pe x (by grind);split
     ·rename_i cA;exact .bN (by grind)
     ·exact .bX
    ·exact .bX
   ·exact .bX
  ·split
   ·unfold Ft;simp only;split
    ·refine aq.cX.cR λ_=>?_;split
     ·refine aq.cX.bind λ_=>.h6 λb g=>λr M=>?_;split at M
      ·cases M
      ·cases M;exact fG
     ·exact aq.cX.bind λ_=>.mU fG
    ·exact .bX
   ·exact .bX
  ·exact .bX
 | makeMap ty r=>
  unfold bt;rw[ag];simp only;split
  ·exact .bX
  ·split
   ·exact .h6 λb g=>λr M=>by grind
   ·exact .bX
 | lookup ty m x ok=>
  rw[ag]at fC;have h:=And.intro (fC m (by simp[Op.operands])) (fC x (by simp[Op.operands]));unfold bt;rw[ag];simp only;unfold y_;split
  ·simp only;split
   ·exact aq.cX.cR λ_=>aq.cX.cR λ_=>.bN h
   ·exact .bX
  ·exact .bX
 | mapUpdate ty m x y=>
  rw[ag]at fC;unfold bt;rw[ag];exact KW λ_=>⟨fC m (by simp[Op.operands]),fC x (by simp[Op.operands]),fC y (by simp[Op.operands])⟩
 | insert ty m x y=>
  rw[ag]at fC;unfold bt;rw[ag];exact KW λ_=>⟨fC m (by simp[Op.operands]),fC x (by simp[Op.operands]),fC y (by simp[Op.operands])⟩
 | makeSlice ty l c=>
  rw[ag]at fC;have h:=And.intro (fC l (by simp[Op.operands])) (fC c (by simp[Op.operands]));unfold bt;rw[ag];simp only;unfold Fu;split
  ·simp only;split
   ·exact .h6 λb g=>λr M=>by grind
   ·exact .bX
  ·exact .bX
 | makeInterface t x=>unfold bt;rw[ag];exact .bN trivial
 | panic x=>unfold bt;rw[ag];exact .bN trivial
 | _=>unfold bt;rw[ag];exact .bX
theorem SD(hc:sf aI o=true):(bt aQ T bg aI o).cX (lg λr=>r.b7):=SC (KY hc)
end
end Go.Fer
namespace Go.Fer
open Go.RowKit
theorem KZ{aI jr:Operand->aF}{k:IntKind}:∀ (l:List Operand),(∀ x∈l,aI x=jr x)->mK aI k l=mK jr k l
 | [],_=>rfl
 | [x],h=>by simp only[mK,h x (by simp)]
 | x::y::l,h=>by simp only[mK,h x (by simp),KZ (y::l) λz bk=>h z (List.mem_cons_of_mem _ bk)]
section
variable {aQ:dD} {T:Nat->ad} {bg:Nat->Option aP} {aI jr:Operand->aF} {o:Oper}
theorem K1{x:Option Operand}(h:∀ y,x=some y->aI y=jr y):k7 aI x=k7 jr x:=by
 cases x with
 | none=>rfl
 | some y=>have:=h y rfl;unfold k7;grind
theorem aeX(h:∀ x∈o.op.operands.toList,aI x=jr x):bt aQ T bg aI o=bt aQ T bg jr o:=by
 cases ag:o.op with
 | move x=>rw[ag]at h;have E:=h x (by simp[Op.operands]);unfold bt;simp_all
 | assign x=>rw[ag]at h;have E:=h x (by simp[Op.operands]);unfold bt;simp_all
 | pick c a b=>
  rw[ag]at h;have E:=h c (by simp[Op.operands]);have U:=h a (by simp[Op.operands]);have ah:=h b (by simp[Op.operands]);unfold bt;simp_all
 | binOp op ty x y t=>
  rw[ag]at h;have E:=h x (by simp[Op.operands]);have U:=h y (by simp[Op.operands]);unfold bt;simp_all
 | unOp op t x=>rw[ag]at h;have E:=h x (by simp[Op.operands]);unfold bt;simp_all
 | extract x i=>rw[ag]at h;have E:=h x (by simp[Op.operands]);unfold bt;simp_all
 | nilCheck x=>rw[ag]at h;have E:=h x (by simp[Op.operands]);unfold bt;simp_all
 | fieldAddr ty x f=>rw[ag]at h;have E:=h x (by simp[Op.operands]);unfold bt;simp_all
 | field ty x f=>rw[ag]at h;have E:=h x (by simp[Op.operands]);unfold bt;simp_all
 | load ty x=>rw[ag]at h;have E:=h x (by simp[Op.operands]);unfold bt;simp_all
 | store ty x y=>
  rw[ag]at h;have E:=h x (by simp[Op.operands]);have U:=h y (by simp[Op.operands]);unfold bt;simp_all
 | alloc ty=>unfold bt;rw[ag]
 | box ty x=>rw[ag]at h;have E:=h x (by simp[Op.operands]);unfold bt;simp_all
 | build ty ps=>
  rw[ag]at h;have E:ps.toList.map (λp=>(p.1,aI p.2))=ps.toList.map (λp=>(p.1,jr p.2)):=List.map_congr_left λp ao=>by rw[h p.2 (by simp only[Op.operands,List.mem_map];grind)]
  unfold bt;rw[ag];simp only[E]
 | buildSlice ty n ps=>
  rw[ag]at h;have E:ps.toList.map (λp=>(p.1,aI p.2))=ps.toList.map (λp=>(p.1,jr p.2)):=List.map_congr_left λp ao=>by rw[h p.2 (by simp only[Op.operands,List.mem_map];grind)]
  unfold bt;rw[ag];simp only[E]
 | indexAddr ty x i=>
  rw[ag]at h;have E:=h x (by simp[Op.operands]);have U:=h i (by simp[Op.operands]);unfold bt;simp_all
 | index ty x i=>
  rw[ag]at h;have E:=h x (by simp[Op.operands]);have U:=h i (by simp[Op.operands]);unfold bt;simp_all
 | convert a b x=>rw[ag]at h;have E:=h x (by simp[Op.operands]);unfold bt;simp_all
 | makeFunc fn first c6=>
  rw[ag]at h;have E:c6.toList.map aI=c6.toList.map jr:=List.map_congr_left λp ao=>h p (by simp[Op.operands];simp_all);have U:first.toList.map aI=first.toList.map jr:=List.map_congr_left λp ao=>h p (by simp[Op.operands];simp_all)
  unfold bt;rw[ag];simp only[E,U]
 | lookup ty m x ok=>
  rw[ag]at h;have E:=h m (by simp[Op.operands]);have U:=h x (by simp[Op.operands]);unfold bt;rw[ag];simp only[y_,E,U]
 | mapUpdate ty m x y=>
  rw[ag]at h;have E:=h m (by simp[Op.operands]);have U:=h x (by simp[Op.operands]);have ah:=h y (by simp[Op.operands]);unfold bt;rw[ag];simp only[qU,E,U,ah]
 | insert ty m x y=>
  rw[ag]at h;have E:=h m (by simp[Op.operands]);have U:=h x (by simp[Op.operands]);have ah:=h y (by simp[Op.operands]);unfold bt;rw[ag];simp only[qU,E,U,ah]
 | makeSlice ty l c=>
  rw[ag]at h;have E:=h l (by simp[Op.operands]);have U:=h c (by simp[Op.operands]);unfold bt;rw[ag];simp only[Fu,E,U]
 | slice ty x aT G o7=>
  rw[ag]at h;have E:=h x (by simp[Op.operands]);have U:k7 aI aT=k7 jr aT:=K1 λy aS=>h y (by subst aS;simp[Op.operands]);have ah:k7 aI G=k7 jr G:=K1 λy aS=>h y (by subst aS;simp[Op.operands]);have aZ:k7 aI o7=k7 jr o7:=K1 λy aS=>h y (by subst aS;simp[Op.operands]);unfold bt;rw[ag];simp only[Fq,Fs,E,U,ah,aZ]
 | call c=>
  rw[ag]at h;obtain⟨callee,args,dn⟩:=c;have dX:∀ x∈args.toList,aI x=jr x:=λx ai=>h x (by simp[Op.operands,Call.operands];simp_all);have ak:args.toList.map aI=args.toList.map jr:=List.map_congr_left dX;unfold bt;rw[ag];simp only;unfold mL;simp only;split
  ·split
   ·unfold B2;grind
   ·have q5:wW aI args.toList=wW jr args.toList:=by
     unfold wW;grind
    rw[q5];split
    ·unfold B7;split
     ·rename_i x y t u ay aN;rw[dX x (by simp[ay]),dX y (by simp[ay])]
     ·rfl
    ·unfold B3;grind
   ·unfold B8;split
    ·rename_i x t ay aN;rw[dX x (by simp[ay])]
    ·rfl
   ·unfold Fv;split
    ·rename_i x y t u ay aN;rw[dX x (by grind),dX y (by grind)]
    ·rfl
   ·unfold r4;split
    ·rename_i x y l ay;have ak:∀ k,mK aI k (y::l)=mK jr k (y::l):=λk=>KZ (y::l) λp ao=>dX p (by rw[ay];exact List.mem_cons_of_mem _ ao);simp only[dX x (by simp[ay]),ak]
    ·rfl
   ·unfold r4;split
    ·rename_i x y l ay;have ak:∀ k,mK aI k (y::l)=mK jr k (y::l):=λk=>KZ (y::l) λp ao=>dX p (by rw[ay];exact List.mem_cons_of_mem _ ao);simp only[dX x (by simp[ay]),ak]
    ·rfl
   ·unfold B4;grind
   ·rfl
  ·split
   ·unfold Ft;simp only[ak]
   ·rfl
  ·rfl
 | _=>unfold bt;rw[ag]
end
end Go.Fer
namespace Go.Fer
open Go.RowKit
def FX(want b:Bool):Bool:=match want with | true=>b | false=>!b
def kt(s:Nat->aF)(ops:Array Oper):Option (Nat×Bool)->Option (Option Bool)
 | none=>some none
 | some (j,want)=>match ops[j]? with
  | some o=>match o.dst with
   | some d=>match s d with
    | .val .bool b=>some (some (FX want b))
    | .hC g (.val .bool b)=>some (some (g&&FX want b))
    | _=>none
   | none=>none
  | none=>none
def FY(ops:Array Oper):Option (Nat×Bool)->List Nat
 | none=>[]
 | some (j,_)=>match ops[j]? with
  | some o=>o.dst.toList
  | none=>[]
def aeY(l:List Operand):List Nat:=l.filterMap fun | .tmp t=>some t | _=>none
def CA(ops:Array Oper)(o:Oper):List Nat:=FY ops o.guard++aeY o.op.operands.toList
structure eO where
 cs:List Prop
 dst:Option Nat
 e9:aF
 hE:List (Nat×bK)
 ku:List Nat
 tT:List Nat
def eO.h9(r:eO)(s:aB):aB:=(s.fY r.hE).set r.dst r.e9
def eO.nQ(r:eO):List Nat:=r.dst.toList
def eO.mW(r:eO):List Nat:=r.hE.map (·.1)
def CB(du dF:Bool)(b7 c:Prop):List Prop:=(match du with | true=>[] | false=>[b7])++(match dF with | true=>[] | false=>[c])
def vh(aQ:dD)(T:Nat->ad)(bg:Nat->Option aP)(ops:Array Oper)(s:aB)(o:Oper):Option eO:=
 match kt s.ax ops o.guard with
 | none=>none
 | some g=>match (bt aQ T bg (a8 aQ s.ax) o).run s.ab with
  | none=>none
  | some res=>match g with
   | none=>some ⟨CB (sf (a8 aQ s.ax) o) (mV (a8 aQ s.ax) o) res.b7 res.c,o.dst,res.e9,res.hE,CA ops o,(bt aQ T bg (a8 aQ s.ax) o).looks s.ab⟩
   | some b=>match res.hE with
    | []=>some ⟨CB (sf (a8 aQ s.ax) o&&(mV (a8 aQ s.ax) o&&!res.e9.zA)) true (b=true->res.b7/\(res.c/\(use res.e9).1)) True,o.dst,.hC b (use res.e9).2,[],CA ops o,(bt aQ T bg (a8 aQ s.ax) o).looks s.ab⟩
    | _=>none
def xf(aQ:dD)(T:Nat->ad)(bg:Nat->Option aP)(ops:Array Oper):List Oper->aB->Option (List eO×aB)
 | [],s=>some ([],s)
 | o::os,s=>match vh aQ T bg ops s o with
  | none=>none
  | some r=>match xf aQ T bg ops os (r.h9 s) with
   | none=>none
   | some (l,s')=>some (r::l,s')
def CC(a b:List Nat):Bool:=a.all λx=>!b.contains x
def eO.apart(a b:eO):Bool:=CC a.nQ (b.ku++b.nQ)&&CC a.ku b.nQ&&CC a.mW (b.tT++b.mW)&&CC a.tT b.mW
def h_(o:Oper):List Nat:=o.after.toList.filterMap λe=>if Region.binds .any e then some e.on else none
def CD(acc:List Nat):List Nat->List Nat
 | []=>acc
 | x::l=>match acc.contains x with | true=>CD acc l | false=>CD (x::acc) l
theorem K2{x:Nat}:∀ {l acc:List Nat},x∈CD acc l->x∈acc\/x∈l
 | [],acc,h=>.inl h
 | y::l,acc,h=>by
  unfold CD at h;split at h
  ·exact (K2 h).imp_right (List.mem_cons_of_mem _)
  ·rcases K2 h with h | h
   ·rcases List.mem_cons.1 h with h | h
    ·exact .inr (h ▸ List.mem_cons_self)
    ·exact .inl h
   ·exact .inr (List.mem_cons_of_mem _ h)
def zC(acc:List (List Nat))(o:Oper):List (List Nat):=acc++[CD [] ((h_ o).flatMap λj=>j::acc.getD j [])]
def ik(ops:List Oper):List (List Nat):=ops.foldl zC []
def aeZ(cl:List (List Nat))(l:List eO):Bool:=
 (List.range l.length).all λj=>(List.range j).all λi=>match l[i]?,l[j]? with
  | some a,some b=>(cl.getD j []).contains i||a.apart b
  | _,_=>false
def CE(ops:List Oper):Bool:=(List.range ops.length).all λj=>match ops[j]? with
 | some o=>(h_ o).all λi=>decide (i<j)
 | none=>false
def zD(ops:List Oper)(l:List eO):Bool:=CE ops&&aeZ (ik ops) l
def xg(R:List Nat)(s s':aB):Prop:=∀ t∈R,s.ax t=s'.ax t
def xh(B:List Nat)(s s':aB):Prop:=∀ b∈B,s.ab b=s'.ab b
theorem FZ{a b:List Nat}(h:CC a b=true){x:Nat}(ai:x∈a):x ∉ b:=by
 have:=List.all_eq_true.1 h x ai;grind
theorem zE(s:aB):∀ (l:List (Nat×bK)),(s.fY l).ax=s.ax:=by
 intro l;induction l generalizing s with
 | nil=>rfl
 | cons p l aJ=>simp only[aB.fY];rw[aJ];rfl
theorem K3{b:Nat}:∀ (l:List (Nat×bK)) (s:aB),b ∉ l.map (·.1)->(s.fY l).ab b=s.ab b:=by
 intro l;induction l with
 | nil=>intro s _;rfl
 | cons p l aJ=>
  intro s h;simp only[List.map_cons,List.mem_cons,not_or]at h;simp only[aB.fY];rw[aJ _ h.2];simp[aB.cx,h.1]
theorem K4{b:Nat}:∀ (l:List (Nat×bK)) (s s':aB),b∈l.map (·.1)->(s.fY l).ab b=(s'.fY l).ab b:=by
 intro l;induction l with
 | nil=>simp
 | cons p l aJ=>
  intro s s' h;simp only[aB.fY];by_cases aa:b∈l.map (·.1)
  ·grind
  ·rw[K3 l _ aa,K3 l _ aa];have:b=p.1:=by grind
   simp[aB.cx,this]
theorem ae0(s:aB)(d:Option Nat)(v:aF):(s.set d v).ab=s.ab:=by cases d<;>rfl
theorem F1(r:eO)(s:aB)(t:Nat):(r.h9 s).ax t=if t∈r.nQ then r.e9 else s.ax t:=by
 unfold eO.h9 eO.nQ;cases h:r.dst with
 | none=>simp[aB.set,zE]
 | some d=>simp[aB.set,zE,eq_comm]
theorem xi(r:eO)(s:aB)(b:Nat):(r.h9 s).ab b=(s.fY r.hE).ab b:=by unfold eO.h9;rw[ae0]
theorem SE{r:eO}{s:aB}{t:Nat}(h:t ∉ r.nQ):(r.h9 s).ax t=s.ax t:=by rw[F1,if_neg h]
theorem tU{r:eO}{s:aB}{b:Nat}(h:b ∉ r.mW):(r.h9 s).ab b=s.ab b:=by rw[xi];exact K3 _ _ h
theorem aB.ext'{s s':aB}(E:∀ t,s.ax t=s'.ax t)(U:∀ b,s.ab b=s'.ab b):s=s':=by
 obtain⟨a,b⟩:=s;obtain⟨a',be⟩:=s';rw[show a=a' from funext E,show b=be from funext U]
theorem ae1{a b:eO}(E:∀ t∈a.nQ,t ∉ b.nQ)(U:∀ x∈a.mW,x ∉ b.mW)(s:aB):a.h9 (b.h9 s)=b.h9 (a.h9 s):=by
 apply aB.ext'
 ·intro t;simp only[F1];grind
 ·intro x;by_cases bb:x∈a.mW
  ·have aa:=U x bb;rw[tU aa,xi,xi];exact K4 _ _ _ bb
  ·rw[tU bb];by_cases aa:x∈b.mW
   ·rw[xi,xi];exact K4 _ _ _ aa
   ·rw[tU aa,tU aa,tU bb]
def jL(l:List eO)(s:aB):aB:=l.foldl (λs r=>r.h9 s) s
theorem ae2{R B:List Nat}:∀ (l:List eO) (s:aB),(∀ r∈l,(∀ t∈R,t ∉ r.nQ)/\∀ b∈B,b ∉ r.mW)->xg R (jL l s) s/\xh B (jL l s) s:=by
 intro l;induction l with
 | nil=>intro s _;exact⟨λ_ _=>rfl,λ_ _=>rfl⟩
 | cons r l aJ=>
  intro s h;obtain⟨E,U⟩:=aJ (r.h9 s) λpZ bc=>h pZ (List.mem_cons_of_mem _ bc);have M:=h r (List.mem_cons_self);exact⟨λt aK=>(E t aK).trans (SE (M.1 t aK)),λb aa=>(U b aa).trans (tU (M.2 b aa))⟩
theorem ae3{R B:List Nat}{r:eO}{s s':aB}(E:xg R s s')(U:xh B s s'):xg R (r.h9 s) (r.h9 s')/\xh B (r.h9 s) (r.h9 s'):=by
 refine⟨λt aK=>?_,λb aa=>?_⟩
 ·rw[F1,F1];split
  ·rfl
  ·exact E t aK
 ·by_cases hw:b∈r.mW
  ·rw[xi,xi];exact K4 _ _ _ hw
  ·rw[tU hw,tU hw];exact U b aa
theorem ae4{R B:List Nat}(p:Nat×eO->Bool):∀ (l:List (Nat×eO)) (s s':aB),xg R s s'->xh B s s'->(∀ r∈l,p r=false->(∀ t∈R,t ∉ r.2.nQ)/\∀ b∈B,b ∉ r.2.mW)->
  xg R (jL ((l.filter p).map (·.2)) s) (jL (l.map (·.2)) s')/\xh B (jL ((l.filter p).map (·.2)) s) (jL (l.map (·.2)) s'):=by
 intro l;induction l with
 | nil=>intro s s' E U _;exact⟨E,U⟩
 | cons r l aJ=>
  intro s s' E U h;have ak:=λpZ bc=>h pZ (List.mem_cons_of_mem _ bc);cases ao:p r with
  | true=>
   rw[List.filter_cons_of_pos ao];obtain⟨aW,aY⟩:=ae3 (r:=r.2) E U;exact aJ _ _ aW aY ak
  | false=>
   rw[List.filter_cons_of_neg (by grind)];have M:=h r (List.mem_cons_self) ao;exact aJ _ _ (λt aK=>(E t aK).trans (SE (M.1 t aK)).symm) (λb aa=>(U b aa).trans (tU (M.2 b aa)).symm) ak
theorem ae5{r:eO}:∀ (l:List eO) (s:aB),(∀ x∈l,(∀ t∈r.nQ,t ∉ x.nQ)/\∀ b∈r.mW,b ∉ x.mW)->jL l (r.h9 s)=r.h9 (jL l s):=by
 intro l;induction l with
 | nil=>intro s _;rfl
 | cons x l aJ=>
  intro s h;have ai:=h x (List.mem_cons_self);show jL l (x.h9 (r.h9 s))=r.h9 (jL l (x.h9 s));rw[<-ae1 ai.1 ai.2 s];grind
def iD:Nat->List eO->List (Nat×eO)
 | _,[]=>[]
 | n,r::l=>(n,r)::iD (n+1) l
theorem SF:∀ (l m:List eO) (n:Nat),iD n (l++m)=iD n l++iD (n+l.length) m
 | [],m,n=>by rfl
 | r::l,m,n=>by simp only[List.cons_append,iD,SF l m (n+1),List.length_cons];grind
theorem CF:∀ (l:List eO) (n:Nat),(iD n l).map (·.2)=l
 | [],_=>rfl
 | r::l,n=>by simp only[iD,List.map_cons,CF l (n+1)]
theorem zF:∀ {l:List eO} {n j:Nat} {x:eO},(j,x)∈iD n l->n<=j/\l[j - n]?=some x
 | r::l,n,j,x,h=>by
  simp only[iD,List.mem_cons,Prod.mk.injEq]at h;rcases h with⟨rfl,rfl⟩ | h
  ·simp
  ·obtain⟨E,U⟩:=zF h;grind
 | [],_,_,_,h=>by cases h
def js(l:List eO)(s:aB)(f:Nat->Bool):aB:=jL (((iD 0 l).filter λp=>f p.1).map (·.2)) s
theorem SG(l m:List eO)(s:aB):jL (l++m) s=jL m (jL l s):=by simp[jL]
theorem K5{a b:eO}(h:a.apart b=true):(∀ t∈a.nQ,t ∉ b.ku/\t ∉ b.nQ)/\(∀ t∈a.ku,t ∉ b.nQ)/\(∀ x∈a.mW,x ∉ b.tT/\x ∉ b.mW)/\∀ x∈a.tT,x ∉ b.mW:=by
 simp only[eO.apart,Bool.and_eq_true]at h;obtain⟨⟨⟨E,U⟩,ah⟩,aZ⟩:=h;refine⟨λt aK=>?_,λt aK=>FZ U aK,λx ai=>?_,λx ai=>FZ aZ ai⟩
 ·have:=FZ E aK;grind
 ·have:=FZ ah ai;grind
theorem SH{l:List eO}{s:aB}{f:Nat->Bool}{i:Nat}{r:eO}(G:l[i]?=some r)(ar:f i=false)
  (gH:∀ j x,j<i->l[j]?=some x->f j=false->x.apart r=true) (tV:∀ j x,i<j->l[j]?=some x->f j=true->r.apart x=true) :
  xg r.ku (js l s f) (jL (l.take i) s)/\xh r.tT (js l s f) (jL (l.take i) s)/\js l s (λj=>if j=i then true else f j)=r.h9 (js l s f):=by
 obtain⟨cc,eU⟩:=List.getElem?_eq_some_iff.1 G;have hlen:(l.take i).length=i:=by grind
 have SI:iD 0 l=iD 0 (l.take i)++(i,r)::iD (i+1) (l.drop (i+1)):=by
  have E:l=l.take i++r::l.drop (i+1):=by
   have:=List.take_append_drop i l;rw[List.drop_eq_getElem_cons cc,eU]at this;grind
  have U:=SF (l.take i) (r::l.drop (i+1)) 0;rw[<-E,hlen]at U;simpa [iD]using U
 have ae6:∀ p∈iD 0 (l.take i),p.1<i/\l[p.1]?=some p.2:=by
  rintro⟨j,x⟩ ao;obtain⟨_,U⟩:=zF ao;grind
 have axp:∀ p∈iD (i+1) (l.drop (i+1)),i<p.1/\l[p.1]?=some p.2:=by
  rintro⟨j,x⟩ ao;obtain⟨E,U⟩:=zF ao;grind
 have SJ:∀ x∈((iD (i+1) (l.drop (i+1))).filter λp=>f p.1).map (·.2),r.apart x=true:=by
  grind
 have hH:js l s f=jL (((iD (i+1) (l.drop (i+1))).filter λp=>f p.1).map (·.2)) (jL (((iD 0 (l.take i)).filter λp=>f p.1).map (·.2)) s):=by
  unfold js;rw[SI,List.filter_append,List.filter_cons_of_neg (by grind),List.map_append,SG]
 have q5:=ae2 (R:=r.ku) (B:=r.tT) (((iD (i+1) (l.drop (i+1))).filter λp=>f p.1).map (·.2)) (jL (((iD 0 (l.take i)).filter λp=>f p.1).map (·.2)) s)
  (λx ai=>by
   have:=K5 (SJ x ai);grind)
 have q6:=ae4 (R:=r.ku) (B:=r.tT) (λp=>f p.1) (iD 0 (l.take i)) s s (λ_ _=>rfl) (λ_ _=>rfl) (λp ao ae7=>by
  obtain⟨E,U⟩:=ae6 p ao;have:=K5 (gH p.1 p.2 E U ae7);grind)
 rw[CF]at q6;refine⟨λt aK=>by rw[hH];exact (q5.1 t aK).trans (q6.1 t aK),λb aa=>by rw[hH];exact (q5.2 b aa).trans (q6.2 b aa),?_⟩;rw[hH];unfold js;have ay:(iD 0 (l.take i)).filter (λp=>if p.1=i then true else f p.1)=(iD 0 (l.take i)).filter λp=>f p.1:=by
  apply List.filter_congr;grind
 have aN:(iD (i+1) (l.drop (i+1))).filter (λp=>if p.1=i then true else f p.1)=(iD (i+1) (l.drop (i+1))).filter λp=>f p.1:=by
  apply List.filter_congr;grind
 rw[SI,List.filter_append,List.filter_cons_of_pos (by simp),ay,aN,List.map_append,SG];show jL _ (r.h9 _)=_;refine ae5 _ _ λx ai=>?_;have:=K5 (SJ x ai);grind
theorem xj{p:Nat->Prop}:∀ (ops:List Oper) (acc:List (List Nat)),(∀ j i,i∈acc.getD j []->p j->p i)->(∀ j o,ops[j]?=some o->∀ i∈h_ o,p (acc.length+j)->p i)->
  ∀ j i,i∈(ops.foldl zC acc).getD j []->p j->p i:=by
 intro ops;induction ops with
 | nil=>simp
 | cons o ops aJ=>
  intro acc h aw;refine aJ (zC acc o) (λj i G aG=>?_) λj hU kd i G aG=>aw (j+1) hU (by grind) i G (by
   have:(zC acc o).length=acc.length+1:=by simp[zC]
   grind)
  unfold zC at G;rw[List.getD_eq_getElem?_getD,List.getElem?_append]at G;split at G
  ·grind
  ·rename_i cc;by_cases e:j=acc.length
   ·subst e;simp only[Nat.sub_self,List.getElem?_cons_zero,Option.getD_some]at G;have G:=(K2 G).resolve_left (by simp);simp only[List.mem_flatMap,List.mem_cons]at G;obtain⟨k,an,G⟩:=G;have vi:=aw 0 o (by simp) k an (by omega);grind
   grind
theorem SK{aQ:dD}{T:Nat->ad}{bg:Nat->Option aP}{ops:Array Oper}:∀ (os:List Oper) (s:aB) {l:List eO} {s':aB},xf aQ T bg ops os s=some (l,s')->
  l.length=os.length/\s'=jL l s/\∀ i o,os[i]?=some o->∃ r,l[i]?=some r/\vh aQ T bg ops (jL (l.take i) s) o=some r:=by
 intro os;induction os with
 | nil=>intro s l s' h;cases h;exact⟨rfl,rfl,λi o h=>by cases h⟩
 | cons o os aJ=>
  intro s l s' h;simp only[xf]at h;split at h
  ·cases h
  ·rename_i r M;split at h
   ·cases h
   ·rename_i dG axq ak;cases h;obtain⟨E,U,ah⟩:=aJ _ ak;refine⟨by grind,U,λi hU kd=>?_⟩;cases i with
    | zero=>
     simp only[List.getElem?_cons_zero,Option.some.injEq]at kd;subst kd;exact⟨r,by simp,M⟩
    | succ i=>
     obtain⟨pZ,aW,aY⟩:=ah i hU (by grind);exact⟨pZ,by grind,aY⟩
theorem K6{ops:Array Oper}{f iB:Nat->aF}{g:Option (Nat×Bool)}(h:∀ t∈FY ops g,f t=iB t):kt f ops g=kt iB ops g:=by
 unfold kt;cases g with
 | none=>rfl
 | some p=>
  obtain⟨j,want⟩:=p;simp only;cases aG:ops[j]? with
  | none=>rfl
  | some o=>
   simp only;cases aw:o.dst with
   | none=>rfl
   | some d=>
    simp only;rw[h d (by simp[FY,aG,aw])]
theorem SL{aQ:dD}{T:Nat->ad}{bg:Nat->Option aP}{ops:Array Oper}{s s':aB}{o:Oper}{r:eO}(h:vh aQ T bg ops s o=some r)(E:xg r.ku s' s)(U:xh r.tT s' s):vh aQ T bg ops s' o=some r:=by
 have SM:r.ku=CA ops o/\r.tT=(bt aQ T bg (a8 aQ s.ax) o).looks s.ab:=by
  unfold vh at h;grind
 rw[SM.1]at E;rw[SM.2]at U;have kO:∀ x∈o.op.operands.toList,a8 aQ s'.ax x=a8 aQ s.ax x:=by
  intro x ai;cases x with
  | tmp t=>
   refine congrArg aF.qR (E t ?_);simp only[CA,List.mem_append];exact .inr (List.mem_filterMap.2 ⟨.tmp t,ai,rfl⟩)
  | _=>rfl
 have ay:kt s'.ax ops o.guard=kt s.ax ops o.guard:=K6 λt aK=>E t (by simp[CA,aK]);have aN:bt aQ T bg (a8 aQ s'.ax) o=bt aQ T bg (a8 aQ s.ax) o:=aeX kO;have cA:=aq.Rm (H:=s.ab) (H':=s'.ab) (bt aQ T bg (a8 aQ s.ax) o) U;have ea:sf (a8 aQ s'.ax) o=sf (a8 aQ s.ax) o:=by
  unfold sf;grind
 have dU:mV (a8 aQ s'.ax) o=mV (a8 aQ s.ax) o:=by
  unfold mV;cases ag:o.op with
  | binOp op ty x y t=>
   rw[ag]at kO;simp only;rw[kO x (by simp[Op.operands])]
  | load ty x=>rw[ag]at kO;simp only;rw[kO x (by simp[Op.operands])]
  | store ty x y=>rw[ag]at kO;simp only;rw[kO x (by simp[Op.operands])]
  | call c=>
   obtain⟨callee,args,dn⟩:=c;rw[ag]at kO;cases callee with
   | builtin b=>
    have c7:∀ x∈args.toList,a8 aQ s'.ax x=a8 aQ s.ax x:=λx ai=>kO x (by simp[Op.operands,Call.operands];simp_all);simp only;unfold FW;grind
   | _=>rfl
  | _=>rfl
 unfold vh at h ⊢;simp_all
universe u
def A.fail{β:Type}:A β:=⟨False,λ_=>False⟩
inductive bY where
 | undef
 | val (t:ad)
 | dV (t:ad)
 | a7 (b off:Nat)
 | own (b:Nat)
 | sub (b:Nat)
 | fH (b:Nat)
 | j2 (b:Nat)
 | cS
 | ix (k:FuncId) (fU:z8')
 | aR (aL:ad)
 | hf
 | hG (bs:List Nat)
 | iT (b:Nat)
 deriving DecidableEq
inductive b3 where
 | cells (t:ad) (l:List bY)
 | bf (e:ad)
 | hD (e:ad)
 | mp (k v:ad)
 | jh (k v:ad)
 | whole (t:ad)
 | gI (t:ad)
 | cu (k v:ad)
 | gh (e:ad) (t:bY)
def bY.cons(t:bY)(R:Type):Type:=
 match t with
 | .val t=>t.aj×R
 | .dV t=>t.aj×R
 | .sub _=>(Nat×Nat)×R
 | .aR aL=>(Nat×(List aL.aj->Prop)×List aL.aj×Bool)×R
 | .hf=>Nat×R
 | .iT _=>Nat×R
 | _=>R
def qc:List bY->Type->Type
 | [],R=>R
 | t::l,R=>t.cons (qc l R)
def b3.cons(t:b3)(R:Type):Type:=
 match t with
 | .cells _ l=>qc l R
 | .bf e=>List e.aj×R
 | .hD e=>List e.aj×R
 | .mp k v=>List (k.aj×v.aj)×R
 | .jh k v=>List (k.aj×v.aj)×R
 | .whole t=>t.aj×R
 | .gI t=>t.aj×R
 | .cu k v=>(Option (k.aj×v.aj)×List (k.aj×v.aj))×R
 | .gh e t=>(List e.aj×Nat)×t.cons R
def b3.CG:b3->Bool
 | .cells _ _ | .bf _ | .mp _ _ | .whole _ | .cu _ _ | .gh _ _=>true
 | _=>false
def b3.F2(t u:b3):Bool:=
 match t,u with
 | .cells _ _,.cells _ _ | .cells _ _,.whole _ | .whole _,.cells _ _ | .whole _,.whole _ | .gI _,.cells _ _ | .gI _,.whole _=>true
 | .mp _ _,.mp _ _ | .jh _ _,.mp _ _=>true
 | .bf e,.bf a1=>decide (e=a1)
 | .hD _,.bf _=>true
 | _,_=>false
structure dH where
 bT:List (Nat×bY)
 bE:List (Nat×b3)
def pf:List (Nat×b3)->Type
 | []=>Unit
 | p::l=>p.2.cons (pf l)
def oy:List (Nat×bY)->Type->Type
 | [],R=>R
 | p::l,R=>p.2.cons (oy l R)
def dH.aj(sh:dH):Type:=oy sh.bT (pf sh.bE)
def vj(g:Nat->Nat×Nat)(fU:z8'):Nat->aF:=hh (fU.map λp=>.a7 (g p.1).1 (g p.1).2 p.2)
def vk(g:Nat->Nat×Nat)(bs:List Nat):Nat->aF:=hh (bs.map λb=>.own (g b).1 (g b).2)
def bY.av(g:Nat->Nat×Nat)(t:bY){R:Type}(x:t.cons R):aF×R:=
 match t,x with
 | .undef,x=>(.undef,x)
 | .val t,x=>(.val t x.1,x.2)
 | .dV t,x=>(.dV t x.1,x.2)
 | .a7 b off,x=>(.a7 (g b).1 (g b).2 off,x)
 | .own b,x=>(.own (g b).1 (g b).2,x)
 | .sub b,x=>(.sub (g b).1 (g b).2 x.1.1 x.1.2,x.2)
 | .fH b,x=>(.fH (g b).1 (g b).2,x)
 | .j2 b,x=>(.j2 (g b).1 (g b).2,x)
 | .cS,x=>(.cS,x)
 | .ix k fU,x=>(.ix k fU.length (vj g fU),x)
 | .aR aL,x=>(.aR x.1.1 aL x.1.2.1 x.1.2.2.1 x.1.2.2.2,x.2)
 | .hf,x=>(.hf x.1,x.2)
 | .hG bs,x=>(.agg bs.length (vk g bs),x)
 | .iT b,x=>(.iT (g b).1 (g b).2 x.1,x.2)
def pg(g:Nat->Nat×Nat):(l:List bY)->{R:Type}->qc l R->List aF×R
 | [],_,x=>([],x)
 | t::l,_,x=>let (a,y):=t.av g x;let (as,z):=pg g l y;(a::as,z)
def b3.body(g:Nat->Nat×Nat)(t:b3){R:Type}(x:t.cons R):bP×R:=
 match t,x with
 | .cells t l,x=>let (as,y):=pg g l x;(.cells t (hh as),y)
 | .bf e,x=>(.bf e x.1,x.2)
 | .hD e,x=>(.hD e x.1,x.2)
 | .mp k v,x=>(.mp k v x.1,x.2)
 | .jh k v,x=>(.jh k v x.1,x.2)
 | .whole t,x=>(.cells t (hh (nG t x.1)),x.2)
 | .gI t,x=>(.gI t x.1,x.2)
 | .cu k v,x=>(.cu k v x.1.1 x.1.2,x.2)
 | .gh e t,x=>let (a,y):=t.av g x.2;(.gh e x.1.1 x.1.2 a,y)
def eE(g:Nat->Nat×Nat):(l:List (Nat×bY))->{R:Type}->oy l R->List (Nat×aF)×R
 | [],_,x=>([],x)
 | p::l,_,x=>let (a,y):=p.2.av g x;let (as,z):=eE g l y;((p.1,a)::as,z)
def hj(g:Nat->Nat×Nat):(l:List (Nat×b3))->pf l->List (Nat×bP)
 | [],_=>[]
 | p::l,x=>let (a,y):=p.2.body g x;(p.1,a)::hj g l y
def fp:List (Nat×aF)->Nat->aF
 | [],_=>.undef
 | p::l,i=>if i=p.1 then p.2 else fp l i
def eP:List (Nat×bP)->Nat->bK
 | [],_=>⟨0,.fz⟩
 | p::l,i=>if i=p.1 then ⟨0,p.2⟩ else eP l i
def SN(ae8:List (Nat×aF))(bs:List (Nat×bP)):aB:=⟨fp ae8,eP bs⟩
def db(b:Nat):Nat×Nat:=(b,0)
def dH.st(sh:dH)(D:sh.aj):aB:=
 SN (eE db sh.bT D).1 (hj db sh.bE (eE db sh.bT D).2)
def xk(H:Nat->bK)(t:ad)(av:aF){R:Type}(r:Option (R×List Nat)):Option ((t.aj×R)×List Nat):=
 match (dz t av).run H with
 | some (x,l)=>match r with
  | some (y,m)=>some ((x,y),l++m)
  | none=>none
 | none=>none
def K7(t:ad)(av:aF){R:Type}(r:Option (R×List Nat)):Option ((t.aj×R)×List Nat):=
 match av with
 | .dV c1 x=>match r with
  | some (y,m)=>if h:c1=t then some ((h ▸ x,y),m) else none
  | none=>none
 | _=>none
def K8(H:Nat->bK)(b:Nat)(av:aF){R:Type}(r:Option (R×List Nat)):Option (((Nat×Nat)×R)×List Nat):=
 match r with
 | some (y,m)=>match av with
  | .own be g=>if (be == b&&g == (H b).gen&&(H b).body.e3)=true then some (((0,(H b).body.len),y),m) else none
  | .sub be g aT G=>if (be == b&&g == (H b).gen)=true then some (((aT,G),y),m) else none
  | _=>none
 | none=>none
def K9(aL:ad)(av:aF){R:Type}(r:Option (R×List Nat)):Option (((Nat×(List aL.aj->Prop)×List aL.aj×Bool)×R)×List Nat):=
 match av with
 | .aR l kv L n st=>match r with
  | some (y,m)=>if h:kv=aL then some (((l,h ▸ L,h ▸ n,st),y),m) else none
  | none=>none
 | _=>none
def K_(av:aF){R:Type}(r:Option (R×List Nat)):Option ((Nat×R)×List Nat):=
 match av with
 | .hf l=>match r with
  | some (y,m)=>some ((l,y),m)
  | none=>none
 | _=>none
def K'(H:Nat->bK)(b:Nat)(av:aF){R:Type}(r:Option (R×List Nat)):Option ((Nat×R)×List Nat):=
 match av with
 | .iT be g i=>match r with
  | some (y,m)=>if (be == b&&g == (H b).gen)=true then some ((i,y),m) else none
  | none=>none
 | _=>none
def F3(H:Nat->bK)(b off:Nat)(av:aF):Bool:=
 match av with
 | .a7 be g ae9=>be == b&&ae9 == off&&g == (H b).gen
 | _=>false
def F4(H:Nat->bK)(b:Nat)(av:aF):Bool:=
 match av with
 | .own be g=>be == b&&g == (H b).gen
 | _=>false
def La(H:Nat->bK)(b:Nat)(av:aF):Bool:=
 match av with
 | .fH be g=>be == b&&g == (H b).gen
 | _=>false
def Lb(H:Nat->bK)(b:Nat)(av:aF):Bool:=
 match av with
 | .j2 be g=>be == b&&g == (H b).gen
 | _=>false
def Lc(av:aF):Bool:=
 match av with
 | .cS=>true
 | _=>false
def Ld(H:Nat->bK)(f:Nat->Nat)(k:FuncId)(fU:z8')(av:aF):Bool:=
 match av with
 | .ix k' n c6=>k' == k&&n == fU.length&&(List.range n).all λi=>match fU[i]? with
  | some p=>F3 H (f p.1) p.2 (c6 i)
  | none=>false
 | _=>false
def Le(H:Nat->bK)(f:Nat->Nat)(bs:List Nat)(av:aF):Bool:=
 match av with
 | .agg n h=>n == bs.length&&(List.range n).all λi=>match bs[i]? with
  | some b=>F4 H (f b) (h i)
  | none=>false
 | _=>false
def vl{al:Type}(b:Bool)(r:Option al):Option al:=match b with | true=>r | false=>none
def bY.i'(H:Nat->bK)(f:Nat->Nat)(t:bY)(av:aF){R:Type}(r:Option (R×List Nat)):Option (t.cons R×List Nat):=
 match t with
 | .undef=>r
 | .val t=>xk H t av r
 | .dV t=>K7 t av r
 | .a7 b off=>vl (F3 H (f b) off av) r
 | .own b=>vl (F4 H (f b) av) r
 | .sub b=>K8 H (f b) av r
 | .fH b=>vl (La H (f b) av) r
 | .j2 b=>vl (Lb H (f b) av) r
 | .cS=>vl (Lc av) r
 | .ix k fU=>vl (Ld H f k fU av) r
 | .aR aL=>K9 aL av r
 | .hf=>K_ av r
 | .hG bs=>vl (Le H f bs av) r
 | .iT b=>K' H (f b) av r
def zG(H:Nat->bK)(f:Nat->Nat):(l:List bY)->(Nat->aF)->Nat->{R:Type}->Option (R×List Nat)->Option (qc l R×List Nat)
 | [],_,_,_,r=>r
 | t::l,c,i,_,r=>t.i' H f (c i) (zG H f l c (i+1) r)
def Lf(H:Nat->bK)(f:Nat->Nat)(t:ad)(l:List bY)(b:bP){R:Type}(r:Option (R×List Nat)):Option (qc l R×List Nat):=
 match b with
 | .cells c1 c=>if c1=t/\t.size=l.length then zG H f l c 0 r else none
 | _=>none
def Lg(e:ad)(b:bP){R:Type}(r:Option (R×List Nat)):Option ((List e.aj×R)×List Nat):=
 match b with
 | .bf a1 xs=>match r with
  | some (y,m)=>if h:a1=e then some ((h ▸ xs,y),m) else none
  | none=>none
 | _=>none
def Lh(k v:ad)(b:bP){R:Type}(r:Option (R×List Nat)):Option ((List (k.aj×v.aj)×R)×List Nat):=
 match b with
 | .mp k' h5 es=>match r with
  | some (y,m)=>if h:k'=k/\h5=v then some ((h.1 ▸ h.2 ▸ es,y),m) else none
  | none=>none
 | _=>none
def Li(k v:ad)(b:bP){R:Type}(r:Option (R×List Nat)):Option (((Option (k.aj×v.aj)×List (k.aj×v.aj))×R)×List Nat):=
 match b with
 | .cu k' h5 c es=>match r with
  | some (y,m)=>if h:k'=k/\h5=v then some (((h.1 ▸ h.2 ▸ c,h.1 ▸ h.2 ▸ es),y),m) else none
  | none=>none
 | _=>none
def Lj(H:Nat->bK)(f:Nat->Nat)(e:ad)(t:bY)(b:bP){R:Type}(r:Option (R×List Nat)):Option (((List e.aj×Nat)×t.cons R)×List Nat):=
 match b with
 | .gh a1 xs i v=>match t.i' H f v r with
  | some (y,m)=>if h:a1=e then some (((h ▸ xs,i),y),m) else none
  | none=>none
 | _=>none
def Lk(H:Nat->bK)(t:ad)(b:bP){R:Type}(r:Option (R×List Nat)):Option ((t.aj×R)×List Nat):=
 match b with
 | .cells c1 f=>if c1=t then xk H t (.agg t.size f) r else none
 | _=>none
def Ll(H:Nat->bK)(t:ad)(b:Nat){R:Type}(r:Option (R×List Nat)):Option ((t.aj×R)×List Nat):=
 match (dz (.bH t) (.a7 b (H b).gen 0)).run H with
 | some (some x,l)=>match r with
  | some (y,m)=>some ((x,y),l++m)
  | none=>none
 | _=>none
def b3.i'(H:Nat->bK)(f:Nat->Nat)(t:b3)(b:Nat){R:Type}(r:Option (R×List Nat)):Option (t.cons R×List Nat):=
 match t with
 | .cells t l=>Lf H f t l (H b).body r
 | .bf e=>Lg e (H b).body r
 | .hD e=>xk H (.slice e) (.own b (H b).gen) r
 | .mp k v=>Lh k v (H b).body r
 | .jh k v=>xk H (.map k v) (.fH b (H b).gen) r
 | .whole t=>Lk H t (H b).body r
 | .gI t=>Ll H t b r
 | .cu k v=>Li k v (H b).body r
 | .gh e t=>Lj H f e t (H b).body r
def xl(H:Nat->bK)(f:Nat->Nat):(l:List (Nat×b3))->Option (pf l×List Nat)
 | []=>some ((),[])
 | p::l=>p.2.i' H f (f p.1) (xl H f l)
def xm(H:Nat->bK)(f:Nat->Nat):(l:List (Nat×bY))->(Nat->aF)->{R:Type}->Option (R×List Nat)->Option (oy l R×List Nat)
 | [],_,_,r=>r
 | p::l,c,_,r=>p.2.i' H f (c p.1) (xm H f l c r)
def dH.oz(sh:dH):List Nat:=sh.bE.filterMap λp=>if p.2.CG then some p.1 else none
def dH.zH(sh:dH)(f:Nat->Nat)(s:aB):Option (sh.aj×List Nat):=
 match xm s.ab f sh.bT s.ax (xl s.ab f sh.bE) with
 | some (D,bV)=>if sh.oz.all (λb=>!bV.contains (f b))=true then some (D,bV) else none
 | none=>none
def Lm:List (Nat×b3)->Nat->Option b3
 | [],_=>none
 | p::l,b=>if b=p.1 then some p.2 else Lm l b
def Ln(s:aB)(i b be g':Nat):aB:=
 match decide (be≠b/\g'=(s.ab be).gen),(s.ab be).body with
 | true,.bf e xs=>⟨λj=>if j=i then .own b ((s.ab b).gen+1) else s.ax j,λj=>if j=b then ⟨(s.ab b).gen+1,.bf e xs⟩ else if j=be then ⟨(s.ab be).gen+1,.fz⟩ else s.ab j⟩
 | _,_=>s
def Lo(bs:List (Nat×b3))(s:aB)(i b:Nat):aB:=
 match s.ax i,Lm bs b with
 | .cS,some (.bf e)=>⟨λj=>if j=i then .own b ((s.ab b).gen+1) else s.ax j,(s.cx b ⟨(s.ab b).gen+1,.bf e []⟩).ab⟩
 | .own be g',some (.bf _)=>Ln s i b be g'
 | _,_=>s
def Lp(bs:List (Nat×b3))(s:aB)(c j b:Nat):aB:=
 match (s.ab c).body with
 | .cells t f=>match f j,(s.ab b).body,Lm bs b with
  | .cS,.fz,some (.bf e)=>(s.cx b ⟨(s.ab b).gen+1,.bf e []⟩).cx c ⟨(s.ab c).gen,.cells t λq=>if q=j then .own b ((s.ab b).gen+1) else f q⟩
  | _,_,_=>s
 | _=>s
def F5(bs:List (Nat×b3)):List (Nat×bY)->aB->aB
 | [],s=>s
 | p::l,s=>F5 bs l (match p.2 with | .own b=>Lo bs s p.1 b | _=>s)
def F6(bs:List (Nat×b3))(c:Nat):List bY->Nat->aB->aB
 | [],_,s=>s
 | t::l,j,s=>F6 bs c l (j+1) (match t with | .own b=>Lp bs s c j b | _=>s)
def F7(bs:List (Nat×b3)):List (Nat×b3)->aB->aB
 | [],s=>s
 | p::l,s=>F7 bs l (match p.2 with | .cells _ ts=>F6 bs p.1 ts 0 s | _=>s)
def dH.F8(sh:dH)(s:aB):aB:=F7 sh.bE sh.bE (F5 sh.bE sh.bT s)
def b3.SO:b3->Bool
 | .bf _ | .hD _ | .gh _ _=>true
 | _=>false
def dH.ae_(sh:dH)(s:aB):Bool:=sh.bE.all λp=>!(decide (wT<=p.1)&&p.2.SO)||decide ((s.ab p.1).gen=0)
def dH.i'(sh:dH)(s:aB):Option (sh.aj):=
 match sh.ae_ (sh.F8 s) with
 | true=>(sh.zH (λb=>b) (sh.F8 s)).map (·.1)
 | false=>none
def dH.mX{β:Type}(sh:dH)(s:aB)(k:sh.aj->A β):A β:=
 match sh.i' s with
 | some D=>k D
 | none=>A.fail
def bY.xn(t:bY){R:Type}(r:R):t.cons R:=
 match t with
 | .val t=>(t.dh,r)
 | .dV t=>(t.dh,r)
 | .sub _=>((0,0),r)
 | .aR _=>((0,λ_=>False,[],false),r)
 | .hf=>(0,r)
 | .iT _=>(0,r)
 | .undef | .a7 _ _ | .own _ | .fH _ | .j2 _ | .cS | .ix _ _ | .hG _=>r
def SP:(l:List bY)->{R:Type}->R->qc l R
 | [],_,r=>r
 | t::l,_,r=>t.xn (SP l r)
def b3.xn(t:b3){R:Type}(r:R):t.cons R:=
 match t with
 | .cells _ l=>SP l r
 | .bf _=>([],r)
 | .hD _=>([],r)
 | .mp _ _=>([],r)
 | .jh _ _=>([],r)
 | .whole t=>(t.dh,r)
 | .gI t=>(t.dh,r)
 | .cu _ _=>((none,[]),r)
 | .gh _ t=>(([],0),t.xn r)
def SQ:(l:List (Nat×b3))->pf l
 | []=>()
 | p::l=>p.2.xn (SQ l)
def SR:(l:List (Nat×bY))->{R:Type}->R->oy l R
 | [],_,r=>r
 | p::l,_,r=>p.2.xn (SR l r)
def dH.xn(sh:dH):sh.aj:=SR sh.bT (SQ sh.bE)
structure hk where
 ts:ad
 aR:ad
 sh:ts.aj->A aR.aj
 dI:Bool
def aP.cY(c:aP):hk:=⟨c.ts,c.aR,c.sh,true⟩
def A.zI{al:Type}(m:A al):Prop:=∀ x y,m.bQ x->m.bQ y->x=y
open Classical in
def A.val{al:Type}(m:A al)(d:al):al:=if h:∃ x,m.bQ x then h.choose else d
def hk.zJ(c:hk):aP:=⟨c.ts,c.aR,λx=>(c.sh x).cq,λx=>(c.sh x).val c.aR.dh⟩
structure cG where
 cp:dH
 bQ:dH
 kx:z9'
 ke:Nat
 sh:cp.aj->A bQ.aj
structure zK where
 ts:ad
 aL:ad
 pre:ts.aj->Prop
 seq:ts.aj->List aL.aj
inductive eV where
 | cY (c:hk)
 | eW (c:cG)
 | cu (c:zK)
 | F9 (c:hk)
 | F_ (c:cG) (sh:Nat->c.cp.aj->A c.bQ.aj) (ids:List Nat)
 | ky (c:aP)
 | CH (a:hk) (b:cG)
def Ga(bg:Nat->Option aP)(Ψ:Nat->Option eV)(k:Nat):Option aP:=
 match Ψ k with
 | some (.cY c)=>match c.dI&&!k8 c.aR with
  | true=>some c.zJ
  | false=>none
 | some (.ky c)=>some c
 | some (.CH c _)=>match c.dI&&!k8 c.aR with
  | true=>some c.zJ
  | false=>none
 | some _=>none
 | none=>bg k
def Lq(bg:Nat->Option aP)(Ψ:Nat->Option eV)(k:Nat):Option hk:=
 match Ψ k with
 | some (.cY c)=>some c
 | some _=>none
 | none=>(bg k).bind λc=>if k8 c.aR=true then none else some c.cY
structure hY where
 al:Type
 d:al
 b7:Prop
 m:A al
 st:al->aB
 CJ:Option (Bool->al->aB)
def q7(s:aB)(o:Oper)(aR:ad)(bV:List Nat)(v:aF):aB:=(if aR.pure then s else s.cB bV).set o.dst v
def zL(aQ:dD)(s:aB)(o:Oper)(args:List Operand)(cY:hk):Option hY:=
 match (iV cY.ts ((args.map (a8 aQ s.ax)).map λv=>(use v).2)).run s.ab with
 | some (x,bV)=>some ⟨cY.aR.aj,cY.aR.dh,jH (args.map (a8 aQ s.ax)),cY.sh x,λy=>q7 s o cY.aR bV (qS cY.aR y),some λg y=>q7 s o cY.aR bV (.hC g (qS cY.aR y))⟩
 | none=>none
def Gb(aQ:dD)(s:aB)(o:Oper)(args:List Operand)(cY:hk):Option hY:=
 match (iV cY.ts ((args.map (a8 aQ s.ax)).map λv=>(use v).2)).run s.ab with
 | some (x,_)=>some ⟨cY.aR.aj,cY.aR.dh,jH (args.map (a8 aQ s.ax)),cY.sh x,λy=>s.set o.dst (qS cY.aR y),none⟩
 | none=>none
def CK(aQ:dD)(s:aB)(o:Oper)(t:Nat)(args:List Operand):Option hY:=
 match use (s.ax t) with
 | (b7,.val (.fn a b) f)=>match (iV a ((args.map (a8 aQ s.ax)).map λv=>(use v).2)).run s.ab with
  | some (x,bV)=>some ⟨b.aj,b.dh,b7/\jH (args.map (a8 aQ s.ax)),f x,λy=>q7 s o b bV (qS b y),some λg y=>q7 s o b bV (.hC g (qS b y))⟩
  | none=>none
 | _=>none
def SS(t:bY)(av:aF):z8':=
 match t,av with
 | .a7 be _,.a7 b _ _=>[(be,b)]
 | .own be,.own b _=>[(be,b)]
 | .sub be,.own b _=>[(be,b)]
 | .sub be,.sub b _ _ _=>[(be,b)]
 | .fH be,.fH b _=>[(be,b)]
 | .j2 be,.j2 b _=>[(be,b)]
 | .ix _ fU,.ix _ _ c6=>(List.range fU.length).filterMap λi=>match fU[i]?,c6 i with
  | some p,.a7 b _ _=>some (p.1,b)
  | _,_=>none
 | _,_=>[]
def SU:List bY->(Nat->aF)->Nat->z8'
 | [],_,_=>[]
 | t::l,c,i=>SS t (c i)++SU l c (i+1)
def Lr:z8'->Nat->Option Nat
 | [],_=>none
 | p::l,b=>if b=p.1 then some p.2 else Lr l b
def SV(H:Nat->bK):List (Nat×b3)->z8'->z8'
 | [],m=>m
 | p::l,m=>SV H l (m++match p.2,Lr m p.1 with
  | .cells _ ts,some b=>(match (H b).body with | .cells _ c=>SU ts c 0 | _=>[])
  | _,_=>[])
def ae'(sh:dH)(s:aB):z8':=SV s.ab sh.bE (sh.bT.flatMap λp=>SS p.2 (s.ax p.1))
def sg(s:aB)(avs:List aF):aB:=⟨λi=>if i=b5 then s.ax b5 else if i<avs.length then avs.getD i .undef else .undef,s.ab⟩
def mY:Nat:=99999
def si(s:aB)(d:Nat)(f:Nat->Nat)(ins:List Nat):List (Nat×b3)->Nat->z6'
 | [],_=>[]
 | p::l,j=>(if ins.contains p.1 then (p.1,(f p.1,match p.2 with
   | .cells _ _ | .whole _ | .mp _ _ | .gI _ | .jh _ _=>(s.ab (f p.1)).gen
   | .bf _=>if wT<=p.1 then (s.ab (f p.1)).gen else (s.ab (f p.1)).gen+1
   | _=>(s.ab (f p.1)).gen+1)) else (p.1,(50000+10*d+j,(s.ab (50000+10*d+j)).gen+1)))::si s d f ins l (j+1)
def hZ:z6'->Nat->Nat×Nat
 | [],_=>(mY,0)
 | p::l,b=>if b=p.1 then p.2 else hZ l b
def ph:z9'->(Nat->aF)->Nat->List aF
 | [],_,_=>[]
 | none::l,c,i=>c i::ph l c (i+1)
 | some n::l,c,i=>.agg n (λj=>c (i+j))::ph l c (i+n)
def Ls(l:List aF):aF:=
 match l with
 | [v]=>v
 | l=>.p0 l.length (hh l)
def xo(s:aB)(c:cG)(f:Nat->Nat)(cf:z6')(bm:c.bQ.aj):aB:=
 ⟨λi=>if i=b5 then (if c.bQ.bT.any (λp=>p.1 == b5) then fp (eE (hZ cf) c.bQ.bT bm).1 b5 else if c.cp.bT.any (λp=>p.1 == b5) then .undef else s.ax b5) else s.ax i,λb=>match cf.find? (λp=>p.2.1 == b) with
  | some p=>⟨p.2.2,(eP (hj (hZ cf) c.bQ.bE (eE (hZ cf) c.bQ.bT bm).2) p.1).body⟩
  | none=>if (c.cp.oz.map f).contains b then ⟨(s.ab b).gen+1,.fz⟩ else s.ab b⟩
def afa(s:aB)(o:Oper)(c:cG)(f:Nat->Nat)(cf:z6')(bm:c.bQ.aj):aB:=
 aB.set (xo s c f cf bm) o.dst (Ls (ph c.kx (fp (eE (hZ cf) c.bQ.bT bm).1) 0))
def Gc(l:List Nat):Bool:=decide l.Nodup
def CL(c:cG)(f:Nat->Nat)(dO:aB)(cf:z6')(d n:Nat):Bool:=
  decide (d < 4000) && decide (c.bQ.bE.length <= 10) && Gc (c.cp.bE.map (·.1)) && Gc (c.cp.bE.map λp => f p.1) && Gc (cf.map (·.1)) && Gc (cf.map (·.2.1)) && (c.cp.bE.map (·.1)).all (λb => decide (eQ <= b))
        &&!(cf.map (·.2.1)).contains mY&&(match (dO.ab mY).body with | .fz=>true | _=>false)&&c.bQ.bE.all (λp=>c.cp.bE.all λq=>!(p.1 == q.1&&q.2.CG)||p.2.F2 q.2)&&(decide (n=c.ke)&&decide (n<=eQ))
def q8(aQ:dD)(s:aB)(args:List Operand):List aF:=(args.map (a8 aQ s.ax)).map λv=>(use v).2
def q9(c:cG)(eI:aB)(b:Nat):Nat:=(Lr (ae' c.cp eI) b).getD mY
def tW(aQ:dD)(s:aB)(o:Oper)(args:List Operand)(c:cG):Option hY:=
 match c.cp.zH (q9 c (sg s (q8 aQ s args))) (sg s (q8 aQ s args)) with
 | some (D,bV)=>match CL c (q9 c (sg s (q8 aQ s args))) (s.cB bV) (si (s.cB bV) (o.dst.getD 0) (q9 c (sg s (q8 aQ s args))) c.cp.oz c.bQ.bE 0) (o.dst.getD 0) args.length with
  | true=>some ⟨c.bQ.aj,c.bQ.xn,jH (args.map (a8 aQ s.ax)),c.sh D,λbm=>afa (s.cB bV) o c (q9 c (sg s (q8 aQ s args))) (si (s.cB bV) (o.dst.getD 0) (q9 c (sg s (q8 aQ s args))) c.cp.oz c.bQ.bE 0) bm,none⟩
  | false=>none
 | none=>none
def SW:Nat:=999999
def SX(c:cG)(sh:Nat->c.cp.aj->A c.bQ.aj)(ids:List Nat)(n:Option Nat):cG:={ c with sh:=λD=>A.ae (∃ k∈ids,n=some k) (sh (n.getD 0) D) }
def Gd(aQ:dD)(Ψ:Nat->Option eV)(s:aB)(o:Oper)(t:Nat)(args:List Operand):Option hY:=
 match s.ax t with
 | .val .eo n=>match Ψ SW with
  | some (.F_ c sh ids)=>tW aQ s o args (SX c sh ids n)
  | _=>none
 | _=>none
def Ge(aQ:dD)(s:aB)(o:Oper)(t:Nat)(args:List Operand):Option hY:=
 match s.ax t,s.ax b5 with
 | .hf dG,.aR l aL L n st=>match (iV aL ((args.map (a8 aQ s.ax)).map λv=>(use v).2)).run s.ab with
  | some (x,bV)=>some ⟨Bool,false,jH (args.map (a8 aQ s.ax)),A.ae (dG=l/\st=false/\∃ T,L (n++x::T)) (A.any λ_=>True),λb=>aB.set ⟨λi=>if i=b5 then .aR l aL L (n++[x]) (!b) else s.ax i,(s.cB bV).ab⟩ o.dst (.val .bool b),none⟩
  | none=>none
 | _,_=>none
def Gf(aQ:dD)(T:Nat->ad)(s:aB)(o:Oper)(ty:TypeId)(x:Operand):Option hY:=
 match T ty,o.dst with
 | .map k v,some d=>match use (a8 aQ s.ax x) with
  | (b7,av)=>match (dz (.map k v) av).run s.ab with
   | some (es,bV)=>if bV.contains d then none else
    some ⟨Unit,(),b7,A.pure (),λ_=>((s.cB bV).cx d ⟨(s.ab d).gen+1,.cu k v none es⟩).set o.dst (.j2 d ((s.ab d).gen+1)),none⟩
   | none=>none
 | _,_=>none
def Gg{al:Type}(l:List al):A (Option Nat):=⟨True,λx=>match x with | none=>l=[] | some i=>i<l.length⟩
def SY(i:Option Nat):Nat:=match i with | none=>0 | some _=>2
def nR{al:Type}(c:Option al)(ch:List al)(i:Option Nat):Option al:=match i with | none=>c | some i=>ch[i]?
def CM{al:Type}(ch:List al)(i:Option Nat):List al:=match i with | none=>ch | some i=>ch.eraseIdx i
def Gh(aQ:dD)(s:aB)(o:Oper)(x:Operand)(str:Bool):Option hY:=
 match str,a8 aQ s.ax x with
 | false,.j2 b g=>if (s.ab b).gen=g then (match (s.ab b).body with
  | .cu k v c ch=>some ⟨Option Nat,none,True,Gg ch,λi=>(s.cx b ⟨g,.cu k v (nR c ch i) (CM ch i)⟩).set o.dst (.p0 (Nat.succ (SY i)) (hh [.val .bool i.isSome])),none⟩
  | _=>none) else none
 | _,_=>none
def Gi(aQ:dD)(s:aB)(o:Oper)(x:Operand):Option hY:=
 match a8 aQ s.ax x with
 | .j2 b g=>if (s.ab b).gen=g then (match (s.ab b).body with
  | .cu k v c _=>some ⟨Unit,(),True,A.ae (c.isSome=true) (A.pure ()),λ_=>s.set o.dst (.p0 2 (hh [.val k ((c.map (·.1)).getD k.dh),.val v ((c.map (·.2)).getD v.dh)])),none⟩
  | _=>none) else none
 | _=>none
def CN(aQ:dD)(T:Nat->ad)(s:aB)(o:Oper)(op:BinOp)(ty:TypeId)(x y:Operand):Option hY:=
 match T ty,a8 aQ s.ax y with
 | .slice e,.cS=>match (dz (.slice e) (use (a8 aQ s.ax x)).2).run s.ab with
  | some (xs,_)=>match op with
   | .eql=>some ⟨Bool,false,(use (a8 aQ s.ax x)).1,A.any λb=>b=true->xs=[],λb=>s.set o.dst (.val .bool b),none⟩
   | .neq=>some ⟨Bool,false,(use (a8 aQ s.ax x)).1,A.any λb=>b=true->xs=[],λb=>s.set o.dst (.val .bool (!b)),none⟩
   | _=>none
  | none=>none
 | _,_=>none
def q_(aQ:dD)(T:Nat->ad)(bg:Nat->Option aP)(Ψ:Nat->Option eV)(s:aB)(o:Oper):Option hY:=
 match o.op with
 | .call c=>match c.callee with
  | .value f=>match f with
   | .func k=>match Ψ k with
    | some (.eW c')=>tW aQ s o c.args.toList c'
    | some (.CH a b)=>match tW aQ s o c.args.toList b with
     | some r=>some r
     | none=>zL aQ s o c.args.toList a
    | some (.F9 c')=>Gb aQ s o c.args.toList c'
    | _=>match Lq bg Ψ k with
     | some cY=>zL aQ s o c.args.toList cY
     | none=>none
   | .tmp t=>match CK aQ s o t c.args.toList with
    | some r=>some r
    | none=>match Gd aQ Ψ s o t c.args.toList with
     | some r=>some r
     | none=>Ge aQ s o t c.args.toList
   | _=>none
  | _=>none
 | .range ty x=>Gf aQ T s o ty x
 | .next x str=>Gh aQ s o x str
 | .entry x=>Gi aQ s o x
 | .binOp op ty x y _=>CN aQ T s o op ty x y
 | _=>none
def ck{al:Type}(g:Bool)(m:A al)(d:al):A al:=if g=true then m else A.pure d
def sj{β:Type}(b:Bool)(p:Prop)(m:A β):A β:=match b with | true=>m | false=>A.ae p m
def CO(o:Oper)(e9:aF)(l:List (Nat×bK)):Option (List (Nat×bK)×aF):=
 match l with
 | []=>some ([],e9)
 | p::dG=>match o.op with
  | .makeFunc ..=>some (p::dG,e9)
  | .buildSlice _ n _=>match dG,e9,p.2.body with
   | [],.own be g',.bf e xs=>if (be=p.1/\g'=p.2.gen)/\n≠0 then some ([(p.1,⟨p.2.gen,.fz⟩)],.val (.slice e) xs) else none
   | _,_,_=>none
  | _=>none
def SZ(hE:List (Nat×bK))(e9:aF):aF:=
 match e9 with
 | .own b _=>match hE.find? (λp=>p.1 == b) with
  | some (_,⟨_,.bf e xs⟩)=>.val (.slice e) xs
  | _=>e9
 | _=>e9
abbrev pj:=List (Nat×(Nat×Bool))
def sk(ops:Array Oper)(j d:Nat):Bool:=match ops[j]? with | some o=>(match o.dst with | some e=>e == d | none=>false) | none=>false
def afb(tg:pj)(t:Nat)(k:Nat×Bool):Bool:=tg.any λp=>p.1 == t&&(p.2.1 == k.1&&p.2.2 == k.2)
def xp(ops:Array Oper)(tg:pj)(o:Oper):pj:=
 match o.dst with
 | none=>tg
 | some d=>match o.guard with
  | some k=>if sk ops k.1 d=true then tg.filter λp=>p.1 != d&&!sk ops p.2.1 d else (d,k)::tg.filter λp=>p.1 != d&&!sk ops p.2.1 d
  | none=>tg.filter λp=>p.1 != d&&!sk ops p.2.1 d
def xq(aI:Operand->aF)(tg:pj)(gk:Option (Nat×Bool))(x:Operand):Bool:=
 !(aI x).zA||(match x,gk with | .tmp t,some k=>afb tg t k | _,_=>false)
def Gj(ops:Array Oper)(tg:pj)(c x:Operand)(want:Bool):Bool:=
 match c,x with
 | .tmp c,.tmp t=>tg.any λp=>p.1 == t&&(sk ops p.2.1 c&&p.2.2 == want)
 | _,_=>false
def Lt(aI:Operand->aF)(tg:pj)(gk:Option (Nat×Bool))(o:Oper):Bool:=o.op.operands.toList.all (xq aI tg gk)
def zM(aI:Operand->aF)(ops:Array Oper)(tg:pj)(gk:Option (Nat×Bool))(o:Oper):Bool:=
 match o.op with
 | .pick c a b=>xq aI tg gk c&&((xq aI tg gk a||Gj ops tg c a true)&&(xq aI tg gk b||Gj ops tg c b false))
 | _=>Lt aI tg gk o
def Lu(aI:Operand->aF)(tg:pj)(gk:Option (Nat×Bool))(o:Oper)(e9:aF):Bool:=
 !e9.zA||(match o.op with | .move x=>xq aI tg gk x | _=>false)
def h':Operand->Option Nat
 | .tmp t=>some t
 | _=>none
def zN(o gB kQ:Oper):Option (Oper×Nat×Nat):=
 match o.op with
 | .mapEntry ty m x=>match gB.op with
  | .extract e 1=>match kQ.op with
   | .entryStore mM dx a1 y=>match o.dst,gB.dst,kQ.dst with
    | some d1,some d2,none=>if h' e=some d1/\h' a1=some d2/\mM=ty/\(h' dx).isSome=true/\h' dx=h' m/\(h' y).isSome=true/\h' m≠some d1/\h' m≠some d2/\h' y≠some d1/\h' y≠some d2/\o.guard.isNone=true/\gB.guard.isNone=true/\kQ.guard.isNone=true
     then some ({ kQ with op:=.mapUpdate ty m x y },d1,d2) else none
    | _,_,_=>none
   | _=>none
  | _=>none
 | _=>none
def zO(o:Oper)(os:List Oper):Option (Oper×Nat×Nat):=
 match os with
 | gB::kQ::_=>zN o gB kQ
 | _=>none
def Gk{β:Type}:Nat->Int->(Nat->A β)->A β
 | 0,_,_=>A.fail
 | 1,_,k=>k 0
 | n+2,v,k=>if v=((n+1:Nat):Int) then k (n+1) else Gk (n+1) v k
theorem S0{β:Type}{O:β->Prop}{k:Nat->A β}{v:Int}:∀ {n:Nat},A.cw (Gk n v k) O->0<=v->v<(n:Int)->A.cw (k v.toNat) O
 | 0,h,_,_=>h.1.elim
 | 1,h,aX,E=>by
  have:v.toNat=0:=by omega
  rw[this];exact h
 | n+2,h,aX,E=>by
  unfold Gk at h;split at h
  ·grind
  ·exact S0 h aX (by omega)
def mm{β:Type}(aQ:dD)(T:Nat->ad)(bg:Nat->Option aP)(Ψ:Nat->Option eV)(ops:Array Oper):List Oper->pj->aB->(aB->A β)->A β
 | [],_,s,k=>k s
 | o::os,tg,s,k=>
  match zO o os with
  | some (kf,d1,d2)=>match os with
   | _::_::afc=>match (bt aQ T bg (a8 aQ s.ax) kf).run s.ab with
    | some res=>A.ae res.b7 (A.ae res.c (mm aQ T bg Ψ ops afc [] (((s.h8 none res).set (some d1) .undef).set (some d2) .undef) k))
    | none=>A.fail
   | _=>A.fail
  | none=>
  match kt s.ax ops o.guard with
  | none=>A.fail
  | some none=>match (bt aQ T bg (a8 aQ s.ax) o).run s.ab with
   | some res=>sj (zM (a8 aQ s.ax) ops tg none o) res.b7 (sj (mV (a8 aQ s.ax) o) res.c (mm aQ T bg Ψ ops os (xp ops tg o) (s.h8 o.dst res) k))
   | none=>match q_ aQ T bg Ψ s o with
    | some bU=>sj (sf (a8 aQ s.ax) o) bU.b7 (A.bind bU.m λy=>mm aQ T bg Ψ ops os [] (bU.st y) k)
    | none=>A.fail
  | some (some g)=>match (bt aQ T bg (a8 aQ s.ax) o).run s.ab with
   | some ⟨b7,c,e9,hE⟩=>match CO o e9 hE with
    | some (xr,sn)=>sj (zM (a8 aQ s.ax) ops tg o.guard o&&(mV (a8 aQ s.ax) o&&Lu (a8 aQ s.ax) tg o.guard o sn)) (g=true->b7/\(c/\(use sn).1)) (mm aQ T bg Ψ ops os (xp ops tg o) ((s.fY xr).set o.dst (.hC g (use sn).2)) k)
    | none=>if g=true then A.ae b7 (A.ae c (mm aQ T bg Ψ ops os [] (s.h8 o.dst ⟨b7,c,e9,hE⟩) k)) else mm aQ T bg Ψ ops os [] (s.set o.dst (.hC false (SZ hE (use e9).2))) k
   | none=>match q_ aQ T bg Ψ s o with
    | some bU=>match bU.CJ with
     | some gs=>sj (Lt (a8 aQ s.ax) tg o.guard o) (g=true->bU.b7) (A.bind (ck g bU.m bU.d) λy=>mm aQ T bg Ψ ops os (xp ops tg o) (gs g y) k)
     | none=>if g=true then A.ae bU.b7 (A.bind bU.m λy=>mm aQ T bg Ψ ops os [] (bU.st y) k) else mm aQ T bg Ψ ops os [] (s.set o.dst (.hC false (use ((bU.st bU.d).ax (o.dst.getD 0))).2)) k
    | none=>A.fail
def CP{β:Type}:List Prop->A β->A β
 | [],m=>m
 | p::l,m=>A.ae p (CP l m)
def zP(cl:List (List Nat)):Nat->Nat
 | 0=>0
 | n+1=>if (List.range n).all (λi=>(cl.getD n []).contains i)=true then zP cl n else n+1
def Lv(gD il hI iE lT:Oper):Bool:=
 match gD.op,il.op,hI.op with
 | .lookup ty m x false,.binOp .add _ (.tmp t) (.const (.int k c)) _,.mapEntry mM dx dK=>match gD.dst,il.dst,zN hI iE lT with
  | some ef,some fJ,some (_,d1,d2)=>decide (t=ef/\mM=ty/\fR k c/\h' dx=h' m/\h' dK=h' x/\ef≠fJ/\ef≠d1/\ef≠d2/\fJ≠d1/\fJ≠d2/\d1≠d2/\
    (h' m).isSome=true/\(h' x).isSome=true/\h' m≠some ef/\h' m≠some fJ/\h' m≠some d1/\h' m≠some d2/\h' x≠some ef/\h' x≠some fJ/\h' x≠some d1/\h' x≠some d2/\gD.guard.isNone=true/\il.guard.isNone=true)
  | _,_,_=>false
 | _,_,_=>false
def Gl(ops:List Oper):Bool:=
 match ops.drop (ops.length - 5) with
 | [gD,il,hI,iE,lT]=>Lv gD il hI iE lT&&(CE ops&&((List.range 5).all λq=>(List.range (ops.length - 5)).all λi=>((ik ops).getD (ops.length - 5+q) []).contains i)&&
   ((ik ops).getD (ops.length - 5+1) []).contains (ops.length - 5)&&((ik ops).getD (ops.length - 5+3) []).contains (ops.length - 5+2)&&((List.range 4).all λq=>((ik ops).getD (ops.length - 5+4) []).contains (ops.length - 5+q))&&
   (h_ hI).all (λi=>decide (i<ops.length - 5))&&(h_ iE).all (λi=>decide (i<ops.length - 5)||decide (i=ops.length - 5+2)))
 | _=>false
def lU(ops:List Oper):Nat:=if Gl ops=true then ops.length - 5 else zP (ik ops) ops.length
def A.afd{al:Type}(l:List (A al)):A al:=⟨∀ m∈l,m.cq,λx=>∃ m∈l,m.bQ x⟩
def vm(ops:List Oper)(done:List Nat):List Nat:=(List.range ops.length).filter λi=>!done.contains i&&match ops[i]? with | some o=>(h_ o).all λj=>done.contains j | none=>false
def ra(ops:List Oper):Nat->List Nat->List (List Nat)
 | 0,_=>[[]]
 | f+1,done=>match vm ops done with
  | []=>[[]]
  | l=>l.flatMap λi=>(ra ops f (i::done)).map (i::·)
def Gm(ops:List Oper):Nat->List Nat->Bool
 | 0,done=>(vm ops done).isEmpty
 | f+1,done=>(vm ops done).all λi=>Gm ops f (i::done)
def Gn{β:Type}(aQ:dD)(T:Nat->ad)(bg:Nat->Option aP)(Ψ:Nat->Option eV)(ops:Array Oper)(o:Oper)(s:aB)(k:aB->A β):A β:=
 match o.guard with
 | some _=>A.fail
 | none=>match (bt aQ T bg (a8 aQ s.ax) o).run s.ab with
  | some res=>sj (zM (a8 aQ s.ax) ops [] none o) res.b7 (sj (mV (a8 aQ s.ax) o) res.c (k (s.h8 o.dst res)))
  | none=>match q_ aQ T bg Ψ s o with
   | some bU=>sj (sf (a8 aQ s.ax) o) bU.b7 (A.bind bU.m λy=>k (bU.st y))
   | none=>A.fail
def zQ{β:Type}(aQ:dD)(T:Nat->ad)(bg:Nat->Option aP)(Ψ:Nat->Option eV)(ops:Array Oper):List Nat->aB->(aB->A β)->A β
 | [],s,k=>k s
 | i::cb,s,k=>match ops[i]? with
  | some o=>Gn aQ T bg Ψ ops o s λs'=>zQ aQ T bg Ψ ops cb s' k
  | none=>A.fail
def S1{β:Type}(aQ:dD)(T:Nat->ad)(bg:Nat->Option aP)(Ψ:Nat->Option eV)(ops:Array Oper)(s:aB)(k:aB->A β):A β:=
 match Gm ops.toList ops.size [] with
 | true=>A.afd ((ra ops.toList ops.size []).map λl=>zQ aQ T bg Ψ ops l s k)
 | false=>A.fail
def zR{β:Type}(aQ:dD)(T:Nat->ad)(bg:Nat->Option aP)(Ψ:Nat->Option eV)(ops:Array Oper)(s:aB)(k:aB->A β):A β:=
 match xf aQ T bg ops ops.toList s with
 | some (l,s')=>match zD ops.toList l with
  | true=>CP (l.flatMap eO.cs) (k s')
  | false=>A.fail
 | none=>match xf aQ T bg ops (ops.toList.take (lU ops.toList)) s with
  | some (l,s')=>match zD (ops.toList.take (lU ops.toList)) l&&CE ops.toList with
   | true=>CP (l.flatMap eO.cs) (mm aQ T bg Ψ ops (ops.toList.drop (lU ops.toList)) [] s' k)
   | false=>A.fail
  | none=>S1 aQ T bg Ψ ops s k
def lh(ops:List Oper):List Oper:=
 match ops with
 | []=>[]
 | o::l=>o::l.map λp=>{ p with after:=p.after.push ⟨0,.phase⟩ }
def Lw(ops:Array Oper):Bool:=
 match ops.toList with
 | []=>false
 | o::l=>(match o.op with | .move _=>true | _=>false)&&(o.guard.isNone&&(o.after.isEmpty&&(Region.noSelect ops&&l.all λp=>(h_ p).contains 0||o.apart ops p)))
inductive cy where
 | eN
 | seq (a b:cy)
 | join (sh:dH) (a b:cy)
 | cond (a b:cy)
 | block (a:cy)
 | loop (sh:dH) (a:cy)
 | scope (a:cy)
 | range (sh rin rout:dH) (a b:cy)
 | nS (a b:cy)
 | split (i off n:Nat) (a:cy)
 | num (i n:Nat) (a:cy)
 | nN (i:Nat) (a:cy)
 | Gp (b:Nat) (a:cy)
 | CQ (t:Nat) (a:cy)
 | Gq
def cy.ed:cy->Bool
 | .eN=>true
 | .seq a b=>a.ed&&b.ed
 | .join _ a b=>a.ed&&b.ed
 | .cond a b=>a.ed&&b.ed
 | .block a=>a.ed
 | .loop _ a=>a.ed
 | .scope a=>a.ed
 | .range ..=>false
 | .nS a b=>a.ed&&b.ed
 | .split _ _ _ a=>a.ed
 | .num _ _ a=>a.ed
 | .nN _ a=>a.ed
 | .Gp _ a=>a.ed
 | .CQ _ a=>a.ed
 | .Gq=>false
def cy.nT:cy->Bool
 | .nS ..=>true
 | .eN=>true
 | _=>false
inductive dj where
 | normal
 | exit (id:Nat)
 | ret
def dj.pk:dj->Exit
 | .normal=>.normal
 | .exit id=>.exit id
 | .ret=>.ret
open A (W)
def S2{β:Type}(k:dj->aB->A β)(f:aB->A β)(e:dj)(s:aB):A β:=
 match e with
 | .normal=>f s
 | .exit id=>k (.exit id) s
 | .ret=>k .ret s
def xt{D β:Type}(k:dj->aB->A β)(f:aB->A (W D β))(e:dj)(s:aB):A (W D β):=
 match e with
 | .normal=>f s
 | .exit id=>A.bind (k (.exit id) s) λr=>A.pure (.done r)
 | .ret=>A.bind (k .ret s) λr=>A.pure (.done r)
def S3{β:Type}(id:Nat)(k:dj->aB->A β)(e:dj)(s:aB):A β:=
 match e with
 | .normal=>k .normal s
 | .exit Gr=>if Gr=id then k .normal s else k (.exit Gr) s
 | .ret=>k .ret s
def W.bB{D β:Type}(f:D->A β)(st:W D β):A β:=
 match st with
 | .next x=>f x
 | .done r=>A.pure r
def S4{β:Type}(v:aF)(m n:A β):A β:=
 match v with
 | .val .bool t=>if t=true then m else n
 | .hC g (.val .bool t)=>A.ae (g=true) (if t=true then m else n)
 | _=>A.fail
def qd(s:aB)(i off:Nat):Option (Int×(Nat->aB)):=
 match s.ax i with
 | .a7 b _ o=>match (s.ab b).body with
  | .cells t f=>match f (o+off) with
   | .val (.int tX) x=>some (x,λj=>⟨s.ax,λbe=>if be=b then ⟨(s.ab b).gen,.cells t λq=>if q=o+off then .val (.int tX) (j:Int) else f q⟩ else s.ab be⟩)
   | _=>none
  | _=>none
 | _=>none
theorem afe{s:aB}{i off:Nat}{x:Int}{f:Nat->aB}(h:qd s i off=some (x,f))(aX:0<=x):f x.toNat=s:=by
 unfold qd at h;split at h
 ·rename_i b g o aD;split at h
  ·rename_i t iB aa;split at h
   ·rename_i tX dK ai;simp only[Option.some.injEq,Prod.mk.injEq]at h;obtain⟨rfl,rfl⟩:=h;have bG:((dK.toNat:Nat):Int)=dK:=by omega
    have ay:(λq=>if q=o+off then aF.val (.int tX) (show (ad.int tX).aj from ((dK.toNat:Nat):Int)) else iB q)=iB:=by
     grind
    have aN:(λbe=>if be=b then (⟨(s.ab b).gen,.cells t iB⟩:bK) else s.ab be)=s.ab:=by
     funext q;split
     ·rename_i e;rw[e,<-aa]
     ·rfl
    simp_all
   grind
  grind
 grind
def rb(s:aB)(i:Nat):Option (Int×(Nat->aB)):=
 match s.ax i with
 | .val (.int tX) x=>some (x,λn=>⟨λj=>if j=i then .val (.int tX) (n:Int) else s.ax j,s.ab⟩)
 | _=>none
theorem aff{s:aB}{i n:Nat}{x:Int}{f:Nat->aB}(h:rb s i=some (x,f))(aX:x=(n:Int)):f n=s:=by
 unfold rb at h;split at h
 ·rename_i tX dK aD;simp only[Option.some.injEq,Prod.mk.injEq]at h;obtain⟨rfl,rfl⟩:=h;have ay:(λj=>if j=i then aF.val (.int tX) (show (ad.int tX).aj from (n:Int)) else s.ax j)=s.ax:=by
   grind
  simp_all
 grind
def Lx(s:aB)(i:Nat):Option aB:=
 match s.ax i with
 | .oh b g n off=>match (s.ab b).body,off with
  | .bf (.st (.slice e)) xs,0=>if g=(s.ab b).gen then some ⟨λj=>if j=i then .iT b g n else s.ax j,λbe=>if be=b then ⟨g,.gh (.st (.slice e)) xs n (.val (.slice e) (xs.getD n []))⟩ else s.ab be⟩ else none
  | _,_=>none
 | _=>none
def Ly(s:aB)(b:Nat):Option aB:=
 match (s.ab b).body with
 | .gh (.st (.slice e)) xs n v=>match (dz (.slice e) v).run s.ab with
  | some (y,bV)=>if bV.contains b then none else some ((s.cB bV).cx b ⟨(s.ab b).gen,.bf (.st (.slice e)) (xs.set n y)⟩)
  | none=>none
 | _=>none
def Lz(s:aB)(i:Nat):Option aB:=
 match s.ax i with
 | .own b g=>match (s.ab b).body with
  | .bf _ xs=>if g=(s.ab b).gen then some ⟨λj=>if j=i then .tv b g xs.length else s.ax j,s.ab⟩ else none
  | _=>none
 | .tv _ _ n=>some ⟨λj=>if j=i then .wR n else s.ax j,s.ab⟩
 | _=>none
def jM{D al:Type}(body:D->al->A (dj×D)):List al->D->A (dj×D)
 | [],D=>A.pure (.normal,D)
 | x::xs,D=>A.bind (body D x) λp=>match p.1 with
  | .normal=>jM body xs p.2
  | .exit id=>A.pure (.exit id,p.2)
  | .ret=>A.pure (.ret,p.2)
def zS(aL:ad)(x:aL.aj):List Tmp->Nat->(Nat->aF)->Nat->aF
 | [],_,f=>f
 | p::ps,i,f=>zS aL x ps (i+1) (λj=>if j=p then kq aL x i else f j)
def xu(s:aB)(aL:ad)(x:aL.aj)(ps:List Tmp):aB:=⟨λi=>if i=b5 then s.ax b5 else zS aL x ps 0 s.ax i,s.ab⟩
def vn(rin rout:dH):cG:=⟨rin,rout,[],0,λ_=>A.fail⟩
def tY{bm:Type}(sh rin rout:dH)(aL:ad)(ps:List Tmp)(D:sh.aj)(x:aL.aj)(run:aB->A (bm×rout.aj)):A (bm×sh.aj):=
 match rin.zH (q9 (vn rin rout) (xu (sh.st D) aL x ps)) (xu (sh.st D) aL x ps) with
 | some (aI,bV)=>match CL (vn rin rout) (q9 (vn rin rout) (xu (sh.st D) aL x ps)) ((sh.st D).cB bV) (si ((sh.st D).cB bV) 0 (q9 (vn rin rout) (xu (sh.st D) aL x ps)) rin.oz rout.bE 0) 0 0 with
  | true=>A.bind (run (rin.st aI)) λp=>sh.mX (xo ((sh.st D).cB bV) (vn rin rout) (q9 (vn rin rout) (xu (sh.st D) aL x ps)) (si ((sh.st D).cB bV) 0 (q9 (vn rin rout) (xu (sh.st D) aL x ps)) rin.oz rout.bE 0) p.2) λiF=>A.pure (p.1,iF)
  | false=>A.fail
 | none=>A.fail
def nU(sh rout:dH)(aL:ad)(ps:List Tmp)(nt:Nat):Bool:=
 rout.bT.isEmpty&&!sh.bT.any (λp=>p.1 == b5)&&decide (aL≠.cV)&&decide (ps.length=j5 aL)&&ps.all λp=>decide (p<nt)
def Gs{β:Type}(f:aB->A β)(e:dj)(s:aB):A β:=
 match e with
 | .normal=>f s
 | .exit _=>A.fail
 | .ret=>A.fail
def so{β:Type}(n:A β)(x:Nat->A β)(r:A β)(e:dj):A β:=
 match e with
 | .normal=>n
 | .exit id=>x id
 | .ret=>r
def LA{β:Type}(k:dj->aB->A β)(e:dj)(s:aB):A β:=so (k .normal s) (λid=>k (.exit id) s) (k .ret s) e
theorem S5{β:Type}(k:dj->aB->A β)(e:dj)(s:aB):LA k e s=k e s:=by cases e<;>rfl
def ez(aQ:dD)(T:Nat->ad)(bg:Nat->Option aP)(Ψ:Nat->Option eV):cy->{β:Type}->Code->aB->(dj->aB->A β)->A β
 | .seq a b,_,c,s,k=>match c with
  | .seq x y=>ez aQ T bg Ψ a x s (S2 k λs'=>ez aQ T bg Ψ b y s' k)
  | _=>A.fail
 | .join sh a b,β,c,s,k=>match c with
  | .seq x y=>A.bind (ez aQ T bg Ψ a (β:=W sh.aj β) x s (xt k λs'=>sh.mX s' λD=>A.pure (.next D))) (W.bB λD=>ez aQ T bg Ψ b y (sh.st D) k)
  | _=>A.fail
 | .cond a b,_,c,s,k=>match c with
  | .cond c x y=>S4 (a8 aQ s.ax c) (ez aQ T bg Ψ a x s k) (ez aQ T bg Ψ b y s k)
  | _=>A.fail
 | .block a,_,c,s,k=>match c with
  | .block id c=>ez aQ T bg Ψ a c s (S3 id k)
  | _=>A.fail
 | .loop sh a,β,c,s,k=>match c with
  | .loop c=>sh.mX s λD=>A.loop (λD=>ez aQ T bg Ψ a (β:=W sh.aj β) c (sh.st D) (xt k λs'=>sh.mX s' λiF=>A.pure (.next iF))) D
  | _=>A.fail
 | .nS a b,_,c,s,k=>match c with
  | .loop x=>match b.nT with
   | true=>ez aQ T bg Ψ a x s (S2 k λs'=>ez aQ T bg Ψ b (.loop x) s' k)
   | false=>A.fail
  | _=>A.fail
 | .scope a,_,c,s,k=>match c with
  | .scope c=>ez aQ T bg Ψ a c s k
  | _=>A.fail
 | .num i n a,_,c,s,k=>match rb s i with
  | some (x,f)=>A.ae (x=(n:Int)) (ez aQ T bg Ψ a c (f n) k)
  | none=>A.fail
 | .nN i a,_,c,s,k=>match Lx s i with
  | some s'=>ez aQ T bg Ψ a c s' k
  | none=>A.fail
 | .CQ t a,_,c,s,k=>match Lz s t with
  | some s'=>ez aQ T bg Ψ a c s' k
  | none=>A.fail
 | .Gp b a,_,c,s,k=>match Ly s b with
  | some s'=>ez aQ T bg Ψ a c s' k
  | none=>A.fail
 | .split i off n a,_,c,s,k=>match qd s i off with
  | some (x,f)=>A.ae (0<=x/\x<(n:Int)) (Gk n x λj=>ez aQ T bg Ψ a c (f j) k)
  | none=>A.fail
 | .range sh rin rout a b,_,c,s,k=>match c with
  | .rangeFunc g ps assign body=>match a8 aQ s.ax g with
   | .r0 re n eT=>match Ψ re with
    | some (.cu ic)=>match (iV ic.ts ((List.range n).map eT)).run s.ab with
     | some (x,bV)=>match nU sh rout ic.aL ps.toList eQ&&(a.ed&&b.ed) with
      | true=>sh.mX (s.cB bV) λD=>A.ae (ic.pre x) (A.bind (jM (λD y=>tY sh rin rout ic.aL ps.toList D y λeI=>
       ez aQ T bg Ψ a (β:=dj×rout.aj) assign eI (Gs λdO=>ez aQ T bg Ψ b body dO λe eJ=>rout.mX eJ λbm=>A.pure (e,bm))) (ic.seq x) D) λp=>LA k p.1 (sh.st p.2))
      | false=>A.fail
     | none=>A.fail
    | _=>A.fail
   | .val (.cu aL) S=>match nU sh rout aL ps.toList eQ&&(a.ed&&b.ed) with
    | true=>sh.mX s λD=>A.bind (A.any S) λL=>A.bind (jM (λD y=>tY sh rin rout aL ps.toList D y λeI=>
     ez aQ T bg Ψ a (β:=dj×rout.aj) assign eI (Gs λdO=>ez aQ T bg Ψ b body dO λe eJ=>rout.mX eJ λbm=>A.pure (e,bm))) L D) λp=>LA k p.1 (sh.st p.2)
    | false=>A.fail
   | _=>A.fail
  | _=>A.fail
 | .Gq,_,c,s,k=>match c with
  | .region _ ops draw=>match draw&&Lw ops with
   | true=>zR aQ T (Ga bg Ψ) Ψ (lh ops.toList).toArray s (k .normal)
   | false=>A.fail
  | _=>A.fail
 | .eN,_,c,s,k=>match c with
  | .region _ ops draw=>match draw with
   | true=>zR aQ T (Ga bg Ψ) Ψ ops s (k .normal)
   | false=>mm aQ T bg Ψ ops ops.toList [] s (k .normal)
  | .skip=>k .normal s
  | .label _=>k .normal s
  | .exit id=>k (.exit id) s
  | .ret=>k .ret s
  | _=>A.fail
def lj(nt:Nat):Code->Bool
 | .region _ ops _=>ops.toList.all λo=>lf o nt
 | .seq a b=>lj nt a&&lj nt b
 | .cond _ a b=>lj nt a&&lj nt b
 | .block _ a=>lj nt a
 | .loop a=>lj nt a
 | .scope a=>lj nt a
 | .rangeFunc _ ps a b=>ps.toList.all (λp=>decide (p<nt))&&(lj nt a&&lj nt b)
 | .skip=>true
 | .label _=>true
 | .exit _=>true
 | .ret=>true
 | _=>false
end Go.Fer
