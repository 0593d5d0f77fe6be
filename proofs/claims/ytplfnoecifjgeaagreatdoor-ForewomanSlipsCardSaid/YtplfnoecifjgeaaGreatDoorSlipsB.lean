/- Part 2 of the proof of Slips: shallow programs of Go functions, and what they compute. No condition. -/
import Derived.Test.YtplfnoecifjgeaaGreatDoorSlipsA
import Derived.Laws.BytesString
noncomputable section
set_option linter.unusedVariables false
set_option linter.unusedSimpArgs false
namespace Go.Fer
open Go.RowKit
theorem B9{p:Addr}(h:p.spot=none)(n:Nat):p.add n=⟨p.block,p.off+n,none⟩:=by
 obtain⟨b,o,sp⟩:=p;simp only at h;subst h;exact uS b o n
theorem Kd{e:af}{xs:List e.ai}{i:Int}(h1:0<=i)(h2:i<(xs.length:Int)):kG e xs i=xs[i.toNat]'(by omega):=by
 unfold kG;grind
section
variable {C:bS} {T:Nat->af} {a6:Nat->Option aL} {o:Oper} {s:az} {res:eb}
theorem Ke{P:Program}{w:World}{e:af}{ty:TypeId}(h:bQ P (.slice e) ty){p:Addr}(hp:p.spot=none){n cap:Nat}{k:IntKind}{i:Int}(h1:0<=i)(h2:i<(n:Int)) :
  (Instr.indexAt ty (.slice (some p) n cap) (.int k i)).run P w=.ok (.pointer (some ⟨p.block,p.off+i.toNat*e.size,none⟩)) w:=by
 obtain⟨j,aD,h9,_⟩:=h.sl;simp[Instr.indexAt,asIntOf,dk aD,h1,h2,h9.size,B9 hp]
theorem adn(hT:dz C.P T){ty:TypeId}{x i:Operand}(a7:∀ i,o.dst=some i->i<C.nt)(ah:o.op=.indexAddr ty x i)(h:(bh C.aM T a6 (aW C.aM s.ax) o).run s.ae=some res):cp C o s res:=by
 simp only[bh,ah]at h;split at h
 ·rename_i e0 k n aI G;have cY:=hT.bU aI (by simp);simp only[bA,ar.eM,Option.bind_eq_some_iff,ar.bz,Option.some.injEq]at h;obtain⟨⟨c,v⟩,gR,rfl⟩:=h;refine cp.pure (by grind) a7 λa w κ F aa aZ hc=>?_;have hx:bl C.P s.ae κ F w (use (aW C.aM s.ax x)).2 (a.eval x):=cv aa x rfl aZ.1;have h2:=n9 (cv aa i rfl aZ.2) G;have zf:∀ (xs:List e0.ai),bu C.P (.slice e0) F w [a.eval x] xs->0<=n/\n<(xs.length:Int)->∃ r,(execOp a.eval o).run C.P w=.ok (.value r) w/\bl C.P s.ae κ F w (.dD e0 (kG e0 xs n)) r:=by
   intro xs hG aB;obtain⟨a',cap,e1,m1,m2,m3,m4⟩:=hG;have e1:=(List.cons.inj e1).1;cases a' with
   | none=>grind
   | some p=>
    obtain⟨dA,dB,iu⟩:=m4 p rfl (by omega);obtain⟨a_,d1,d2⟩:=iu n.toNat (by omega);refine⟨_,by simp[execOp,ah,e1,h2.1,Ke cY dB aB.1 aB.2],⟨p.block,p.off+n.toNat*e0.size,none⟩,a_,rfl,d1,?_⟩;rw[Kd aB.1 aB.2];exact d2
  unfold Rf at gR;split at gR
  ·rename_i e xs eS;simp only[ar.bz]at gR;split at gR
   ·rename_i he;subst he;simp only[Option.some.injEq,Prod.mk.injEq]at gR;obtain⟨rfl,rfl⟩:=gR;rw[eS]at hx;exact zf xs ((dC rfl).1 hx).2 hc
   grind
  ·rename_i b g eS;rw[eS]at hx;simp only[ar.eL,ar.bz]at gR;split at gR
   ·rename_i aA;have aN:=aa.bq b;unfold cj at aN;split at gR
    ·rename_i e xs bE;split at gR
     ·rename_i he;subst he;simp only[Option.some.injEq,Prod.mk.injEq]at gR;obtain⟨rfl,rfl⟩:=gR;have hv:=hx.2 aA.symm (by rw[bE];rfl);rw[bE]at hv aN;have uZ:(κ b).eQ=false:=by
       cases aB:(κ b).eQ with
       | false=>rfl
       | true=>rw[aN.1 aB]at hc;grind
      simp only[bo.slice,uZ,Bool.false_eq_true,if_false,bC.len]at hv;refine⟨_,by simp[execOp,ah,hv,h2.1,Ke cY (p:=⟨(κ b).ae,(κ b).off,none⟩) rfl hc.1 hc.2];rfl,⟨hx.1.1,rfl⟩,λ_ _=>?_⟩;rw[bE];exact⟨by simp only[bC.len];omega,uZ,rfl⟩
     grind
    ·rename_i e xs bE;split at gR
     ·rename_i he;subst he;simp only[Option.some.injEq,Prod.mk.injEq]at gR;obtain⟨rfl,rfl⟩:=gR;have hv:=hx.2 aA.symm (by rw[bE];rfl);rw[bE]at hv aN;simp only[bC.len]at hv;refine zf xs ?_ hc;rw[hv];exact aN
     grind
    grind
   grind
  ·rename_i b g lo G eS;rw[eS]at hx;simp only[ar.eL,ar.bz]at gR;split at gR
   ·rename_i aA;have aN:=aa.bq b;unfold cj at aN;split at gR
    ·rename_i e xs bE;split at gR
     ·rename_i he;subst he;simp only[Option.some.injEq,Prod.mk.injEq]at gR;obtain⟨rfl,rfl⟩:=gR;obtain⟨⟨aP,aQ⟩,bB⟩:=hx.2 aA.symm (by rw[bE];rfl);rw[bE]at aQ bB aN;simp only[bC.len,bC.eK]at aQ bB;rcases bB with⟨aB,_⟩ | ⟨aB,l_,hv,o1,gb⟩
      ·rw[aN.1 aB]at aQ;grind
      ·obtain⟨cs,hH,c1,c2,c3,c4,c5⟩:=aN.2 aB;refine⟨_,by simp[execOp,ah,hv,h2.1,Ke cY (p:=⟨(κ b).ae,l_,none⟩) rfl hc.1 hc.2];rfl,⟨hx.1.1,rfl⟩,λ_ _=>?_⟩;rw[bE];refine⟨by simp only[bC.len];omega,aB,?_⟩;rw[gb (by omega)];simp only[bC.eK,Nat.add_mul];grind
     grind
    ·rename_i e xs bE;split at gR
     ·rename_i he;subst he;simp only[Option.some.injEq,Prod.mk.injEq]at gR;obtain⟨rfl,rfl⟩:=gR;obtain⟨⟨aP,aQ⟩,bB⟩:=hx.2 aA.symm (by rw[bE];rfl);rw[bE]at aQ bB aN;simp only[bC.len,bC.eK]at aQ bB;have hlen:((xs.take G).drop lo).length=G - lo:=by grind
      obtain⟨r,b3,cr⟩:=zf ((xs.take G).drop lo) (E7 aN aP aQ bB) (by omega);refine⟨r,b3,?_⟩;have e1:kG e ((xs.take G).drop lo) n=kG e xs ((lo:Int)+n):=by
       rw[Kd hc.1 (by omega),Kd (by omega) (by omega)];grind
      grind
     grind
    grind
   grind
  ·simp_all
  ·cases gR
 ·rename_i m e0 k n aI G;split at h
  ·rename_i df aV xs eS;split at h
   ·rename_i he;obtain⟨rfl,rfl⟩:=he;simp only[bA,ar.bz,Option.some.injEq]at h;subst h;refine cp.pure (by grind) a7 λa w κ F aa aZ hc=>?_;have hx:bl C.P s.ae κ F w (use (aW C.aM s.ax x)).2 (a.eval x):=cv aa x rfl aZ.1;rw[eS]at hx;have h2:=n9 (cv aa i rfl aZ.2) G;obtain⟨j,aD,qN,_⟩:=(hT.bU aI (by simp)).a8;obtain⟨p,a_,hv,cB,nB⟩:=hx;obtain⟨c1,c2,c3,rfl,e2,e3⟩:=J3 nB (i:=n.toNat) (by omega);refine⟨.pointer (some ⟨p.block,p.off+n.toNat*aV.size,none⟩),?_,⟨p.block,p.off+n.toNat*aV.size,none⟩,c2,rfl,⟨cB.1,rfl,λq bf=>?_⟩,e3⟩
    ·simp[execOp,ah,Instr.indexAt,hv,h2.1,asIntOf,dk aD,hc.1,hc.2,qN.size,B9 cB.2.1,Instr.sureAddr]
    ·have:=cB.2.2 (c1.length+q) (by grind);grind
   ·cases h
  ·rename_i b g off eS;simp only[ar.eL,ar.bz]at h;split at h
   ·rename_i ba;simp only[Bool.and_eq_true,decide_eq_true_eq]at ba;simp only[Option.some.injEq]at h;subst h;refine cp.pure (by grind) a7 λa w κ F aa aZ hc=>?_;have h1:bl C.P s.ae κ F w (use (aW C.aM s.ax x)).2 (a.eval x):=cv aa x rfl aZ.1;rw[eS]at h1;have h2:=n9 (cv aa i rfl aZ.2) G;have h3:=h1.2 ba.1.symm ba.2;obtain⟨j,aD,qN,_⟩:=(hT.bU aI (by simp)).a8;exact⟨_,by simp[execOp,ah,Instr.indexAt,h3,h2.1,asIntOf,dk aD,hc.1,hc.2,qN.size,B9 (p:=⟨(κ b).ae,off,none⟩) rfl,Instr.sureAddr],⟨h1.1.1,rfl⟩,λ_ _=>rfl⟩
   grind
  ·cases h
 ·cases h
theorem B_{a:Act}{w:World}{κ:Nat->bo}{F:Nat->Prop}(aa:bc C s a w κ F){x:Option Operand}{p:Prop}{n:Option Int}(h:kY (aW C.aM s.ax) x=some (p,n))(hp:p) :
  (x=none/\n=none)\/∃ y k m,x=some y/\n=some m/\a.eval y=.int k m:=by
 cases x with
 | none=>simp only[kY,Option.some.injEq,Prod.mk.injEq]at h;grind
 | some y=>
  simp only[kY]at h;split at h
  ·rename_i q k m hu;simp only[Option.some.injEq,Prod.mk.injEq]at h;obtain⟨rfl,rfl⟩:=h;exact .inr ⟨y,k,m,rfl,rfl,(gB.1 (cv aa y hu hp)).1⟩
  grind
theorem RI{P:Program}{w:World}{isS:Bool}{len cap:Nat}{lo G:Option Value}{l h:Option Int}(an:(lo=none/\l=none)\/∃ k m,lo=some (.int k m)/\l=some m)(cB:(G=none/\h=none)\/∃ k m,G=some (.int k m)/\h=some m)
  (h1:0<=c8 l) (h2:c8 l<=fo len h) (h3:fo len h<=(cap:Int)) (_h4:len<=cap):(Instr.sliceBounds isS len cap lo G none).run P w=.ok ((c8 l).toNat,(fo len h).toNat,cap) w:=by
 rcases an with⟨rfl,rfl⟩ | ⟨k,m,rfl,rfl⟩<;>rcases cB with⟨rfl,rfl⟩ | ⟨k',df,rfl,rfl⟩<;>simp only[c8,fo]at h1 h2 h3 ⊢
 ·rfl
 ·have:0<=df/\df<=(cap:Int):=by omega
  simp[Instr.sliceBounds,Instr.sliceBound,asIntOf,this]
 ·have:0<=m/\m<=(len:Int):=by omega
  simp[Instr.sliceBounds,Instr.sliceBound,asIntOf,this]
 ·have e1:0<=df/\df<=(cap:Int):=by omega
  have e2:0<=m/\m<=df:=by omega
  have e3:max df 0=df:=by omega
  simp[Instr.sliceBounds,Instr.sliceBound,asIntOf,e1,e2,e3]
theorem ado{l h:Option Int}{n m:Nat}(RJ:n<=m):BP l h n m<=m:=by
 unfold BP;grind
theorem adp(hT:dz C.P T){ty:TypeId}{x:Operand}{lo G:Option Operand}(a7:∀ i,o.dst=some i->i<C.nt)(ah:o.op=.slice ty x lo G none)(h:(bh C.aM T a6 (aW C.aM s.ax) o).run s.ae=some res):cp C o s res:=by
 simp only[bh,ah,Option.isSome_none,Bool.false_eq_true,if_false,E_]at h;split at h
 ·rename_i ol l qI lG rS Kf;have aw:∀ c,o.op≠.defer c:=by grind
  have rI:∀ (a:Act) (w:World) κ F,bc C s a w κ F->ol->qI->((lo.map a.eval=none/\l=none)\/∃ k m,lo.map a.eval=some (.int k m)/\l=some m)/\((G.map a.eval=none/\lG=none)\/∃ k m,G.map a.eval=some (.int k m)/\lG=some m):=by
   intro a w κ F aa B' Ca;constructor
   ·rcases B_ aa rS B' with⟨rfl,rfl⟩ | ⟨y,k,m,rfl,rfl,e⟩
    ·exact .inl ⟨rfl,rfl⟩
    ·exact .inr ⟨k,m,by simp[e],rfl⟩
   ·rcases B_ aa Kf Ca with⟨rfl,rfl⟩ | ⟨y,k,m,rfl,rfl,e⟩
    ·exact .inl ⟨rfl,rfl⟩
    ·exact .inr ⟨k,m,by simp[e],rfl⟩
  split at h
  ·rename_i e0 aI;have cY:=hT.bU aI (by simp);obtain⟨j,aD,h9,oa⟩:=cY.sl;simp only[ar.eM,Option.bind_eq_some_iff]at h;obtain⟨⟨c,v⟩,fC,h⟩:=h;simp only[bA,ar.bz,Option.some.injEq]at h;subst h;have runs:∀ (a:Act) (w:World) κ F,bc C s a w κ F->ol->qI->∀ (q:Option Addr) (n cap:Nat),a.eval x=.slice q n cap->n<=cap->0<=c8 l/\c8 l<=fo n lG/\fo n lG<=(cap:Int)->
     (execOp a.eval o).run C.P w=.ok (.value (.slice (if cap=(c8 l).toNat then q else q.map (·.add ((c8 l).toNat*e0.size))) ((fo n lG).toNat - (c8 l).toNat) (cap - (c8 l).toNat))) w:=by
    intro a w κ F aa B' Ca q n cap hv aB hc;obtain⟨dd,dN⟩:=rI a w κ F aa B' Ca;have:=RI (P:=C.P) (w:=w) (isS:=true) dd dN hc.1 hc.2.1 hc.2.2 aB;simp[execOp,ah,hv,Instr.sliceAt,Instr.slice,dk aD,this,h9.size]
   unfold Rg at fC;split at fC
   ·rename_i e xs eS;simp only[ar.bz]at fC;split at fC
    ·rename_i he;subst he;simp only[Option.some.injEq,Prod.mk.injEq]at fC;obtain⟨rfl,rfl⟩:=fC;refine cp.pure aw a7 λa w κ F aa aZ hc=>?_;have hx:bl C.P s.ae κ F w (use (aW C.aM s.ax x)).2 (a.eval x):=cv aa x rfl aZ.1;rw[eS]at hx;obtain⟨_,a',cap,e1,m1,m2,m3,m4⟩:=(dC rfl).1 hx;have e1:=(List.cons.inj e1).1;refine⟨_,runs a w κ F aa aZ.2.1 aZ.2.2 a' xs.length cap e1 m1 ⟨hc.1,hc.2.1,by omega⟩,(dC rfl).2 ⟨rfl,?_⟩⟩;have hlen:((xs.take (fo xs.length lG).toNat).drop (c8 l).toNat).length=(fo xs.length lG).toNat - (c8 l).toNat:=by
      simp;omega
     refine⟨_,_,by rw[hlen],by omega,by omega,?_,λp hp uN=>?_⟩
     ·intro aB;split at aB
      ·omega
      ·cases a' with
       | none=>have:=m3 rfl;omega
       | some q=>cases aB
     ·cases a' with
      | none=>split at hp<;>cases hp
      | some q=>
       obtain⟨dA,dB,iu⟩:=m4 q rfl (by omega);have bf:∃ d,p=⟨q.block,q.off+d,none⟩/\(d=(c8 l).toNat*e.size\/cap=(c8 l).toNat):=by
        split at hp
        ·omega
        ·simp only[Option.map_some,Option.some.injEq]at hp;rw[B9 dB]at hp;grind
       obtain⟨d,rfl,wM⟩:=bf;refine⟨dA,rfl,λi G=>?_⟩;rw[hlen]at G;obtain⟨a_,d1,d2⟩:=iu ((c8 l).toNat+i) (by omega);rcases wM with rfl | wY
       ·refine⟨a_,⟨d1.1,rfl,λk aj=>?_⟩,?_⟩
        ·have:=d1.2.2 k aj;rw[Nat.add_mul]at this;rw[show q.off+(c8 l).toNat*e.size+i*e.size=q.off+((c8 l).toNat*e.size+i*e.size) from by omega];exact this
        ·have e2:((xs.take (fo xs.length lG).toNat).drop (c8 l).toNat)[i]'(by rw[hlen];exact G)=xs[(c8 l).toNat+i]'(by omega):=by simp
         rw[e2];exact d2
       ·omega
    grind
   ·rename_i eS;simp only[ar.bz,Option.some.injEq,Prod.mk.injEq]at fC;obtain⟨rfl,rfl⟩:=fC;refine cp.pure aw a7 λa w κ F aa aZ hc=>?_;have hx:bl C.P s.ae κ F w (use (aW C.aM s.ax x)).2 (a.eval x):=cv aa x rfl aZ.1;rw[eS]at hx;simp only[bl]at hx;have jB:0<=c8 l/\c8 l<=fo 0 lG/\fo 0 lG<=((0:Nat):Int):=hc;have cK:=runs a w κ F aa aZ.2.1 aZ.2.2 none 0 0 hx (Nat.le_refl _) jB;have h0:(fo 0 lG).toNat=0:=by omega
    rw[h0]at cK;refine⟨_,cK,?_⟩;simp only[bl];simp
   ·rename_i b g eS;simp only[ar.eL,ar.bz]at fC;split at fC
    ·rename_i ba;simp only[Bool.and_eq_true,decide_eq_true_eq,beq_iff_eq]at ba;obtain⟨⟨aA,eT⟩,B1⟩:=ba;simp only[Option.some.injEq,Prod.mk.injEq]at fC;obtain⟨rfl,rfl⟩:=fC;refine cp.pure aw a7 λa w κ F aa aZ hc=>?_;have hx:bl C.P s.ae κ F w (use (aW C.aM s.ax x)).2 (a.eval x):=cv aa x rfl aZ.1;rw[eS]at hx;have hv:=hx.2 aA.symm eT;obtain⟨dA,dB⟩:=za aa eT;cases aB:(κ b).eQ with
     | true=>
      have h0:=dA aB;simp only[bo.slice,aB,if_true]at hv;rw[h0]at hc;have cK:=runs a w κ F aa aZ.2.1 aZ.2.2 none 0 0 hv (Nat.le_refl _) hc;refine⟨_,cK,⟨hx.1.1,by rfl⟩,λ_ _=>⟨by grind,.inl ⟨aB,?_⟩⟩⟩;grind
     | false=>
      have wY:=J4 aa eT aB;simp only[bo.slice,aB,Bool.false_eq_true,if_false]at hv;have cK:=runs a w κ F aa aZ.2.1 aZ.2.2 _ _ _ hv wY ⟨hc.1,hc.2.1,by omega⟩;refine⟨_,cK,⟨hx.1.1,by rfl⟩,λ_ _=>⟨by omega,.inr ⟨aB,?_⟩⟩⟩;rw[<-B1];by_cases lB:(κ b).cap=(c8 l).toNat
      ·grind
      ·rw[if_neg lB];simp only[Option.map_some,uS];simp
    grind
   ·rename_i b g e5 h0 eS;simp only[ar.eL,ar.bz]at fC;split at fC
    ·rename_i ba;simp only[Bool.and_eq_true,decide_eq_true_eq,beq_iff_eq]at ba;obtain⟨⟨aA,eT⟩,B1⟩:=ba;simp only[Option.some.injEq,Prod.mk.injEq]at fC;obtain⟨rfl,rfl⟩:=fC;refine cp.pure aw a7 λa w κ F aa aZ hc=>?_;have hx:bl C.P s.ae κ F w (use (aW C.aM s.ax x)).2 (a.eval x):=cv aa x rfl aZ.1;rw[eS]at hx;obtain⟨⟨aP,aQ⟩,bB⟩:=hx.2 aA.symm eT;obtain⟨dA,dB⟩:=za aa eT;have rT:BP l lG (h0 - e5) ((s.ae b).body.len - e5)<=(s.ae b).body.len - e5:=ado (by omega);revert hc rT;generalize BP l lG (h0 - e5) ((s.ae b).body.len - e5)=lim;intro hc rT;rcases bB with⟨aB,hv⟩ | ⟨aB,l_,hv,o1,gb⟩
     ·have Kg:=dA aB;have e0:h0 - e5=0:=by omega
      have elim:lim=0:=by omega
      rw[e0,elim]at hc;grind
     ·have wY:=J4 aa eT aB;have cK:=runs a w κ F aa aZ.2.1 aZ.2.2 _ _ _ hv (by omega) ⟨hc.1,hc.2.1,by omega⟩;refine⟨_,cK,⟨hx.1.1,by rfl⟩,λ_ _=>⟨by omega,.inr ⟨aB,?_⟩⟩⟩;rw[<-B1];rw[<-B1]at cK;have e1:(fo (h0 - e5) lG).toNat - (c8 l).toNat=e5+(fo (h0 - e5) lG).toNat - (e5+(c8 l).toNat):=by omega
      have e2:(κ b).cap - e5 - (c8 l).toNat=(κ b).cap - (e5+(c8 l).toNat):=by omega
      rw[e1,e2];have e3:(e5+(c8 l).toNat)*(s.ae b).body.eK=e5*(s.ae b).body.eK+(c8 l).toNat*(s.ae b).body.eK:=Nat.add_mul _ _ _;by_cases lB:(κ b).cap - e5=(c8 l).toNat
      ·rw[if_pos lB];exact⟨_,rfl,by omega,λh=>by omega⟩
      ·rw[if_neg lB];simp only[Option.map_some,uS];exact⟨_,rfl,by omega,λh=>by omega⟩
    grind
   ·cases fC
  ·rename_i aI;have cY:=(hT.bU aI (by simp)).str;split at h
   ·rename_i c v fC;simp only[bA,ar.bz,Option.some.injEq]at h;subst h;unfold Rh at fC;split at fC
    ·rename_i xs eS;simp only[Option.some.injEq,Prod.mk.injEq]at fC;obtain⟨rfl,rfl⟩:=fC;refine cp.pure aw a7 λa w κ F aa aZ hc=>?_;have hx:bl C.P s.ae κ F w (use (aW C.aM s.ax x)).2 (a.eval x):=cv aa x rfl aZ.1;rw[eS]at hx;obtain⟨hv,bX⟩:=l1.1 hx;obtain⟨dd,dN⟩:=rI a w κ F aa aZ.2.1 aZ.2.2;have hs:ByteArray.size ⟨xs.toArray⟩=xs.length:=by rfl
     have:=RI (P:=C.P) (w:=w) (isS:=false) (len:=xs.length) (cap:=xs.length) dd dN hc.1 hc.2.1 hc.2.2 (Nat.le_refl _);refine⟨.string ⟨((xs.take (fo xs.length lG).toNat).drop (c8 l).toNat).toArray⟩,?_,l1.2 ⟨rfl,by grind⟩⟩;simp only[execOp,ah,hv,Instr.sliceAt,Instr.slice,Sem.run_bind,dk cY,Result.andThen_ok,Option.map_none,Option.isSome_none,Bool.false_eq_true,if_false,hs,this,Sem.run_pure];have he:ByteArray.extract ⟨xs.toArray⟩ (c8 l).toNat (fo xs.length lG).toNat=⟨((xs.take (fo xs.length lG).toNat).drop (c8 l).toNat).toArray⟩:=by
      apply ByteArray.ext;rw[ByteArray.data_extract];grind
     rw[he]
    grind
   ·cases h
  ·cases h
 ·cases h
end
end Go.Fer
namespace Go.Fer
open Go.RowKit
def fW(P:Program)(e:af)(F:Nat->Prop)(w:World)(all:List Value)(xs:List e.ai):Prop:=
 all.length=xs.length*e.size/\∀ i (h:i<xs.length),bu P e F w ((all.drop (i*e.size)).take e.size) xs[i]
theorem fW.append{P:Program}{e:af}{F:Nat->Prop}{w:World}{l m:List Value}{xs ys:List e.ai}(h:fW P e F w l xs)(k:fW P e F w m ys):fW P e F w (l++m) (xs++ys):=by
 refine⟨by simp[h.1,k.1,Nat.add_mul],λi G=>?_⟩;by_cases hx:i<xs.length
 ·have e1:(xs++ys)[i]=xs[i]:=List.getElem_append_left hx;rw[e1];have hle:(i+1)*e.size<=xs.length*e.size:=Nat.mul_le_mul_right _ (by omega);rw[Nat.add_mul,Nat.one_mul]at hle;have:((l++m).drop (i*e.size)).take e.size=(l.drop (i*e.size)).take e.size:=by
   rw[List.drop_append_of_le_length (by rw[h.1];omega),List.take_append_of_le_length (by simp[h.1];omega)]
  rw[this];exact h.2 i hx
 ·have ds:i - xs.length<ys.length:=by grind
  have e1:(xs++ys)[i]=ys[i - xs.length]:=List.getElem_append_right (by omega);rw[e1];have ao:i*e.size=xs.length*e.size+(i - xs.length)*e.size:=by rw[<-Nat.add_mul];grind
  have:(l++m).drop (i*e.size)=m.drop ((i - xs.length)*e.size):=by
   rw[ao,<-h.1,List.drop_append,List.drop_of_length_le (by omega)];simp
  rw[this];exact k.2 _ ds
theorem fW.Cb{P:Program}{e:af}{F:Nat->Prop}{w:World}{all pre post:List Value}{cs:Array Value}{xs:List e.ai}(h:fW P e F w all xs)(hc:cs.toList=pre++(all++post)):lu P e F w cs pre.length xs:=by
 intro i G;have hle:(i+1)*e.size<=xs.length*e.size:=Nat.mul_le_mul_right _ (by omega);rw[Nat.add_mul,Nat.one_mul]at hle;refine⟨_,λj aD=>?_,h.2 i G⟩;have fB:j<e.size:=by grind
 rw[<-Array.getElem?_toList,hc,List.getElem?_append_right (by omega),List.getElem?_append_left (by grind)];grind
theorem Ft{P:Program}{e:af}{F:Nat->Prop}{w:World}:∀ {xs:List e.ai} {p:Addr},(0<xs.length->p.spot=none)->(∀ i (h:i<xs.length),∃ a_,kn w ⟨p.block,p.off+i*e.size,none⟩ a_/\bu P e F w a_ xs[i])->
  ∃ all,fW P e F w all xs/\kn w p all
 | [],p,hp,_=>⟨[],⟨by simp,λi G=>by grind⟩,λh=>by grind,λj aD=>by grind⟩
 | x::xs,p,hp,h=>by
  obtain⟨a_,d1,d2⟩:=h 0 (by simp);have uY:=hC e d2;obtain⟨all,bR,a2⟩:=Ft (P:=P) (F:=F) (w:=w) (xs:=xs) (p:=⟨p.block,p.off+e.size,none⟩) (λ_=>rfl) (λi G=>by
   obtain⟨RH,aP,aQ⟩:=h (i+1) (by grind);grind)
  refine⟨a_++all,?_,λ_=>hp (by simp),λj aD=>?_⟩
  ·have h1:fW P e F w a_ [x]:=⟨by grind,λi G=>by
    have:i=0:=by grind
    subst this;grind⟩
   exact h1.append bR
  ·rcases Nat.lt_or_ge j a_.length with h1 | h1
   ·rw[List.getElem_append_left h1];have:=d1.2 j h1;grind
   ·rw[List.getElem_append_right h1];have:=a2.2 (j - a_.length) (by grind);grind
section
variable {C:bS} {T:Nat->af} {a6:Nat->Option aL} {o:Oper} {s:az} {res:eb}
theorem rU{a:Act}{w:World}{κ:Nat->bo}{F:Nat->Prop}(aa:bc C s a w κ F){e:af}{av:aF}{v:Value}{ys:List e.ai}{l:List Nat}(h:(di (.slice e) av).run s.ae=some (ys,l))(hv:bl C.P s.ae κ F w av v) :
  ∃ q cap,v=.slice q ys.length cap/\((q=none/\ys=[]/\cap=0)\/∃ p all,q=some p/\fW C.P e F w all ys/\kn w p all):=by
 have zf:∀ {xs:List e.ai},bu C.P (.slice e) F w [v] xs->∃ q cap,v=.slice q xs.length cap/\((q=none/\xs=[]/\cap=0)\/∃ p all,q=some p/\fW C.P e F w all xs/\kn w p all):=by
  intro xs hx;obtain⟨q,cap,e1,m1,m2,m3,m4⟩:=hx;refine⟨q,cap,(List.cons.inj e1).1,?_⟩;cases q with
  | none=>
   simp_all
  | some p=>
   obtain⟨all,bR,a2⟩:=Ft (P:=C.P) (F:=F) (w:=w) (xs:=xs) (p:=p) (λh=>(m4 p rfl (by omega)).2.1) (λi G=>let ⟨a_,d1,d2⟩:=(m4 p rfl (by omega)).2.2 i G;⟨a_,d1.JW,d2⟩);grind
 cases av with
 | val cE y=>
  simp only[di,ar.bz,Option.map_eq_some_iff,Prod.mk.injEq]at h;obtain⟨z,ba,rfl,_⟩:=h;exact zf (((dC rfl).1 (E6 ba hv)).2)
 | cV=>
  simp only[di,ki,af.ef,if_true,dE,ar.bz,Option.some.injEq,Prod.mk.injEq]at h;obtain⟨rfl,_⟩:=h;simp only[bl]at hv;grind
 | own b g=>
  simp only[di,ki,af.ef,if_true,dE,ar.eL,ar.bz]at h;split at h
  ·rename_i aA;have aN:=aa.bq b;unfold cj at aN;split at h
   ·rename_i aV xs bE;simp only[Option.map_eq_some_iff,Prod.mk.injEq]at h;obtain⟨z,ba,rfl,_⟩:=h;obtain⟨qO,rfl⟩:=kF ba;cases qO;have tm:=hv.2 aA.symm (by rw[bE];rfl);rw[bE]at tm aN;simp only[bC.len]at tm;cases aB:(κ b).eQ with
    | true=>
     have hG:=aN.1 aB;subst hG;simp only[bo.slice,aB,if_true]at tm;grind
    | false=>
     obtain⟨cs,hH,c1,c2,c3,c4,c5⟩:=aN.2 aB;simp only[bo.slice,aB,Bool.false_eq_true,if_false]at tm;obtain⟨all,bR,a2⟩:=Ft (P:=C.P) (F:=F) (w:=w) (xs:=xs) (p:=⟨(κ b).ae,(κ b).off,none⟩) (λ_=>rfl) (λi G=>by
      obtain⟨a_,d1,d2⟩:=c5 i G;exact⟨a_,⟨λ_=>rfl,λj aD=>by rw[uU c1];grind⟩,d2⟩)
     grind
   ·rename_i aV xs bE;simp only[Option.map_eq_some_iff,Prod.mk.injEq]at h;obtain⟨z,ba,rfl,_⟩:=h;obtain⟨qO,rfl⟩:=kF ba;cases qO;have tm:=hv.2 aA.symm (by rw[bE];rfl);rw[bE]at tm aN;simp only[bC.len]at tm;simp only[ju]at aN;grind
   grind
  grind
 | sub b g lo G=>
  simp only[di,ki,af.ef,if_true,dE,ar.eL,ar.bz]at h;split at h
  ·rename_i aA;have aN:=aa.bq b;unfold cj at aN;split at h
   ·rename_i aV xs bE;simp only[Option.map_eq_some_iff,Prod.mk.injEq]at h;obtain⟨z,ba,rfl,_⟩:=h;obtain⟨qO,rfl⟩:=kF ba;cases qO;obtain⟨⟨aP,aQ⟩,bB⟩:=hv.2 aA.symm (by rw[bE];rfl);rw[bE]at aQ bB aN;simp only[bC.len,bC.eK]at aQ bB;have hlen:((xs.take G).drop lo).length=G - lo:=by grind
    rcases bB with⟨aB,tm⟩ | ⟨aB,l_,tm,o1,gb⟩
    ·have hG:=aN.1 aB;grind
    ·obtain⟨cs,hH,c1,c2,c3,c4,c5⟩:=aN.2 aB;obtain⟨all,bR,a2⟩:=Ft (P:=C.P) (F:=F) (w:=w) (xs:=(xs.take G).drop lo) (p:=⟨(κ b).ae,l_,none⟩) (λ_=>rfl) (λi ds=>by
      rw[hlen]at ds;obtain⟨a_,d1,d2⟩:=c5 (lo+i) (by omega);refine⟨a_,⟨λ_=>rfl,λj aD=>?_⟩,?_⟩
      ·rw[uU c1,<-d1 j aD];grind
      grind)
     grind
   ·rename_i aV xs bE;simp only[Option.map_eq_some_iff,Prod.mk.injEq]at h;obtain⟨z,ba,rfl,_⟩:=h;obtain⟨qO,rfl⟩:=kF ba;cases qO;obtain⟨⟨aP,aQ⟩,bB⟩:=hv.2 aA.symm (by rw[bE];rfl);rw[bE]at aQ bB aN;exact zf (E7 aN aP aQ bB)
   grind
  grind
 | dD cE y=>simp[di,ki,af.ef,dE,ar.none]at h
 | jt u=>simp[di,ki,af.ef,dE,BL]at h
 | _=>simp[di,ki,af.ef,dE,ar.none]at h
theorem zg{P:Program}{w:World}{e:af}{q:Option Addr}{n cap:Nat}{xs:List e.ai}{F:Nat->Prop}(aB:n=xs.length)(h:(q=none/\xs=[]/\cap=0)\/∃ p all,q=some p/\fW P e F w all xs/\kn w p all) :
  ∃ all,(Builtin.firstCells e.size n (.slice q n cap)).run P w=.ok all.toArray w/\fW P e F w all xs:=by
 subst aB;rcases h with⟨rfl,rfl,rfl⟩ | ⟨p,all,rfl,bR,a2⟩
 ·exact⟨[],by rfl,by simp[fW]⟩
 ·refine⟨all,?_,bR⟩;simp only[Builtin.firstCells];rw[<-bR.1];exact Fg a2
theorem adq(n:Nat):∀ (k c:Nat),Builtin.growBy n k c<=max c (2*n+768):=by
 intro k;induction k with
 | zero=>intro c;simp only[Builtin.growBy];omega
 | succ k aJ=>
  intro c;simp only[Builtin.growBy];grind
theorem adr{Fu cap:Nat}(h:cap<Fu):Builtin.nextslicecap Fu cap<=2*Fu+768:=by
 unfold Builtin.nextslicecap;split
 ·omega
 ·split
  ·omega
  ·have:=adq Fu 4 cap;omega
theorem ads{z:Array Value}{n k:Nat}(h:z.size=k):(Builtin.zeroCells z n).size=n*k:=by simp[Builtin.zeroCells,h]
theorem adt{P:Program}{w:World}{e:af}{ty mB:TypeId}{F:Nat->Prop}(h:bQ P (.slice e) ty)(da:bQ P (.slice e) mB\/∃ aV,bQ P (.slice aV) mB){q q':Option Addr}{cap cap':Nat}{xs ys:List e.ai}
  (hx:(q=none/\xs=[]/\cap=0)\/∃ p all,q=some p/\fW P e F w all xs/\kn w p all) (aO:(q'=none/\ys=[]/\cap'=0)\/∃ p all,q'=some p/\fW P e F w all ys/\kn w p all)
  (hc:cap<xs.length+ys.length) (an:b2 (xs.length+ys.length)) (rt:TypeId) :
  ∃ jC qP cs,(Builtin.append_ #[ty,mB] rt #[.slice q xs.length cap,.slice q' ys.length cap']).run P w=.ok (.slice (some ⟨w.heap.size,0,none⟩) (xs.length+ys.length) qP) (w.drew.alloc (.cells cs jC))/\
   qP<2 ^ 63/\xs.length+ys.length<=qP/\cs.size=qP*e.size/\lu P e F w cs 0 (xs++ys):=by
 obtain⟨jC,aD,h9,oa⟩:=h.sl;obtain⟨j3,fB⟩:∃ j3,P.underlying mB=some (.slice j3):=by
  rcases da with da | ⟨aV,da⟩
  ·obtain⟨j3,k,_⟩:=da.sl;grind
  ·obtain⟨j3,k,_⟩:=da.sl;grind
 obtain⟨i,z,i1,i2,i3,i4,i5,i6⟩:=kk h9.kj;have ba:=(B5 e (P:=P) i5).2;have adu:∀ t:Nat,xs.length+ys.length<=xs.length+ys.length+t % (2 ^ 63 - (xs.length+ys.length))/\xs.length+ys.length+t % (2 ^ 63 - (xs.length+ys.length))<2 ^ 63:=by
  intro t;unfold b2 at an;have:t % (2 ^ 63 - (xs.length+ys.length))<2 ^ 63 - (xs.length+ys.length):=Nat.mod_lt _ (by omega);omega
 generalize Kh:xs.length+ys.length+(w.tape w.drawn (.appendCap (xs.length+ys.length) cap jC)) % (2 ^ 63 - (xs.length+ys.length))=qP;have Ki:=adu (w.tape w.drawn (.appendCap (xs.length+ys.length) cap jC));rw[Kh]at Ki;have RL:∀ {p:Addr} {all:List Value},kn w p all->kn w.drew p all:=λh=>h;have RM:∀ {all:List Value} {zs:List e.ai},fW P e F w all zs->fW P e F w.drew all zs:=λh=>⟨h.1,λi G=>eX e (F:=F) (F':=F) (w:=w) (w':=w.drew) (λ_ aa=>aa) ⟨Nat.le_refl _,λ_ _=>rfl⟩ (h.2 i G)⟩
 have nA:(q=none/\xs=[]/\cap=0)\/∃ p all,q=some p/\fW P e F w.drew all xs/\kn w.drew p all:=hx.imp id λ⟨p,all,a,b,c⟩=>⟨p,all,a,RM b,RL c⟩
 have Cc:(q'=none/\ys=[]/\cap'=0)\/∃ p all,q'=some p/\fW P e F w.drew all ys/\kn w.drew p all:=aO.imp id λ⟨p,all,a,b,c⟩=>⟨p,all,a,RM b,RL c⟩
 obtain⟨u0,o1,gb⟩:=zg (P:=P) (w:=w.drew) (cap:=cap) rfl nA;obtain⟨ea,dA,dB⟩:=zg (P:=P) (w:=w.drew) (cap:=cap') rfl Cc;refine⟨jC,qP,u0.toArray++ea.toArray++Builtin.zeroCells z.cells (qP - (xs.length+ys.length)),?_,Ki.2,Ki.1,?_,?_⟩
 ·have ad:=adr hc;have qQ:Builtin.nextslicecap (xs.length+ys.length) cap*i.bytes<=281474976710656:=by
   unfold b2 at an;calc Builtin.nextslicecap (xs.length+ys.length) cap*i.bytes<=(2*4294967296+768)*1024:=Nat.mul_le_mul (by omega) i3
    _<=281474976710656:=by decide
  have zh:¬((xs.length+ys.length:Nat):Int) > IntKind.i64.max:=by
   unfold b2 at an;have:IntKind.i64.max=9223372036854775807:=by decide
   omega
  have adv:¬Builtin.nextslicecap (xs.length+ys.length) cap*i.bytes > 2 ^ 48:=by
   omega
  have RN:(Question.appendCap (xs.length+ys.length) cap jC).cut (w.tape w.drawn (.appendCap (xs.length+ys.length) cap jC))=qP:=by
   rw[<-Kh];rfl
  have adw:(Question.appendCap (xs.length+ys.length) cap jC).forced=false:=rfl;simp only[Builtin.append_,List.getElem?_toArray,List.getElem?_cons_zero,List.getElem?_cons_succ,Sem.run_bind,dk aD,dk fB,Result.andThen_ok,rN i1,i2,Sem.run_pure,Builtin.lenOf,Bool.false_eq_true,if_false,if_neg (show ¬xs.length+ys.length<=cap by omega),zh,false_and,Fe i1,adv,run_choose,adw,RN,run_askRoom,Bool.not_false,if_true,World.drew_eq,o1,dA,qK i1 i4];rfl
 ·have h1:=gb.1;have h2:=dB.1;simp only[Array.size_append,List.size_toArray,ads ba,h1,h2];rw[<-Nat.add_mul,<-Nat.add_mul];grind
 ·have jb:=gb.append dB;have adx:fW P e F w (u0++ea) (xs++ys):=⟨jb.1,λi G=>eX e (F:=F) (F':=F) (w:=w.drew) (w':=w) (λ_ aa=>aa) ⟨Nat.le_refl _,λ_ _=>rfl⟩ (jb.2 i G)⟩
  exact adx.Cb (pre:=[]) (post:=(Builtin.zeroCells z.cells (qP - (xs.length+ys.length))).toList) (by simp)
end
end Go.Fer
namespace Go.Fer
open Go.RowKit
section
variable {C:bS} {T:Nat->af} {a6:Nat->Option aL} {o:Oper} {s:az} {res:eb}
theorem bc.Cd{a:Act}{w w':World}{κ:Nat->bo}{F:Nat->Prop}(h:bc C s a w κ F){b g:Nat}{e:af}{zs:List e.ai}{k:bo}(aA:(s.ae b).gen<g)(k2:k.eQ=true\/k.ae=w.heap.size)(bV:w.heap.size<=w'.heap.size)
  (nD:∀ r,r<w.heap.size->w'.heap[r]?=w.heap[r]?) (bX:k.eQ=false->k.ae<w'.heap.size) (hc:cN w w')
  (bE:∀ H κ',ju C.P H κ' F w' k (.a8 e zs)):bc C (s.cb b ⟨g,.a8 e zs⟩) a w' (λi=>if i=b then k else κ i) F:=by
 have an:fe s.ae κ (λi=>if i=b then (⟨g,.a8 e zs⟩:bw) else s.ae i) (λi=>if i=b then k else κ i):=yV aA λa1 cQ=>by grind
 have he:cJ F w w':=⟨bV,λr aa=>nD r (h.cM r aa)⟩
 refine h.move (H':=λi=>if i=b then (⟨g,.a8 e zs⟩:bw) else s.ae i) an (λ_ aa=>aa) (λ_ aa=>.inl aa) bV (λr aa _=>nD r aa) hc (λ_=>?_) ?_ ?_ (λr aa=>Nat.lt_of_lt_of_le (h.cM r aa) bV) (yW (.inr ⟨rfl,rfl⟩) λa1 cQ=>by grind)
 ·intro i;by_cases G:i=b
  ·subst G;simp only[cj,if_true];grind
  ·exact cj.kX (h.bq i) an (λ_ aa=>aa) he (by grind) (by grind) λah=>nD _ (h.own i ah).1
 ·intro i G;by_cases ev:i=b
  ·subst ev;simp only[if_true,bC.bN,Bool.not_eq_true']at G ⊢;have aj:=k2.resolve_left (by grind);refine⟨bX G,λau=>?_,.inr (by omega)⟩;have:=h.cM _ au;omega
  ·simp only[if_neg ev]at G ⊢;have:=h.own i G;grind
 ·intro i j G aD aV;by_cases ev:i=b<;>by_cases l3:j=b
  ·omega
  ·simp only[if_pos ev,if_neg l3,bC.bN,Bool.not_eq_true']at G aD aV;have aj:=k2.resolve_left (by grind);have:=(h.own j aD).1;omega
  ·simp only[if_neg ev,if_pos l3,bC.bN,Bool.not_eq_true']at G aD aV;have aj:=k2.resolve_left (by grind);have:=(h.own i G).1;omega
  ·simp only[if_neg ev,if_neg l3]at G aD aV;exact h.inj i j G aD aV
theorem ady(s:az)(b:Nat)(x y:bw):(s.cb b x).cb b y=s.cb b y:=by
 unfold az.cb;grind
theorem bc.adz{a:Act}{w:World}{κ:Nat->bo}{F:Nat->Prop}(h:bc C s a w κ F){b:Nat}{e:af}{xs:List e.ai}(ad:(s.ae b).body=.a8 e xs){lo G:Nat}(h1:lo<=G)(h2:G<=xs.length){v:Value}(hs:E5 (κ b) e.size lo G v) :
  ∃ κ',bc C (s.cb b ⟨(s.ae b).gen+1,.a8 e ((xs.take G).drop lo)⟩) a w κ' F/\v=(κ' b).slice ((xs.take G).drop lo).length:=by
 have hlen:((xs.take G).drop lo).length=G - lo:=by grind
 have fV:∀ κ':Nat->bo,(∀ a1,a1≠b->κ' a1=κ a1)->fe s.ae κ (λi=>if i=b then (⟨(s.ae b).gen+1,.a8 e ((xs.take G).drop lo)⟩:bw) else s.ae i) κ':=
  λκ' BJ=>yV (Nat.lt_succ_self _) BJ
 have aN:=h.bq b;unfold cj at aN;rw[ad]at aN;rcases hs with⟨aB,rfl⟩ | ⟨aB,o,rfl,o1,gb⟩
 ·have hG:=aN.1 aB;subst hG;refine⟨κ,?_,by simp[bo.slice,aB]⟩;refine h.move (H':=λi=>if i=b then (⟨(s.ae b).gen+1,.a8 e ((([]:List e.ai).take G).drop lo)⟩:bw) else s.ae i) (fV κ λ_ _=>rfl) (λ_ aa=>aa) (λ_ aa=>.inl aa) (Nat.le_refl _) (λ_ _ _=>rfl) (cN.refl _) (λ_=>?_) ?_ ?_ h.cM (yW (.inr ⟨rfl,rfl⟩) λ_ _=>rfl)
  ·intro i;by_cases G:i=b
   ·subst G;simp only[cj,if_true];exact⟨λ_=>by simp,λh=>by grind⟩
   ·exact cj.kX (h.bq i) (fV κ λ_ _=>rfl) (λ_ aa=>aa) (cJ.refl _ _) (by grind) rfl λ_=>rfl
  ·intro i G;by_cases ev:i=b
   ·subst ev;simp[bC.bN,aB]at G
   ·simp only[if_neg ev]at G;exact⟨(h.own i G).1,(h.own i G).2.1,.inl ⟨i,G,rfl⟩⟩
  ·intro i j G aD aV;by_cases ev:i=b
   ·subst ev;simp[bC.bN,aB]at G
   ·by_cases l3:j=b
    ·subst l3;simp[bC.bN,aB]at aD
    ·simp only[if_neg ev,if_neg l3]at G aD;exact h.inj i j G aD aV
 ·obtain⟨cs,hH,c1,c2,c3,c4,c5⟩:=aN.2 aB;let k':bo:=⟨(κ b).ae,o,(κ b).cap - lo,false⟩
  let κ':Nat->bo:=λi=>if i=b then k' else κ i
  have Ce:∀ a1,a1≠b->κ' a1=κ a1:=λa1 h=>if_neg h;have zi:κ' b=k':=if_pos rfl;have fS:=h.own b (by rw[ad];simp[bC.bN,aB]);refine⟨κ',?_,by rw[zi,hlen];rfl⟩;refine h.move (H':=λi=>if i=b then (⟨(s.ae b).gen+1,.a8 e ((xs.take G).drop lo)⟩:bw) else s.ae i) (fV κ' Ce) (λ_ aa=>aa) (λ_ aa=>.inl aa) (Nat.le_refl _) (λ_ _ _=>rfl) (cN.refl _) (λ_=>?_) ?_ ?_ h.cM (yW (.inr ⟨rfl,rfl⟩) Ce)
  ·intro i;by_cases ds:i=b
   ·subst ds;simp only[cj,if_true,zi];have hmul:lo*e.size<=(κ i).cap*e.size:=Nat.mul_le_mul_right _ (by omega);refine⟨λh=>(by cases h),λ_=>⟨cs,hH,c1,?_,by grind,by grind,λj aD=>?_⟩⟩
    ·simp only[k'];rw[Nat.sub_mul];omega
    ·rw[hlen]at aD;obtain⟨a_,d1,d2⟩:=c5 (lo+j) (by omega);grind
   ·exact cj.kX (h.bq i) (fV κ' Ce) (λ_ aa=>aa) (cJ.refl _ _) (by grind) (Ce i ds) λ_=>rfl
  ·intro i ds;by_cases ev:i=b
   ·subst ev;rw[zi];exact⟨fS.1,fS.2.1,.inl ⟨i,by rw[ad];simp[bC.bN,aB],rfl⟩⟩
   ·simp only[if_neg ev]at ds;rw[Ce i ev]at ds ⊢;exact⟨(h.own i ds).1,(h.own i ds).2.1,.inl ⟨i,ds,rfl⟩⟩
  ·intro i j ds aD aV;have RO:∀ i,(κ' i).ae=(κ i).ae:=λi=>by
    grind
   have bT:∀ i,((if i=b then (⟨(s.ae b).gen+1,.a8 e ((xs.take G).drop lo)⟩:bw) else s.ae i).body.bN (κ' i)=true)->(s.ae i).body.bN (κ i)=true:=λi G=>by
    by_cases ev:i=b
    ·subst ev;rw[ad];simp[bC.bN,aB]
    grind
   rw[RO,RO]at aV;exact h.inj i j (bT i ds) (bT j aD) aV
theorem lu.later{P:Program}{e:af}{F:Nat->Prop}{w w':World}{cs:Array Value}{off:Nat}{xs:List e.ai}(h:lu P e F w cs off xs)(he:cJ F w w'):lu P e F w' cs off xs:=h.mono (λ_ aa=>aa) he
theorem adA(hT:dz C.P T){args:Array Operand}{cX:Array TypeId}(a7:∀ i,o.dst=some i->i<C.nt)(ah:o.op=.call { callee:=.builtin .append,args:=args,argTypes:=cX })(h:(BR T (aW C.aM s.ax) o.dst args.toList cX.toList).run s.ae=some res):cp C o s res:=by
 obtain⟨args⟩:=args;obtain⟨cX⟩:=cX;have aw:∀ c,o.op≠.defer c:=by grind
 simp only[BR]at h;split at h
 ·rename_i x y t u;split at h
  ·rename_i e e2 aI hu;have cY:=hT.bU aI (by simp);have uW:=hT.bU hu (by simp);obtain⟨jC,aD,h9,oa⟩:=cY.sl;obtain⟨adB,fB,_⟩:=uW.sl;obtain⟨inf,z,i1,i2,i3,i4,i5,i6⟩:=kk h9.kj;have mC:∀ (a:Act) (w w':World) v,(Builtin.append_ #[t,u] o.type #[a.eval x,a.eval y]).run C.P w=.ok v w'->(execOp a.eval o).run C.P w=.ok (.value v) w':=by
    intro a w w' v hv;refine wV ah ?_;simp[builtin,hv]
   have main:∀ (s:az) (a:Act) (w:World) (κ:Nat->bo) (F:Nat->Prop) (Q:Exit->Act->World->Prop) (b g:Nat) (xs ys:List e.ai),bc C s a w κ F->
     (∃ q cap,a.eval y=.slice q ys.length cap/\((q=none/\ys=[]/\cap=0)\/∃ p all,q=some p/\fW C.P e F w all ys/\kn w p all))->
     (s.ae b).gen<g->(∃ q cap,a.eval x=.slice q xs.length cap/\((q=none/\xs=[]/\cap=0)\/∃ p all,q=some p/\fW C.P e F w all xs/\kn w p all))->
     (∀ q cap,a.eval x=.slice q xs.length cap->q≠none->xs.length+ys.length<=cap->(s.ae b).body=.a8 e xs/\(κ b).eQ=false/\q=some ⟨(κ b).ae,(κ b).off,none⟩/\cap=(κ b).cap)->b2 (xs.length+ys.length)->
     o.wpIn (dy C.r) 0 C.P a w (λa' w'=>b' C ((s.cb b ⟨g,.a8 e (xs++ys)⟩).set o.dst (.own b g)) a' w') Q:=by
    intro s a w κ F Q b g xs ys aa nE Kj rV adC hlen;obtain⟨q,cap,rV,Kk⟩:=rV;obtain⟨q',cap',tn,nE⟩:=nE;have Kl:∀ (κ':Nat->bo) (v:Value) (w':World),bc C (s.cb b ⟨g,.a8 e (xs++ys)⟩) a w' κ' F->v=(κ' b).slice (xs++ys).length->b' C ((s.cb b ⟨g,.a8 e (xs++ys)⟩).set o.dst (.own b g)) (a.put o.dst v) w':=by
     intro κ' v w' aY hv;refine⟨κ',F,bc.set aY a7 ⟨⟨by simp[az.cb],?_⟩,λ_ _=>?_⟩⟩
     ·rw[hv];unfold bo.slice;split<;>rfl
     ·rw[hv];simp[az.cb,bC.len]
    by_cases wZ:xs.length+ys.length<=cap
    ·cases bf:q with
     | none=>
      subst bf;obtain⟨adD,uN⟩:xs=[]/\cap=0:=by
       grind
      subst adD;subst uN;have Km:ys=[]:=by grind
      subst Km;obtain⟨ea,dA,dB⟩:=zg (P:=C.P) (w:=w) (cap:=cap') rfl nE;have cK:(Builtin.append_ #[t,u] o.type #[a.eval x,a.eval y]).run C.P w=.ok (.slice none 0 0) w:=by
       rw[rV,tn];simp only[List.length_nil]at dA ⊢;simp[Builtin.append_,dk aD,dk fB,rN i1,Builtin.lenOf];rw[i2,dA];simp
      refine ha aw (mC a w w _ cK) (Kl _ _ _ (aa.Cd (k:=⟨0,0,0,true⟩) Kj (.inl rfl) (Nat.le_refl _) (λ_ _=>rfl) (λh=>by cases h) (cN.refl _) λH κ'=>⟨λ_=>rfl,λh=>by cases h⟩) ?_);simp[bo.slice]
     | some Fv=>
      obtain⟨ad,uZ,hp,wY⟩:=adC q cap rV (by grind) wZ;rw[bf]at hp;have hp:=Option.some.inj hp;subst hp;subst wY;have aN:=aa.bq b;unfold cj at aN;rw[ad]at aN;obtain⟨cs,hH,c1,c2,c3,c4,c5⟩:=aN.2 uZ;obtain⟨ea,dA,dB⟩:=zg (P:=C.P) (w:=w) (cap:=cap') rfl nE;have o3:=dB.1;have nC:∀ v∈ea,v.oneCell'=true:=by
       intro v hv;obtain⟨j,aD,rfl⟩:=List.mem_iff_getElem.1 hv;have k1:0<e.size:=Nat.pos_of_ne_zero oa;have hdiv:j / e.size<ys.length:=(Nat.div_lt_iff_lt_mul k1).2 (by omega);have nB:=dB.2 (j / e.size) hdiv;have iq:=yZ (P:=C.P) (H:=λ_=>⟨0,.fm⟩) (κ:=λ_=>⟨0,0,0,true⟩) e nB;have zj:=Nat.mod_lt j k1;have adE:j / e.size*e.size+j % e.size=j:=Nat.div_add_mod' j e.size;have Cf:((ea.drop (j / e.size*e.size)).take e.size).length=e.size:=hC e nB;have:=(iq.kG (j % e.size) (by rw[iq.len,Cf];omega)).2;grind
      have adF:(κ b).off+xs.length*e.size+0+ea.length<=cs.size:=by
       rw[o3];have:(xs.length+ys.length)*e.size<=(κ b).cap*e.size:=Nat.mul_le_mul_right _ wZ;grind
      obtain⟨w',cS,b3,cr,dX,lC,lD,l7⟩:=uV (P:=C.P) ea ((κ b).off+xs.length*e.size) 0 w cs c1 adF nC;have cK:(Builtin.append_ #[t,u] o.type #[a.eval x,a.eval y]).run C.P w=.ok (.slice (some ⟨(κ b).ae,(κ b).off,none⟩) (xs.length+ys.length) (κ b).cap) w':=by
       rw[rV,tn,bf];simp only[Builtin.append_,List.getElem?_toArray,List.getElem?_cons_zero,List.getElem?_cons_succ,Sem.run_bind,dk aD,dk fB,Result.andThen_ok,rN i1,i2,Sem.run_pure,Builtin.lenOf,Bool.false_eq_true,if_false,if_pos wZ,Bool.not_false,if_true,dA,uS];simp only[b3,Result.andThen_ok]
      have fV:fe s.ae κ (λi=>if i=b then (⟨g,.a8 e (xs++ys)⟩:bw) else s.ae i) κ:=yV Kj λ_ _=>rfl;refine ha aw (mC a w w' _ cK) (Kl κ _ _ (aa.oV (b:=b) (by rw[ad];simp[bC.bN,uZ]) (by simp[bC.bN,uZ]) fV (λh=>by cases h) (λh=>by cases h) lC lD l7 λH mE bX he=>?_) (by simp[bo.slice,uZ]));refine⟨λh=>(by grind),λ_=>?_⟩;have Fq:cS.size=cs.size:=by
       rw[<-Array.length_toList,dX];grind
      refine⟨cS,hH,cr,by omega,by grind,c4,λi G=>?_⟩;simp only[Nat.add_zero]at dX;have gq:(cs.toList.take ((κ b).off+xs.length*e.size)).length=(κ b).off+xs.length*e.size:=by grind
      by_cases RP:i<xs.length
      ·obtain⟨a_,d1,d2⟩:=c5 i RP;have e1:(xs++ys)[i]=xs[i]:=List.getElem_append_left RP;rw[e1];refine⟨a_,λk aj=>?_,eX e (λ_ aa=>aa) he d2⟩;have RQ:=hC e d2;have hle:(i+1)*e.size<=xs.length*e.size:=Nat.mul_le_mul_right _ (by omega);rw[Nat.add_mul]at hle;rw[<-Array.getElem?_toList,dX,List.getElem?_append_left (by omega),List.getElem?_take,if_pos (by omega)];grind
      ·have ds:i - xs.length<ys.length:=by grind
       have e1:(xs++ys)[i]=ys[i - xs.length]:=List.getElem_append_right (by omega);rw[e1];have Cg:=dB.Cb (pre:=cs.toList.take ((κ b).off+xs.length*e.size)) (post:=cs.toList.drop ((κ b).off+xs.length*e.size+ea.length)) dX;obtain⟨a_,d1,d2⟩:=Cg (i - xs.length) ds;refine⟨a_,λk aj=>?_,eX e (λ_ aa=>aa) he d2⟩;have:=d1 k aj;rw[gq]at this;rw[<-this];congr 1;have:i*e.size=xs.length*e.size+(i - xs.length)*e.size:=by rw[<-Nat.add_mul];grind
       omega
    ·obtain⟨adG,qP,cs,b3,cr,dX,lC,lD⟩:=adt (P:=C.P) (w:=w) (F:=F) (cap:=cap) (cap':=cap') cY (.inr ⟨e2,uW⟩) Kk nE (by omega) hlen o.type;rw[<-rV,<-tn]at b3;refine ha aw (mC a w _ _ b3) (Kl _ _ _ (aa.Cd (k:=⟨w.heap.size,0,qP,false⟩) Kj (.inr rfl) (by simp) (λr aa=>?_) (λ_=>by simp) ⟨rfl,rfl,rfl⟩ λH κ'=>⟨λh=>(by cases h),λ_=>⟨cs,adG,?_,by grind,by grind,cr,?_⟩⟩) ?_)
     ·exact oT w.drew _ aa
     ·exact pV w.drew _
     ·exact lD.later ⟨by simp,λr aY=>oT w.drew _ (aa.cM r aY)⟩
     ·simp[bo.slice]
   simp only[JT]at h;split at h
   ·rename_i b g eS;simp only[ar.eL]at h;split at h
    ·rename_i aV xs bE;split at h
     ·rename_i qR;subst qR;simp only[ar.eM,Option.bind_eq_some_iff,ar.bz,Option.some.injEq]at h;obtain⟨⟨ys,l⟩,j2,rfl⟩:=h;have aA:(s.ae b).gen=g/\(s.ae b).body=.a8 aV xs:=by
       grind
      intro a w κ F Q aa aZ hc;have hx:bl C.P s.ae κ F w (use (aW C.aM s.ax x)).2 (a.eval x):=cv aa x rfl aZ.1;have nA:=hx;rw[eS]at nA;have hv:=nA.2 aA.1.symm (by rw[aA.2];rfl);rw[aA.2]at hv;simp only[bC.len]at hv;have hG:(di (.slice aV) (use (aW C.aM s.ax x)).2).run s.ae=some (xs,[b]):=by
       rw[eS];simp[di,ki,af.ef,dE,aA.1,aA.2,eE]
      refine main s a w κ F Q b (g+1) xs ys aa (rU aa j2 (cv aa y rfl aZ.2)) (by omega) (rU aa hG hx) (λq cap bf Kn _=>?_) hc;rw[hv]at bf;cases aB:(κ b).eQ with
      | true=>
       simp only[bo.slice,aB,if_true,Value.slice.injEq]at bf;grind
      | false=>
       simp only[bo.slice,aB,Bool.false_eq_true,if_false,Value.slice.injEq]at bf;grind
     ·cases h
    ·cases h
   ·rename_i b g lo G eS;simp only[ar.eL]at h;split at h
    ·rename_i aV xs bE;split at h
     ·rename_i qR;subst qR;simp only[ar.eM,Option.bind_eq_some_iff,ar.bz,Option.some.injEq]at h;obtain⟨⟨ys,l⟩,j2,rfl⟩:=h;have aA:(s.ae b).gen=g/\(s.ae b).body=.a8 aV xs:=by
       grind
      intro a w κ F Q aa aZ hc;have hx:bl C.P s.ae κ F w (use (aW C.aM s.ax x)).2 (a.eval x):=cv aa x rfl aZ.1;rw[eS]at hx;obtain⟨⟨aP,aQ⟩,bB⟩:=hx.2 aA.1.symm (by rw[aA.2];rfl);rw[aA.2]at aQ bB;simp only[bC.len,bC.eK]at aQ bB;obtain⟨κ',aY,hv⟩:=aa.adz aA.2 aP aQ bB;have nE:=rU aa j2 (cv aa y rfl aZ.2);have RR:(s.cb b ⟨(s.ae b).gen+1,.a8 aV ((xs.take G).drop lo)⟩).ae b=⟨(s.ae b).gen+1,.a8 aV ((xs.take G).drop lo)⟩:=by simp[az.cb]
      have hG:(di (.slice aV) (.own b (g+1))).run (s.cb b ⟨(s.ae b).gen+1,.a8 aV ((xs.take G).drop lo)⟩).ae=some ((xs.take G).drop lo,[b]):=by
       simp[di,ki,af.ef,dE,az.cb,aA.1,eE]
      have Kk:bl C.P (s.cb b ⟨(s.ae b).gen+1,.a8 aV ((xs.take G).drop lo)⟩).ae κ' F w (.own b (g+1)) (a.eval x):=by
       refine⟨⟨by grind,hx.1.2⟩,λ_ _=>?_⟩;rw[RR];exact hv
      have:=main (s.cb b ⟨(s.ae b).gen+1,.a8 aV ((xs.take G).drop lo)⟩) a w κ' F Q b (g+2) ((xs.take G).drop lo) ys aY nE (by grind) (rU aY hG Kk) (λq cap bf Kn _=>?_) hc
      ·rw[ady]at this;exact this
      ·rw[hv]at bf;cases aB:(κ' b).eQ with
       | true=>
        simp only[bo.slice,aB,if_true,Value.slice.injEq]at bf;grind
       | false=>
        simp only[bo.slice,aB,Bool.false_eq_true,if_false,Value.slice.injEq]at bf;grind
     ·cases h
    ·cases h
   ·rename_i eS;simp only[ar.eM,Option.bind_eq_some_iff]at h;obtain⟨⟨ys,l⟩,j2,h⟩:=h;obtain⟨b,ad,aj⟩:=qM h;simp only[Option.some.injEq]at aj;subst aj;intro a w κ F Q aa aZ hc;have hx:bl C.P s.ae κ F w (use (aW C.aM s.ax x)).2 (a.eval x):=cv aa x rfl aZ.1;rw[eS]at hx;simp only[bl]at hx;have:=main s a w κ F Q b ((s.ae b).gen+1) [] ys aa (rU aa j2 (cv aa y rfl aZ.2)) (Nat.lt_succ_self _) ⟨none,0,hx,.inl ⟨rfl,rfl,rfl⟩⟩ (λq cap bf Kn _=>by grind) (by grind);exact this
   ·rename_i aV xs eS;split at h
    ·rename_i qR;subst qR;simp only[ar.eM,Option.bind_eq_some_iff]at h;obtain⟨⟨ys,l⟩,j2,h⟩:=h;obtain⟨b,ad,aj⟩:=qM h;simp only[Option.some.injEq]at aj;subst aj;intro a w κ F Q aa aZ hc;have hx:bl C.P s.ae κ F w (use (aW C.aM s.ax x)).2 (a.eval x):=cv aa x rfl aZ.1;rw[eS]at hx;obtain⟨Ka,B3,Fs⟩:=hx;have hG:(di (.slice aV) (.val (.slice aV) xs)).run s.ae=some (xs,[]):=by
      simp[di,eE]
     exact main s a w κ F Q b ((s.ae b).gen+1) xs ys aa (rU aa j2 (cv aa y rfl aZ.2)) (Nat.lt_succ_self _) (rU aa hG Ka) (λq cap bf Kn wZ=>by
      grind) hc.2
    ·cases h
   ·cases h
  ·cases h
 ·cases h
theorem adH{P:Program}{F:Nat->Prop}{w:World}{all:List Value}{ys:z1'}(h:fW P (.int .u8) F w all ys):all=ys.map (Value.int .u8):=by
 obtain⟨h1,h2⟩:=h;have h1:all.length=ys.length:=h1.trans (Nat.mul_one _);apply List.ext_getElem (by simpa using h1);intro i G ds;have cZ:i<ys.length:=by omega
 obtain⟨e,_⟩:=h2 i cZ;have hs:af.size (.int .u8)=1:=rfl;rw[hs,Nat.mul_one,List.drop_eq_getElem_cons G]at e;have:=(List.cons.inj e).1;rw[this];simp
theorem RS:∀ (ys:z1') (s:ByteArray),ys.foldl (λr n=>r.push (UInt8.ofNat n.toNat)) s=⟨s.data++(uR ys).toArray⟩
 | [],s=>by simp[uR]
 | y::ys,s=>by
  rw[List.foldl_cons,RS ys];refine congrArg ByteArray.mk ?_;apply Array.ext';simp[uR,ByteArray.push]
theorem adI(ys:z1'):ys.foldl (λr n=>r.push (UInt8.ofNat n.toNat)) ByteArray.empty=⟨(uR ys).toArray⟩:=by
 rw[RS];refine congrArg ByteArray.mk ?_;apply Array.ext';simp[ByteArray.empty,ByteArray.emptyWithCapacity];rfl
theorem adJ(hT:dz C.P T){Ko Kp:TypeId}{x:Operand}(a7:∀ i,o.dst=some i->i<C.nt)(ah:o.op=.convert Ko Kp x)(h:(bh C.aM T a6 (aW C.aM s.ax) o).run s.ae=some res):cp C o s res:=by
 simp only[bh,ah]at h;split at h
 ·rename_i aP k aQ n t1 t2 hx;simp only[bA,ar.bz,Option.some.injEq]at h;subst h;refine cp.pure (by grind) a7 λa w κ F aa aZ _=>?_;have h1:=n9 (cv aa x rfl aZ) hx;have e1:=(hT.bU t1 (by simp)).int;have e2:=(hT.bU t2 (by simp)).int;refine⟨.int k (k.wrap n),?_,gB.2 ⟨rfl,pY _ _⟩⟩;simp[execOp,ah,convert,dk e1,dk e2,h1.1,Conv.intToInt]
 ·rename_i t1 t2;simp only[ar.eM,Option.bind_eq_some_iff,bA,ar.bz,Option.some.injEq]at h;obtain⟨⟨ys,l⟩,j2,rfl⟩:=h;refine cp.pure (by grind) a7 λa w κ F aa aZ _=>?_;have hu:=cv aa x rfl aZ;obtain⟨q,cap,hv,nE⟩:=rU aa j2 hu;have bX:ys.length<2 ^ 63:=by
   have h1:=l5 (F':=λ_=>True) aa.bq (λ_ _=>trivial) j2 (λ_ _ _=>trivial) hu;obtain⟨_,h2⟩:=(dC rfl).1 h1;obtain⟨q',cap',e1,m1,m2,_⟩:=h2;have e2:=(List.cons.inj (e1.symm.trans rfl)).1;omega
  obtain⟨jC,aD,h9,_⟩:=(hT.bU t1 (by simp)).sl;have e1:=h9.int;have e2:=(hT.bU t2 (by simp)).str;refine⟨.string ⟨(uR ys).toArray⟩,?_,l1.2 ⟨rfl,by simpa [uR]using bX⟩⟩;have hc:(convert Ko Kp (a.eval x)).run C.P w=.ok (.string ⟨(uR ys).toArray⟩) w:=by
   rw[hv,run_convert_bytes_string w Ko Kp jC q ys.length cap aD e1 e2];rcases nE with⟨rfl,rfl,rfl⟩ | ⟨p,all,rfl,aU,ob⟩
   ·rfl
   ·have eJ:all=ys.map (Value.int .u8):=adH aU;have an:=Fg (P:=C.P) ob;rw[eJ,List.length_map]at an;rw[run_bytesToString w p ys.length cap ys an];refine congrArg (λs=>Result.ok (Value.string s) w) ?_;exact adI ys
  simp[execOp,ah,hc]
 ·cases h
end
end Go.Fer
namespace Go.Fer
open Go.RowKit
theorem hR.yY{P:Program}{k:FuncId}{ts tr:af}{sh RT:ts.ai->M tr.ai}(h:hR P k ts tr sh)(hs:∀ x,M.le (sh x) (RT x)):hR P k ts tr RT where
 enter:=h.enter
 iK:=λF w args x bd fT aU qS=>by
  obtain⟨h1,h2⟩:=hs x qS;exact (h.iK F w args x bd fT aU h1).mono λe w' ⟨v,y,e1,e2,e3⟩=>⟨v,y,e1,h2 y e2,e3⟩
def aL.sh(c:aL)(x:c.ts.ai):M c.tr.ai:=M.dx (c.pre x) (c.g x)
def adK(P:Program)(k:FuncId)(ts:af)(x:ts.ai)(e:af)(ys:List e.ai):Prop:=
 ∀ (F:Nat->Prop) (w:World) (args:List Value),(∀ r,F r->r<w.heap.size)->nv P F w->fb P ts F w args x->Calls P k args.toArray w λz w'=>∃ (b:bo) (F':Nat->Prop),z=.returned (b.slice ys.length)/\(∀ r,F r->F' r)/\(∀ r,F' r->F r\/(w.heap.size<=r/\r<w'.heap.size))/\
  (b.eQ=true->ys=[])/\(b.eQ=false->(w.heap.size<=b.ae/\b.ae<w'.heap.size/\¬F' b.ae)/\∃ cs T,w'.heap[b.ae]?=some (.cells cs T (0,0))/\b.off+b.cap*e.size<=cs.size/\ys.length<=b.cap/\b.cap<2 ^ 63/\lu P e F' w' cs b.off ys)/\Below w.heap.size w w'
def Ch(P:Program)(k:FuncId)(c:aL):Prop:=(∀ args w,(callFunc k args).run P w=.ok (.enter k args) w)/\∀ x,c.pre x->∀ y,BT c.tr (c.g x)=some y->adK P k c.ts x y.1 y.2
def jc(P:Program)(a6:Nat->Option aL):Prop:=∀ k c,a6 k=some c->(ny c.tr=false->hR P k c.ts c.tr c.sh)/\(ny c.tr=true->Ch P k c)
theorem adL{t:af}{y:t.ai}{z:(e:af)×List e.ai}(h:BT t y=some z):ny t=true:=by
 unfold BT at h;unfold ny;split at h<;>simp_all
theorem adM{t:af}{y:t.ai}(h:BT t y=none):ny t=false:=by
 cases hc:ny t with
 | false=>rfl
 | true=>
  unfold ny at hc;split at hc
  ·cases h
  ·cases hc
theorem j4{t:af}(aI:t.ga=true)(avs:List aF):iN t avs=(match avs with | [v]=>di t v | _=>.none:ar (Option (t.ai×List Nat))):=by
 cases t<;>first
  | (cases aI;done)
  | (rcases avs with _ | ⟨v,_ | ⟨u,aC⟩⟩<;>rfl)
theorem u1{P:Program}{H:Nat->bw}{κ:Nat->bo}{F F':Nat->Prop}{w:World}(aN:∀ b,cj P H κ F w b)(bd:∀ r,F r->F' r):∀ (t:af) {avs:List aF} {aC:List Value} {x:t.ai} {l:List Nat},(iN t avs).run H=some (x,l)->
  iM H κ F' l->avs.length=aC.length->(∀ i (h:i<avs.length) (da:i<aC.length),bl P H κ F w avs[i] aC[i])->fb P t F' w aC x:=by
 have ga:∀ (t:af),t.ga=true->∀ {avs:List aF} {aC:List Value} {x:t.ai} {l:List Nat},(match avs with | [v]=>di t v | _=>.none:ar (Option (t.ai×List Nat))).run H=some (x,l)->
   iM H κ F' l->avs.length=aC.length->(∀ i (h:i<avs.length) (da:i<aC.length),bl P H κ F w avs[i] aC[i])->fb P t F' w aC x:=by
  intro t aI avs aC x l h an hlen eJ;split at h
  ·rename_i v;match aC,hlen with
   | [u],_=>
    refine (rG aI).2 ⟨u,rfl,l5 aN bd h an ?_⟩;exact eJ 0 (by simp) (by simp)
  ·cases h
 intro t;induction t with
 | ay a b fk eu=>
  intro avs aC x l h an hlen eJ;match avs,aC,hlen with
  | [],_,_=>simp[iN,ar.none]at h
  | v::avs,u::aC,hlen=>
   simp only[iN,ar.eM,Option.bind_eq_some_iff,ar.bz,Option.some.injEq,Prod.mk.injEq]at h;obtain⟨⟨y,m⟩,h1,⟨z,df⟩,h2,rfl,rfl⟩:=h;refine BF.2 ⟨l5 aN bd h1 an.left (eJ 0 (by simp) (by simp)),?_⟩;exact eu h2 an.right (by grind) λi G ds=>by
    have:=eJ (i+1) (by grind) (by grind);grind
 | cA=>
  intro avs aC x l h an hlen eJ;match avs,aC,hlen with
  | [],[],_=>exact⟨rfl,rfl⟩
  | _::_,_,_=>simp[iN,ar.none]at h
 | bool=>intro avs aC x l h;rw[j4 rfl]at h;exact ga _ rfl h
 | int k=>intro avs aC x l h;rw[j4 rfl]at h;exact ga (.int k) rfl h
 | str=>intro avs aC x l h;rw[j4 rfl]at h;exact ga _ rfl h
 | st t _=>intro avs aC x l h;rw[j4 rfl]at h;exact ga (.st t) rfl h
 | slice e _=>intro avs aC x l h;rw[j4 rfl]at h;exact ga (.slice e) rfl h
 | array n e _=>intro avs aC x l h;rw[j4 rfl]at h;exact ga (.array n e) rfl h
 | br e _=>intro avs aC x l h;rw[j4 rfl]at h;exact ga (.br e) rfl h
 | map k v _ _=>intro avs aC x l h;rw[j4 rfl]at h;exact ga (.map k v) rfl h
 | fn a b _ _=>intro avs aC x l h;rw[j4 rfl]at h;exact ga (.fn a b) rfl h
 | b9 a _=>intro avs aC x l h;rw[j4 rfl]at h;exact ga (.b9 a) rfl h
 | dT=>intro avs aC x l h;rw[j4 rfl]at h;exact ga .dT rfl h
theorem p2{H:Nat->bw}:∀ (t:af) {avs:List aF} {x:t.ai} {l:List Nat},(iN t avs).run H=some (x,l)->gp H l:=by
 have ga:∀ (t:af),t.ga=true->∀ {avs:List aF} {x:t.ai} {l:List Nat},(match avs with | [v]=>di t v | _=>.none:ar (Option (t.ai×List Nat))).run H=some (x,l)->gp H l:=by
  intro t _ avs x l h;split at h
  ·exact mD h
  ·cases h
 intro t;induction t with
 | ay a b fk eu=>
  intro avs x l h;match avs with
  | []=>simp[iN,ar.none]at h
  | v::avs=>
   simp only[iN,ar.eM,Option.bind_eq_some_iff,ar.bz,Option.some.injEq,Prod.mk.injEq]at h;obtain⟨⟨y,m⟩,h1,⟨z,df⟩,h2,rfl,rfl⟩:=h;exact (mD h1).append (eu h2)
 | cA=>
  intro avs x l h;match avs with
  | []=>
   simp only[iN,ar.bz,Option.some.injEq,Prod.mk.injEq]at h;rw[<-h.2];exact .nil H
  | _::_=>simp[iN,ar.none]at h
 | bool=>intro avs x l h;rw[j4 rfl]at h;exact ga _ rfl h
 | int k=>intro avs x l h;rw[j4 rfl]at h;exact ga (.int k) rfl h
 | str=>intro avs x l h;rw[j4 rfl]at h;exact ga _ rfl h
 | st t _=>intro avs x l h;rw[j4 rfl]at h;exact ga (.st t) rfl h
 | slice e _=>intro avs x l h;rw[j4 rfl]at h;exact ga (.slice e) rfl h
 | array n e _=>intro avs x l h;rw[j4 rfl]at h;exact ga (.array n e) rfl h
 | br e _=>intro avs x l h;rw[j4 rfl]at h;exact ga (.br e) rfl h
 | map k v _ _=>intro avs x l h;rw[j4 rfl]at h;exact ga (.map k v) rfl h
 | fn a b _ _=>intro avs x l h;rw[j4 rfl]at h;exact ga (.fn a b) rfl h
 | b9 a _=>intro avs x l h;rw[j4 rfl]at h;exact ga (.b9 a) rfl h
 | dT=>intro avs x l h;rw[j4 rfl]at h;exact ga .dT rfl h
theorem adN{H:Nat->bw}{e:af}{ps:List (Nat×aF)}:∀ (n i:Nat) {xs:List e.ai} {l:List Nat},(tc e ps i n).run H=some (xs,l)->gp H l:=by
 intro n;induction n with
 | zero=>intro i xs l h;cases h;exact .nil H
 | succ n aJ=>
  intro i xs l h;simp only[tc,ar.eM,Option.bind_eq_some_iff,ar.bz,Option.some.injEq,Prod.mk.injEq]at h;obtain⟨⟨x,m⟩,h1,⟨ys,df⟩,h2,rfl,rfl⟩:=h;refine gp.append ?_ (aJ (i+1) h2);split at h1
  ·exact mD h1
  ·simp only[ar.bz,Option.some.injEq,Prod.mk.injEq]at h1;rw[<-h1.2];exact .nil H
theorem RU{P:Program}{F F':Nat->Prop}{w w':World}{t:af}{aC:List Value}{x:t.ai}(aI:t.pure=true)(h:fb P t F w aC x):fb P t F' w' aC x:=⟨h.1,acy t aI h.2⟩
theorem tp{P:Program}{H:Nat->bw}{κ:Nat->bo}{F:Nat->Prop}{w:World}:∀ (t:af) {aC:List Value} {y:t.ai},fb P t F w aC y->t≠.cA->aC.length=jZ t/\∀ i,i<jZ t->bl P H κ F w (kl t y i) (aC.getD i Go.undef):=by
 intro t;induction t with
 | ay a b _ eu=>
  intro aC y h _;obtain⟨v,us,rfl,h1,h2⟩:=E2 h;by_cases ad:b=.cA
  ·subst ad;have:us=[]:=h2.1;subst this;refine⟨rfl,λi G=>?_⟩;cases i with
   | zero=>exact h1
   | succ i=>simp only[jZ]at G;omega
  ·obtain⟨aP,aQ⟩:=eu h2 ad;refine⟨by simp[jZ,aP],λi G=>?_⟩;cases i with
   | zero=>exact h1
   | succ i=>
    have:=aQ i (by simp only[jZ]at G;omega);simpa [kl]using this
 | cA=>simp
 | _=>
  intro aC y h _;obtain⟨v,rfl,h1⟩:=(rG rfl).1 h;refine⟨rfl,λi G=>?_⟩;simp only[jZ]at G;have:i=0:=by omega
  subst this;exact h1
theorem Ci{P:Program}{H:Nat->bw}{κ:Nat->bo}{F:Nat->Prop}{w:World}{t:af}{v:Value}{y:t.ai}(h:s7 P t F w v y):bl P H κ F w (qH t y) v:=by
 have pT:=@tp P H κ F w;obtain⟨aC,h1,h2⟩:=h;cases t with
 | ay a b=>
  simp only[yR]at h1;obtain⟨aP,aQ⟩:=pT (.ay a b) h2 (by simp);exact⟨aC,h1,aP,aQ⟩
 | cA=>exact h1.1
 | _=>
  obtain⟨u,rfl,hu⟩:=(rG rfl).1 h2;have:v=u:=by simpa [yR,eq_comm]using h1
  rw[this];exact hu
section
variable {C:bS} {T:Nat->af} {a6:Nat->Option aL} {o:Oper} {s:az} {res:eb}
theorem bc.grow{a:Act}{w w':World}{κ:Nat->bo}{F:Nat->Prop}(h:bc C s a w κ F)(ad:Below w.heap.size w w'):bc C s a w' κ (uK F w w'):=by
 have he:cJ F w w':=⟨ad.size,λr aa=>ad.block r (h.cM r aa)⟩
 refine h.move (H':=s.ae) (fe.refl _ _) (λ_ aa=>.inl aa) (λr aa=>aa.imp id λaa=>.inr aa.1) ad.size (λr aa _=>ad.block r aa) ⟨ad.os,ad.tape,ad.output⟩ (λ_=>?_) ?_ h.inj ?_ (λ_ _ h=>⟨rfl,h⟩)
 ·intro b;exact cj.kX (h.bq b) (fe.refl _ _) (λ_ aa=>.inl aa) he rfl rfl λah=>ad.block _ (h.own b ah).1
 ·intro b ah;have:=h.own b ah;refine⟨Nat.lt_of_lt_of_le this.1 ad.size,λau=>?_,.inl ⟨b,ah,rfl⟩⟩;rcases au with au | ⟨au,_⟩
  ·exact this.2.1 au
  ·omega
 ·intro r aa;rcases aa with aa | ⟨_,aa⟩
  ·exact Nat.lt_of_lt_of_le (h.cM r aa) ad.size
  omega
theorem Cj{r:Option Nat}{P:Program}{o:Oper}{a:Act}{w:World}{K:Act->World->Prop}{Q:Exit->Act->World->Prop}{f:FuncId}{args:Array Value}{R:Ending->World->Prop}(aw:∀ c,o.op≠.defer c)
  (h:(execOp a.eval o).run P w=.ok (.enter f args) w) (hc:Calls P f args w R) (aj:∀ e w',R e w'->∃ v,e=.returned v/\K (a.put o.dst v) w'):o.wpIn (dy r) 0 P a w K Q:=by
 refine⟨λ_ _=>trivial,?_⟩;rw[y8 aw,h];refine⟨λhs=>(by cases hs),?_⟩;have h1:CallsIn Fence.wide 0 P f args w R:=callsIn_wide.2 hc;have h2:CallsIn (dy r) 0 P f args w R:=by
  cases r with
  | none=>exact h1
  | some l=>exact CallsIn.inRound l h1
 refine h2.mono λe w' he=>?_;grind
theorem RV{a:Act}{w:World}{κ:Nat->bo}{F:Nat->Prop}{ts:af}(aa:bc C s a w κ F){args:Array Operand}(aZ:jz (args.toList.map (aW C.aM s.ax))){x:ts.ai}{l:List Nat}
  (hx:(iN ts ((args.toList.map (aW C.aM s.ax)).map λv=>(use v).2)).run s.ae=some (x,l)):∃ F',(∀ r,F r->F' r)/\bc C (s.cd l) a w κ F'/\fb C.P ts F' w (args.toList.map a.eval) x:=by
 obtain⟨args⟩:=args;obtain⟨F',f1,aY,f2⟩:=bc.k0 (p2 ts hx) aa;refine⟨F',f1,aY,u1 aa.bq f1 ts hx f2 (by simp) λi G ds=>?_⟩;simp only[List.getElem_map];have cZ:i<args.length:=by grind
 have h1:=rO aZ i (by grind);have e1:(args.map (aW C.aM s.ax)).getD i .undef=aW C.aM s.ax args[i]:=by grind
 rw[show (List.map (aW C.aM s.ax) (⟨args⟩:Array Operand).toList)=args.map (aW C.aM s.ax) from rfl,e1]at h1;exact oX (j1 aa args[i]) h1
theorem RW{a:Act}{w:World}{κ:Nat->bo}{F:Nat->Prop}{Q:Exit->Act->World->Prop}{K:Act->World->Prop}{k:FuncId}{ts tr:af}{sh:ts.ai->M tr.ai}(aa:bc C s a w κ F)(au:hR C.P k ts tr sh)
  (a7:∀ i,o.dst=some i->i<C.nt) {args:Array Operand} {cX:Array TypeId} (ah:o.op=.call { callee:=.value (.func k),args:=args,argTypes:=cX }) (aZ:jz (args.toList.map (aW C.aM s.ax))) {x:ts.ai} {l:List Nat}
  (hx:(iN ts ((args.toList.map (aW C.aM s.ax)).map λv=>(use v).2)).run s.ae=some (x,l)) (hs:(sh x).b1)
  (aj:∀ y w',(sh x).bD y->∀ v,b' C ((if tr.pure then s else s.cd l).set o.dst (qH tr y)) (a.put o.dst v) w'->K (a.put o.dst v) w'):o.wpIn (dy C.r) 0 C.P a w K Q:=by
 have aw:∀ c,o.op≠.defer c:=by grind
 obtain⟨args⟩:=args;have cK:(execOp a.eval o).run C.P w=.ok (.enter k (args.map a.eval).toArray) w:=by
  simp only[execOp,ah,Sem.run_bind,resolve,Act.eval,Deferred.ofValue,Sem.run_pure,Result.andThen_ok,invoke];have:=au.enter (args.map a.eval).toArray w;grind
 obtain⟨F',f1,aY,dF⟩:=RV aa aZ hx;refine Cj aw cK (au.iK F' w _ x aY.cM aY.im dF hs) λe w' ⟨v,y,he,aO,fU,ad⟩=>⟨v,he,aj y w' aO v ?_⟩
 by_cases hp:tr.pure=true
 ·rw[if_pos hp];have aA:=aa.grow ad;refine⟨κ,_,aA.set a7 (Ci ?_)⟩;obtain⟨aC,cR,q2⟩:=fU;exact⟨aC,cR,RU hp q2⟩
 ·rw[if_neg hp];have aA:=aY.grow ad;exact⟨κ,_,aA.set a7 (Ci fU)⟩
theorem bc.hn{a:Act}{w w':World}{κ:Nat->bo}{F F':Nat->Prop}(h:bc C s a w κ F){b g:Nat}{e:af}{ys:List e.ai}{k:bo}(BK:b<eC)(aA:(s.ae b).gen<g)(ad:Below w.heap.size w w')
  (bd:∀ r,F r->F' r) (s6:∀ r,F' r->F r\/(w.heap.size<=r/\r<w'.heap.size)) (h1:k.eQ=true->ys=[])
  (h2:k.eQ=false->(w.heap.size<=k.ae/\k.ae<w'.heap.size/\¬F' k.ae)/\∃ cs T,w'.heap[k.ae]?=some (.cells cs T (0,0))/\k.off+k.cap*e.size<=cs.size/\ys.length<=k.cap/\k.cap<2 ^ 63/\lu C.P e F' w' cs k.off ys) :
  bc C (s.cb b ⟨g,.a8 e ys⟩) a w' (λi=>if i=b then k else κ i) F':=by
 have an:fe s.ae κ (λi=>if i=b then ⟨g,.a8 e ys⟩ else s.ae i) (λi=>if i=b then k else κ i):=yV aA λa1 cQ=>by grind
 refine h.move (H':=λi=>if i=b then ⟨g,.a8 e ys⟩ else s.ae i) an bd (λr aa=>(s6 r aa).imp id λh=>.inr h.1) ad.size (λr aa _=>ad.block r aa) ⟨ad.os,ad.tape,ad.output⟩ (λhe=>?_) ?_ ?_ ?_ (yW (.inl BK) λa1 cQ=>by grind)
 ·intro i;by_cases G:i=b
  ·subst G;simp only[cj,if_true];exact⟨h1,λaB=>(h2 aB).2⟩
  ·refine cj.kX (h.bq i) an bd he (by grind) (by grind) λah=>?_;exact ad.block _ (h.own i ah).1
 ·intro i G;by_cases ev:i=b
  ·subst ev;simp only[if_true,bC.bN,Bool.not_eq_true']at G ⊢;obtain⟨⟨aP,aQ,bB⟩,_⟩:=h2 G;exact⟨aQ,bB,.inr aP⟩
  ·simp only[if_neg ev]at G ⊢;have:=h.own i G;refine⟨Nat.lt_of_lt_of_le this.1 ad.size,λau=>?_,.inl ⟨i,G,rfl⟩⟩;rcases s6 _ au with au | au
   ·exact this.2.1 au
   ·omega
 ·intro i j G aD aV;by_cases ev:i=b<;>by_cases l3:j=b
  ·omega
  ·simp only[if_pos ev,if_neg l3,bC.bN,Bool.not_eq_true']at G aD aV;have:=(h.own j aD).1;have:=(h2 G).1.1;omega
  ·simp only[if_neg ev,if_pos l3,bC.bN,Bool.not_eq_true']at G aD aV;have:=(h.own i G).1;have:=(h2 aD).1.1;omega
  ·simp only[if_neg ev,if_neg l3]at G aD aV;exact h.inj i j G aD aV
 ·intro r aa;rcases s6 r aa with da | da
  ·exact Nat.lt_of_lt_of_le (h.cM r da) ad.size
  ·exact da.2
theorem adO(cf:jc C.P a6){k:FuncId}{args:Array Operand}{cX:Array TypeId}(a7:∀ i,o.dst=some i->i<C.nt)(ah:o.op=.call { callee:=.value (.func k),args:=args,argTypes:=cX })(h:(bh C.aM T a6 (aW C.aM s.ax) o).run s.ae=some res):cp C o s res:=by
 simp only[bh,ah,mA,Fa]at h;split at h
 ·rename_i c hc;simp only[ar.eM,Option.bind_eq_some_iff]at h;obtain⟨⟨x,l⟩,hx,h⟩:=h;split at h
  ·rename_i y aO;simp only[ar.run_bind]at h;obtain⟨d,aw,h⟩:=qM h;split at h
   ·cases h
   rename_i tq;cases h;have tq:d ∉ l:=by simpa using tq
   have Kq:=a7 d aw;intro a w κ F Q aa aZ gq;obtain⟨aP,aQ⟩:=(cf k c hc).2 (adL aO);obtain⟨F',f1,aY,dF⟩:=RV aa aZ hx;have cK:(execOp a.eval o).run C.P w=.ok (.enter k (args.map a.eval)) w:=by
    simp only[execOp,ah,Sem.run_bind,resolve,Act.eval,Deferred.ofValue,Sem.run_pure,Result.andThen_ok,invoke];have:=aP (args.map a.eval) w;grind
   have jd:=aQ x gq y aO F' w _ aY.cM aY.im dF;rw[show (args.toList.map a.eval).toArray=args.map a.eval from by rw[<-Array.toList_map,Array.toArray_toList]]at jd;refine Cj (by grind) cK jd λz w' ⟨b,dP,ba,g1,dW,g3,g4,g5⟩=>⟨_,ba,?_⟩
   have zk:(s.cd l).ae d=s.ae d:=by simp[az.cd,tq]
   have jb:=aY.hn (b:=d) (g:=(s.ae d).gen+1) (e:=y.1) (ys:=y.2) (k:=b) (Nat.lt_of_lt_of_le Kq aa.fR) (by rw[zk];omega) g5 g1 dW g3 g4;refine⟨λi=>if i=d then b else κ i,dP,?_⟩;simp only[az.hW];rw[B4,ti];refine jb.set a7 ⟨⟨by simp[az.cb],by unfold bo.slice;split<;>rfl⟩,λ_ _=>by simp[az.cb,bC.len]⟩
  rename_i aO;simp only[ar.run_bind,ar.bz,Option.some.injEq]at h;subst h;intro a w κ F Q aa aZ gq;refine RW aa ((cf k c hc).1 (adM aO)) a7 ah aZ hx gq λy w' aO v j5=>?_;have aO:y=c.g x:=aO;subst aO;have e:∀ (r:ar (List (Nat×bw))),r=(if c.tr.pure then .ret [] else jy l)->s.fK (r.run s.ae)=(if c.tr.pure then s else s.cd l):=by
   intro r aa;subst aa;split
   ·rfl
   ·exact ti s l
  simp only[az.hW];grind
 ·cases h
theorem RX{P:Program}{H:Nat->bw}{κ:Nat->bo}{F F':Nat->Prop}{w:World}(aN:∀ b,cj P H κ F w b)(bd:∀ r,F r->F' r){e:af}{zero:List Value}(ba:bu P e F' w zero e.cP){ps:List (Nat×aF)}{qs:List (Nat×Value)}(hlen:ps.length=qs.length)
  (eJ:∀ i (h:i<ps.length) (da:i<qs.length),ps[i].1=qs[i].1/\bl P H κ F w ps[i].2 qs[i].2):∀ (n i:Nat) {xs:List e.ai} {l:List Nat},(tc e ps i n).run H=some (xs,l)->
  iM H κ F' l->xs.length=n/\∀ j (h:j<xs.length),∃ a_,bu P e F' w a_ xs[j]/\(match qs.find? (λp=>p.1 == i+j) with | some q=>a_=q.2.cells.toList | none=>a_=zero):=by
 have find:∀ (ps:List (Nat×aF)) (qs:List (Nat×Value)),ps.length=qs.length->(∀ i (h:i<ps.length) (da:i<qs.length),ps[i].1=qs[i].1/\bl P H κ F w ps[i].2 qs[i].2)->∀ i,(ps.find? (λp=>p.1 == i)=none/\qs.find? (λp=>p.1 == i)=none)\/∃ p q,ps.find? (λp=>p.1 == i)=some p/\qs.find? (λp=>p.1 == i)=some q/\bl P H κ F w p.2 q.2:=by
  intro ps;induction ps with
  | nil=>grind
  | cons p ps aJ=>
   intro qs an h i;cases qs with
   | nil=>grind
   | cons q qs=>
    have h0:=h 0 (by simp) (by simp);simp only[List.getElem_cons_zero]at h0;by_cases hp:p.1=i
    ·grind
    ·have bf:q.1≠i:=by omega
     have:=aJ qs (by grind) (λj aD fB=>by have:=h (j+1) (by grind) (by grind);grind) i;grind
 intro n;induction n with
 | zero=>intro i xs l h _;cases h;simp
 | succ n aJ=>
  intro i xs l h an;simp only[tc,ar.eM,Option.bind_eq_some_iff,ar.bz,Option.some.injEq,Prod.mk.injEq]at h;obtain⟨⟨x,m⟩,h1,⟨ys,df⟩,h2,rfl,rfl⟩:=h;obtain⟨aP,aQ⟩:=aJ (i+1) h2 an.right;refine⟨by grind,λj aD=>?_⟩;cases j with
  | zero=>
   rcases find ps qs hlen eJ i with⟨f1,f2⟩ | ⟨p,q,f1,f2,f3⟩
   ·rw[f1]at h1;simp only[ar.bz,Option.some.injEq,Prod.mk.injEq]at h1;grind
   ·rw[f1]at h1;refine⟨q.2.cells.toList,(l5 aN bd h1 an.left f3).2,?_⟩;grind
  | succ j=>
   obtain⟨a_,d1,d2⟩:=aQ j (by grind);grind
end
end Go.Fer
namespace Go.Fer
open Go.RowKit
def rW(d:Nat)(em:Bool)(xs:Array Value):List Field->Sem Unit
 | []=>pure ()
 | f::eF=>
  if f.name ≠ "_" then do
   let a <-part f.type xs f.offset
   Instr.checkKey em d f.type a
   rW d em xs eF
  else rW d em xs eF
theorem adP{P:Program}(w:World)(em:Bool)(d:Nat)(t:TypeId)(xs:Array Value)(aI:P.underlying t=some (.struct (P.fieldsOf t))) :
  (Instr.checkKey em (d+1) t (.agg xs)).run P w=(rW d em xs (P.fieldsOf t).toList).run P w:=by
 simp only[Instr.checkKey,Sem.run_bind,dk aI,Result.andThen_ok];rw[<-Array.forIn_toList];generalize (P.fieldsOf t).toList=eF;clear aI;induction eF generalizing w with
 | nil=>rfl
 | cons f eF aJ=>
  simp only[List.forIn_cons,rW,Sem.run_bind,Sem.run_ite];split
  ·generalize (part f.type xs f.offset).run P w=b3;cases b3 with
   | ok a bY=>
    simp only[Result.andThen_ok];generalize (Instr.checkKey em d f.type a).run P bY=cr;cases cr with
    | ok b cy=>
     simp_all
    | halt x cy=>rfl
   | halt x bY=>rfl
  simp_all
theorem Ck{P:Program}{F:Nat->Prop}{w:World}{em:Bool}:∀ (t:af) (d:Nat),t.kH=true->t.j0<=d->
  (∀ {id:TypeId} {v:Value} {x:t.ai},bQ P t id->dU P t F w v x->(Instr.checkKey em d id v).run P w=.ok () w)/\
  (∀ {l:List Field} {off:Nat} {xs:Array Value} {p c q:List Value} {x:t.ai},cm P t (.inr (l,off))=true->xs.toList=p++(c++q)->p.length=off->bu P t F w c x->
   (rW d em xs l).run P w=.ok () w):=by
 intro t;induction t with
 | bool=>
  intro d _ aw;refine⟨λ{id v x} h h1=>?_,λh=>by simp[cm]at h⟩;rw[eY.1 h1];obtain⟨d,rfl⟩:∃ e,d=e+1:=⟨d - 1,by simp only[af.j0]at aw;omega⟩
  unfold bQ at h;simp only[cm,Bool.and_eq_true]at h;obtain⟨_,h⟩:=h;split at h
  ·rename_i hu;simp[Instr.checkKey,dk hu]
  grind
 | int k=>
  intro d _ aw;refine⟨λ{id v x} h h1=>?_,λh=>by simp[cm]at h⟩;rw[(gB.1 h1).1];obtain⟨d,rfl⟩:∃ e,d=e+1:=⟨d - 1,by simp only[af.j0]at aw;omega⟩
  simp[Instr.checkKey,dk (bQ.int h)]
 | str=>
  intro d _ aw;refine⟨λ{id v x} h h1=>?_,λh=>by simp[cm]at h⟩;rw[(l1.1 h1).1];obtain⟨d,rfl⟩:∃ e,d=e+1:=⟨d - 1,by simp only[af.j0]at aw;omega⟩
  simp[Instr.checkKey,dk (bQ.str h)]
 | cA=>intro d h;cases h
 | slice e _=>intro d h;cases h
 | array n e _=>intro d h;cases h
 | br e _=>intro d h;cases h
 | map k v _ _=>intro d h;cases h
 | fn a b _ _=>intro d h;cases h
 | b9 a _=>intro d h;cases h
 | dT=>intro d h;cases h
 | ay a b fk eu=>
  intro d hc aw;simp only[af.kH,Bool.and_eq_true]at hc;simp only[af.j0]at aw;have ia:=fk d hc.1 (by omega);have oR:=eu d hc.2 (by omega);refine⟨λh=>by unfold bQ at h;simp[cm]at h,?_⟩;intro l off xs p c q x h hx hp oZ;simp only[bu]at oZ;obtain⟨c1,c2,rfl,aP,aQ⟩:=oZ;have eB:=hC a aP;have step : ∀ (f : Field) (b5 : List Field), f.offset = off -> bQ P a f.type -> f.name ≠ "_" -> (rW d em xs (f :: b5)).run P w = (rW d em xs b5).run P w := by
   intro f b5 ah au aB;obtain⟨v,b3,cr⟩:=qL (cs:=xs) (p:=p) (c:=c1) (q:=c2++q) au (by grind) aP;simp only[rW,aB,ne_eq,not_false_eq_true,if_true,Sem.run_bind];rw[ah,<-hp,b3,Result.andThen_ok,ia.1 au cr,Result.andThen_ok]
  match l,h with
  | [],h=>rfl
  | [f],h=>simp only[cm,Bool.false_eq_true]at h
  | [f,g],h=>
   simp only[cm,Bool.and_eq_true,beq_iff_eq,bne_iff_ne,ne_eq]at h;obtain⟨⟨⟨⟨h1,h2⟩,h3⟩,aT⟩,⟨⟨⟨bx,c_⟩,fN⟩,iZ⟩⟩:=h;rw[step f [g] h1 h2 aT];obtain⟨v,b3,cr⟩:=qL (cs:=xs) (p:=p++c1) (c:=c2) (q:=q) c_ (by grind) aQ;have e1:(p++c1).length=g.offset:=by grind
   rw[e1]at b3;simp only[rW,iZ,ne_eq,not_false_eq_true,if_true,Sem.run_bind,b3,Result.andThen_ok,oR.1 c_ cr,Sem.run_pure]
  | f::g::i::l,h=>
   simp only[cm,Bool.and_eq_true,beq_iff_eq,bne_iff_ne,ne_eq]at h;obtain⟨⟨⟨⟨h1,h2⟩,h3⟩,aT⟩,bx⟩:=h;rw[step f _ h1 h2 aT,oR.2 bx (p:=p++c1) (c:=c2) (q:=q) (by grind) (by grind) aQ]
 | st t aJ=>
  intro d hc aw;simp only[af.j0]at aw;obtain⟨d,rfl⟩:∃ e,d=e+1:=⟨d - 1,by omega⟩
  refine⟨λ{id v x} h h1=>?_,λh=>by simp[cm]at h⟩;have i:=aJ d hc (by omega);obtain⟨e1,e2,e3,e4⟩:=h.BX;obtain⟨⟨xs,rfl,hG⟩,oZ⟩:=h1;simp only[Value.cells,bu]at oZ;rw[adP w em d id xs e4];rcases e3 with e3 | ⟨f,e3,eP,jV,ko⟩ | ⟨rfl,e3⟩
  ·exact i.2 e3 (p:=[]) (c:=xs.toList) (q:=[]) (by simp) rfl oZ
  ·rw[e3];obtain⟨v,b3,cr⟩:=qL (cs:=xs) (p:=[]) (c:=xs.toList) (q:=[]) jV (by simp) oZ;simp only[List.length_nil]at b3;simp only[rW,ko,ne_eq,not_false_eq_true,if_true,Sem.run_bind,eP,b3,Result.andThen_ok,i.1 jV cr,Sem.run_pure]
  ·cases hc
theorem Kr:∀ (t:af),t.kH=true->∀ (x y:t.ai),gn t x y=true<->x=y:=by
 intro t;induction t with
 | bool=>intro _ x y;simp[gn]
 | int k=>intro _ x y;simp[gn]
 | str=>intro _ x y;simp[gn]
 | st t aJ=>intro h x y;exact aJ h x y
 | ay a b fk eu=>
  intro h x y;simp only[af.kH,Bool.and_eq_true]at h;simp only[gn,Bool.and_eq_true,fk h.1,eu h.2];grind
 | _=>intro h;cases h
def zl{k:af}{β:Type}(x:k.ai)(es:List MapEntry)(xs:List (k.ai×β))(i:Nat)(r:Option (Nat×Value)):Prop:=
 (r=none/\∀ p∈xs,gn k x p.1=false)\/∃ j e p,es[j]?=some e/\xs[j]?=some p/\gn k x p.1=true/\(∀ j3 q,j3<j->xs[j3]?=some q->gn k x q.1=false)/\r=some (i+j,e.val)
theorem zl.next{k:af}{β:Type}{x:k.ai}{e:MapEntry}{es:List MapEntry}{p:k.ai×β}{xs:List (k.ai×β)}{i:Nat}{r:Option (Nat×Value)}(h:zl x es xs (i+1) r)(hp:gn k x p.1=false):zl x (e::es) (p::xs) i r:=by
 rcases h with⟨h1,h2⟩ | ⟨j,aV,p',h1,h2,h3,aT,bx⟩
 ·exact .inl ⟨h1,λq bf=>by
   grind⟩
 ·refine .inr ⟨j+1,aV,p',by grind,by grind,h3,λj3 q fB bf=>?_,by grind⟩;grind
theorem RY{P:Program}{F:Nat->Prop}{w:World}{k:af}{β:Type}(hc:k.kH=true)(aB:k.j0<=10000){k3:TypeId}(aj:bQ P k k3){tt:Value}{x:k.ai}(hx:dU P k F w tt x):∀ (es:List MapEntry) (xs:List (k.ai×β)) (i:Nat),es.length=xs.length->(∀ (j:Nat) (e:MapEntry) (p:k.ai×β),es[j]?=some e->xs[j]?=some p->dU P k F w e.key p.1)->∃ r,(Instr.findAsking k3 tt es i).run P w=.ok r w/\zl x es xs i r
 | [],[],i,_,_=>⟨none,rfl,.inl ⟨rfl,λp hp=>by cases hp⟩⟩
 | e::es,p::xs,i,an,h=>by
  have h0:=h 0 e p rfl rfl;have he:=(JZ k 10000 hc aB).1 aj hx h0;obtain⟨r,b3,cr⟩:=RY (β:=β) hc aB aj hx es xs (i+1) (by grind) λj aV p' h1 h2=>h (j+1) aV p' (by grind) (by grind);cases bf:gn k x p.1 with
  | true=>
   refine⟨some (i,e.val),by simp[Instr.findAsking,Op.equal,Op.maxDepth,he,bf],.inr ⟨0,e,p,rfl,rfl,bf,λj3 q fB=>by omega,rfl⟩⟩
  | false=>exact⟨r,by simp[Instr.findAsking,Op.equal,Op.maxDepth,he,bf,b3],cr.next bf⟩
theorem RZ{P:Program}{F:Nat->Prop}{w:World}{k:af}{k3:TypeId}(aj:bQ P k k3){d:TypeDesc}(aw:P.underlying k3=some d){u v:Value}{x y:k.ai}(hu:dU P k F w u x)(hv:dU P k F w v y){b:Bool}(h:Instr.sameNow d u v=some b):b=gn k x y:=by
 cases k with
 | bool=>
  rw[eY.1 hu,eY.1 hv]at h;cases d<;>simp only[Instr.sameNow,Option.some.injEq,reduceCtorEq]at h;rw[<-h];rfl
 | int k=>
  rw[(gB.1 hu).1,(gB.1 hv).1]at h;cases d<;>simp only[Instr.sameNow,if_true,Option.some.injEq,reduceCtorEq]at h;rw[<-h];rfl
 | str=>
  rw[(l1.1 hu).1,(l1.1 hv).1]at h;cases d<;>simp only[Instr.sameNow,Option.some.injEq,reduceCtorEq]at h;rw[<-h,beq_toListBytes,ByteArray.toList_eq,ByteArray.toList_eq];simp only[gn];grind
 | st t=>
  obtain⟨⟨us,rfl,_⟩,_⟩:=hu;cases d<;>cases v<;>simp[Instr.sameNow]at h
 | array n t=>
  obtain⟨⟨us,rfl,_⟩,_⟩:=hu;cases d<;>cases v<;>simp[Instr.sameNow]at h
 | cA=>exact hu.1.elim
 | ay a b=>exact hu.1.elim
 | slice e=>
  obtain⟨_,a,cap,e1,_⟩:=(dC rfl).1 hu;obtain rfl:=(List.cons.inj e1).1;cases d<;>simp[Instr.sameNow]at h
 | br e=>
  obtain⟨_,hx⟩:=(dC rfl).1 hu;rcases hx with⟨e1,_⟩ | ⟨p,y,a_,e1,_⟩<;>(obtain rfl:=(List.cons.inj e1).1;cases d<;>simp[Instr.sameNow]at h)
 | map k' hS=>
  obtain⟨_,hx⟩:=(dC rfl).1 hu;rcases hx with⟨e1,_⟩ | ⟨r,es,clk,e1,_⟩<;>(obtain rfl:=(List.cons.inj e1).1;cases d<;>simp[Instr.sameNow]at h)
 | fn a b=>
  obtain⟨i,z,h1,h2,h3,aT,bx,c_⟩:=kk aj.kj;unfold bQ at aj;simp only[cm,Bool.and_eq_true,aw]at aj;cases d<;>simp[Instr.sameNow]at aj h
 | b9 a=>
  obtain⟨i,z,h1,h2,h3,aT,bx,c_⟩:=kk aj.kj;unfold bQ at aj;simp only[cm,Bool.and_eq_true,aw]at aj;cases d<;>simp[Instr.sameNow]at aj h
 | dT=>
  obtain⟨i,z,h1,h2,h3,aT,bx,c_⟩:=kk aj.kj;unfold bQ at aj;simp only[cm,Bool.and_eq_true,aw]at aj;cases d<;>simp[Instr.sameNow]at aj h
theorem R0{P:Program}{F:Nat->Prop}{w:World}{k:af}{β:Type}{k3:TypeId}(aj:bQ P k k3){d:TypeDesc}(aw:P.underlying k3=some d){tt:Value}{x:k.ai}(hx:dU P k F w tt x):∀ (es:List MapEntry) (xs:List (k.ai×β)) (i:Nat) {r:Option (Nat×Value)},es.length=xs.length->(∀ (j:Nat) (e:MapEntry) (p:k.ai×β),es[j]?=some e->xs[j]?=some p->dU P k F w e.key p.1)->Instr.findNow d tt es i=some r->zl x es xs i r
 | [],[],i,r,_,_,h=>by cases h;exact .inl ⟨rfl,λp hp=>by cases hp⟩
 | e::es,p::xs,i,r,an,h,au=>by
  have h0:=h 0 e p rfl rfl;simp only[Instr.findNow]at au;split at au
  ·rename_i hs;have:=RZ aj aw hx h0 hs;cases au;exact .inr ⟨0,e,p,rfl,rfl,this.symm,λj3 q fB=>by omega,rfl⟩
  ·rename_i hs;have:=RZ aj aw hx h0 hs;exact (R0 aj aw hx es xs (i+1) (by grind) (λj aV p' h1 h2=>h (j+1) aV p' (by grind) (by grind)) au).next this.symm
  grind
theorem bQ.adQ{P:Program}{t:af}{id:TypeId}(h:bQ P t id)(hc:t.kH=true):∃ d,P.underlying id=some d:=by
 cases t with
 | bool=>
  unfold bQ at h;simp only[cm,Bool.and_eq_true]at h;grind
 | int k=>exact⟨_,bQ.int h⟩
 | str=>exact⟨_,bQ.str h⟩
 | st t=>exact⟨_,h.BX.2.2.2⟩
 | ay a b=>unfold bQ at h;simp[cm]at h
 | _=>cases hc
theorem w1{P:Program}{F:Nat->Prop}{w:World}{k:af}{β:Type}(hc:td k=true){k3:TypeId}(aj:bQ P k k3){tt:Value}{x:k.ai}(hx:dU P k F w tt x){es:List MapEntry}{xs:List (k.ai×β)}
  (an:es.length=xs.length) (h:∀ (j:Nat) (e:MapEntry) (p:k.ai×β),es[j]?=some e->xs[j]?=some p->dU P k F w e.key p.1):∃ r,(Instr.findKey k3 tt es).run P w=.ok r w/\zl x es xs 0 r:=by
 simp only[td,Bool.and_eq_true,decide_eq_true_eq]at hc;obtain⟨d,aw⟩:=aj.adQ hc.1;simp only[Instr.findKey,Sem.run_bind,dk aw,Result.andThen_ok];cases aB:Instr.findNow d tt es 0 with
 | some r=>exact⟨r,rfl,R0 aj aw hx es xs 0 an h aB⟩
 | none=>exact RY hc.1 (by omega) aj hx es xs 0 an h
theorem R1{k v:af}{es:List (k.ai×v.ai)}{x:k.ai}:∀ {j:Nat} {p:k.ai×v.ai},es[j]?=some p->gn k x p.1=true->(∀ j3 q,j3<j->es[j3]?=some q->gn k x q.1=false)->y3 es x=some p.2/\∀ y,lz es x y=es.set j (p.1,y):=by
 induction es with
 | nil=>simp
 | cons q es aJ=>
  intro j p h1 h2 h3;cases j with
  | zero=>
   simp at h1;subst h1;exact⟨by simp[y3,h2],λy=>by simp[lz,h2]⟩
  | succ j=>
   have h0:=h3 0 q (by omega) rfl;obtain⟨aP,aQ⟩:=aJ (j:=j) (p:=p) (by grind) h2 λj3 q' fB tl=>h3 (j3+1) q' (by omega) (by grind);exact⟨by simpa [y3,List.find?_cons,h0]using aP,λy=>by simp[lz,h0,aQ y]⟩
theorem R2{k v:af}{es:List (k.ai×v.ai)}{x:k.ai}(h:∀ p∈es,gn k x p.1=false):y3 es x=none/\∀ y,lz es x y=es++[(x,y)]:=by
 induction es with
 | nil=>exact⟨rfl,λ_=>rfl⟩
 | cons q es aJ=>
  have h0:=h q (by simp);obtain⟨aP,aQ⟩:=aJ λp hp=>h p (by grind);exact⟨by simpa [y3,List.find?_cons,h0]using aP,λy=>by simp[lz,h0,aQ y]⟩
section
variable {C:bS} {T:Nat->af} {a6:Nat->Option aL} {o:Oper} {s:az} {res:eb}
theorem adR{P:Program}{F:Nat->Prop}{w:World}{v:af}{z:Value}(hv:v.ef=true\/v.isAgg=true)(i5:jY v z.cells.toList=some [])(i6:(∃ cs,z=.agg cs)<->v.isAgg=true):dU P v F w z v.cP:=by
 obtain⟨c,e,n',z2⟩:=uP (P:=P) (H:=λ_=>⟨0,.fm⟩) (κ:=λ_=>⟨0,0,0,true⟩) (F:=F) (w:=w) v i5;rw[List.append_nil]at e;refine⟨?_,by grind⟩;have an:=hC v n';rcases hv with hv | hv
 ·obtain⟨u,rfl,hu⟩:=BG hv n';have Fp:∀ cs,z≠.agg cs:=λcs ba=>by
   have:=i6.1 ⟨cs,ba⟩;cases v<;>simp[af.ef,af.isAgg]at hv this
  have ba:z.cells=#[z]:=by
   cases z<;>first | rfl | grind
  cases v<;>simp only[af.ef,Bool.false_eq_true]at hv<;>exact ba
 ·obtain⟨cs,rfl⟩:=i6.2 hv;have aV:cs.toList=c:=e;cases v<;>simp only[af.isAgg,Bool.false_eq_true]at hv
  ·exact⟨cs,rfl,by rw[<-Array.length_toList,aV,an];rfl⟩
  ·exact⟨cs,rfl,by rw[<-Array.length_toList,aV,an];rfl⟩
def Ks(P:Program)(k v:af)(F:Nat->Prop)(w:World)(ms:List MapEntry)(xs:List (k.ai×v.ai)):Prop:=
 ms.length=xs.length/\∀ (j:Nat) (e:MapEntry) (p:k.ai×v.ai),ms[j]?=some e->xs[j]?=some p->dU P k F w e.key p.1/\dU P v F w e.val p.2
theorem uL.es{P:Program}{k v:af}{F:Nat->Prop}{w:World}{ms:Array MapEntry}{clk:Nat}{xs:List (k.ai×v.ai)}(h:uL P k v F w ms clk xs):Ks P k v F w ms.toList xs:=by
 obtain⟨h1,h2,h3,aT⟩:=h;refine⟨by omega,λj e p he hp=>?_⟩;obtain⟨aD,rfl⟩:=List.getElem?_eq_some_iff.1 hp;obtain⟨fB,rfl⟩:=List.getElem?_eq_some_iff.1 he;obtain⟨a,b,c,d,_⟩:=h3 j aD (by omega);exact⟨⟨a,by grind⟩,c,by grind⟩
theorem adS{a:Act}{w:World}{κ:Nat->bo}{F:Nat->Prop}(aa:bc C s a w κ F){k v:af}{av:aF}{u:Value}{xs:List (k.ai×v.ai)}(h:(BU k v av).run s.ae=some xs)(hu:bl C.P s.ae κ F w av u) :
  (u=.map none/\xs=[])\/∃ r ms clk,u=.map (some r)/\w.heap[r]?=some (.map ms clk)/\Ks C.P k v F w ms.toList xs:=by
 have cd:∀ {xs:List (k.ai×v.ai)},bu C.P (.map k v) F w [u] xs->(u=.map none/\xs=[])\/∃ r ms clk,u=.map (some r)/\w.heap[r]?=some (.map ms clk)/\Ks C.P k v F w ms.toList xs:=by
  intro xs hx;rcases hx with⟨e1,e2⟩ | ⟨r,ms,clk,e1,h1,h2,h3,aT,bx,c_⟩
  ·grind
  ·exact .inr ⟨r,ms,clk,(List.cons.inj e1).1,h2,uL.es ⟨h3,aT,bx,c_⟩⟩
 cases av with
 | val t es=>
  simp only[BU,ar.bz]at h;exact cd ((dC rfl).1 (E6 h hu)).2
 | jt x=>
  simp only[bl]at hu;subst hu;have hx:u=.map none/\xs=[]:=by
   unfold BU at h;split at h
   ·grind
   ·simp_all
   ·grind
   ·cases h
  grind
 | fs b g=>
  simp only[BU,ar.eL,ar.bz]at h;split at h
  ·rename_i aA;have aN:=aa.bq b;unfold cj at aN;split at h
   ·rename_i k' hS es ad;obtain⟨e,rfl⟩:=kF h;cases e;rw[ad]at aN;obtain⟨ms,clk,h1,h2⟩:=aN;exact .inr ⟨_,ms,clk,hu.2 aA.symm (by rw[ad];rfl),h1,h2.es⟩
   ·rename_i k' hS es ad;obtain⟨e,rfl⟩:=kF h;cases e;rw[ad]at aN;have:=hu.2 aA.symm (by rw[ad];rfl);simp only[ju]at aN;grind
   grind
  grind
 | _=>cases h
theorem adT{ty:TypeId}{r:Option Operand}(a7:∀ i,o.dst=some i->i<C.nt)(ah:o.op=.makeMap ty r)(h:(bh C.aM T a6 (aW C.aM s.ax) o).run s.ae=some res):cp C o s res:=by
 simp only[bh,ah]at h;split at h
 ·cases h
 ·rename_i R3;have R3:r=none:=by simp_all
  subst R3;split at h
  ·rename_i k v aI;obtain⟨b,aw,aj⟩:=qM h;simp only[Option.some.injEq]at aj;subst aj;intro a w κ F Q aa _ _;have cK:(execOp a.eval o).run C.P w=.ok (.value (.map (some w.heap.size))) (w.alloc (.map #[] 0)):=by
    simp[execOp,ah,Instr.makeMap]
   have h1:=aa.alloc (b:=b) (x:=⟨(s.ae b).gen+1,.mp k v []⟩) (aa.gQ (a7 b aw)) (Nat.lt_succ_self _) (o:=.map #[] 0) (k:=⟨w.heap.size,0,0,false⟩) rfl λH κ' _ _ _=>
    ⟨#[],0,pV _ _,rfl,by simp,λi G=>by simp,λi j G=>by simp⟩
   refine ha (by grind) cK ⟨_,F,bc.set (s:=s.cb b _) h1 a7 ⟨⟨by simp[az.cb],rfl⟩,λ_ _=>by simp⟩⟩
  ·cases h
theorem adU(hT:dz C.P T){ty:TypeId}{m x:Operand}{ok:Bool}(a7:∀ i,o.dst=some i->i<C.nt)(ah:o.op=.lookup ty m x ok)(h:(bh C.aM T a6 (aW C.aM s.ax) o).run s.ae=some res):cp C o s res:=by
 simp only[bh,ah,y4]at h;split at h
 ·rename_i k v aI;split at h
  ·rename_i hc;simp only[Bool.and_eq_true,Bool.or_eq_true]at hc;obtain⟨i,j,G,mF,gR⟩:=(hT.bU aI (by simp)).mp;simp only[ar.eM,Option.bind_eq_some_iff,bA,ar.bz,Option.some.injEq]at h;obtain⟨es,o0,⟨y,l⟩,aO,rfl⟩:=h;refine cp.pure (by grind) a7 λa w κ F aa aZ _=>?_;have ao:=cv aa m rfl aZ.1;have hx:=B0 aa aO (cv aa x rfl aZ.2);obtain⟨inf,z,i1,i2,i3,i4,i5,i6⟩:=kk gR.kj;have hzero:dU C.P v F w z v.cP:=adR hc.2 i5 i6;have fin:∀ (u:Value) (q:Option v.ai),dU C.P v F w u (q.getD v.cP)->bl C.P s.ae κ F w (Rj v q ok) (if ok=true then .tuple #[u,.bool q.isSome] else u):=by
    intro u q h3;cases ok with
    | true=>
     refine⟨[u,.bool q.isSome],rfl,rfl,λi G=>?_⟩;match i,G with
     | 0,_=>exact h3
     | 1,_=>exact eY.2 rfl
    | false=>exact h3
   have l2:td k=true:=hc.1;have e7:k.kH=true/\k.j0<=100:=by simpa [td]using l2
   rcases adS aa o0 ao with⟨hu,aB⟩ | ⟨r,ms,clk,hu,hw,j6⟩
   ·subst aB;have dJ:=(Ck (em:=true) k 10000 e7.1 (by omega)).1 mF hx;obtain⟨f,f1,f2⟩:=w1 (β:=v.ai) (xs:=[]) (es:=[]) l2 mF hx rfl (λj e p h=>by cases h);rcases f2 with⟨rfl,_⟩ | ⟨j,e,p,h1,_⟩
    ·refine⟨_,?_,fin z none hzero⟩;simp only[execOp,ah,hu,Instr.lookup,Sem.run_bind,dk G,Result.andThen_ok,Sem.run_pure];simp only[show (#[]:Array MapEntry).isEmpty=true from rfl,dJ,Result.andThen_ok,f1];cases ok<;>simp[qK i1 i4]
    grind
   ·have dJ:=(Ck (em:=ms.isEmpty) k 10000 e7.1 (by omega)).1 mF hx;obtain⟨f,f1,f2⟩:=w1 (β:=v.ai) (xs:=es) (es:=ms.toList) l2 mF hx j6.1 (λj e p h1 h2=>by
     have:=(j6.2 j e p h1 h2).1;exact⟨this.1,eX k (λ_ _=>trivial) (cJ.refl F w) this.2⟩)
    have eG:(getObj r).run C.P w=.ok (.map ms clk) w:=by simp[getObj,Sem.run,hw]
    rcases f2 with⟨rfl,dY⟩ | ⟨j,e,p,h1,h2,h3,aT,rfl⟩
    ·refine⟨_,?_,by rw[(R2 dY).1];exact fin z none hzero⟩;simp only[execOp,ah,hu,Instr.lookup,Sem.run_bind,dk G,Result.andThen_ok,Sem.run_pure,eG,dJ,f1,qK i1 i4];rfl
    ·refine⟨_,?_,by rw[(R1 h2 h3 aT).1];exact fin e.val (some p.2) (j6.2 j e p h1 h2).2⟩;simp only[execOp,ah,hu,Instr.lookup,Sem.run_bind,dk G,Result.andThen_ok,Sem.run_pure,eG,dJ,f1];rfl
  ·cases h
 ·cases h
theorem Kt(P:Program)(w:World)(u0 ea:Value):∃ k' w',(Instr.keyThatStays u0 ea).run P w=.ok k' w'/\(k'=ea\/k'=u0)/\(w'=w\/w'=w.drew):=by
 unfold Instr.keyThatStays;split
 ·exact⟨ea,w,rfl,.inl rfl,.inl rfl⟩
 ·have au : (Question.extern "map.whichKeyStays" 2).forced = false := rfl;simp only[Sem.run_bind,run_choose,au,Bool.false_eq_true,if_false,Result.andThen_ok];split
  ·exact⟨ea,_,rfl,.inl rfl,.inr rfl⟩
  ·exact⟨u0,_,rfl,.inr rfl,.inr rfl⟩
theorem rX{P:Program}{w:World}{r:Nat}{es:Array MapEntry}{clk:Nat}(h:w.heap[r]?=some (.map es clk))(o:Obj):(setObj r o).run P w=.ok () { w with heap:=w.heap.setIfInBounds r o }:=by
 simp[setObj,Sem.run,h]
theorem Ku(hT:dz C.P T){ty:TypeId}{m x y:Operand}(Kq:o.dst=none)(ah:o.op=.mapUpdate ty m x y\/o.op=.insert ty m x y)(h:(bh C.aM T a6 (aW C.aM s.ax) o).run s.ae=some res):cp C o s res:=by
 have aw:∀ c,o.op≠.defer c:=by grind
 have kJ:∀ aG,bh C.aM T a6 aG o=qJ T aG ty m x y:=λaG=>by rcases ah with ah | ah<;>simp only[bh,ah]
 have hex:∀ aG w,(execOp aG o).run C.P w=(do Instr.mapUpdate ty (aG m) (aG x) (aG y);pure .skip:Sem Next).run C.P w:=λaG w=>by rcases ah with ah | ah<;>simp only[execOp,ah]
 rw[kJ]at h;simp only[qJ]at h;split at h
 ·rename_i k v aI;obtain⟨k3,zm,G,mF,gR⟩:=(hT.bU aI (by simp)).mp;split at h
  ·rename_i hc;split at h
   ·rename_i b g tu;simp only[ar.eM,Option.bind_eq_some_iff,ar.run_bind,ar.eL,ar.bz]at h;obtain⟨⟨dr,n7⟩,hx,⟨mG,n8⟩,aO,h⟩:=h;split at h
    ·rename_i aA;obtain⟨aA,p0⟩:=aA;have p0:b ∉ n7++n8:=by
      grind
     split at h
     ·rename_i k' hS es ad;simp only[Option.map_eq_some_iff]at h;obtain⟨R4,o0,rfl⟩:=h;obtain⟨e,rfl⟩:=kF o0;cases e;intro a w κ F Q aa aZ _;obtain⟨F',f1,aY,f2⟩:=bc.k0 ((mD hx).append (mD aO)) aa;have ao:bl C.P s.ae κ F w (use (aW C.aM s.ax m)).2 (a.eval m):=cv aa m rfl aZ.1;rw[tu]at ao;have je:=ao.2 aA.symm (by rw[ad];rfl);have tv:=l5 aa.bq f1 hx f2.left (cv aa x rfl aZ.2.1);have Fw:=l5 aa.bq f1 aO f2.right (cv aa y rfl aZ.2.2);have o4:(s.cd (n7++n8)).ae b=s.ae b:=by simp only[az.cd];grind
      have aN:=aY.bq b;unfold cj at aN;rw[o4,ad]at aN;obtain⟨ms,clk,hw,rY⟩:=aN;have e7:k.kH=true/\k.j0<=100:=by simpa [td]using hc
      have dJ:=(Ck (em:=false) k 10000 e7.1 (by omega)).1 mF tv;have j6:=rY.es;obtain⟨f,cR,q2⟩:=w1 (β:=v.ai) (xs:=es) (es:=ms.toList) hc mF tv j6.1 (λj e p h1 h2=>(j6.2 j e p h1 h2).1);have eG:(getObj (κ b).ae).run C.P w=.ok (.map ms clk) w:=by simp[getObj,Sem.run,hw]
      have o2:s.fK ((jy (n7++n8)).run s.ae++[(b,⟨(s.ae b).gen,.mp k v (lz es dr mG)⟩)])=(s.cd (n7++n8)).cb b ⟨(s.ae b).gen,.mp k v (lz es dr mG)⟩:=by
       rw[B4,ti]
      have fV:fe (s.cd (n7++n8)).ae κ (λi=>if i=b then (⟨(s.ae b).gen,.mp k v (lz es dr mG)⟩:bw) else (s.cd (n7++n8)).ae i) κ:=
       qG (by rw[o4]) (λh=>by cases h) (λh=>by cases h) (λ_=>by rw[o4,ad];rfl) (λh=>by cases h)
      obtain⟨g_,Kv,Fx,R5⟩:=rY;have done:∀ (bY:World) (Fy:Array MapEntry) (Fz:Nat),(bY=w\/bY=w.drew)->
        (execOp a.eval o).run C.P w=.ok .skip { bY with heap:=bY.heap.setIfInBounds (κ b).ae (.map Fy Fz) }->
        (∀ {w'},cJ F' w w'->uL C.P k v F' w' Fy Fz (lz es dr mG))->
        o.wpIn (dy C.r) 0 C.P a w (λa' w'=>b' C (s.hW o.dst ⟨(use (aW C.aM s.ax m)).1/\(use (aW C.aM s.ax x)).1/\(use (aW C.aM s.ax y)).1,True,.undef,(jy (n7++n8)).run s.ae++[(b,⟨(s.ae b).gen,.mp k v (lz es dr mG)⟩)]⟩) a' w') Q:=by
       intro bY Fy Fz lH cK adV;have cB:bY.heap=w.heap:=by rcases lH with rfl | rfl<;>rfl
       have iQ:cN w bY:=by rcases lH with rfl | rfl<;>exact⟨rfl,rfl,rfl⟩
       refine Fh aw cK ⟨κ,F',?_⟩;simp only[az.hW];rw[o2,Kq];refine aY.oV (b:=b) (x:=⟨(s.ae b).gen,.mp k v (lz es dr mG)⟩) (by rw[o4,ad];rfl) rfl fV (λh=>by cases h) (λ_=>by rw[o4,ad];rfl) (λr Kw=>?_) (by grind) ⟨iQ.os,iQ.tape,iQ.output⟩ λH _ _ he=>?_
       ·grind
       ·have bX:(κ b).ae<w.heap.size:=(Array.getElem?_eq_some_iff.1 hw).1;exact⟨Fy,Fz,by grind,adV he⟩
      rcases q2 with⟨rfl,dY⟩ | ⟨j,e,p,h1,h2,h3,aT,rfl⟩
      ·refine done w (ms.push { key:=a.eval x,val:=a.eval y,born:=clk }) (clk+1) (.inl rfl) ?_ λ{w'} he=>?_
       ·rw[hex];simp only[je,Instr.mapUpdate,Sem.run_bind,dk G,Result.andThen_ok,eG,dJ,cR,rX hw,Sem.run_pure]
       ·rw[(R2 dY).2];refine⟨by grind,?_,λi G ds=>?_,λi j G aD e=>?_⟩
        ·rw[List.map_append,List.nodup_append];refine⟨Kv,by simp,λq bf q' tl=>?_⟩;obtain⟨p,hp,rfl⟩:=List.mem_map.1 bf;simp only[List.map_cons,List.map_nil,List.mem_singleton]at tl;subst tl;intro e;have:=dY p hp;rw[e,(Kr k e7.1 _ _).2 rfl]at this;grind
        ·by_cases p3:i<es.length
         ·obtain⟨aP,aQ,bB,gf,o5⟩:=Fx i p3 (by omega);have e1:(es++[(dr,mG)])[i]=es[i]:=List.getElem_append_left p3;have e2:(ms.push { key:=a.eval x,val:=a.eval y,born:=clk })[i]=ms[i]'(by omega):=Array.getElem_push_lt (by omega);rw[e1,e2];exact⟨aP,eX k (λ_ h=>h) he aQ,bB,eX v (λ_ h=>h) he gf,by omega⟩
         ·have adW:i=es.length:=by grind
          subst adW;have e1:(es++[(dr,mG)])[es.length]=(dr,mG):=by simp
          have e2:(ms.push { key:=a.eval x,val:=a.eval y,born:=clk })[es.length]={ key:=a.eval x,val:=a.eval y,born:=clk }:=by
           grind
          rw[e1,e2];exact⟨tv.1,eX k (λ_ h=>h) he tv.2,Fw.1,eX v (λ_ h=>h) he Fw.2,by simp⟩
        ·have born:∀ i (h:i<(ms.push { key:=a.eval x,val:=a.eval y,born:=clk }).size),(∃ da:i<ms.size,(ms.push { key:=a.eval x,val:=a.eval y,born:=clk })[i]=ms[i])\/(i=ms.size/\((ms.push { key:=a.eval x,val:=a.eval y,born:=clk })[i]).born=clk):=by
          grind
         grind
      ·have aD:j<es.length:=(List.getElem?_eq_some_iff.1 h2).1;have w2:j<ms.size:=by omega
       have Kx:ms[j]=e:=by
        grind
       have mH:es[j]=p:=(List.getElem?_eq_some_iff.1 h2).2;have adX:dr=p.1:=(Kr k e7.1 _ _).1 h3;obtain⟨jf,bY,b3,cr,dX⟩:=Kt C.P w e.key (a.eval x);have lH:bY.heap[(κ b).ae]?=some (.map ms clk):=by rcases dX with rfl | rfl<;>exact hw
       refine done bY (ms.modify j λe=>{ e with key:=jf,val:=a.eval y }) clk dX ?_ λ{w'} he=>?_
       ·rw[hex];rw[Nat.zero_add]at cR;simp only[je,Instr.mapUpdate,Sem.run_bind,dk G,Result.andThen_ok,eG,dJ,cR];have nD:((ms[j]?).map (·.key)).getD (a.eval x)=e.key:=by
         grind
        rw[nD,b3];simp only[Result.andThen_ok,rX lH,Sem.run_pure]
       ·rw[(R1 h2 h3 aT).2];refine⟨by grind,?_,λi G ds=>?_,λi j3 G fB aV=>?_⟩
        ·have:(es.set j (p.1,mG)).map (·.1)=es.map (·.1):=by
          apply List.ext_getElem?;grind
         grind
        ·have p3:i<es.length:=by grind
         have Ky:i<ms.size:=by omega
         obtain⟨aP,aQ,bB,gf,o5⟩:=Fx i p3 Ky;by_cases zn:j=i
         ·subst zn;have e1:(es.set j (p.1,mG))[j]=(p.1,mG):=by simp
          have e2:(ms.modify j λe=>{ e with key:=jf,val:=a.eval y })[j]={ key:=jf,val:=a.eval y,born:=ms[j].born }:=by grind
          rw[e1,e2];have uT:dU C.P k F' w jf p.1:=by
           rcases cr with rfl | rfl
           ·grind
           ·rw[<-Kx,<-mH];exact⟨aP,aQ⟩
          exact⟨uT.1,eX k (λ_ h=>h) he uT.2,Fw.1,eX v (λ_ h=>h) he Fw.2,o5⟩
         ·have e1:(es.set j (p.1,mG))[i]=es[i]:=by grind
          have e2:(ms.modify j λe=>{ e with key:=jf,val:=a.eval y })[i]=ms[i]:=by grind
          rw[e1,e2];exact⟨aP,eX k (λ_ h=>h) he aQ,bB,eX v (λ_ h=>h) he gf,o5⟩
        grind
     grind
    grind
   ·cases h
  ·cases h
 ·cases h
end
end Go.Fer
namespace Go.Fer
open Go.RowKit
section
variable {C:bS} {T:Nat->af} {a6:Nat->Option aL} {o:Oper} {s:az} {res:eb}
theorem R6{P:Program}{F:Nat->Prop}{w:World}{e:af}{z:Value}(bx:jY e z.cells.toList=some [])(n:Nat) :
  fW P e F w ((Array.range (n*e.size)).map (λi=>z.cells[i % z.cells.size]!)).toList (List.replicate n e.cP):=by
 obtain⟨c,ec,n',z2⟩:=uP (P:=P) (H:=λ_=>⟨0,.fm⟩) (κ:=λ_=>⟨0,0,0,true⟩) (F:=F) (w:=w) e bx;rw[List.append_nil]at ec;have tw:z.cells.size=e.size:=by rw[<-Array.length_toList,ec];exact hC e n'
 refine⟨by simp,λi G=>?_⟩;have ds:i<n:=by grind
 have hle:(i+1)*e.size<=n*e.size:=Nat.mul_le_mul_right _ (by omega);rw[Nat.add_mul]at hle;have:((((Array.range (n*e.size)).map (λi=>z.cells[i % z.cells.size]!)).toList.drop (i*e.size)).take e.size)=z.cells.toList:=by
  apply List.ext_getElem?;intro j;simp only[List.getElem?_take,List.getElem?_drop];split
  ·rename_i aD;have fB:j<z.cells.size:=by omega
   rw[Array.getElem?_toList,Array.getElem?_toList];have zj:(i*e.size+j) % z.cells.size=j:=by rw[tw,Nat.add_comm,Nat.add_mul_mod_self_right,Nat.mod_eq_of_lt aD]
   grind
  grind
 grind
theorem adY{n:Int}(h0:0<=n)(h1:n<=4294967296):IntKind.i64.wrap n=n:=by
 simp only[IntKind.wrap,IntKind.signed,IntKind.bits];grind
theorem adZ(hT:dz C.P T){ty:TypeId}{l c:Operand}(a7:∀ i,o.dst=some i->i<C.nt)(ah:o.op=.makeSlice ty l c)(h:(bh C.aM T a6 (aW C.aM s.ax) o).run s.ae=some res):cp C o s res:=by
 simp only[bh,ah,Fb]at h;split at h
 ·rename_i e aI;split at h
  ·rename_i n m an ao;have cY:=hT.bU aI (by simp);obtain⟨jC,aD,h9,oa⟩:=cY.sl;obtain⟨inf,z,i1,i2,i3,i4,i5,i6⟩:=kk h9.kj;obtain⟨b,aw,aj⟩:=qM h;simp only[Option.some.injEq]at aj;subst aj;intro a w κ F Q aa aZ hc;have ad0:=n9 (cv aa l rfl aZ.1) an;have iQ:=n9 (cv aa c rfl aZ.2) ao;obtain⟨c0,rfl,c1⟩:0<=n/\n=m/\b2 n.toNat:=hc;unfold b2 at c1;obtain⟨k,rfl⟩:∃ k:Nat,n=k:=⟨n.toNat,by omega⟩
   simp only[Int.toNat_natCast]at c1;have hw:IntKind.i64.wrap (k:Int)=k:=adY (by omega) (by omega);let cs:Array Value:=(Array.range (k*e.size)).map (λi=>z.cells[i % z.cells.size]!);have jb:fW C.P e F w cs.toList (List.replicate k e.cP):=R6 i5 k;have awY:inf.bytes*k<=2 ^ 47:=by
    calc inf.bytes*k<=1024*4294967296:=Nat.mul_le_mul i3 (by omega)
     _<=2 ^ 47:=by decide
   have cK:(execOp a.eval o).run C.P w=.ok (.value (.slice (some ⟨w.heap.size,0,none⟩) k k)) (w.alloc (.cells cs jC)):=by
    have ad1:¬((inf.bytes:Int)*(k:Int) > 2 ^ 48):=by
     omega
    have lI:¬((k:Int)<0):=by omega
    have wZ:¬(k*inf.bytes > roomBytes):=by
     have:roomBytes=2 ^ 47:=rfl;grind
    have uT:¬((k:Int) > (k:Int)):=by omega
    simp only[execOp,ah,Instr.makeSlice,ad0.1,iQ.1,Sem.run_bind,dk aD,Result.andThen_ok,asInt,asIntOf,Sem.run_pure,Fe i1,hw,ad1,lI,uT,decide_false,Bool.or_false,Bool.false_or,Bool.false_eq_true,if_false,run_askRoom,Int.toNat_natCast,rN i1,i2];by_cases rZ:k*e.size=0
    ·have ad2:cs=#[]:=Array.eq_empty_of_size_eq_zero (by grind);rw[ad2];have ad3:(Array.map (λ_:Nat=>(default:Value)) (Array.range 0))=#[]:=by simp
     simp[rZ,newRow];rw[ad3]
    ·simp[rZ,qK i1 i4,newRow,cs]
   have h3:=aa.Cd (b:=b) (g:=(s.ae b).gen+1) (zs:=List.replicate k e.cP) (k:=⟨w.heap.size,0,k,false⟩) (w':=w.alloc (.cells cs jC)) (Nat.lt_succ_self _) (.inr rfl) (by simp) (λr aa=>oT w _ aa) (λ_=>by simp) ⟨rfl,rfl,rfl⟩
    (λH κ'=>⟨λh=>(by cases h),λ_=>⟨cs,jC,pV w _,by grind,by simp,by grind,(jb.Cb (pre:=[]) (post:=[]) (by simp)).later (cJ.alloc aa.cM _)⟩⟩)
   refine ha (by grind) cK ⟨_,F,bc.set (s:=s.cb b _) h3 a7 ⟨⟨by simp[az.cb],rfl⟩,λ_ _=>by simp[az.cb,bo.slice,bC.len]⟩⟩
  ·cases h
 ·cases h
theorem fW.take{P:Program}{e:af}{F:Nat->Prop}{w:World}{all:List Value}{xs:List e.ai}(h:fW P e F w all xs){n:Nat}(aB:n<=xs.length):fW P e F w (all.take (n*e.size)) (xs.take n):=by
 have hle:n*e.size<=xs.length*e.size:=Nat.mul_le_mul_right _ aB;refine⟨by simp only[List.length_take,h.1];simp,λi G=>?_⟩;have ds:i<n:=by grind
 have ad4:(i+1)*e.size<=n*e.size:=Nat.mul_le_mul_right _ (by omega);rw[Nat.add_mul]at ad4;have:((all.take (n*e.size)).drop (i*e.size)).take e.size=(all.drop (i*e.size)).take e.size:=by
  rw[List.drop_take,List.take_take,Nat.min_eq_left (by omega)]
 rw[this];simpa using h.2 i (by omega)
theorem R7{P:Program}{w:World}{e:af}{q:Option Addr}{n cap:Nat}{xs:List e.ai}{F:Nat->Prop}(aB:n<=xs.length)(h:(q=none/\xs=[]/\cap=0)\/∃ p all,q=some p/\fW P e F w all xs/\kn w p all) :
  ∃ all,(Builtin.firstCells e.size n (.slice q xs.length cap)).run P w=.ok all.toArray w/\fW P e F w all (xs.take n):=by
 rcases h with⟨rfl,rfl,rfl⟩ | ⟨p,all,rfl,bR,a2⟩
 ·exact⟨[],by rfl,by simp[fW]⟩
 ·have hle:n*e.size<=xs.length*e.size:=Nat.mul_le_mul_right _ aB;refine⟨all.take (n*e.size),?_,bR.take aB⟩;simp only[Builtin.firstCells];have an:(all.take (n*e.size)).length=n*e.size:=by simp only[List.length_take,bR.1];omega
  have aa:kn w p (all.take (n*e.size)):=⟨λh0=>a2.1 (by grind),λj aD=>by
   have fB:j<all.length:=by grind
   rw[List.getElem_take];exact a2.2 j fB⟩
  have:=Fg (P:=P) aa;grind
theorem lu.fO{P:Program}{e:af}{F:Nat->Prop}{w w':World}{cs cS:Array Value}{off lo:Nat}{xs zs:List e.ai}{ea:List Value}(h:lu P e F w cs off xs)(he:cJ F w w')(aB:fW P e F w ea zs)(an:lo+zs.length<=xs.length)
  (oY:off+xs.length*e.size<=cs.size) (hc:cS.toList=cs.toList.take (off+lo*e.size)++(ea++cs.toList.drop (off+lo*e.size+ea.length))):lu P e F w' cS off (Go.Fer.fO xs lo zs):=by
 have hlen:(Go.Fer.fO xs lo zs).length=xs.length:=by simp[Go.Fer.fO];omega
 have ad5:(lo+zs.length)*e.size<=xs.length*e.size:=Nat.mul_le_mul_right _ an;rw[Nat.add_mul]at ad5;have o3:=aB.1;have gq:(cs.toList.take (off+lo*e.size)).length=off+lo*e.size:=by grind
 intro i G;rw[hlen]at G;have ad6:i<lo\/(lo<=i/\i<lo+zs.length)\/lo+zs.length<=i:=by omega
 rcases ad6 with h1 | ⟨h1,h2⟩ | h1
 ·obtain⟨a_,d1,d2⟩:=h i G;have RQ:=hC e d2;have e1:(Go.Fer.fO xs lo zs)[i]'(by omega)=xs[i]:=by
   simp only[Go.Fer.fO,List.append_assoc];grind
  rw[e1];refine⟨a_,λj aD=>?_,eX e (λ_ h=>h) he d2⟩;have hle:(i+1)*e.size<=lo*e.size:=Nat.mul_le_mul_right _ (by omega);rw[Nat.add_mul]at hle;rw[<-Array.getElem?_toList,hc,List.getElem?_append_left (by omega),List.getElem?_take,if_pos (by omega),Array.getElem?_toList];grind
 ·have Cg:=aB.Cb (pre:=cs.toList.take (off+lo*e.size)) (post:=cs.toList.drop (off+lo*e.size+ea.length)) hc;obtain⟨a_,d1,d2⟩:=Cg (i - lo) (by omega);have e1:(Go.Fer.fO xs lo zs)[i]'(by omega)=zs[i - lo]'(by omega):=by
   simp only[Go.Fer.fO,List.append_assoc];grind
  rw[e1];refine⟨a_,λj aD=>?_,eX e (λ_ h=>h) he d2⟩;have:=d1 j aD;rw[gq]at this;rw[<-this];congr 1;have:i*e.size=lo*e.size+(i - lo)*e.size:=by rw[<-Nat.add_mul];grind
  omega
 ·obtain⟨a_,d1,d2⟩:=h i G;have RQ:=hC e d2;have e1:(Go.Fer.fO xs lo zs)[i]'(by omega)=xs[i]:=by
   simp only[Go.Fer.fO,List.append_assoc];have fV:(xs.take lo).length=lo:=by grind
   rw[List.getElem_append_right (by omega),List.getElem_append_right (by omega)];grind
  rw[e1];refine⟨a_,λj aD=>?_,eX e (λ_ h=>h) he d2⟩;have zo:(lo+zs.length)*e.size<=i*e.size:=Nat.mul_le_mul_right _ h1;rw[Nat.add_mul]at zo;rw[<-Array.getElem?_toList,hc,List.getElem?_append_right (by omega),List.getElem?_append_right (by omega),List.getElem?_drop,gq];grind
theorem fW.one{P:Program}{e:af}{F:Nat->Prop}{w:World}{ea:List Value}{ys:List e.ai}(h:fW P e F w ea ys)(k1:0<e.size):∀ v∈ea,v.oneCell'=true:=by
 intro v hv;obtain⟨j,aD,rfl⟩:=List.mem_iff_getElem.1 hv;have hdiv:j / e.size<ys.length:=(Nat.div_lt_iff_lt_mul k1).2 (by rw[<-h.1];exact aD);have nB:=h.2 (j / e.size) hdiv;have iq:=yZ (P:=P) (H:=λ_=>⟨0,.fm⟩) (κ:=λ_=>⟨0,0,0,true⟩) e nB;have zj:=Nat.mod_lt j k1;have adE:j / e.size*e.size+j % e.size=j:=Nat.div_add_mod' j e.size;have Cf:((ea.drop (j / e.size*e.size)).take e.size).length=e.size:=hC e nB;have:=(iq.kG (j % e.size) (by rw[iq.len,Cf];omega)).2;grind
theorem ad7(hT:dz C.P T){args:Array Operand}{cX:Array TypeId}(a7:∀ i,o.dst=some i->i<C.nt)(ah:o.op=.call { callee:=.builtin .copy,args:=args,argTypes:=cX })(h:(bh C.aM T a6 (aW C.aM s.ax) o).run s.ae=some res):cp C o s res:=by
 obtain⟨args⟩:=args;obtain⟨cX⟩:=cX;have aw:∀ c,o.op≠.defer c:=by grind
 simp only[bh,ah,mA,Fc]at h;split at h
 ·rename_i x y t u;split at h
  ·rename_i e e2 aI hu;have cY:=hT.bU aI (by simp);obtain⟨jC,aD,h9,oa⟩:=cY.sl;obtain⟨inf,z,i1,i2,i3,i4,i5,i6⟩:=kk h9.kj;have k1:0<e.size:=Nat.pos_of_ne_zero oa;split at h
   ·rename_i b g lo G Cl;simp only[ar.eM,Option.bind_eq_some_iff,ar.eL,ar.bz]at h;obtain⟨⟨ys,l⟩,j2,h⟩:=h;split at h
    ·rename_i aA;split at h
     ·rename_i aV xs ad;split at h
      ·rename_i qR;subst qR;simp only[Option.some.injEq]at h;subst h;intro a w κ F Q aa aZ _;obtain⟨q',cap',tn,nE⟩:=rU aa j2 (cv aa y rfl aZ.2);have hx:bl C.P s.ae κ F w (use (aW C.aM s.ax x)).2 (a.eval x):=cv aa x rfl aZ.1;have aN:=aa.bq b;unfold cj at aN;rw[ad]at aN;have place:lo<=G.getD xs.length/\G.getD xs.length<=xs.length/\(((κ b).eQ=true/\∃ cap,a.eval x=.slice none 0 cap)\/((κ b).eQ=false/\∃ l_ cap,a.eval x=.slice (some ⟨(κ b).ae,l_,none⟩) (G.getD xs.length - lo) cap/\(lo<G.getD xs.length->l_=(κ b).off+lo*aV.size))):=by
        split at Cl
        ·rename_i a1 g' eS;simp only[Option.some.injEq,Prod.mk.injEq]at Cl;obtain⟨rfl,rfl,rfl,rfl⟩:=Cl;rw[eS]at hx;have hv:=hx.2 aA.symm (by rw[ad];rfl);rw[ad]at hv;simp only[bC.len]at hv;refine⟨Nat.zero_le _,Nat.le_refl _,?_⟩;cases aB:(κ a1).eQ with
         | true=>exact .inl ⟨rfl,0,by simpa [bo.slice,aB]using hv⟩
         | false=>exact .inr ⟨rfl,(κ a1).off,(κ a1).cap,by simpa [bo.slice,aB]using hv,λ_=>by simp⟩
        ·rename_i a1 g' awZ ds eS;simp only[Option.some.injEq,Prod.mk.injEq]at Cl;obtain⟨rfl,rfl,rfl,rfl⟩:=Cl;rw[eS]at hx;obtain⟨⟨aP,aQ⟩,bB⟩:=hx.2 aA.symm (by rw[ad];rfl);rw[ad]at aQ bB;simp only[bC.len,bC.eK]at aQ bB;refine⟨aP,aQ,?_⟩;rcases bB with⟨aB,hv⟩ | ⟨aB,l_,hv,o1,gb⟩
         ·grind
         ·obtain⟨cs,hH,c1,c2,c3,c4,c5⟩:=aN.2 aB;grind
        grind
       obtain⟨jA,p1,l9⟩:=place;have R8:∀ m:Nat,m<=ys.length->m<=xs.length->fA .i64 (m:Int):=by
        intro m _ ao;have:=za aa (b:=b) (by rw[ad];rfl);rw[ad]at this;simp only[bC.len]at this;exact B2 (by omega)
       generalize R9:G.getD xs.length=cB at *
       have RJ:Nat.min ys.length (cB - lo)=min (cB - lo) ys.length:=Nat.min_comm _ _;have ad8:(ys.take (cB - lo)).length=min (cB - lo) ys.length:=by simp
       have zp:(fO xs lo (ys.take (cB - lo))).length=xs.length:=by simp[fO];omega
       have fV:fe s.ae κ (λi=>if i=b then (⟨(s.ae b).gen,.a8 aV (fO xs lo (ys.take (cB - lo)))⟩:bw) else s.ae i) κ:=
        qG rfl (λh=>by cases h) (λ_=>by rw[ad];exact⟨rfl,zp,rfl⟩) (λh=>by cases h) (λh=>by cases h)
       have mC:∀ (w':World) v,(Builtin.copy_ #[t,u] o.type #[a.eval x,a.eval y]).run C.P w=.ok v w'->(execOp a.eval o).run C.P w=.ok (.value v) w':=by
        intro w' v hv;refine wV ah ?_;simp[builtin,hv]
       rcases l9 with⟨aB,cap,rV⟩ | ⟨aB,l_,cap,rV,ad9⟩
       ·have hG:=aN.1 aB;subst hG;have ad_:cB=0:=by grind
        subst ad_;have Kz:lo=0:=by omega
        subst Kz;obtain⟨ea,dA,dB⟩:=R7 (P:=C.P) (w:=w) (n:=0) (Nat.zero_le _) nE;have cK:(Builtin.copy_ #[t,u] o.type #[a.eval x,a.eval y]).run C.P w=.ok (.int .i64 ((0:Nat):Int)) w:=by
         simp only[Builtin.copy_,List.getElem?_toArray,List.getElem?_cons_zero,List.getElem?_cons_succ,Sem.run_bind,dk aD,Result.andThen_ok,rV,tn,Builtin.lenOf,Sem.run_pure,rN i1,i2,Nat.min_zero];rw[dA];rfl
        refine ha aw (mC w _ cK) ⟨κ,F,bc.set (s:=s.cb b _) ?_ a7 (gB.2 ⟨by simp,R8 _ (by simp) (by simp)⟩)⟩;have e0:fO ([]:List aV.ai) 0 (ys.take (0 - 0))=[]:=by rfl
        have es:s.cb b ⟨(s.ae b).gen,.a8 aV (fO ([]:List aV.ai) 0 (ys.take (0 - 0)))⟩=s:=by
         rw[e0];unfold az.cb;have:(λi=>if i=b then (⟨(s.ae b).gen,.a8 aV []⟩:bw) else s.ae i)=s.ae:=by
          funext i;by_cases G:i=b
          ·subst G;simp only[if_true];rw[<-ad]
          grind
         rw[this]
        grind
       ·obtain⟨cs,hH,c1,c2,c3,c4,c5⟩:=aN.2 aB;have B6:min (cB - lo) ys.length<=ys.length:=Nat.min_le_right _ _;obtain⟨ea,dA,dB⟩:=R7 (P:=C.P) (w:=w) B6 nE;have kI:ys.take (min (cB - lo) ys.length)=ys.take (cB - lo):=by
         simp
        rw[kI]at dB;have o3:=dB.1;rw[ad8]at o3;have nC:=dB.one k1;have R_:xs.length*aV.size<=(κ b).cap*aV.size:=Nat.mul_le_mul_right _ c3;have Cm:(lo+min (cB - lo) ys.length)*aV.size<=xs.length*aV.size:=Nat.mul_le_mul_right _ (by omega);rw[Nat.add_mul]at Cm;obtain⟨w',cS,b3,cr,dX,lC,lD,l7⟩:∃ w' cS,(storeCells ⟨(κ b).ae,l_,none⟩ ea).run C.P w=.ok () w'/\w'.heap[(κ b).ae]?=some (.cells cS hH (0,0))/\cS.toList=cs.toList.take ((κ b).off+lo*aV.size)++(ea++cs.toList.drop ((κ b).off+lo*aV.size+ea.length))/\
          (∀ r,r≠(κ b).ae->w'.heap[r]?=w.heap[r]?)/\w'.heap.size=w.heap.size/\cN w w':=by
         by_cases bX:lo<cB
         ·rw[ad9 bX];obtain⟨w',cS,b3,cr,dX,lC,lD,l7⟩:=uV (P:=C.P) ea ((κ b).off+lo*aV.size) 0 w cs c1 (by omega) nC;grind
         ·have h0:min (cB - lo) ys.length=0:=by omega
          rw[h0,Nat.zero_mul]at o3;have:ea=[]:=List.eq_nil_of_length_eq_zero o3;subst this;exact⟨w,cs,by rfl,c1,by simp,λ_ _=>rfl,rfl,cN.refl w⟩
        have cK:(Builtin.copy_ #[t,u] o.type #[a.eval x,a.eval y]).run C.P w=.ok (.int .i64 ((min (cB - lo) ys.length:Nat):Int)) w':=by
         simp only[Builtin.copy_,List.getElem?_toArray,List.getElem?_cons_zero,List.getElem?_cons_succ,Sem.run_bind,dk aD,Result.andThen_ok,rV,tn,Builtin.lenOf,Sem.run_pure,rN i1,i2];rw[RJ,dA];simp only[Result.andThen_ok,b3];rfl
        refine ha aw (mC w' _ cK) ⟨κ,F,bc.set (s:=s.cb b _) ?_ a7 (gB.2 ⟨rfl,R8 _ (by omega) (by omega)⟩)⟩;refine aa.oV (b:=b) (by rw[ad];simp[bC.bN,aB]) (by simp[bC.bN,aB]) fV (λh=>by cases h) (λh=>by cases h) lC lD l7 λH mE bX he=>?_;refine⟨λh=>(by grind),λ_=>⟨cS,hH,cr,?_,by omega,c4,?_⟩⟩
        ·have:cS.size=cs.size:=by
          rw[<-Array.length_toList,dX];simp only[List.length_append,List.length_take,List.length_drop,Array.length_toList];omega
         omega
        ·exact c5.fO he dB (by omega) (by omega) dX
      grind
     grind
    grind
   ·cases h
  ·cases h
 ·cases h
theorem R'(ah:(bh C.aM T a6 (aW C.aM s.ax) o).run s.ae=some ⟨True,False,.undef,[]⟩)(h:(bh C.aM T a6 (aW C.aM s.ax) o).run s.ae=some res):cp C o s res:=by
 rw[ah]at h;cases h;intro a w κ F Q _ _ hc;grind
end
end Go.Fer
namespace Go.Fer
open Go.RowKit
section
variable {C:bS} {T:Nat->af} {a6:Nat->Option aL} {o:Oper} {s:az} {res:eb}
theorem ad'{P:Program}{w:World}{len cap:Nat}{lo:Option Value}{l:Option Int}{k k':IntKind}{h m:Int}(an:(lo=none/\l=none)\/∃ k m,lo=some (.int k m)/\l=some m)
  (h1:0<=c8 l) (h2:c8 l<=h) (h3:h<=m) (aT:m<=(cap:Int)):(Instr.sliceBounds true len cap lo (some (.int k h)) (some (.int k' m))).run P w=.ok ((c8 l).toNat,h.toNat,m.toNat) w:=by
 rcases an with⟨rfl,rfl⟩ | ⟨k,n,rfl,rfl⟩<;>simp only[c8]at h1 h2 ⊢
 ·have e1:0<=m/\m<=(cap:Int):=by omega
  have e2:0<=h/\h<=m:=by omega
  have e3:max m 0=m:=by omega
  simp[Instr.sliceBounds,Instr.sliceBound,asIntOf,e1,e2,e3]
 ·have e1:0<=m/\m<=(cap:Int):=by omega
  have e2:0<=h/\h<=m:=by omega
  have e3:max m 0=m:=by omega
  have e4:0<=n/\n<=h:=by omega
  have eP:max h 0=h:=by omega
  simp[Instr.sliceBounds,Instr.sliceBound,asIntOf,e1,e2,e3,e4,eP]
theorem aea(hT:dz C.P T){ty:TypeId}{x:Operand}{lo G:Option Operand}{oW:Operand}(a7:∀ i,o.dst=some i->i<C.nt)(ah:o.op=.slice ty x lo G (some oW))(h:(bh C.aM T a6 (aW C.aM s.ax) o).run s.ae=some res):cp C o s res:=by
 simp only[bh,ah,Option.isSome_some,if_true,E']at h;split at h
 ·rename_i ol l qI cB uQ m rS Kf aeb;have aw:∀ c,o.op≠.defer c:=by grind
  split at h
  ·rename_i e0 aI;have cY:=hT.bU aI (by simp);obtain⟨j,aD,h9,oa⟩:=cY.sl;simp only[ar.eM,Option.bind_eq_some_iff]at h;obtain⟨⟨c,v⟩,fC,h⟩:=h;simp only[bA,ar.bz,Option.some.injEq]at h;subst h;have runs:∀ (a:Act) (w:World) κ F,bc C s a w κ F->ol->qI->uQ->∀ (q:Option Addr) (n cap:Nat),a.eval x=.slice q n cap->0<=c8 l->c8 l<=cB->cB<=m->m<=(cap:Int)->
     (execOp a.eval o).run C.P w=.ok (.value (.slice (if m.toNat=(c8 l).toNat then q else q.map (·.add ((c8 l).toNat*e0.size))) (cB.toNat - (c8 l).toNat) (m.toNat - (c8 l).toNat))) w:=by
    intro a w κ F aa B' Ca aec q n cap hv c1 c2 c3 c4;have dd:(lo.map a.eval=none/\l=none)\/∃ k m,lo.map a.eval=some (.int k m)/\l=some m:=by
     rcases B_ aa rS B' with⟨rfl,rfl⟩ | ⟨y,k,m,rfl,rfl,e⟩
     ·exact .inl ⟨rfl,rfl⟩
     ·exact .inr ⟨k,m,by simp[e],rfl⟩
    obtain⟨aw0,aQ,m2,rfl,e2,e3⟩:∃ y k n,G=some y/\cB=n/\a.eval y=.int k n:=by
     rcases B_ aa Kf Ca with⟨_,h⟩ | ⟨y,k,m,rfl,h,e⟩
     ·cases h
     ·exact⟨y,k,m,rfl,Option.some.inj h,e⟩
    obtain⟨bB,e4⟩:∃ k,a.eval oW=.int k m:=by
     rcases B_ aa aeb aec with⟨h,_⟩ | ⟨y,k,m,h1,h2,e⟩
     ·cases h
     ·cases h1;cases h2;exact⟨k,e⟩
    subst e2;have:=ad' (P:=C.P) (w:=w) (len:=n) (k:=aQ) (k':=bB) dd c1 c2 c3 c4;simp[execOp,ah,hv,Instr.sliceAt,Instr.slice,dk aD,e3,e4,this,h9.size]
   unfold Ri at fC;split at fC
   ·rename_i e xs eS;simp only[ar.bz]at fC;split at fC
    ·rename_i he;subst he;simp only[Option.some.injEq,Prod.mk.injEq]at fC;obtain⟨rfl,rfl⟩:=fC;refine cp.pure aw a7 λa w κ F aa aZ hc=>?_;have hx:bl C.P s.ae κ F w (use (aW C.aM s.ax x)).2 (a.eval x):=cv aa x rfl aZ.1;rw[eS]at hx;obtain⟨_,a',cap,e1,m1,m2,m3,m4⟩:=(dC rfl).1 hx;have e1:=(List.cons.inj e1).1;simp only[fo]at hc;obtain⟨c1,c2,c3,c4⟩:=hc;subst c3;have hlen:((xs.take cB.toNat).drop (c8 l).toNat).length=cB.toNat - (c8 l).toNat:=by
      grind
     have aw1:(xs.length:Int)<=cap:=by omega
     refine⟨_,runs a w κ F aa aZ.2.1 aZ.2.2.1 aZ.2.2.2 a' xs.length cap e1 c1 c2 (Int.le_refl _) (by omega),(dC rfl).2 ⟨rfl,?_⟩,_,by rw[hlen]⟩;refine⟨_,_,by rw[hlen],by omega,by omega,?_,λp hp uN=>?_⟩
     ·intro aB;split at aB
      ·omega
      ·cases a' with
       | none=>grind
       | some q=>cases aB
     ·cases a' with
      | none=>grind
      | some q=>
       obtain⟨dA,dB,iu⟩:=m4 q rfl (by omega);have bf:p=⟨q.block,q.off+(c8 l).toNat*e.size,none⟩:=by
        split at hp
        ·omega
        ·simp only[Option.map_some,Option.some.injEq]at hp;rw[B9 dB]at hp;grind
       subst bf;refine⟨dA,rfl,λi G=>?_⟩;rw[hlen]at G;obtain⟨a_,d1,d2⟩:=iu ((c8 l).toNat+i) (by omega);grind
    grind
   ·rename_i eS;simp only[ar.bz,Option.some.injEq,Prod.mk.injEq]at fC;obtain⟨rfl,rfl⟩:=fC;refine cp.pure aw a7 λa w κ F aa aZ hc=>?_;have hx:bl C.P s.ae κ F w (use (aW C.aM s.ax x)).2 (a.eval x):=cv aa x rfl aZ.1;rw[eS]at hx;simp only[bl]at hx;simp only[fo]at hc;obtain⟨c1,c2,c3⟩:=hc;have cK:=runs a w κ F aa aZ.2.1 aZ.2.2.1 aZ.2.2.2 none 0 0 hx (by omega) (by omega) (by omega) (by omega);have h0:cB.toNat=0:=by omega
    have h1:m.toNat=0:=by omega
    have h2:(c8 l).toNat=0:=by omega
    rw[h0,h1,h2]at cK;simp only[if_true,Nat.sub_zero]at cK;exact⟨_,cK,(dC rfl).2 ⟨rfl,none,0,rfl,Nat.le_refl _,by decide,λ_=>rfl,λp hp=>by simp⟩,none,rfl⟩
   ·rename_i b g eS;simp only[ar.eL,ar.bz]at fC;split at fC
    ·rename_i ba;simp only[Bool.and_eq_true,decide_eq_true_eq]at ba;obtain⟨aA,eT⟩:=ba;simp only[Option.some.injEq,Prod.mk.injEq]at fC;obtain⟨rfl,rfl⟩:=fC;refine cp.pure aw a7 λa w κ F aa aZ hc=>?_;have hx:bl C.P s.ae κ F w (use (aW C.aM s.ax x)).2 (a.eval x):=cv aa x rfl aZ.1;rw[eS]at hx;have hv:=hx.2 aA.symm eT;obtain⟨dA,dB⟩:=za aa eT;simp only[fo]at hc;obtain⟨c1,c2,c3,c4⟩:=hc;cases aB:(κ b).eQ with
     | true=>
      have h0:=dA aB;simp only[bo.slice,aB,if_true]at hv;exact⟨_,runs a w κ F aa aZ.2.1 aZ.2.2.1 aZ.2.2.2 none 0 0 hv c1 c2 c3 (by omega),trivial⟩
     | false=>
      have wY:=J4 aa eT aB;simp only[bo.slice,aB,Bool.false_eq_true,if_false]at hv;exact⟨_,runs a w κ F aa aZ.2.1 aZ.2.2.1 aZ.2.2.2 _ _ _ hv c1 c2 c3 (by omega),trivial⟩
    grind
   ·cases fC
  ·cases h
 ·cases h
theorem aed{b:Nat}{e:af}(ad:(s.ae b).body=.a8 e []):s.cb b ⟨(s.ae b).gen,.a8 e []⟩=s:=by
 unfold az.cb;have:(λi=>if i=b then (⟨(s.ae b).gen,.a8 e []⟩:bw) else s.ae i)=s.ae:=by
  funext i;by_cases G:i=b
  ·subst G;simp only[if_true];rw[<-ad]
  grind
 rw[this]
theorem aee(hT:dz C.P T){args:Array Operand}{cX:Array TypeId}(a7:∀ i,o.dst=some i->i<C.nt)(ah:o.op=.call { callee:=.builtin .append,args:=args,argTypes:=cX }){b g lo G:Nat}(hs:wP (aW C.aM s.ax) args.toList=some (b,g,lo,G))
  (h:(BV T (aW C.aM s.ax) args.toList cX.toList b g lo G).run s.ae=some res):cp C o s res:=by
 obtain⟨args⟩:=args;obtain⟨cX⟩:=cX;have aw:∀ c,o.op≠.defer c:=by grind
 simp only[BV]at h;split at h
 ·rename_i x y t u;have eS:(use (aW C.aM s.ax x)).2=.sub b g lo G:=by
   simp only[wP]at hs;grind
  split at h
  ·rename_i e e2 aI hu;have cY:=hT.bU aI (by simp);have uW:=hT.bU hu (by simp);obtain⟨jC,aD,h9,oa⟩:=cY.sl;obtain⟨adB,fB,_⟩:=uW.sl;obtain⟨inf,z,i1,i2,i3,i4,i5,i6⟩:=kk h9.kj;have k1:0<e.size:=Nat.pos_of_ne_zero oa;simp only[ar.eM,Option.bind_eq_some_iff,ar.eL,ar.bz]at h;obtain⟨⟨ys,l⟩,j2,h⟩:=h;split at h
   ·rename_i aA;split at h
    ·rename_i aV xs ad;split at h
     ·rename_i qR;subst qR;simp only[Option.some.injEq]at h;subst h;intro a w κ F Q aa aZ hc;change G+ys.length<=xs.length at hc;obtain⟨q',cap',tn,nE⟩:=rU aa j2 (cv aa y rfl aZ.2);have hx:bl C.P s.ae κ F w (use (aW C.aM s.ax x)).2 (a.eval x):=cv aa x rfl aZ.1;rw[eS]at hx;have aN:=aa.bq b;unfold cj at aN;rw[ad]at aN;obtain⟨⟨aP,aQ⟩,bB⟩:=hx.2 aA.symm (by rw[ad];rfl);rw[ad]at aQ bB;simp only[bC.len,bC.eK]at aQ bB;have mC:∀ (w':World) v,(Builtin.append_ #[t,u] o.type #[a.eval x,a.eval y]).run C.P w=.ok v w'->(execOp a.eval o).run C.P w=.ok (.value v) w':=by
       intro w' v hv;refine wV ah ?_;simp[builtin,hv]
      have zp:(fO xs G ys).length=xs.length:=by simp[fO];omega
      have fV:fe s.ae κ (λi=>if i=b then (⟨(s.ae b).gen,.a8 aV (fO xs G ys)⟩:bw) else s.ae i) κ:=
       qG rfl (λh=>by cases h) (λ_=>by rw[ad];exact⟨rfl,zp,rfl⟩) (λh=>by cases h) (λh=>by cases h)
      rcases bB with⟨aB,hv⟩ | ⟨aB,l_,hv,o1,gb⟩
      ·have hG:=aN.1 aB;subst hG;have od:G=0:=by grind
       subst od;have Kz:lo=0:=by omega
       subst Kz;have Km:ys=[]:=by grind
       subst Km;obtain⟨ea,dA,dB⟩:=zg (P:=C.P) (w:=w) (cap:=cap') rfl nE;have cK:(Builtin.append_ #[t,u] o.type #[a.eval x,a.eval y]).run C.P w=.ok (.slice none 0 0) w:=by
        rw[hv,tn];simp only[List.length_nil]at dA ⊢;simp[Builtin.append_,dk aD,dk fB,rN i1,Builtin.lenOf];simp_all
       have e0:fO ([]:List aV.ai) 0 []=[]:=by rfl
       refine ha aw (mC w _ cK) ⟨κ,F,bc.set (s:=s.cb b _) ?_ a7 ⟨⟨by simp[az.cb,aA],rfl⟩,λ_ _=>⟨by simp,.inl ⟨aB,rfl⟩⟩⟩⟩;rw[e0,aed ad];exact aa
      ·obtain⟨cs,hH,c1,c2,c3,c4,c5⟩:=aN.2 aB;obtain⟨ea,dA,dB⟩:=zg (P:=C.P) (w:=w) (cap:=cap') rfl nE;have o3:=dB.1;have nC:=dB.one k1;have R_:xs.length*aV.size<=(κ b).cap*aV.size:=Nat.mul_le_mul_right _ c3;have Cm:(G+ys.length)*aV.size<=xs.length*aV.size:=Nat.mul_le_mul_right _ hc;rw[Nat.add_mul]at Cm;obtain⟨w',cS,b3,cr,dX,lC,lD,l7⟩:∃ w' cS,(storeCells ⟨(κ b).ae,l_+(G - lo)*aV.size,none⟩ ea).run C.P w=.ok () w'/\w'.heap[(κ b).ae]?=some (.cells cS hH (0,0))/\cS.toList=cs.toList.take ((κ b).off+G*aV.size)++(ea++cs.toList.drop ((κ b).off+G*aV.size+ea.length))/\
         (∀ r,r≠(κ b).ae->w'.heap[r]?=w.heap[r]?)/\w'.heap.size=w.heap.size/\cN w w':=by
        by_cases bX:lo<(κ b).cap
        ·have zq:l_+(G - lo)*aV.size=(κ b).off+G*aV.size:=by
          rw[gb bX,Nat.add_assoc,<-Nat.add_mul];grind
         rw[zq];obtain⟨w',cS,b3,cr,dX,lC,lD,l7⟩:=uV (P:=C.P) ea ((κ b).off+G*aV.size) 0 w cs c1 (by omega) nC;grind
        ·have h0:ys.length=0:=by omega
         rw[h0,Nat.zero_mul]at o3;have:ea=[]:=List.eq_nil_of_length_eq_zero o3;subst this;exact⟨w,cs,by rfl,c1,by simp,λ_ _=>rfl,rfl,cN.refl w⟩
       have wZ:G - lo+ys.length<=(κ b).cap - lo:=by omega
       have cK:(Builtin.append_ #[t,u] o.type #[a.eval x,a.eval y]).run C.P w=.ok (.slice (some ⟨(κ b).ae,l_,none⟩) (G - lo+ys.length) ((κ b).cap - lo)) w':=by
        rw[hv,tn];simp only[Builtin.append_,List.getElem?_toArray,List.getElem?_cons_zero,List.getElem?_cons_succ,Sem.run_bind,dk aD,dk fB,Result.andThen_ok,rN i1,i2,Sem.run_pure,Builtin.lenOf,Bool.false_eq_true,if_false,if_pos wZ,Bool.not_false,if_true,dA,uS];simp_all
       refine ha aw (mC w' _ cK) ⟨κ,F,bc.set (s:=s.cb b _) ?_ a7 ⟨⟨by simp[az.cb,aA],rfl⟩,λ_ _=>⟨by simp only[az.cb,if_true,bC.len,zp];omega,.inr ⟨aB,l_,?_,?_,?_⟩⟩⟩⟩
       ·refine aa.oV (b:=b) (by rw[ad];simp[bC.bN,aB]) (by simp[bC.bN,aB]) fV (λh=>by cases h) (λh=>by cases h) lC lD l7 λH mE bX he=>?_;refine⟨λh=>(by grind),λ_=>⟨cS,hH,cr,?_,by omega,c4,?_⟩⟩
        ·have:cS.size=cs.size:=by
          rw[<-Array.length_toList,dX];grind
         omega
        ·exact c5.fO he dB hc (by omega) dX
       ·grind
       ·simp only[az.cb,if_true,bC.eK];exact o1
       ·simp only[az.cb,if_true,bC.eK];exact gb
     grind
    grind
   grind
  ·cases h
 ·cases h
theorem aef(hT:dz C.P T){args:Array Operand}{cX:Array TypeId}(a7:∀ i,o.dst=some i->i<C.nt)(ah:o.op=.call { callee:=.builtin .clear,args:=args,argTypes:=cX })
  (h:(BW T (aW C.aM s.ax) args.toList cX.toList).run s.ae=some res):cp C o s res:=by
 obtain⟨args⟩:=args;obtain⟨cX⟩:=cX;have aw:∀ c,o.op≠.defer c:=by grind
 simp only[BW]at h;split at h
 ·rename_i x t;split at h
  ·rename_i e aI;have cY:=hT.bU aI (by simp);obtain⟨jC,aD,h9,oa⟩:=cY.sl;obtain⟨inf,z,i1,i2,i3,i4,i5,i6⟩:=kk h9.kj;have k1:0<e.size:=Nat.pos_of_ne_zero oa;split at h
   ·rename_i b g lo G eS;simp only[ar.eL,ar.bz]at h;split at h
    ·rename_i aA;split at h
     ·rename_i aV xs ad;split at h
      ·rename_i qR;subst qR;simp only[Option.some.injEq]at h;subst h;intro a w κ F Q aa aZ _;have hx:bl C.P s.ae κ F w (use (aW C.aM s.ax x)).2 (a.eval x):=cv aa x rfl aZ;rw[eS]at hx;have aN:=aa.bq b;unfold cj at aN;rw[ad]at aN;obtain⟨⟨aP,aQ⟩,bB⟩:=hx.2 aA.symm (by rw[ad];rfl);rw[ad]at aQ bB;simp only[bC.len,bC.eK]at aQ bB;have mC:∀ (w':World) v,(Builtin.clear_ #[t] o.type #[a.eval x]).run C.P w=.ok v w'->(execOp a.eval o).run C.P w=.ok (.value v) w':=by
        intro w' v hv;refine wV ah ?_;simp[builtin,hv]
       have tx:(List.replicate (G - lo) aV.cP).length=G - lo:=by simp
       have zp:(fO xs lo (List.replicate (G - lo) aV.cP)).length=xs.length:=by simp[fO];omega
       have fV:fe s.ae κ (λi=>if i=b then (⟨(s.ae b).gen,.a8 aV (fO xs lo (List.replicate (G - lo) aV.cP))⟩:bw) else s.ae i) κ:=
        qG rfl (λh=>by cases h) (λ_=>by rw[ad];exact⟨rfl,zp,rfl⟩) (λh=>by cases h) (λh=>by cases h)
       have nothing:G - lo=0->fO xs lo (List.replicate (G - lo) aV.cP)=xs:=λh0=>by rw[h0];simp[fO]
       have hl:G - lo=0->s.cb b ⟨(s.ae b).gen,.a8 aV (fO xs lo (List.replicate (G - lo) aV.cP))⟩=s:=λh0=>by
        rw[nothing h0];unfold az.cb;have:(λi=>if i=b then (⟨(s.ae b).gen,.a8 aV xs⟩:bw) else s.ae i)=s.ae:=by
         funext i;by_cases G:i=b
         ·subst G;simp only[if_true];rw[<-ad]
         grind
        rw[this]
       rcases bB with⟨aB,hv⟩ | ⟨aB,l_,hv,o1,gb⟩
       ·have hG:=aN.1 aB;subst hG;have od:G - lo=0:=by grind
        have cK:(Builtin.clear_ #[t] o.type #[a.eval x]).run C.P w=.ok (.tuple #[]) w:=by
         rw[hv];simp[Builtin.clear_,dk aD]
        refine ha aw (mC w _ cK) ⟨κ,F,bc.set (s:=s.cb b _) ?_ a7 trivial⟩;grind
       ·obtain⟨cs,hH,c1,c2,c3,c4,c5⟩:=aN.2 aB;by_cases h0:G - lo=0
        ·have cK:(Builtin.clear_ #[t] o.type #[a.eval x]).run C.P w=.ok (.tuple #[]) w:=by
          rw[hv,h0];simp[Builtin.clear_,dk aD]
         refine ha aw (mC w _ cK) ⟨κ,F,bc.set (s:=s.cb b _) ?_ a7 trivial⟩;grind
        ·obtain⟨n,p4⟩:∃ n,G - lo=n+1:=⟨G - lo - 1,by omega⟩
         have jb:fW C.P aV F w ((Array.range ((G - lo)*aV.size)).map (λi=>z.cells[i % z.cells.size]!)).toList (List.replicate (G - lo) aV.cP):=R6 i5 _;have tw:z.cells.size=aV.size:=by
          obtain⟨c,ec,n',z2⟩:=uP (P:=C.P) (H:=λ_=>⟨0,.fm⟩) (κ:=λ_=>⟨0,0,0,true⟩) (F:=F) (w:=w) aV i5;rw[List.append_nil]at ec;rw[<-Array.length_toList,ec];exact hC aV n'
         have o3:=jb.1;rw[tx]at o3;have nC:=jb.one k1;revert jb o3 nC;generalize k2:((Array.range ((G - lo)*aV.size)).map (λi=>z.cells[i % z.cells.size]!)).toList=ea;intro jb o3 nC;have R_:xs.length*aV.size<=(κ b).cap*aV.size:=Nat.mul_le_mul_right _ c3;have Cm:(lo+(G - lo))*aV.size<=xs.length*aV.size:=Nat.mul_le_mul_right _ (by omega);rw[Nat.add_mul]at Cm;have zq:l_=(κ b).off+lo*aV.size:=gb (by omega);obtain⟨w',cS,b3,cr,dX,lC,lD,l7⟩:=uV (P:=C.P) ea ((κ b).off+lo*aV.size) 0 w cs c1 (by omega) nC;have cK:(Builtin.clear_ #[t] o.type #[a.eval x]).run C.P w=.ok (.tuple #[]) w':=by
          rw[hv,zq];have ba:(Builtin.zeroCells z.cells (G - lo)).toList=ea:=by rw[<-k2,<-tw];rfl
          simp only[Builtin.clear_,List.getElem?_toArray,List.getElem?_cons_zero,Sem.run_bind,dk aD,Result.andThen_ok,qK i1 i4,p4];simp_all
         refine ha aw (mC w' _ cK) ⟨κ,F,bc.set (s:=s.cb b _) ?_ a7 trivial⟩;refine aa.oV (b:=b) (by rw[ad];simp[bC.bN,aB]) (by simp[bC.bN,aB]) fV (λh=>by cases h) (λh=>by cases h) lC lD l7 λH mE bX he=>?_;refine⟨λh=>(by grind),λ_=>⟨cS,hH,cr,?_,by omega,c4,?_⟩⟩
         ·have:cS.size=cs.size:=by
           rw[<-Array.length_toList,dX];grind
          omega
         ·exact c5.fO he jb (by omega) (by omega) (by omega)
      grind
     grind
    grind
   ·cases h
  ·cases h
 ·cases h
end
end Go.Fer
namespace Go.Fer
open Go.RowKit
section
variable {C:bS} {T:Nat->af} {a6:Nat->Option aL} {o:Oper} {s:az} {res:eb}
theorem KA{place:Nat->Option (Nat×Nat)}{size:Nat}(hp:∀ i,place i=some (i*size,size)):∀ (qs:List (Nat×Value)) (cs:Array Value),(∀ q∈qs,q.2.cells.size=size/\q.1*size+size<=cs.size)->(qs.map (·.1)).Nodup->
  ∃ cS,Instr.fill place cs qs=some cS/\cS.size=cs.size/\∀ i,i*size+size<=cs.size->(cS.toList.drop (i*size)).take size=(match qs.find? (λp=>p.1 == i) with | some q=>q.2.cells.toList | none=>(cs.toList.drop (i*size)).take size)
 | [],cs,_,_=>⟨cs,rfl,rfl,λi _=>rfl⟩
 | (k,v)::qs,cs,h,aB=>by
  obtain⟨h1,h2⟩:=h (k,v) (by simp);simp only at h1 h2;have Fo:=Fl v.cells.toList 0 (k*size) cs (by grind);have e:(v.cells.zipIdx.foldl (λ(cs:Array Value) (p:Value×Nat)=>cs.setIfInBounds (k*size+p.2) p.1) cs)=((v.cells.toList.zipIdx 0).foldl (λ(cs:Array Value) (p:Value×Nat)=>cs.setIfInBounds (k*size+p.2) p.1) cs):=by
   rw[<-Array.foldl_toList];simp
  generalize aw2:(v.cells.zipIdx.foldl (λ(cs:Array Value) (p:Value×Nat)=>cs.setIfInBounds (k*size+p.2) p.1) cs)=FA at *
  have Sa:FA.toList=cs.toList.take (k*size)++(v.cells.toList++cs.toList.drop (k*size+size)):=by
   grind
  have bV:FA.size=cs.size:=by
   rw[<-Array.length_toList,Sa];grind
  have Cn:(qs.map (·.1)).Nodup/\k ∉ qs.map (·.1):=by
   grind
  obtain⟨cS,aP,aQ,bB⟩:=KA hp qs FA (λq bf=>by grind) Cn.1;refine⟨cS,?_,by omega,λi G=>?_⟩
  ·simp only[Instr.fill,hp];grind
  ·rw[bB i (by omega)];by_cases mF:k=i
   ·grind
   ·have:((k,v)::qs).find? (λp=>p.1 == i)=qs.find? (λp=>p.1 == i):=by grind
    rw[this];have jb:(FA.toList.drop (i*size)).take size=(cs.toList.drop (i*size)).take size:=by
     apply List.ext_getElem?;intro j;simp only[List.getElem?_take,List.getElem?_drop];split
     ·rename_i aD;rw[Sa];have kI:(List.take (k*size) cs.toList).length=k*size:=by grind
      have wX:v.cells.toList.length=size:=by omega
      rcases Nat.lt_or_ge i k with h3 | h3
      ·have:(i+1)*size<=k*size:=Nat.mul_le_mul_right _ (by omega);grind
      ·have:(k+1)*size<=i*size:=Nat.mul_le_mul_right _ (by omega);rw[Nat.add_mul]at this;rw[List.getElem?_append_right (by omega),kI,List.getElem?_append_right (by omega),List.getElem?_drop];congr 1;omega
     ·rfl
    grind
theorem aeg(hT:dz C.P T){ty n:Nat}{ps:Array (Nat×Operand)}(a7:∀ i,o.dst=some i->i<C.nt)(ah:o.op=.buildSlice ty n ps)(h:(bh C.aM T a6 (aW C.aM s.ax) o).run s.ae=some res):cp C o s res:=by
 obtain⟨ps⟩:=ps;have aw:∀ c,o.op≠.defer c:=by grind
 simp only[bh,ah]at h;split at h
 ·rename_i e aI;have cY:=hT.bU aI (by simp);obtain⟨jC,aD,h9,oa⟩:=cY.sl;obtain⟨inf,z,i1,i2,i3,i4,i5,i6⟩:=kk h9.kj;simp only[ar.eM,Option.bind_eq_some_iff,ar.run_bind]at h;obtain⟨⟨xs,fl⟩,hG,h⟩:=h;obtain⟨b,aw3,aj⟩:=qM h;split at aj
  ·rename_i FB;obtain⟨aw4,Sb⟩:=FB;simp only[Bool.and_eq_true,Bool.not_eq_true',decide_eq_true_eq]at Sb;obtain⟨⟨fD,tq⟩,KB⟩:=Sb;have p0:b ∉ fl:=by grind
   simp only[Option.some.injEq]at aj;subst aj;intro a w κ F Q aa aZ _;obtain⟨F',f1,aY,f2⟩:=bc.k0 (adN n 0 hG) aa;obtain⟨aeh,FC,n',z2⟩:=uP (P:=C.P) (H:=s.ae) (κ:=κ) (F:=F') (w:=w) e i5;rw[List.append_nil]at FC;have KC:=J9 aa ps aZ;have j7:=RX aa.bq f1 n' (ps:=ir (ps.map λp=>(p.1,aW C.aM s.ax p.2))) (qs:=ps.map λp=>(p.1,a.eval p.2)) (by simp[ir]) KC n 0 hG f2;have tw:=(B5 e (P:=C.P) i5).2;have KD:∀ p∈ps,p.1<n:=by
    intro p hp;have:=List.all_eq_true.1 KB (p.1,(use (aW C.aM s.ax p.2)).2) (by simp only[ir,List.map_map,List.mem_map];grind);grind
   have KE:((ps.map λp=>(p.1,a.eval p.2)).map (·.1)).Nodup:=by
    have:(ir (ps.map λp=>(p.1,aW C.aM s.ax p.2))).map (·.1)=(ps.map λp=>(p.1,a.eval p.2)).map (·.1):=by simp[ir]
    grind
   have Sc:∀ q∈ps.map (λp=>(p.1,a.eval p.2)),q.2.cells.size=e.size/\q.1*e.size+e.size<=n*e.size:=by
    intro q bf;obtain⟨p,hp,rfl⟩:=List.mem_map.1 bf;have bX:=KD p hp;refine⟨?_,by
     have:(p.1+1)*e.size<=n*e.size:=Nat.mul_le_mul_right _ (by omega);grind⟩
    obtain⟨a_,d1,d2⟩:=j7.2 p.1 (by omega);rw[Nat.zero_add]at d2;have u2:(ps.map λp=>(p.1,a.eval p.2)).find? (λr=>r.1 == p.1)=some (p.1,a.eval p.2):=by
     have aei:∀ (l:List (Nat×Value)),(l.map (·.1)).Nodup->∀ q∈l,l.find? (λr=>r.1 == q.1)=some q:=by
      intro l;induction l with
      | nil=>simp
      | cons c l aJ=>
       grind
     grind
    rw[u2]at d2;have:=hC e d1;grind
   have KF:z.cells.size≠0:=by omega
   let base:Array Value:=(Array.range (n*e.size)).map (λi=>z.cells[i % z.cells.size]!);have aw5:base.size=n*e.size:=by grind
   obtain⟨cS,aP,aQ,bB⟩:=KA (place:=λi=>some (i*e.size,e.size)) (λi=>rfl) (ps.map λp=>(p.1,a.eval p.2)) base (by grind) KE;have aw6:∀ i,i<n->(base.toList.drop (i*e.size)).take e.size=z.cells.toList:=by
    intro i G;have hle:(i+1)*e.size<=n*e.size:=Nat.mul_le_mul_right _ (by omega);rw[Nat.add_mul]at hle;apply List.ext_getElem?;intro j;simp only[List.getElem?_take,List.getElem?_drop];split
    ·rename_i aD;have fB:j<z.cells.size:=by omega
     rw[Array.getElem?_toList,Array.getElem?_toList];have zj:(i*e.size+j) % z.cells.size=j:=by rw[tw,Nat.add_comm,Nat.add_mul_mod_self_right,Nat.mod_eq_of_lt aD]
     grind
    grind
   have aej:fW C.P e F' w cS.toList xs:=by
    refine⟨by grind,λi G=>?_⟩;have ds:i<n:=by omega
    have hle:(i+1)*e.size<=n*e.size:=Nat.mul_le_mul_right _ (by omega);grind
   have cK:(execOp a.eval o).run C.P w=.ok (.value (.slice (some ⟨w.heap.size,0,none⟩) n n)) (w.alloc (.cells cS jC)):=by
    have aek:¬n*e.size > 2 ^ 24:=by omega
    simp only[execOp,ah,Instr.buildSlice,Sem.run_bind,dk aD,Result.andThen_ok,rN i1,i2,aek,if_false];by_cases rZ:n*e.size=0
    ·have zr:base=#[]:=Array.eq_empty_of_size_eq_zero (by omega);rw[zr]at aP;simp only[rZ,if_true,Sem.run_bind,Sem.run_pure,Result.andThen_ok];rw[show ((Array.range 0).map (λi=>(#[]:Array Value)[i % (#[]:Array Value).size]!))=#[] from by simp];simp only[List.map_toArray]at aP ⊢;rw[show Instr.fill (λi=>some (i*e.size,e.size)) #[] (ps.map λx=>(x.1,a.eval x.2))=some cS from aP];rfl
    ·simp only[rZ,if_false,Sem.run_bind,qK i1 i4,Result.andThen_ok,Sem.run_pure];simp only[List.map_toArray];rw[show Instr.fill (λi=>some (i*e.size,e.size)) ((Array.range (n*e.size)).map (λi=>z.cells[i % z.cells.size]!)) (ps.map λx=>(x.1,a.eval x.2))=some cS from aP];rfl
   have o2:s.fK ((jy fl).run s.ae++[(b,⟨(s.ae b).gen+1,.a8 e xs⟩)])=(s.cd fl).cb b ⟨(s.ae b).gen+1,.a8 e xs⟩:=by
    rw[B4,ti]
   have o4:(s.cd fl).ae b=s.ae b:=by simp[az.cd,p0]
   have h3:=aY.Cd (b:=b) (g:=(s.ae b).gen+1) (zs:=xs) (k:=⟨w.heap.size,0,n,false⟩) (w':=w.alloc (.cells cS jC)) (by grind) (.inr rfl) (by simp) (λr aa=>oT w _ aa) (λ_=>by simp) ⟨rfl,rfl,rfl⟩
    (λH κ'=>⟨λh=>(by cases h),λ_=>⟨cS,jC,pV w _,by grind,by grind,by
     have:n<=n*e.size:=Nat.le_mul_of_pos_right _ (Nat.pos_of_ne_zero oa);grind,(aej.Cb (pre:=[]) (post:=[]) (by simp)).later (cJ.alloc aY.cM _)⟩⟩)
   refine ha aw cK ?_;simp only[az.hW];rw[o2];exact⟨_,F',bc.set h3 a7 ⟨⟨by simp[az.cb],rfl⟩,λ_ _=>by simp[az.cb,bo.slice,bC.len,j7.1]⟩⟩
  grind
 ·cases h
theorem Sd(nF:Nat):∀ (m:Nat) (l:List Value),l.length=m*nF->((List.range m).map λi=>(l.drop (i*nF)).take nF).flatten=l
 | 0,l,h=>by
  have:l=[]:=List.eq_nil_of_length_eq_zero (by omega);simp[this]
 | m+1,l,h=>by
  rw[Nat.add_mul]at h;have aJ:=Sd nF m (l.take (m*nF)) (by grind);rw[List.range_succ,List.map_append,List.flatten_append];have e:((List.range m).map λi=>(l.drop (i*nF)).take nF)=((List.range m).map λi=>((l.take (m*nF)).drop (i*nF)).take nF):=by
   refine List.map_congr_left λi G=>?_;have hle:(i+1)*nF<=m*nF:=Nat.mul_le_mul_right _ (by have:=List.mem_range.1 G;omega);rw[Nat.add_mul]at hle;rw[List.drop_take,List.take_take,Nat.min_eq_left (by omega)]
  rw[e,aJ];have:(l.drop (m*nF)).take nF=l.drop (m*nF):=List.take_of_length_le (by grind);simp[this]
theorem ael(hT:dz C.P T){ty m:Nat}{e:af}{ps:Array (Nat×Operand)}(a7:∀ i,o.dst=some i->i<C.nt)(ah:o.op=.build ty ps)(aI:T ty=.array m e)
  (h:((tc e (ir (ps.toList.map λp=>(p.1,aW C.aM s.ax p.2))) 0 m).cx λ(xs,fl)=>if (fl.isEmpty&&decide ((ir (ps.toList.map λp=>(p.1,aW C.aM s.ax p.2))).map (·.1)).Nodup&&(ir (ps.toList.map λp=>(p.1,aW C.aM s.ax p.2))).all (λp=>decide (p.1<m)))=true then bA (rL (ps.toList.map λp=>(p.1,aW C.aM s.ax p.2))) True (.val (.array m e) xs) else .none).run s.ae=some res):cp C o s res:=by
 obtain⟨ps⟩:=ps;simp only[ar.eM,Option.bind_eq_some_iff]at h;obtain⟨⟨xs,fl⟩,hG,h⟩:=h;have cY:=hT.bU aI (by simp);obtain⟨jC,aD,h9,oa⟩:=cY.a8;obtain⟨i,z,h1,h2,h3,aT,bx,c_⟩:=kk cY.kj;split at h
 ·rename_i hc;simp only[Bool.and_eq_true,decide_eq_true_eq,List.isEmpty_iff,List.all_eq_true]at hc;obtain⟨⟨rfl,tq⟩,KB⟩:=hc;simp only[bA,ar.bz,Option.some.injEq]at h;subst h;refine cp.pure (by grind) a7 λa w κ F aa aZ _=>?_;obtain⟨aeh,FC,n',z2⟩:=uP (P:=C.P) (H:=s.ae) (κ:=κ) (F:=F) (w:=w) (.array m e) bx;rw[List.append_nil]at FC;have tw:=(B5 (.array m e) (P:=C.P) bx).2;have aw7:z.cells.size=m*e.size:=tw;have KC:=J9 aa ps aZ;have j7:=λ(zero:List Value) (ba:bu C.P e F w zero e.cP)=>RX aa.bq (λ_ h=>h) ba (ps:=ir (ps.map λp=>(p.1,aW C.aM s.ax p.2))) (qs:=ps.map λp=>(p.1,a.eval p.2)) (by simp[ir]) KC m 0 hG (λ_ h=>by cases h);have KD:∀ p∈ps,p.1<m:=by
   intro p hp;exact KB (p.1,(use (aW C.aM s.ax p.2)).2) (by simp only[ir,List.map_map,List.mem_map];grind)
  have KE:((ps.map λp=>(p.1,a.eval p.2)).map (·.1)).Nodup:=by
   have:(ir (ps.map λp=>(p.1,aW C.aM s.ax p.2))).map (·.1)=(ps.map λp=>(p.1,a.eval p.2)).map (·.1):=by simp[ir]
   grind
  have jb:∀ i,i<m->bu C.P e F w ((z.cells.toList.drop (i*e.size)).take e.size) e.cP:=by
   intro i G;have aem:bu C.P (.array m e) F w z.cells.toList (af.array m e).cP:=by rw[FC];exact n'
   obtain⟨p,c,q,aP,aQ,bB⟩:=J3 aem G;have an:=hC e bB;have:(af.cP (.array m e)).getD i e.cP=e.cP:=by
    show (List.replicate m e.cP).getD i e.cP=e.cP;grind
   rw[this]at bB;have:(z.cells.toList.drop (i*e.size)).take e.size=c:=by
    rw[aP,<-aQ];simp[an]
   rw[this];exact bB
  have Se:xs.length=m:=by
   rcases Nat.eq_zero_or_pos m with h0 | h0
   ·subst h0;simp only[tc,ar.bz,Option.some.injEq,Prod.mk.injEq]at hG;rw[<-hG.1];rfl
   ·exact (j7 _ (jb 0 h0)).1
  have Sc:∀ q∈ps.map (λp=>(p.1,a.eval p.2)),q.2.cells.size=e.size/\q.1*e.size+e.size<=z.cells.size:=by
   intro q bf;obtain⟨p,hp,rfl⟩:=List.mem_map.1 bf;have bX:=KD p hp;refine⟨?_,by
    have:(p.1+1)*e.size<=m*e.size:=Nat.mul_le_mul_right _ (by omega);grind⟩
   obtain⟨a_,d1,d2⟩:=(j7 _ (jb p.1 bX)).2 p.1 (by omega);rw[Nat.zero_add]at d2;have u2:(ps.map λp=>(p.1,a.eval p.2)).find? (λr=>r.1 == p.1)=some (p.1,a.eval p.2):=by
    have aei:∀ (l:List (Nat×Value)),(l.map (·.1)).Nodup->∀ q∈l,l.find? (λr=>r.1 == q.1)=some q:=by
     intro l;induction l with
     | nil=>simp
     | cons c l aJ=>
      grind
    grind
   rw[u2]at d2;have:=hC e d1;grind
  obtain⟨cS,aP,aQ,bB⟩:=KA (place:=λi=>some (i*e.size,e.size)) (λi=>rfl) (ps.map λp=>(p.1,a.eval p.2)) z.cells Sc KE;refine⟨.agg cS,?_,⟨cS,rfl,by omega⟩,?_⟩
  ·simp only[execOp,ah,Instr.build,Sem.run_bind,qK h1 aT,Result.andThen_ok,dk aD,h9.size];simp_all
  ·refine⟨(List.range m).map λi=>(cS.toList.drop (i*e.size)).take e.size,(Sd e.size m cS.toList (by grind)).symm,by simp,Se,λi G ds=>?_⟩;simp only[List.getElem_map,List.getElem_range];have Ky:i<m:=by omega
   have hle:(i+1)*e.size<=m*e.size:=Nat.mul_le_mul_right _ (by omega);rw[Nat.add_mul]at hle;obtain⟨a_,d1,d2⟩:=(j7 _ (jb i Ky)).2 i G;rw[Nat.zero_add]at d2;have:=bB i (by omega);have:(cS.toList.drop (i*e.size)).take e.size=a_:=by
    rw[this];split at d2<;>simp_all
   rw[this];exact d1
 ·cases h
theorem fb.mono{P:Program}{t:af}{F F':Nat->Prop}{w w':World}{aC:List Value}{x:t.ai}(h:fb P t F w aC x)(bd:∀ r,F r->F' r)(he:cJ F w w'):fb P t F' w' aC x:=⟨h.1,eX t bd he h.2⟩
theorem aen{k:FuncId}{cH:List Operand}(a7:∀ i,o.dst=some i->i<C.nt)(ah:o.op=.makeFunc (.func k) #[] ⟨cH⟩){v:E4}(hv:C.aM.s9 k=some v)
  (h:((iN (fP (v.cs.map .br)) ((cH.map (aW C.aM s.ax)).map λv=>(use v).2)).cx λ(y,fl)=>(jy fl).bind λwl=>.ret (some ⟨jz (cH.map (aW C.aM s.ax)),True,.val (.fn (fP v.as) v.tr) (λx=>v.sh (E3 v.as (v.cs.map .br) x y)),wl⟩):ar (Option eb)).run s.ae=some res):cp C o s res:=by
 simp only[ar.eM,Option.bind_eq_some_iff,ar.run_bind,ar.bz,Option.some.injEq]at h;obtain⟨⟨y,l⟩,aO,rfl⟩:=h;intro a w κ F Q aa aZ _;obtain⟨F',f1,aY,f2⟩:=bc.k0 (p2 _ aO) aa;have dF:fb C.P (fP (v.cs.map .br)) F' w (cH.map a.eval) y:=by
  refine u1 aa.bq f1 _ aO f2 (by simp) λi G ds=>?_;simp only[List.getElem_map];have cZ:i<cH.length:=by grind
  have h1:=rO aZ i (by grind);have e1:(cH.map (aW C.aM s.ax)).getD i .undef=aW C.aM s.ax cH[i]:=by grind
  rw[e1]at h1;exact oX (j1 aa cH[i]) h1
 obtain⟨hs,w3⟩:=aa.jw.s9 k v hv;have cK:(execOp a.eval o).run C.P w=.ok (.value (.func (.func k) #[] (cH.map a.eval).toArray)) w:=by simp[execOp,ah,Instr.makeFunc]
 refine ha (by grind) cK ⟨κ,F',?_⟩;simp only[az.hW];rw[ti];refine bc.set aY a7 ((dC rfl).2 ⟨rfl,_,rfl,⟨rfl,rfl⟩,λdP cy zt w4 tz qT args x h1 h2 h3=>⟨k,_,rfl,w3.enter,?_⟩⟩);have aD:=Q4 v.as (v.cs.map .br) hs (P:=C.P) (F:=dP) (w:=cy) ⟨h1,h2⟩ (dF.mono zt w4);have:=w3.iK dP cy _ _ tz qT aD h3;have e:(args++cH.map a.eval).toArray=args.toArray++(cH.map a.eval).toArray:=by simp
 rw[e]at this;exact this.mono λe s5 ⟨v,y,e1,e2,⟨aC,e3,e4,eP⟩,jV⟩=>⟨v,y,aC,e1,e2,e3,e4,eP,jV⟩
theorem aeo{k:FuncId}{cH:List Operand}(a7:∀ i,o.dst=some i->i<C.nt)(ah:o.op=.makeFunc (.func k) #[] ⟨cH⟩){v:wG}(hv:C.aM.wI k=some v)
  (h:((iN (fP (v.cs.map .br)) ((cH.map (aW C.aM s.ax)).map λv=>(use v).2)).cx λ(y,fl)=>(jy fl).bind λwl=>.ret (some ⟨jz (cH.map (aW C.aM s.ax)),True,.val (.b9 v.aK) (v.S y),wl⟩):ar (Option eb)).run s.ae=some res):cp C o s res:=by
 simp only[ar.eM,Option.bind_eq_some_iff,ar.run_bind,ar.bz,Option.some.injEq]at h;obtain⟨⟨y,l⟩,aO,rfl⟩:=h;intro a w κ F Q aa aZ _;obtain⟨F',f1,aY,f2⟩:=bc.k0 (p2 _ aO) aa;have dF:fb C.P (fP (v.cs.map .br)) F' w (cH.map a.eval) y:=by
  refine u1 aa.bq f1 _ aO f2 (by simp) λi G ds=>?_;simp only[List.getElem_map];have cZ:i<cH.length:=by grind
  have h1:=rO aZ i (by grind);have e1:(cH.map (aW C.aM s.ax)).getD i .undef=aW C.aM s.ax cH[i]:=by grind
  rw[e1]at h1;exact oX (j1 aa cH[i]) h1
 have w3:=aa.jw.wI k v hv;have cK:(execOp a.eval o).run C.P w=.ok (.value (.func (.func k) #[] (cH.map a.eval).toArray)) w:=by simp[execOp,ah,Instr.makeFunc]
 refine ha (by grind) cK ⟨κ,F',?_⟩;simp only[az.hW];rw[ti];refine bc.set aY a7 ((dC rfl).2 ⟨rfl,_,rfl,⟨rfl,rfl⟩,λdP cy zt w4 tz qT dY=>⟨k,_,rfl,w3.enter,λl I Y ix jg ei=>?_⟩⟩);exact w3.iK dP cy _ _ tz qT (dF.mono zt w4) dY l I Y ix jg ei
theorem aep{k:FuncId}{cH:Array Operand}(a7:∀ i,o.dst=some i->i<C.nt)(ah:o.op=.makeFunc (.func k) #[] cH)(h:(bh C.aM T a6 (aW C.aM s.ax) o).run s.ae=some res):cp C o s res:=by
 obtain⟨cH⟩:=cH;simp only[bh,ah,Array.isEmpty_empty,if_true]at h;split at h;case h_1 v hv=>exact aen a7 ah hv h
 split at h;case h_1 v hv=>exact aeo a7 ah hv h
 simp only[bA,ar.bz,Option.some.injEq]at h;subst h;refine cp.pure (by grind) a7 λa w κ F aa aZ _=>?_;refine⟨.func (.func k) #[] (cH.map a.eval).toArray,by simp[execOp,ah,Instr.makeFunc],cH.map a.eval,rfl,by simp,λi G=>?_⟩;have ds:i<cH.length:=by grind
 have h1:(use ((cH.map (aW C.aM s.ax)).getD i .undef)).1:=rO aZ i (by omega);have e1:(cH.map (aW C.aM s.ax)).getD i .undef=aW C.aM s.ax cH[i]:=by grind
 rw[e1]at h1;have h2:=oX (j1 aa cH[i]) h1;have e2:(cH.map a.eval).getD i Go.undef=a.eval cH[i]:=by grind
 have e3:gP ((cH.map (aW C.aM s.ax)).map λv=>(use v).2) i=(use (aW C.aM s.ax cH[i])).2:=by simp[gP,List.getD_eq_getElem?_getD,ds]
 grind
theorem aeq{k:FuncId}{first cH:Array Operand}(a7:∀ i,o.dst=some i->i<C.nt)(ah:o.op=.makeFunc (.func k) first cH)(au:first.isEmpty=false)(h:(bh C.aM T a6 (aW C.aM s.ax) o).run s.ae=some res):cp C o s res:=by
 obtain⟨first⟩:=first
 simp only[bh,ah,au,Bool.false_eq_true,if_false]at h;split at h
 ·rename_i hc;have hc:cH=#[]:=by grind
  subst hc;simp only[bA,ar.bz,Option.some.injEq]at h;subst h;refine cp.pure (by grind) a7 λa w κ F aa aZ _=>?_;refine⟨.func (.func k) (first.map a.eval).toArray #[],by simp[execOp,ah,Instr.makeFunc],first.map a.eval,rfl,by simp,λi G=>?_⟩;have ds:i<first.length:=by omega
  have h1:(use ((first.map (aW C.aM s.ax)).getD i .undef)).1:=rO aZ i (by grind);have e1:(first.map (aW C.aM s.ax)).getD i .undef=aW C.aM s.ax first[i]:=by grind
  rw[e1]at h1;have h2:=oX (j1 aa first[i]) h1;have e2:(first.map a.eval).getD i Go.undef=a.eval first[i]:=by grind
  have e3:gP ((first.map (aW C.aM s.ax)).map λv=>(use v).2) i=(use (aW C.aM s.ax first[i])).2:=by simp[gP,List.getD_eq_getElem?_getD,ds]
  grind
 ·cases h
def k4(o:Oper)(nt:Nat):Bool:=
 (match o.dst with | some d=>decide (d<nt) | none=>true)&&(match o.op with | .store _ _ _=>o.dst.isNone | .mapUpdate _ _ _ _=>o.dst.isNone | .insert _ _ _ _=>o.dst.isNone | _=>true)
theorem w5(hT:dz C.P T)(cf:jc C.P a6)(aw:k4 o C.nt=true)(h:(bh C.aM T a6 (aW C.aM s.ax) o).run s.ae=some res):cp C o s res:=by
 simp only[k4,Bool.and_eq_true]at aw;have a7:∀ i,o.dst=some i->i<C.nt:=λi G=>by
  grind
 cases ah:o.op with
 | move x=>exact acN a7 ah h
 | assign x=>exact acO a7 ah h
 | pick c a b=>exact acP a7 ah h
 | binOp op t x y cE=>exact acX hT a7 ah h
 | unOp op t x=>exact acQ a7 ah h
 | extract t i=>exact acR a7 ah h
 | nilCheck x=>exact acS a7 ah h
 | fieldAddr t x f=>exact acT hT a7 ah h
 | field t x f=>exact acU hT a7 ah h
 | load t x=>exact acY hT a7 ah h
 | store t x y=>
  have:=aw.2;rw[ah]at this;exact adh hT (by grind) ah h
 | alloc t=>
  by_cases aI:T t=.cA
  ·simp only[bh,ah,aI]at h;obtain⟨_,_,aj⟩:=qM h;grind
  ·exact ac8 hT a7 ah h aI
 | box t x=>exact ac_ a7 ah h
 | build t ps=>
  by_cases Fp:∀ m e,T t≠.array m e
  ·exact adf hT a7 ah Fp h
  ·obtain⟨m,e,aI⟩:∃ m e,T t=.array m e:=by grind
   refine ael hT a7 ah aI ?_;simpa only [bh,ah,aI]using h
 | buildSlice t n ps=>exact aeg hT a7 ah h
 | indexAddr t x i=>exact adn hT a7 ah h
 | index t x i=>exact ac0 hT a7 ah h
 | convert a b x=>exact adJ hT a7 ah h
 | makeFunc fn first cH=>
  cases fn with
  | func k=>
   by_cases au:first=#[]
   ·subst au;exact aep a7 ah h
   ·exact aeq a7 ah (by grind) h
  | _=>simp[bh,ah,ar.none]at h
 | makeMap t r=>exact adT a7 ah h
 | lookup t m x ok=>exact adU hT a7 ah h
 | mapUpdate t m x y=>
  have:=aw.2;rw[ah]at this;exact Ku hT (by grind) (.inl ah) h
 | insert t m x y=>
  have:=aw.2;rw[ah]at this;exact Ku hT (by grind) (.inr ah) h
 | makeSlice t l c=>exact adZ hT a7 ah h
 | makeInterface t x=>exact R' (by simp[bh,ah,bA]) h
 | panic x=>exact R' (by simp[bh,ah,bA]) h
 | slice t x lo G oW=>
  cases oW with
  | none=>exact adp hT a7 ah h
  | some m=>exact aea hT a7 ah h
 | call c=>
  obtain⟨callee,args,cX⟩:=c;cases callee with
  | value f=>
   cases f with
   | func k=>exact adO cf a7 ah h
   | _=>simp[bh,ah,mA,ar.none]at h
  | invoke r m=>simp[bh,ah,mA,ar.none]at h
  | builtin b=>
   cases b with
   | len=>exact ac5 hT a7 ah h
   | append=>
    cases hs:wP (aW C.aM s.ax) args.toList with
    | none=>exact adA hT a7 ah (by simpa [bh,ah,mA,hs]using h)
    | some p=>exact aee hT a7 ah hs (by simpa [bh,ah,mA,hs]using h)
   | clear=>exact aef hT a7 ah (by simpa [bh,ah,mA]using h)
   | copy=>exact ad7 hT a7 ah h
   | min=>exact Ry (.inl ⟨rfl,rfl⟩) a7 ah (by simpa [bh,ah,mA]using h)
   | max=>exact Ry (.inr ⟨rfl,rfl⟩) a7 ah (by simpa [bh,ah,mA]using h)
   | cap=>exact ac6 hT a7 ah (by simpa [bh,ah,mA]using h)
   | _=>simp[bh,ah,mA,ar.none]at h
 | _=>simp[bh,ah,ar.none]at h
end
end Go.Fer
namespace Go.Fer
open Go.RowKit
def ar.cC{aq:Type}(p:aq->Prop):ar aq->Prop
 | .ret a=>p a
 | .eD _ k=>∀ x,(k x).cC p
theorem KG{aG:Operand->aF}{k:IntKind}:∀ (l:List Operand) {bT:Prop} {hV:z1'},(∀ x∈l,(use (aG x)).1)->mz aG k l=some (bT,hV)->bT
 | [],_,_,_,h=>by cases h
 | [x],bT,hV,hu,h=>by
  simp only[mz]at h;split at h
  ·split at h
   ·cases h;exact hu x (by simp)
   ·cases h
  ·cases h
 | x::y::l,bT,hV,hu,h=>by
  simp only[mz]at h;split at h
  ·rename_i an;split at h
   ·cases h;exact⟨hu x (by simp),KG (y::l) (λz ba=>hu z (List.mem_cons_of_mem _ ba)) an⟩
   ·cases h
  ·cases h
theorem ar.cC.run{aq:Type}{p:aq->Prop}{m:ar aq}(h:m.cC p)(H:Nat->bw):p (m.run H):=by
 induction m with
 | ret a=>exact h
 | eD b k aJ=>exact aJ _ (h _)
theorem ar.cC.bind{aq β:Type}{p:β->Prop}{m:ar aq}{f:aq->ar β}(h:∀ a,(f a).cC p):(m.bind f).cC p:=by
 induction m with
 | ret a=>exact h a
 | eD b k aJ=>exact λx=>aJ x
def k5{aq:Type}(p:aq->Prop)(x:Option aq):Prop:=∀ a,x=some a->p a
theorem ar.cC.cx{aq β:Type}{p:β->Prop}{m:ar (Option aq)}{f:aq->ar (Option β)}(h:∀ a,(f a).cC (k5 p)):(m.cx f).cC (k5 p):=by
 refine ar.cC.bind λa=>?_;cases a with
 | none=>intro a h;cases h
 | some a=>grind
theorem ar.cC.Sf{aq β:Type}{q:aq->Prop}{p:β->Prop}{m:ar (Option aq)}{f:aq->ar (Option β)}(ao:m.cC (k5 q))(h:∀ a,q a->(f a).cC (k5 p)):(m.cx f).cC (k5 p):=by
 unfold ar.cx;induction m with
 | ret a=>
  cases a with
  | none=>intro b ad;cases ad
  | some a=>exact h a (ao a rfl)
 | eD b k aJ=>exact λx=>aJ x (ao x)
theorem ar.cC.bJ{aq:Type}{p:aq->Prop}:(ar.none:ar (Option aq)).cC (k5 p):=by intro a h;cases h
theorem ar.cC.mI{aq:Type}{p:aq->Prop}{a:aq}(h:p a):(ar.ret (some a)).cC (k5 p):=by intro b ad;grind
theorem ar.cC.nil{aq:Type}{p:aq->Prop}:(ar.ret (Option.none:Option aq)).cC (k5 p):=by intro b ad;cases ad
theorem ar.cC.bA{p:eb->Prop}{bT c:Prop}{v:aF}(h:p ⟨bT,c,v,[]⟩):(bA bT c v).cC (k5 p):=ar.cC.mI h
theorem ar.cC.hU{p:eb->Prop}{d:Option Nat}{k:Nat->Nat->Option eb}(h:∀ b g,k5 p (k b g)):(hU d k).cC (k5 p):=by
 unfold Go.Fer.hU;split
 ·exact .bJ
 ·exact λx=>h _ _
def aF.zu:aF->Bool
 | .hi _ _=>true
 | _=>false
theorem FD{a:aF}(h:a.zu=false):(use a).1:=by
 cases a<;>first | trivial | cases h
def r0(aG:Operand->aF)(o:Oper):Bool:=o.op.operands.toList.all λx=>!(aG x).zu
def aF.aer:aF->Bool
 | .fs _ _=>false
 | .val (.map _ _) _=>false
 | _=>true
def FE(aG:Operand->aF)(b:Builtin)(args:List Operand):Bool:=
 match b with
 | .len=>match args with
  | [x]=>(use (aG x)).2.aer
  | _=>false
 | .min=>true
 | .max=>true
 | _=>false
def aF.Sg:aF->Bool
 | .iL ..=>true
 | _=>false
def mJ(aG:Operand->aF)(o:Oper):Bool:=
 match o.op with
 | .move _ | .assign _ | .pick .. | .unOp .. | .extract .. | .fieldAddr .. | .field .. | .alloc .. | .box .. | .build .. | .buildSlice .. | .convert .. | .makeFunc .. | .makeMap .. | .lookup .. | .mapUpdate .. | .insert ..=>true
 | .load _ x=>!(use (aG x)).2.Sg
 | .store _ x _=>!(use (aG x)).2.Sg
 | .binOp op _ x _ _=>match op with
  | .quo | .rem | .shl | .shr=>false
  | .add=>(use (aG x)).2.l6.isSome
  | _=>true
 | .call c=>match c.callee with
  | .builtin b=>FE aG b c.args.toList
  | _=>false
 | _=>false
theorem aes{op:BinOp}{k:IntKind}{a b:Int}{c:Prop}{v:aF}(h:y0 op k a b=some (c,v))(h1:op≠.quo)(h2:op≠.rem):c:=by
 cases op<;>simp only[y0,Option.some.injEq,Prod.mk.injEq,reduceCtorEq]at h<;>first | (obtain⟨rfl,_⟩:=h;trivial) | contradiction
theorem aet{op:BinOp}{a b:List UInt8}{c:Prop}{v:aF}(h:BO op a b=some (c,v))(h1:op≠.add):c:=by
 cases op<;>simp only[BO,Option.some.injEq,Prod.mk.injEq,reduceCtorEq]at h<;>first | (obtain⟨rfl,_⟩:=h;trivial) | contradiction
theorem aeu{op:BinOp}{t:af}{x y:aF}:(y1 op t x y).cC (k5 λr=>r.1):=by
 unfold y1;refine ar.cC.cx λe=>?_;cases op<;>first | exact .mI trivial | exact .nil
section
variable {U:dm} {T:Nat->af} {a6:Nat->Option aL} {aG:Operand->aF} {o:Oper}
theorem aev{op:BinOp}{ty:TypeId}{x y:Operand}{t:TypeId}(ah:o.op=.binOp op ty x y t)(hc:mJ aG o=true):(bh U T a6 aG o).cC (k5 λr=>r.c):=by
 unfold bh;rw[ah];simp only;simp only[mJ,ah]at hc;split
 ·rename_i k a k' b h1 h2;split
  ·cases hc
  ·cases hc
  ·split
   ·split
    ·rename_i c v G;refine .bA (aes G ?_ ?_)<;>(grind)
    ·exact .bJ
   ·exact .bJ
 ·rename_i o6;split
  ·rename_i a b h1 h2;split
   ·rename_i c v G;refine .bA (aet G ?_);intro e;subst e;simp only at hc;generalize (use (aG x)).2=z at hc h1;cases z<;>try (cases h1;done)
    rename_i t d;cases t<;>first | (cases h1;done) | (cases hc;done)
   ·exact .bJ
  ·exact ar.cC.Sf aeu λr aa=>.bA aa
theorem KH{p:eb->Prop}{ty:TypeId}{m x y:Operand}(h:∀ wl,p ⟨(use (aG m)).1/\(use (aG x)).1/\(use (aG y)).1,True,.undef,wl⟩):(qJ T aG ty m x y).cC (k5 p):=by
 unfold qJ;split
 ·simp only;split
  ·split
   ·refine ar.cC.cx λ_=>ar.cC.cx λ_=>ar.cC.bind λ_=>λz=>?_;intro r aa;split at aa
    ·split at aa
     ·simp only[Option.map_eq_some_iff]at aa;grind
     grind
    grind
   ·exact .bJ
  ·exact .bJ
 ·exact .bJ
theorem Sh{ty:TypeId}{m x y:Operand}:(qJ T aG ty m x y).cC (k5 λr=>r.c):=KH λ_=>trivial
theorem zv(hc:mJ aG o=true):(bh U T a6 aG o).cC (k5 λr=>r.c):=by
 cases ah:o.op with
 | binOp op ty x y t=>exact aev ah hc
 | move x=>unfold bh;rw[ah];exact .bA trivial
 | assign x=>
  unfold bh;rw[ah];simp only;split
  ·exact .hU λb g=>λr aa=>by grind
  ·exact .bA trivial
 | pick c a b=>
  unfold bh;rw[ah];simp only;split
  ·split
   ·split
    ·exact .bA trivial
    ·exact .bJ
   ·split
    ·exact .bA trivial
    ·exact .bJ
   ·exact .bJ
  ·exact .bJ
 | unOp op t x=>
  unfold bh;rw[ah];simp only;split
  ·exact .bA trivial
  ·exact .bA trivial
  ·exact .bJ
 | extract x i=>
  unfold bh;rw[ah];simp only;split
  ·split
   ·exact .bA trivial
   ·exact .bJ
  ·exact .bJ
 | fieldAddr ty x f=>
  unfold bh;rw[ah];simp only;repeat' first | exact .bJ | exact .bA trivial | split
  all_goals first
   | (intro z;intro r aa;grind)
 | field ty x f=>
  unfold bh;rw[ah];simp only;repeat' first | exact .bJ | exact .bA trivial | split
 | load ty x=>
  simp only[mJ,ah]at hc;unfold bh;rw[ah];simp only;split
  ·rename_i hx;rw[hx]at hc;cases hc
  ·exact ar.cC.cx λ_=>.bA trivial
 | store ty x y=>
  simp only[mJ,ah]at hc;unfold bh;rw[ah];simp only;split
  ·rename_i hx;rw[hx]at hc;cases hc
  ·exact ar.cC.cx λ_=>.mI trivial
 | alloc ty=>
  unfold bh;rw[ah];simp only;exact .hU λb g=>λr aa=>by grind
 | box ty x=>
  unfold bh;rw[ah];simp only;split
  ·exact .hU λb g=>λr aa=>by grind
  ·exact .bJ
 | build ty ps=>
  unfold bh;rw[ah];simp only;repeat' first | exact .bJ | exact .bA trivial | refine ar.cC.cx λ_=>?_ | split
 | buildSlice ty n ps=>
  unfold bh;rw[ah];simp only;split
  ·refine ar.cC.cx λ_=>ar.cC.bind λ_=>.hU λb g=>λr aa=>by grind
  ·exact .bJ
 | convert a b x=>
  unfold bh;rw[ah];simp only;repeat' first | exact .bJ | exact .bA trivial | exact ar.cC.cx λ_=>.bA trivial | split
 | makeFunc fn first cH=>
  unfold bh;rw[ah];simp only;split
  ·split
   ·split
    ·exact ar.cC.cx λ_=>ar.cC.bind λ_=>.mI trivial
    ·split
     ·exact ar.cC.cx λ_=>ar.cC.bind λ_=>.mI trivial
     ·exact .bA trivial
   ·split
    ·exact .bA trivial
    ·exact .bJ
  ·exact .bJ
 | makeMap ty r=>
  unfold bh;rw[ah];simp only;split
  ·exact .bJ
  ·split
   ·exact .hU λb g=>λr aa=>by grind
   ·exact .bJ
 | lookup ty m x ok=>
  unfold bh;rw[ah];simp only;unfold y4;split
  ·simp only;split
   ·exact ar.cC.cx λ_=>ar.cC.cx λ_=>.bA trivial
   ·exact .bJ
  ·exact .bJ
 | mapUpdate ty m x y=>
  unfold bh;rw[ah];exact Sh
 | insert ty m x y=>
  unfold bh;rw[ah];exact Sh
 | call c=>
  obtain⟨callee,args,cX⟩:=c;simp only[mJ,ah]at hc;unfold bh;rw[ah];simp only;unfold mA;cases callee with
  | builtin b=>
   simp only at hc ⊢;cases b with
   | len=>
    simp only[BQ];split
    ·rename_i x t e1 e2;simp only[FE,e1]at hc;generalize use (aG x)=u at hc;obtain⟨cg,dG⟩:=u;simp only at hc ⊢;refine ar.cC.Sf (q:=λr:Prop×Int=>r.1) ?_ λr aa=>.bA aa;generalize T t=ty;cases ty<;>simp only[E8]<;>first | exact .bJ | skip
     ·cases dG<;>first | exact .bJ | skip
      ·rename_i cE d;cases cE<;>first | exact .bJ | exact .mI trivial
     ·cases dG<;>first | exact .bJ | exact .mI trivial | skip
      ·rename_i cE d;cases cE<;>first | exact .bJ | exact .mI trivial
      ·intro z r aa;grind
      ·intro z r aa;grind
     ·cases dG<;>first | exact .bJ | (cases hc;done) | skip
      ·rename_i cE d;cases cE<;>first | exact .bJ | cases hc
    ·exact .bJ
   | min=>
    simp only[rM];repeat' first | exact .bA trivial | exact .bJ | split
   | max=>
    simp only[rM];repeat' first | exact .bA trivial | exact .bJ | split
   | _=>simp[FE]at hc
  | _=>cases hc
 | _=>simp[mJ,ah]at hc
theorem Co:∀ {l:List aF},(∀ v∈l,(use v).1)->jz l
 | [],_=>trivial
 | v::l,h=>by
  have h1:=h v (by simp);have h2:=Co (l:=l) λu hu=>h u (by grind);cases v<;>first | exact h2 | exact⟨h1,h2⟩
theorem KI:∀ {l:List (Nat×aF)},(∀ v∈l,(use v.2).1)->rL l
 | [],_=>trivial
 | (i,v)::l,h=>by
  have h1:=h (i,v) (by simp);have h2:=KI (l:=l) λu hu=>h u (by grind);cases v<;>first | exact h2 | exact⟨h1,h2⟩
theorem Cp{x:Option Operand}{p:Prop}{n:Option Int}(h:kY aG x=some (p,n))(hx:∀ y,x=some y->(use (aG y)).1):p:=by
 unfold kY at h;grind
def qU(aG:Operand->aF)(o:Oper):Prop:=∀ x∈o.op.operands.toList,(use (aG x)).1
theorem KJ{aG:Operand->aF}{o:Oper}(h:r0 aG o=true):qU aG o:=λx hx=>FD (by simpa using List.all_eq_true.1 h x hx)
theorem qU.use{aG:Operand->aF}{o:Oper}(h:qU aG o){x:Operand}(hx:x∈o.op.operands.toList){bT:Prop}{v:aF}(hu:use (aG x)=(bT,v)):bT:=by
 have:=h x hx;grind
theorem Si(fp:qU aG o):(bh U T a6 aG o).cC (k5 λr=>r.bT):=by
 unfold qU at fp;have au:∀ x∈o.op.operands.toList,(use (aG x)).1:=fp;have hu:∀ x∈o.op.operands.toList,∀ {bT:Prop} {v:aF},use (aG x)=(bT,v)->bT:=λx hx bT v h=>qU.use fp hx h;cases ah:o.op with
 | move x=>unfold bh;rw[ah];exact .bA trivial
 | assign x=>
  unfold bh;rw[ah];simp only;split
  ·exact .hU λb g=>λr aa=>by grind
  ·exact .bA trivial
 | pick c a b=>
  rw[ah]at hu;unfold bh;rw[ah];simp only;split
  ·rename_i oc iP lJ;have h1:=hu c (by simp[Op.operands]) lJ;split
   ·split
    ·rename_i y5 av aU;exact .bA ⟨h1,λ_=>hu a (by simp[Op.operands]) aU⟩
    ·exact .bJ
   ·split
    ·rename_i y5 av aU;exact .bA ⟨h1,λ_=>hu b (by simp[Op.operands]) aU⟩
    ·exact .bJ
   ·exact .bJ
  ·exact .bJ
 | binOp op ty x y t=>
  rw[ah]at fp;have h:=And.intro (fp x (by simp[Op.operands])) (fp y (by simp[Op.operands]));unfold bh;rw[ah];simp only;split
  ·split
   ·split
    ·exact .bA h
    ·exact .bJ
   ·split
    ·exact .bA h
    ·exact .bJ
   ·split
    ·split
     ·exact .bA h
     ·exact .bJ
    ·exact .bJ
  ·split
   ·split
    ·exact .bA h
    ·exact .bJ
   ·exact ar.cC.cx λ_=>.bA h
 | unOp op t x=>
  rw[ah]at hu;unfold bh;rw[ah];simp only;split
  ·rename_i hx;exact .bA (hu x (by simp[Op.operands]) hx)
  ·rename_i hx;exact .bA (hu x (by simp[Op.operands]) hx)
  ·exact .bJ
 | extract x i=>
  rw[ah]at hu;unfold bh;rw[ah];simp only;split
  ·rename_i hx;split
   ·exact .bA (hu x (by simp[Op.operands]) hx)
   ·exact .bJ
  ·exact .bJ
 | nilCheck x=>
  rw[ah]at hu;unfold bh;rw[ah];simp only;split
  ·rename_i hx;intro z r aa;split at aa<;>cases aa;exact hu x (by simp[Op.operands]) hx
  ·rename_i hx;exact .bA (hu x (by simp[Op.operands]) hx)
  ·rename_i hx;exact .bA (hu x (by simp[Op.operands]) hx)
  ·rename_i hx;intro z r aa;split at aa<;>cases aa;exact hu x (by simp[Op.operands]) hx
  ·exact .bJ
 | fieldAddr ty x f=>
  rw[ah]at hu;unfold bh;rw[ah];simp only;split
  ·split
   ·split
    ·rename_i hx;intro z r aa;split at aa<;>cases aa;exact hu x (by simp[Op.operands]) hx
    ·rename_i hx;intro z r aa;split at aa<;>cases aa;exact hu x (by simp[Op.operands]) hx
    ·rename_i hx;intro z r aa;split at aa<;>cases aa;exact hu x (by simp[Op.operands]) hx
    ·rename_i hx;split
     ·split
      ·exact .bA (hu x (by simp[Op.operands]) hx)
      ·exact .bJ
     ·exact .bJ
    ·exact .bJ
   ·exact .bJ
  ·exact .bJ
 | field ty x f=>
  rw[ah]at hu;unfold bh;rw[ah];simp only;split
  ·split
   ·rename_i hx;split
    ·split
     ·exact .bA (hu x (by simp[Op.operands]) hx)
     ·exact .bJ
    ·exact .bJ
   ·exact .bJ
  ·exact .bJ
 | load ty x=>
  rw[ah]at hu;unfold bh;rw[ah];simp only;split
  ·rename_i hx;have h:=hu x (by simp[Op.operands]) hx;intro z r aa;repeat' split at aa
   all_goals first | (cases aa;exact h) | cases aa
  ·rename_i hx;exact ar.cC.cx λ_=>.bA (hu x (by simp[Op.operands]) hx)
 | store ty x y=>
  rw[ah]at hu fp;unfold bh;rw[ah];simp only;split
  ·rename_i hx;have h:=hu x (by simp[Op.operands]) hx;have da:=fp y (by simp[Op.operands]);unfold JV;split
   ·intro z r aa;repeat' split at aa
    all_goals first | (cases aa;exact⟨h,da⟩) | cases aa
   ·exact .bJ
  ·rename_i hx;exact ar.cC.cx λ_=>.mI ⟨hu x (by simp[Op.operands]) hx,fp y (by simp[Op.operands])⟩
 | alloc ty=>
  unfold bh;rw[ah];simp only;exact .hU λb g=>λr aa=>by grind
 | box ty x=>
  rw[ah]at fp;unfold bh;rw[ah];simp only;split
  ·exact .hU λb g=>λr aa=>by split at aa<;>cases aa;exact fp x (by simp[Op.operands])
  ·exact .bJ
 | build ty ps=>
  rw[ah]at au;have h:rL (ps.toList.map λp=>(p.1,aG p.2)):=KI λv hv=>by
   simp only[List.mem_map]at hv;obtain⟨p,hp,rfl⟩:=hv;exact au p.2 (by simp only[Op.operands,List.mem_map];grind)
  unfold bh;rw[ah];simp only;repeat' first | exact .bJ | exact .bA h | refine ar.cC.cx λ_=>?_ | split
 | buildSlice ty n ps=>
  rw[ah]at au;have h:rL (ps.toList.map λp=>(p.1,aG p.2)):=KI λv hv=>by
   simp only[List.mem_map]at hv;obtain⟨p,hp,rfl⟩:=hv;exact au p.2 (by simp only[Op.operands,List.mem_map];grind)
  unfold bh;rw[ah];simp only;split
  ·refine ar.cC.cx λ_=>ar.cC.bind λ_=>.hU λb g=>λr aa=>by grind
  ·exact .bJ
 | indexAddr ty x i=>
  rw[ah]at fp;have h:=And.intro (fp x (by simp[Op.operands])) (fp i (by simp[Op.operands]));unfold bh;rw[ah];simp only;split
  ·exact ar.cC.cx λ_=>.bA h
  ·split
   ·split
    ·exact .bA h
    ·exact .bJ
   ·intro z r aa;grind
   ·exact .bJ
  ·exact .bJ
 | index ty x i=>
  rw[ah]at fp;have h:=And.intro (fp x (by simp[Op.operands])) (fp i (by simp[Op.operands]));unfold bh;rw[ah];simp only;split
  ·exact .bA h
  ·split
   ·split
    ·exact .bA h
    ·exact .bJ
   ·split
    ·exact .bA h
    ·exact .bJ
   ·exact .bJ
  ·exact .bJ
 | convert a b x=>
  rw[ah]at fp;unfold bh;rw[ah];simp only;split
  ·exact .bA (fp x (by simp[Op.operands]))
  ·exact ar.cC.cx λ_=>.bA (fp x (by simp[Op.operands]))
  ·exact .bJ
 | makeFunc fn first cH=>
  rw[ah]at au;have h:jz (cH.toList.map aG):=Co λv hv=>by
   simp only[List.mem_map]at hv;obtain⟨p,hp,rfl⟩:=hv;exact au p (by simp[Op.operands];simp_all)
  have h2:jz (first.toList.map aG):=Co λv hv=>by
   simp only[List.mem_map]at hv;obtain⟨p,hp,rfl⟩:=hv;exact au p (by simp[Op.operands];simp_all)
  unfold bh;rw[ah];simp only;split
  ·split
   ·split
    ·exact ar.cC.cx λ_=>ar.cC.bind λ_=>.mI h
    ·split
     ·exact ar.cC.cx λ_=>ar.cC.bind λ_=>.mI h
     ·exact .bA h
   ·split
    ·exact .bA h2
    ·exact .bJ
  ·exact .bJ
 | slice ty x lo G oW=>
  rw[ah]at au fp;unfold bh;rw[ah];simp only;split
  ·unfold E';simp only;split
   ·rename_i ol l qI h uQ m an cB ao;have aZ:=And.intro (fp x (by simp[Op.operands])) (And.intro (Cp an λy aO=>au y (by subst aO;simp[Op.operands])) (And.intro (Cp cB λy aO=>au y (by subst aO;simp[Op.operands])) (Cp ao λy aO=>au y (by subst aO;simp[Op.operands]))));split
    ·exact ar.cC.cx λ_=>.mI aZ
    ·exact .bJ
   ·exact .bJ
  ·unfold E_;simp only;split
   ·rename_i ol l qI h an cB;have aZ:=And.intro (fp x (by simp[Op.operands])) (And.intro (Cp an λy aO=>au y (by subst aO;simp[Op.operands])) (Cp cB λy aO=>au y (by subst aO;simp[Op.operands])));split
    ·exact ar.cC.cx λ_=>.mI aZ
    ·split
     ·exact .bA aZ
     ·exact .bJ
    ·exact .bJ
   ·exact .bJ
 | call c=>
  rw[ah]at au fp;obtain⟨callee,args,cX⟩:=c;have dF:∀ x∈args.toList,(use (aG x)).1:=λx hx=>au x (by simp[Op.operands,Call.operands];simp_all);have o7:∀ x∈args.toList,(use (aG x)).1:=dF;have eJ:jz (args.toList.map aG):=Co λv hv=>by
   grind
  unfold bh;rw[ah];simp only;unfold mA;simp only;split
  ·split
   ·unfold BQ;split
    ·rename_i x t e1 e2;exact ar.cC.cx λ_=>.bA (o7 x (by grind))
    ·exact .bJ
   ·split
    ·unfold BV;split
     ·rename_i x y t u e1 e2;have h:=And.intro (o7 x (by grind)) (o7 y (by grind));split
      ·simp only;refine ar.cC.cx λ_=>λz=>?_;intro r aa;grind
      ·exact .bJ
     ·exact .bJ
    unfold BR;split
    ·rename_i x y t u e1 e2;have h:=And.intro (o7 x (by grind)) (o7 y (by grind));split
     ·simp only;unfold JT;split
      ·intro z;dsimp only;split
       ·split
        ·exact ar.cC.cx λ_=>.mI h
        ·exact .bJ
       ·exact .bJ
      ·intro z;dsimp only;split
       ·split
        ·exact ar.cC.cx λ_=>.mI h
        ·exact .bJ
       ·exact .bJ
      ·exact ar.cC.cx λ_=>.hU λb g=>λr aa=>by grind
      ·split
       ·exact ar.cC.cx λ_=>.hU λb g=>λr aa=>by grind
       ·exact .bJ
      ·exact .bJ
     ·exact .bJ
    ·exact .bJ
   ·unfold BW;split
    ·rename_i x t e1 e2;have h:=o7 x (by grind);split
     ·simp only;split
      ·intro z;intro r aa;grind
      ·exact .bJ
     ·exact .bJ
    ·exact .bJ
   ·unfold Fc;split
    ·rename_i x y t u e1 e2;have h:=And.intro (o7 x (by grind)) (o7 y (by grind));split
     ·simp only;split
      ·refine ar.cC.cx λ_=>λz=>?_;intro r aa;grind
      ·exact .bJ
     ·exact .bJ
    ·exact .bJ
   ·unfold rM;split
    ·rename_i x y l e1;split
     ·split
      ·rename_i an;exact .bA ⟨o7 x (by grind),KG (y::l) (λp hp=>o7 p (by rw[e1];exact List.mem_cons_of_mem _ hp)) an⟩
      ·exact .bJ
     ·exact .bJ
    ·exact .bJ
   ·unfold rM;split
    ·rename_i x y l e1;split
     ·split
      ·rename_i an;exact .bA ⟨o7 x (by grind),KG (y::l) (λp hp=>o7 p (by rw[e1];exact List.mem_cons_of_mem _ hp)) an⟩
      ·exact .bJ
     ·exact .bJ
    ·exact .bJ
   ·unfold BS;split
    ·rename_i x t e1 e2;have h:=o7 x (by grind);split
     ·rename_i e3;exact .bA (by grind)
     ·exact .bJ
    ·exact .bJ
   ·exact .bJ
  ·split
   ·unfold Fa;simp only;split
    ·refine ar.cC.cx λ_=>?_;split
     ·refine ar.cC.bind λ_=>.hU λb g=>λr aa=>?_;split at aa
      ·cases aa
      ·cases aa;exact eJ
     ·exact ar.cC.bind λ_=>.mI eJ
    ·exact .bJ
   ·exact .bJ
  ·exact .bJ
 | makeMap ty r=>
  unfold bh;rw[ah];simp only;split
  ·exact .bJ
  ·split
   ·exact .hU λb g=>λr aa=>by grind
   ·exact .bJ
 | lookup ty m x ok=>
  rw[ah]at fp;have h:=And.intro (fp m (by simp[Op.operands])) (fp x (by simp[Op.operands]));unfold bh;rw[ah];simp only;unfold y4;split
  ·simp only;split
   ·exact ar.cC.cx λ_=>ar.cC.cx λ_=>.bA h
   ·exact .bJ
  ·exact .bJ
 | mapUpdate ty m x y=>
  rw[ah]at fp;unfold bh;rw[ah];exact KH λ_=>⟨fp m (by simp[Op.operands]),fp x (by simp[Op.operands]),fp y (by simp[Op.operands])⟩
 | insert ty m x y=>
  rw[ah]at fp;unfold bh;rw[ah];exact KH λ_=>⟨fp m (by simp[Op.operands]),fp x (by simp[Op.operands]),fp y (by simp[Op.operands])⟩
 | makeSlice ty l c=>
  rw[ah]at fp;have h:=And.intro (fp l (by simp[Op.operands])) (fp c (by simp[Op.operands]));unfold bh;rw[ah];simp only;unfold Fb;split
  ·simp only;split
   ·exact .hU λb g=>λr aa=>by grind
   ·exact .bJ
  ·exact .bJ
 | makeInterface t x=>unfold bh;rw[ah];exact .bA trivial
 | panic x=>unfold bh;rw[ah];exact .bA trivial
 | _=>unfold bh;rw[ah];exact .bJ
theorem Sj(hc:r0 aG o=true):(bh U T a6 aG o).cC (k5 λr=>r.bT):=Si (KJ hc)
end
end Go.Fer
namespace Go.Fer
open Go.RowKit
theorem KK{aG jh:Operand->aF}{k:IntKind}:∀ (l:List Operand),(∀ x∈l,aG x=jh x)->mz aG k l=mz jh k l
 | [],_=>rfl
 | [x],h=>by simp only[mz,h x (by simp)]
 | x::y::l,h=>by simp only[mz,h x (by simp),KK (y::l) λz ba=>h z (List.mem_cons_of_mem _ ba)]
section
variable {U:dm} {T:Nat->af} {a6:Nat->Option aL} {aG jh:Operand->aF} {o:Oper}
theorem KL{x:Option Operand}(h:∀ y,x=some y->aG y=jh y):kY aG x=kY jh x:=by
 cases x with
 | none=>rfl
 | some y=>have:=h y rfl;unfold kY;grind
theorem aew(h:∀ x∈o.op.operands.toList,aG x=jh x):bh U T a6 aG o=bh U T a6 jh o:=by
 cases ah:o.op with
 | move x=>rw[ah]at h;have h1:=h x (by simp[Op.operands]);unfold bh;simp_all
 | assign x=>rw[ah]at h;have h1:=h x (by simp[Op.operands]);unfold bh;simp_all
 | pick c a b=>
  rw[ah]at h;have h1:=h c (by simp[Op.operands]);have h2:=h a (by simp[Op.operands]);have h3:=h b (by simp[Op.operands]);unfold bh;simp_all
 | binOp op ty x y t=>
  rw[ah]at h;have h1:=h x (by simp[Op.operands]);have h2:=h y (by simp[Op.operands]);unfold bh;simp_all
 | unOp op t x=>rw[ah]at h;have h1:=h x (by simp[Op.operands]);unfold bh;simp_all
 | extract x i=>rw[ah]at h;have h1:=h x (by simp[Op.operands]);unfold bh;simp_all
 | nilCheck x=>rw[ah]at h;have h1:=h x (by simp[Op.operands]);unfold bh;simp_all
 | fieldAddr ty x f=>rw[ah]at h;have h1:=h x (by simp[Op.operands]);unfold bh;simp_all
 | field ty x f=>rw[ah]at h;have h1:=h x (by simp[Op.operands]);unfold bh;simp_all
 | load ty x=>rw[ah]at h;have h1:=h x (by simp[Op.operands]);unfold bh;simp_all
 | store ty x y=>
  rw[ah]at h;have h1:=h x (by simp[Op.operands]);have h2:=h y (by simp[Op.operands]);unfold bh;simp_all
 | alloc ty=>unfold bh;rw[ah]
 | box ty x=>rw[ah]at h;have h1:=h x (by simp[Op.operands]);unfold bh;simp_all
 | build ty ps=>
  rw[ah]at h;have h1:ps.toList.map (λp=>(p.1,aG p.2))=ps.toList.map (λp=>(p.1,jh p.2)):=List.map_congr_left λp hp=>by rw[h p.2 (by simp only[Op.operands,List.mem_map];grind)]
  unfold bh;rw[ah];simp only[h1]
 | buildSlice ty n ps=>
  rw[ah]at h;have h1:ps.toList.map (λp=>(p.1,aG p.2))=ps.toList.map (λp=>(p.1,jh p.2)):=List.map_congr_left λp hp=>by rw[h p.2 (by simp only[Op.operands,List.mem_map];grind)]
  unfold bh;rw[ah];simp only[h1]
 | indexAddr ty x i=>
  rw[ah]at h;have h1:=h x (by simp[Op.operands]);have h2:=h i (by simp[Op.operands]);unfold bh;simp_all
 | index ty x i=>
  rw[ah]at h;have h1:=h x (by simp[Op.operands]);have h2:=h i (by simp[Op.operands]);unfold bh;simp_all
 | convert a b x=>rw[ah]at h;have h1:=h x (by simp[Op.operands]);unfold bh;simp_all
 | makeFunc fn first cH=>
  rw[ah]at h;have h1:cH.toList.map aG=cH.toList.map jh:=List.map_congr_left λp hp=>h p (by simp[Op.operands];simp_all);have h2:first.toList.map aG=first.toList.map jh:=List.map_congr_left λp hp=>h p (by simp[Op.operands];simp_all)
  unfold bh;rw[ah];simp only[h1,h2]
 | lookup ty m x ok=>
  rw[ah]at h;have h1:=h m (by simp[Op.operands]);have h2:=h x (by simp[Op.operands]);unfold bh;rw[ah];simp only[y4,h1,h2]
 | mapUpdate ty m x y=>
  rw[ah]at h;have h1:=h m (by simp[Op.operands]);have h2:=h x (by simp[Op.operands]);have h3:=h y (by simp[Op.operands]);unfold bh;rw[ah];simp only[qJ,h1,h2,h3]
 | insert ty m x y=>
  rw[ah]at h;have h1:=h m (by simp[Op.operands]);have h2:=h x (by simp[Op.operands]);have h3:=h y (by simp[Op.operands]);unfold bh;rw[ah];simp only[qJ,h1,h2,h3]
 | makeSlice ty l c=>
  rw[ah]at h;have h1:=h l (by simp[Op.operands]);have h2:=h c (by simp[Op.operands]);unfold bh;rw[ah];simp only[Fb,h1,h2]
 | slice ty x lo G oW=>
  rw[ah]at h;have h1:=h x (by simp[Op.operands]);have h2:kY aG lo=kY jh lo:=KL λy aO=>h y (by subst aO;simp[Op.operands]);have h3:kY aG G=kY jh G:=KL λy aO=>h y (by subst aO;simp[Op.operands]);have aT:kY aG oW=kY jh oW:=KL λy aO=>h y (by subst aO;simp[Op.operands]);unfold bh;rw[ah];simp only[E_,E',h1,h2,h3,aT]
 | call c=>
  rw[ah]at h;obtain⟨callee,args,cX⟩:=c;have dF:∀ x∈args.toList,aG x=jh x:=λx hx=>h x (by simp[Op.operands,Call.operands];simp_all);have an:args.toList.map aG=args.toList.map jh:=List.map_congr_left dF;unfold bh;rw[ah];simp only;unfold mA;simp only;split
  ·split
   ·unfold BQ;grind
   ·have o8:wP aG args.toList=wP jh args.toList:=by
     unfold wP;grind
    rw[o8];split
    ·unfold BV;split
     ·rename_i x y t u e1 e2;rw[dF x (by simp[e1]),dF y (by simp[e1])]
     ·rfl
    ·unfold BR;grind
   ·unfold BW;split
    ·rename_i x t e1 e2;rw[dF x (by simp[e1])]
    ·rfl
   ·unfold Fc;split
    ·rename_i x y t u e1 e2;rw[dF x (by grind),dF y (by grind)]
    ·rfl
   ·unfold rM;split
    ·rename_i x y l e1;have an:∀ k,mz aG k (y::l)=mz jh k (y::l):=λk=>KK (y::l) λp hp=>dF p (by rw[e1];exact List.mem_cons_of_mem _ hp);simp only[dF x (by simp[e1]),an]
    ·rfl
   ·unfold rM;split
    ·rename_i x y l e1;have an:∀ k,mz aG k (y::l)=mz jh k (y::l):=λk=>KK (y::l) λp hp=>dF p (by rw[e1];exact List.mem_cons_of_mem _ hp);simp only[dF x (by simp[e1]),an]
    ·rfl
   ·unfold BS;grind
   ·rfl
  ·split
   ·unfold Fa;simp only[an]
   ·rfl
  ·rfl
 | _=>unfold bh;rw[ah]
end
end Go.Fer
namespace Go.Fer
open Go.RowKit
def FF(want b:Bool):Bool:=match want with | true=>b | false=>!b
def kp(s:Nat->aF)(ops:Array Oper):Option (Nat×Bool)->Option (Option Bool)
 | none=>some none
 | some (j,want)=>match ops[j]? with
  | some o=>match o.dst with
   | some d=>match s d with
    | .val .bool b=>some (some (FF want b))
    | .hi g (.val .bool b)=>some (some (g&&FF want b))
    | _=>none
   | none=>none
  | none=>none
def FG(ops:Array Oper):Option (Nat×Bool)->List Nat
 | none=>[]
 | some (j,_)=>match ops[j]? with
  | some o=>o.dst.toList
  | none=>[]
def aex(l:List Operand):List Nat:=l.filterMap fun | .tmp t=>some t | _=>none
def Cq(ops:Array Oper)(o:Oper):List Nat:=FG ops o.guard++aex o.op.operands.toList
structure ez where
 cs:List Prop
 dst:Option Nat
 eR:aF
 hk:List (Nat×bw)
 kq:List Nat
 tA:List Nat
def ez.hX(r:ez)(s:az):az:=(s.fK r.hk).set r.dst r.eR
def ez.nG(r:ez):List Nat:=r.dst.toList
def ez.mK(r:ez):List Nat:=r.hk.map (·.1)
def Cr(cR q2:Bool)(bT c:Prop):List Prop:=(match cR with | true=>[] | false=>[bT])++(match q2 with | true=>[] | false=>[c])
def u3(U:dm)(T:Nat->af)(a6:Nat->Option aL)(ops:Array Oper)(s:az)(o:Oper):Option ez:=
 match kp s.ax ops o.guard with
 | none=>none
 | some g=>match (bh U T a6 (aW U s.ax) o).run s.ae with
  | none=>none
  | some res=>match g with
   | none=>some ⟨Cr (r0 (aW U s.ax) o) (mJ (aW U s.ax) o) res.bT res.c,o.dst,res.eR,res.hk,Cq ops o,(bh U T a6 (aW U s.ax) o).looks s.ae⟩
   | some b=>match res.hk with
    | []=>some ⟨Cr (r0 (aW U s.ax) o&&(mJ (aW U s.ax) o&&!res.eR.zu)) true (b=true->res.bT/\(res.c/\(use res.eR).1)) True,o.dst,.hi b (use res.eR).2,[],Cq ops o,(bh U T a6 (aW U s.ax) o).looks s.ae⟩
    | _=>none
def w6(U:dm)(T:Nat->af)(a6:Nat->Option aL)(ops:Array Oper):List Oper->az->Option (List ez×az)
 | [],s=>some ([],s)
 | o::os,s=>match u3 U T a6 ops s o with
  | none=>none
  | some r=>match w6 U T a6 ops os (r.hX s) with
   | none=>none
   | some (l,s')=>some (r::l,s')
def Cs(a b:List Nat):Bool:=a.all λx=>!b.contains x
def ez.apart(a b:ez):Bool:=Cs a.nG (b.kq++b.nG)&&Cs a.kq b.nG&&Cs a.mK (b.tA++b.mK)&&Cs a.tA b.mK
def hY(o:Oper):List Nat:=o.after.toList.filterMap λe=>if Region.binds .any e then some e.on else none
def Ct(acc:List Nat):List Nat->List Nat
 | []=>acc
 | x::l=>match acc.contains x with | true=>Ct acc l | false=>Ct (x::acc) l
theorem KM{x:Nat}:∀ {l acc:List Nat},x∈Ct acc l->x∈acc\/x∈l
 | [],acc,h=>.inl h
 | y::l,acc,h=>by
  unfold Ct at h;split at h
  ·exact (KM h).imp_right (List.mem_cons_of_mem _)
  ·rcases KM h with h | h
   ·rcases List.mem_cons.1 h with h | h
    ·exact .inr (h ▸ List.mem_cons_self)
    ·exact .inl h
   ·exact .inr (List.mem_cons_of_mem _ h)
def zw(acc:List (List Nat))(o:Oper):List (List Nat):=acc++[Ct [] ((hY o).flatMap λj=>j::acc.getD j [])]
def h_(ops:List Oper):List (List Nat):=ops.foldl zw []
def aey(cl:List (List Nat))(l:List ez):Bool:=
 (List.range l.length).all λj=>(List.range j).all λi=>match l[i]?,l[j]? with
  | some a,some b=>(cl.getD j []).contains i||a.apart b
  | _,_=>false
def Cu(ops:List Oper):Bool:=(List.range ops.length).all λj=>match ops[j]? with
 | some o=>(hY o).all λi=>decide (i<j)
 | none=>false
def zx(ops:List Oper)(l:List ez):Bool:=Cu ops&&aey (h_ ops) l
def w7(R:List Nat)(s s':az):Prop:=∀ t∈R,s.ax t=s'.ax t
def w8(B:List Nat)(s s':az):Prop:=∀ b∈B,s.ae b=s'.ae b
theorem FH{a b:List Nat}(h:Cs a b=true){x:Nat}(hx:x∈a):x ∉ b:=by
 have:=List.all_eq_true.1 h x hx;grind
theorem zy(s:az):∀ (l:List (Nat×bw)),(s.fK l).ax=s.ax:=by
 intro l;induction l generalizing s with
 | nil=>rfl
 | cons p l aJ=>simp only[az.fK];rw[aJ];rfl
theorem KN{b:Nat}:∀ (l:List (Nat×bw)) (s:az),b ∉ l.map (·.1)->(s.fK l).ae b=s.ae b:=by
 intro l;induction l with
 | nil=>intro s _;rfl
 | cons p l aJ=>
  intro s h;simp only[List.map_cons,List.mem_cons,not_or]at h;simp only[az.fK];rw[aJ _ h.2];simp[az.cb,h.1]
theorem KO{b:Nat}:∀ (l:List (Nat×bw)) (s s':az),b∈l.map (·.1)->(s.fK l).ae b=(s'.fK l).ae b:=by
 intro l;induction l with
 | nil=>simp
 | cons p l aJ=>
  intro s s' h;simp only[az.fK];by_cases ad:b∈l.map (·.1)
  ·grind
  ·rw[KN l _ ad,KN l _ ad];have:b=p.1:=by grind
   simp[az.cb,this]
theorem aez(s:az)(d:Option Nat)(v:aF):(s.set d v).ae=s.ae:=by cases d<;>rfl
theorem FI(r:ez)(s:az)(t:Nat):(r.hX s).ax t=if t∈r.nG then r.eR else s.ax t:=by
 unfold ez.hX ez.nG;cases h:r.dst with
 | none=>simp[az.set,zy]
 | some d=>simp[az.set,zy,eq_comm]
theorem w9(r:ez)(s:az)(b:Nat):(r.hX s).ae b=(s.fK r.hk).ae b:=by unfold ez.hX;rw[aez]
theorem Sk{r:ez}{s:az}{t:Nat}(h:t ∉ r.nG):(r.hX s).ax t=s.ax t:=by rw[FI,if_neg h]
theorem tB{r:ez}{s:az}{b:Nat}(h:b ∉ r.mK):(r.hX s).ae b=s.ae b:=by rw[w9];exact KN _ _ h
theorem az.ext'{s s':az}(h1:∀ t,s.ax t=s'.ax t)(h2:∀ b,s.ae b=s'.ae b):s=s':=by
 obtain⟨a,b⟩:=s;obtain⟨a',a1⟩:=s';rw[show a=a' from funext h1,show b=a1 from funext h2]
theorem aeA{a b:ez}(h1:∀ t∈a.nG,t ∉ b.nG)(h2:∀ x∈a.mK,x ∉ b.mK)(s:az):a.hX (b.hX s)=b.hX (a.hX s):=by
 apply az.ext'
 ·intro t;simp only[FI];grind
 ·intro x;by_cases aU:x∈a.mK
  ·have ad:=h2 x aU;rw[tB ad,w9,w9];exact KO _ _ _ aU
  ·rw[tB aU];by_cases ad:x∈b.mK
   ·rw[w9,w9];exact KO _ _ _ ad
   ·rw[tB ad,tB ad,tB aU]
def jD(l:List ez)(s:az):az:=l.foldl (λs r=>r.hX s) s
theorem aeB{R B:List Nat}:∀ (l:List ez) (s:az),(∀ r∈l,(∀ t∈R,t ∉ r.nG)/\∀ b∈B,b ∉ r.mK)->w7 R (jD l s) s/\w8 B (jD l s) s:=by
 intro l;induction l with
 | nil=>intro s _;exact⟨λ_ _=>rfl,λ_ _=>rfl⟩
 | cons r l aJ=>
  intro s h;obtain⟨h1,h2⟩:=aJ (r.hX s) λpS aY=>h pS (List.mem_cons_of_mem _ aY);have aa:=h r (List.mem_cons_self);exact⟨λt aI=>(h1 t aI).trans (Sk (aa.1 t aI)),λb ad=>(h2 b ad).trans (tB (aa.2 b ad))⟩
theorem aeC{R B:List Nat}{r:ez}{s s':az}(h1:w7 R s s')(h2:w8 B s s'):w7 R (r.hX s) (r.hX s')/\w8 B (r.hX s) (r.hX s'):=by
 refine⟨λt aI=>?_,λb ad=>?_⟩
 ·rw[FI,FI];split
  ·rfl
  ·exact h1 t aI
 ·by_cases hw:b∈r.mK
  ·rw[w9,w9];exact KO _ _ _ hw
  ·rw[tB hw,tB hw];exact h2 b ad
theorem aeD{R B:List Nat}(p:Nat×ez->Bool):∀ (l:List (Nat×ez)) (s s':az),w7 R s s'->w8 B s s'->(∀ r∈l,p r=false->(∀ t∈R,t ∉ r.2.nG)/\∀ b∈B,b ∉ r.2.mK)->
  w7 R (jD ((l.filter p).map (·.2)) s) (jD (l.map (·.2)) s')/\w8 B (jD ((l.filter p).map (·.2)) s) (jD (l.map (·.2)) s'):=by
 intro l;induction l with
 | nil=>intro s s' h1 h2 _;exact⟨h1,h2⟩
 | cons r l aJ=>
  intro s s' h1 h2 h;have an:=λpS aY=>h pS (List.mem_cons_of_mem _ aY);cases hp:p r with
  | true=>
   rw[List.filter_cons_of_pos hp];obtain⟨aP,aQ⟩:=aeC (r:=r.2) h1 h2;exact aJ _ _ aP aQ an
  | false=>
   rw[List.filter_cons_of_neg (by grind)];have aa:=h r (List.mem_cons_self) hp;exact aJ _ _ (λt aI=>(h1 t aI).trans (Sk (aa.1 t aI)).symm) (λb ad=>(h2 b ad).trans (tB (aa.2 b ad)).symm) an
theorem aeE{r:ez}:∀ (l:List ez) (s:az),(∀ x∈l,(∀ t∈r.nG,t ∉ x.nG)/\∀ b∈r.mK,b ∉ x.mK)->jD l (r.hX s)=r.hX (jD l s):=by
 intro l;induction l with
 | nil=>intro s _;rfl
 | cons x l aJ=>
  intro s h;have hx:=h x (List.mem_cons_self);show jD l (x.hX (r.hX s))=r.hX (jD l (x.hX s));rw[<-aeA hx.1 hx.2 s];grind
def iy:Nat->List ez->List (Nat×ez)
 | _,[]=>[]
 | n,r::l=>(n,r)::iy (n+1) l
theorem Sl:∀ (l m:List ez) (n:Nat),iy n (l++m)=iy n l++iy (n+l.length) m
 | [],m,n=>by rfl
 | r::l,m,n=>by simp only[List.cons_append,iy,Sl l m (n+1),List.length_cons];grind
theorem Cv:∀ (l:List ez) (n:Nat),(iy n l).map (·.2)=l
 | [],_=>rfl
 | r::l,n=>by simp only[iy,List.map_cons,Cv l (n+1)]
theorem zz:∀ {l:List ez} {n j:Nat} {x:ez},(j,x)∈iy n l->n<=j/\l[j - n]?=some x
 | r::l,n,j,x,h=>by
  simp only[iy,List.mem_cons,Prod.mk.injEq]at h;rcases h with⟨rfl,rfl⟩ | h
  ·simp
  ·obtain⟨h1,h2⟩:=zz h;grind
 | [],_,_,_,h=>by cases h
def ji(l:List ez)(s:az)(f:Nat->Bool):az:=jD (((iy 0 l).filter λp=>f p.1).map (·.2)) s
theorem Sm(l m:List ez)(s:az):jD (l++m) s=jD m (jD l s):=by simp[jD]
theorem KP{a b:ez}(h:a.apart b=true):(∀ t∈a.nG,t ∉ b.kq/\t ∉ b.nG)/\(∀ t∈a.kq,t ∉ b.nG)/\(∀ x∈a.mK,x ∉ b.tA/\x ∉ b.mK)/\∀ x∈a.tA,x ∉ b.mK:=by
 simp only[ez.apart,Bool.and_eq_true]at h;obtain⟨⟨⟨h1,h2⟩,h3⟩,aT⟩:=h;refine⟨λt aI=>?_,λt aI=>FH h2 aI,λx hx=>?_,λx hx=>FH aT hx⟩
 ·have:=FH h1 aI;grind
 ·have:=FH h3 hx;grind
theorem Sn{l:List ez}{s:az}{f:Nat->Bool}{i:Nat}{r:ez}(G:l[i]?=some r)(au:f i=false)
  (gq:∀ j x,j<i->l[j]?=some x->f j=false->x.apart r=true) (tC:∀ j x,i<j->l[j]?=some x->f j=true->r.apart x=true) :
  w7 r.kq (ji l s f) (jD (l.take i) s)/\w8 r.tA (ji l s f) (jD (l.take i) s)/\ji l s (λj=>if j=i then true else f j)=r.hX (ji l s f):=by
 obtain⟨bX,eG⟩:=List.getElem?_eq_some_iff.1 G;have hlen:(l.take i).length=i:=by grind
 have Sp:iy 0 l=iy 0 (l.take i)++(i,r)::iy (i+1) (l.drop (i+1)):=by
  have h1:l=l.take i++r::l.drop (i+1):=by
   have:=List.take_append_drop i l;rw[List.drop_eq_getElem_cons bX,eG]at this;grind
  have h2:=Sl (l.take i) (r::l.drop (i+1)) 0;rw[<-h1,hlen]at h2;simpa [iy]using h2
 have aeF:∀ p∈iy 0 (l.take i),p.1<i/\l[p.1]?=some p.2:=by
  rintro⟨j,x⟩ hp;obtain⟨_,h2⟩:=zz hp;grind
 have aw8:∀ p∈iy (i+1) (l.drop (i+1)),i<p.1/\l[p.1]?=some p.2:=by
  rintro⟨j,x⟩ hp;obtain⟨h1,h2⟩:=zz hp;grind
 have Sq:∀ x∈((iy (i+1) (l.drop (i+1))).filter λp=>f p.1).map (·.2),r.apart x=true:=by
  grind
 have hI:ji l s f=jD (((iy (i+1) (l.drop (i+1))).filter λp=>f p.1).map (·.2)) (jD (((iy 0 (l.take i)).filter λp=>f p.1).map (·.2)) s):=by
  unfold ji;rw[Sp,List.filter_append,List.filter_cons_of_neg (by grind),List.map_append,Sm]
 have o8:=aeB (R:=r.kq) (B:=r.tA) (((iy (i+1) (l.drop (i+1))).filter λp=>f p.1).map (·.2)) (jD (((iy 0 (l.take i)).filter λp=>f p.1).map (·.2)) s)
  (λx hx=>by
   have:=KP (Sq x hx);grind)
 have qV:=aeD (R:=r.kq) (B:=r.tA) (λp=>f p.1) (iy 0 (l.take i)) s s (λ_ _=>rfl) (λ_ _=>rfl) (λp hp aeG=>by
  obtain⟨h1,h2⟩:=aeF p hp;have:=KP (gq p.1 p.2 h1 h2 aeG);grind)
 rw[Cv]at qV;refine⟨λt aI=>by rw[hI];exact (o8.1 t aI).trans (qV.1 t aI),λb ad=>by rw[hI];exact (o8.2 b ad).trans (qV.2 b ad),?_⟩;rw[hI];unfold ji;have e1:(iy 0 (l.take i)).filter (λp=>if p.1=i then true else f p.1)=(iy 0 (l.take i)).filter λp=>f p.1:=by
  apply List.filter_congr;grind
 have e2:(iy (i+1) (l.drop (i+1))).filter (λp=>if p.1=i then true else f p.1)=(iy (i+1) (l.drop (i+1))).filter λp=>f p.1:=by
  apply List.filter_congr;grind
 rw[Sp,List.filter_append,List.filter_cons_of_pos (by simp),e1,e2,List.map_append,Sm];show jD _ (r.hX _)=_;refine aeE _ _ λx hx=>?_;have:=KP (Sq x hx);grind
theorem w_{p:Nat->Prop}:∀ (ops:List Oper) (acc:List (List Nat)),(∀ j i,i∈acc.getD j []->p j->p i)->(∀ j o,ops[j]?=some o->∀ i∈hY o,p (acc.length+j)->p i)->
  ∀ j i,i∈(ops.foldl zw acc).getD j []->p j->p i:=by
 intro ops;induction ops with
 | nil=>simp
 | cons o ops aJ=>
  intro acc h aw;refine aJ (zw acc o) (λj i G aD=>?_) λj hF j8 i G aD=>aw (j+1) hF (by grind) i G (by
   have:(zw acc o).length=acc.length+1:=by simp[zw]
   grind)
  unfold zw at G;rw[List.getD_eq_getElem?_getD,List.getElem?_append]at G;split at G
  ·grind
  ·rename_i bX;by_cases e:j=acc.length
   ·subst e;simp only[Nat.sub_self,List.getElem?_cons_zero,Option.getD_some]at G;have G:=(KM G).resolve_left (by simp);simp only[List.mem_flatMap,List.mem_cons]at G;obtain⟨k,aj,G⟩:=G;have u4:=aw 0 o (by simp) k aj (by omega);grind
   grind
theorem Sr{U:dm}{T:Nat->af}{a6:Nat->Option aL}{ops:Array Oper}:∀ (os:List Oper) (s:az) {l:List ez} {s':az},w6 U T a6 ops os s=some (l,s')->
  l.length=os.length/\s'=jD l s/\∀ i o,os[i]?=some o->∃ r,l[i]?=some r/\u3 U T a6 ops (jD (l.take i) s) o=some r:=by
 intro os;induction os with
 | nil=>intro s l s' h;cases h;exact⟨rfl,rfl,λi o h=>by cases h⟩
 | cons o os aJ=>
  intro s l s' h;simp only[w6]at h;split at h
  ·cases h
  ·rename_i r aa;split at h
   ·cases h
   ·rename_i l' aw9 an;cases h;obtain⟨h1,h2,h3⟩:=aJ _ an;refine⟨by grind,h2,λi hF j8=>?_⟩;cases i with
    | zero=>
     simp only[List.getElem?_cons_zero,Option.some.injEq]at j8;subst j8;exact⟨r,by simp,aa⟩
    | succ i=>
     obtain⟨pS,aP,aQ⟩:=h3 i hF (by grind);exact⟨pS,by grind,aQ⟩
theorem KQ{ops:Array Oper}{f iv:Nat->aF}{g:Option (Nat×Bool)}(h:∀ t∈FG ops g,f t=iv t):kp f ops g=kp iv ops g:=by
 unfold kp;cases g with
 | none=>rfl
 | some p=>
  obtain⟨j,want⟩:=p;simp only;cases aD:ops[j]? with
  | none=>rfl
  | some o=>
   simp only;cases aw:o.dst with
   | none=>rfl
   | some d=>
    simp only;rw[h d (by simp[FG,aD,aw])]
theorem Ss{U:dm}{T:Nat->af}{a6:Nat->Option aL}{ops:Array Oper}{s s':az}{o:Oper}{r:ez}(h:u3 U T a6 ops s o=some r)(h1:w7 r.kq s' s)(h2:w8 r.tA s' s):u3 U T a6 ops s' o=some r:=by
 have St:r.kq=Cq ops o/\r.tA=(bh U T a6 (aW U s.ax) o).looks s.ae:=by
  unfold u3 at h;grind
 rw[St.1]at h1;rw[St.2]at h2;have kJ:∀ x∈o.op.operands.toList,aW U s'.ax x=aW U s.ax x:=by
  intro x hx;cases x with
  | tmp t=>
   refine h1 t ?_;simp only[Cq,List.mem_append];exact .inr (List.mem_filterMap.2 ⟨.tmp t,hx,rfl⟩)
  | _=>rfl
 have e1:kp s'.ax ops o.guard=kp s.ax ops o.guard:=KQ λt aI=>h1 t (by simp[Cq,aI]);have e2:bh U T a6 (aW U s'.ax) o=bh U T a6 (aW U s.ax) o:=aew kJ;have e3:=ar.Q5 (H:=s.ae) (H':=s'.ae) (bh U T a6 (aW U s.ax) o) h2;have e4:r0 (aW U s'.ax) o=r0 (aW U s.ax) o:=by
  unfold r0;grind
 have eP:mJ (aW U s'.ax) o=mJ (aW U s.ax) o:=by
  unfold mJ;cases ah:o.op with
  | binOp op ty x y t=>
   rw[ah]at kJ;simp only;rw[kJ x (by simp[Op.operands])]
  | load ty x=>rw[ah]at kJ;simp only;rw[kJ x (by simp[Op.operands])]
  | store ty x y=>rw[ah]at kJ;simp only;rw[kJ x (by simp[Op.operands])]
  | call c=>
   obtain⟨callee,args,cX⟩:=c;rw[ah]at kJ;cases callee with
   | builtin b=>
    have cB:∀ x∈args.toList,aW U s'.ax x=aW U s.ax x:=λx hx=>kJ x (by simp[Op.operands,Call.operands];simp_all);simp only;unfold FE;grind
   | _=>rfl
  | _=>rfl
 unfold u3 at h ⊢;simp_all
universe u
def M.fail{β:Type}:M β:=⟨False,λ_=>False⟩
inductive bK where
 | undef
 | val (t:af)
 | dD (t:af)
 | loc (b off:Nat)
 | own (b:Nat)
 | sub (b:Nat)
 | fs (b:Nat)
 | jW (b:Nat)
 | cV
 | il (k:FuncId) (fE:z8')
 | tr (aK:af)
 | gN
 | hn (bs:List Nat)
 | iL (b:Nat)
 deriving DecidableEq
inductive bO where
 | cells (t:af) (l:List bK)
 | a8 (e:af)
 | hj (e:af)
 | mp (k v:af)
 | i_ (k v:af)
 | fL (t:af)
 | gm (t:af)
 | b9 (k v:af)
 | fQ (e:af) (t:bK)
def bK.cons(t:bK)(R:Type):Type:=
 match t with
 | .val t=>t.ai×R
 | .dD t=>t.ai×R
 | .sub _=>(Nat×Nat)×R
 | .tr aK=>(Nat×(List aK.ai->Prop)×List aK.ai×Bool)×R
 | .gN=>Nat×R
 | .iL _=>Nat×R
 | _=>R
def p5:List bK->Type->Type
 | [],R=>R
 | t::l,R=>t.cons (p5 l R)
def bO.cons(t:bO)(R:Type):Type:=
 match t with
 | .cells _ l=>p5 l R
 | .a8 e=>List e.ai×R
 | .hj e=>List e.ai×R
 | .mp k v=>List (k.ai×v.ai)×R
 | .i_ k v=>List (k.ai×v.ai)×R
 | .fL t=>t.ai×R
 | .gm t=>t.ai×R
 | .b9 k v=>(Option (k.ai×v.ai)×List (k.ai×v.ai))×R
 | .fQ e t=>(List e.ai×Nat)×t.cons R
def bO.Cw:bO->Bool
 | .cells _ _ | .a8 _ | .mp _ _ | .fL _ | .b9 _ _ | .fQ _ _=>true
 | _=>false
def bO.FJ(t u:bO):Bool:=
 match t,u with
 | .cells _ _,.cells _ _ | .cells _ _,.fL _ | .fL _,.cells _ _ | .fL _,.fL _ | .gm _,.cells _ _ | .gm _,.fL _=>true
 | .mp _ _,.mp _ _ | .i_ _ _,.mp _ _=>true
 | .a8 e,.a8 aV=>decide (e=aV)
 | .hj _,.a8 _=>true
 | _,_=>false
structure dp where
 bG:List (Nat×bK)
 bq:List (Nat×bO)
def o9:List (Nat×bO)->Type
 | []=>Unit
 | p::l=>p.2.cons (o9 l)
def oe:List (Nat×bK)->Type->Type
 | [],R=>R
 | p::l,R=>p.2.cons (oe l R)
def dp.ai(sh:dp):Type:=oe sh.bG (o9 sh.bq)
def u5(g:Nat->Nat×Nat)(fE:z8'):Nat->aF:=gP (fE.map λp=>.loc (g p.1).1 (g p.1).2 p.2)
def u6(g:Nat->Nat×Nat)(bs:List Nat):Nat->aF:=gP (bs.map λb=>.own (g b).1 (g b).2)
def bK.av(g:Nat->Nat×Nat)(t:bK){R:Type}(x:t.cons R):aF×R:=
 match t,x with
 | .undef,x=>(.undef,x)
 | .val t,x=>(.val t x.1,x.2)
 | .dD t,x=>(.dD t x.1,x.2)
 | .loc b off,x=>(.loc (g b).1 (g b).2 off,x)
 | .own b,x=>(.own (g b).1 (g b).2,x)
 | .sub b,x=>(.sub (g b).1 (g b).2 x.1.1 x.1.2,x.2)
 | .fs b,x=>(.fs (g b).1 (g b).2,x)
 | .jW b,x=>(.jW (g b).1 (g b).2,x)
 | .cV,x=>(.cV,x)
 | .il k fE,x=>(.il k fE.length (u5 g fE),x)
 | .tr aK,x=>(.tr x.1.1 aK x.1.2.1 x.1.2.2.1 x.1.2.2.2,x.2)
 | .gN,x=>(.gN x.1,x.2)
 | .hn bs,x=>(.agg bs.length (u6 g bs),x)
 | .iL b,x=>(.iL (g b).1 (g b).2 x.1,x.2)
def o_(g:Nat->Nat×Nat):(l:List bK)->{R:Type}->p5 l R->List aF×R
 | [],_,x=>([],x)
 | t::l,_,x=>let (a,y):=t.av g x;let (as,z):=o_ g l y;(a::as,z)
def bO.body(g:Nat->Nat×Nat)(t:bO){R:Type}(x:t.cons R):bC×R:=
 match t,x with
 | .cells t l,x=>let (as,y):=o_ g l x;(.cells t (gP as),y)
 | .a8 e,x=>(.a8 e x.1,x.2)
 | .hj e,x=>(.hj e x.1,x.2)
 | .mp k v,x=>(.mp k v x.1,x.2)
 | .i_ k v,x=>(.i_ k v x.1,x.2)
 | .fL t,x=>(.cells t (gP (nw t x.1)),x.2)
 | .gm t,x=>(.gm t x.1,x.2)
 | .b9 k v,x=>(.b9 k v x.1.1 x.1.2,x.2)
 | .fQ e t,x=>let (a,y):=t.av g x.2;(.fQ e x.1.1 x.1.2 a,y)
def ed(g:Nat->Nat×Nat):(l:List (Nat×bK))->{R:Type}->oe l R->List (Nat×aF)×R
 | [],_,x=>([],x)
 | p::l,_,x=>let (a,y):=p.2.av g x;let (as,z):=ed g l y;((p.1,a)::as,z)
def gS(g:Nat->Nat×Nat):(l:List (Nat×bO))->o9 l->List (Nat×bC)
 | [],_=>[]
 | p::l,x=>let (a,y):=p.2.body g x;(p.1,a)::gS g l y
def ff:List (Nat×aF)->Nat->aF
 | [],_=>.undef
 | p::l,i=>if i=p.1 then p.2 else ff l i
def eA:List (Nat×bC)->Nat->bw
 | [],_=>⟨0,.fm⟩
 | p::l,i=>if i=p.1 then ⟨0,p.2⟩ else eA l i
def Su(aeH:List (Nat×aF))(bs:List (Nat×bC)):az:=⟨ff aeH,eA bs⟩
def cL(b:Nat):Nat×Nat:=(b,0)
def dp.st(sh:dp)(A:sh.ai):az:=
 Su (ed cL sh.bG A).1 (gS cL sh.bq (ed cL sh.bG A).2)
def xa(H:Nat->bw)(t:af)(av:aF){R:Type}(r:Option (R×List Nat)):Option ((t.ai×R)×List Nat):=
 match (di t av).run H with
 | some (x,l)=>match r with
  | some (y,m)=>some ((x,y),l++m)
  | none=>none
 | none=>none
def KR(t:af)(av:aF){R:Type}(r:Option (R×List Nat)):Option ((t.ai×R)×List Nat):=
 match av with
 | .dD cE x=>match r with
  | some (y,m)=>if h:cE=t then some ((h ▸ x,y),m) else none
  | none=>none
 | _=>none
def KS(H:Nat->bw)(b:Nat)(av:aF){R:Type}(r:Option (R×List Nat)):Option (((Nat×Nat)×R)×List Nat):=
 match r with
 | some (y,m)=>match av with
  | .own a1 g=>if (a1 == b&&g == (H b).gen&&(H b).body.eZ)=true then some (((0,(H b).body.len),y),m) else none
  | .sub a1 g lo G=>if (a1 == b&&g == (H b).gen)=true then some (((lo,G),y),m) else none
  | _=>none
 | none=>none
def KT(aK:af)(av:aF){R:Type}(r:Option (R×List Nat)):Option (((Nat×(List aK.ai->Prop)×List aK.ai×Bool)×R)×List Nat):=
 match av with
 | .tr l kr L n st=>match r with
  | some (y,m)=>if h:kr=aK then some (((l,h ▸ L,h ▸ n,st),y),m) else none
  | none=>none
 | _=>none
def KU(av:aF){R:Type}(r:Option (R×List Nat)):Option ((Nat×R)×List Nat):=
 match av with
 | .gN l=>match r with
  | some (y,m)=>some ((l,y),m)
  | none=>none
 | _=>none
def KV(H:Nat->bw)(b:Nat)(av:aF){R:Type}(r:Option (R×List Nat)):Option ((Nat×R)×List Nat):=
 match av with
 | .iL a1 g i=>match r with
  | some (y,m)=>if (a1 == b&&g == (H b).gen)=true then some ((i,y),m) else none
  | none=>none
 | _=>none
def FK(H:Nat->bw)(b off:Nat)(av:aF):Bool:=
 match av with
 | .loc a1 g aeI=>a1 == b&&aeI == off&&g == (H b).gen
 | _=>false
def FL(H:Nat->bw)(b:Nat)(av:aF):Bool:=
 match av with
 | .own a1 g=>a1 == b&&g == (H b).gen
 | _=>false
def KW(H:Nat->bw)(b:Nat)(av:aF):Bool:=
 match av with
 | .fs a1 g=>a1 == b&&g == (H b).gen
 | _=>false
def KX(H:Nat->bw)(b:Nat)(av:aF):Bool:=
 match av with
 | .jW a1 g=>a1 == b&&g == (H b).gen
 | _=>false
def KY(av:aF):Bool:=
 match av with
 | .cV=>true
 | _=>false
def KZ(H:Nat->bw)(f:Nat->Nat)(k:FuncId)(fE:z8')(av:aF):Bool:=
 match av with
 | .il k' n cH=>k' == k&&n == fE.length&&(List.range n).all λi=>match fE[i]? with
  | some p=>FK H (f p.1) p.2 (cH i)
  | none=>false
 | _=>false
def K1(H:Nat->bw)(f:Nat->Nat)(bs:List Nat)(av:aF):Bool:=
 match av with
 | .agg n h=>n == bs.length&&(List.range n).all λi=>match bs[i]? with
  | some b=>FL H (f b) (h i)
  | none=>false
 | _=>false
def u7{aq:Type}(b:Bool)(r:Option aq):Option aq:=match b with | true=>r | false=>none
def bK.iR(H:Nat->bw)(f:Nat->Nat)(t:bK)(av:aF){R:Type}(r:Option (R×List Nat)):Option (t.cons R×List Nat):=
 match t with
 | .undef=>r
 | .val t=>xa H t av r
 | .dD t=>KR t av r
 | .loc b off=>u7 (FK H (f b) off av) r
 | .own b=>u7 (FL H (f b) av) r
 | .sub b=>KS H (f b) av r
 | .fs b=>u7 (KW H (f b) av) r
 | .jW b=>u7 (KX H (f b) av) r
 | .cV=>u7 (KY av) r
 | .il k fE=>u7 (KZ H f k fE av) r
 | .tr aK=>KT aK av r
 | .gN=>KU av r
 | .hn bs=>u7 (K1 H f bs av) r
 | .iL b=>KV H (f b) av r
def zA(H:Nat->bw)(f:Nat->Nat):(l:List bK)->(Nat->aF)->Nat->{R:Type}->Option (R×List Nat)->Option (p5 l R×List Nat)
 | [],_,_,_,r=>r
 | t::l,c,i,_,r=>t.iR H f (c i) (zA H f l c (i+1) r)
def K2(H:Nat->bw)(f:Nat->Nat)(t:af)(l:List bK)(b:bC){R:Type}(r:Option (R×List Nat)):Option (p5 l R×List Nat):=
 match b with
 | .cells cE c=>if cE=t/\t.size=l.length then zA H f l c 0 r else none
 | _=>none
def K3(e:af)(b:bC){R:Type}(r:Option (R×List Nat)):Option ((List e.ai×R)×List Nat):=
 match b with
 | .a8 aV xs=>match r with
  | some (y,m)=>if h:aV=e then some ((h ▸ xs,y),m) else none
  | none=>none
 | _=>none
def K4(k v:af)(b:bC){R:Type}(r:Option (R×List Nat)):Option ((List (k.ai×v.ai)×R)×List Nat):=
 match b with
 | .mp k' hS es=>match r with
  | some (y,m)=>if h:k'=k/\hS=v then some ((h.1 ▸ h.2 ▸ es,y),m) else none
  | none=>none
 | _=>none
def K5(k v:af)(b:bC){R:Type}(r:Option (R×List Nat)):Option (((Option (k.ai×v.ai)×List (k.ai×v.ai))×R)×List Nat):=
 match b with
 | .b9 k' hS c es=>match r with
  | some (y,m)=>if h:k'=k/\hS=v then some (((h.1 ▸ h.2 ▸ c,h.1 ▸ h.2 ▸ es),y),m) else none
  | none=>none
 | _=>none
def K6(H:Nat->bw)(f:Nat->Nat)(e:af)(t:bK)(b:bC){R:Type}(r:Option (R×List Nat)):Option (((List e.ai×Nat)×t.cons R)×List Nat):=
 match b with
 | .fQ aV xs i v=>match t.iR H f v r with
  | some (y,m)=>if h:aV=e then some (((h ▸ xs,i),y),m) else none
  | none=>none
 | _=>none
def K7(H:Nat->bw)(t:af)(b:bC){R:Type}(r:Option (R×List Nat)):Option ((t.ai×R)×List Nat):=
 match b with
 | .cells cE f=>if cE=t then xa H t (.agg t.size f) r else none
 | _=>none
def K8(H:Nat->bw)(t:af)(b:Nat){R:Type}(r:Option (R×List Nat)):Option ((t.ai×R)×List Nat):=
 match (di (.br t) (.loc b (H b).gen 0)).run H with
 | some (some x,l)=>match r with
  | some (y,m)=>some ((x,y),l++m)
  | none=>none
 | _=>none
def bO.iR(H:Nat->bw)(f:Nat->Nat)(t:bO)(b:Nat){R:Type}(r:Option (R×List Nat)):Option (t.cons R×List Nat):=
 match t with
 | .cells t l=>K2 H f t l (H b).body r
 | .a8 e=>K3 e (H b).body r
 | .hj e=>xa H (.slice e) (.own b (H b).gen) r
 | .mp k v=>K4 k v (H b).body r
 | .i_ k v=>xa H (.map k v) (.fs b (H b).gen) r
 | .fL t=>K7 H t (H b).body r
 | .gm t=>K8 H t b r
 | .b9 k v=>K5 k v (H b).body r
 | .fQ e t=>K6 H f e t (H b).body r
def xb(H:Nat->bw)(f:Nat->Nat):(l:List (Nat×bO))->Option (o9 l×List Nat)
 | []=>some ((),[])
 | p::l=>p.2.iR H f (f p.1) (xb H f l)
def xc(H:Nat->bw)(f:Nat->Nat):(l:List (Nat×bK))->(Nat->aF)->{R:Type}->Option (R×List Nat)->Option (oe l R×List Nat)
 | [],_,_,r=>r
 | p::l,c,_,r=>p.2.iR H f (c p.1) (xc H f l c r)
def dp.og(sh:dp):List Nat:=sh.bq.filterMap λp=>if p.2.Cw then some p.1 else none
def dp.zB(sh:dp)(f:Nat->Nat)(s:az):Option (sh.ai×List Nat):=
 match xc s.ae f sh.bG s.ax (xb s.ae f sh.bq) with
 | some (A,fl)=>if sh.og.all (λb=>!fl.contains (f b))=true then some (A,fl) else none
 | none=>none
def K9:List (Nat×bO)->Nat->Option bO
 | [],_=>none
 | p::l,b=>if b=p.1 then some p.2 else K9 l b
def K_(s:az)(i b a1 g':Nat):az:=
 match decide (a1≠b/\g'=(s.ae a1).gen),(s.ae a1).body with
 | true,.a8 e xs=>⟨λj=>if j=i then .own b ((s.ae b).gen+1) else s.ax j,λj=>if j=b then ⟨(s.ae b).gen+1,.a8 e xs⟩ else if j=a1 then ⟨(s.ae a1).gen+1,.fm⟩ else s.ae j⟩
 | _,_=>s
def K'(bs:List (Nat×bO))(s:az)(i b:Nat):az:=
 match s.ax i,K9 bs b with
 | .cV,some (.a8 e)=>⟨λj=>if j=i then .own b ((s.ae b).gen+1) else s.ax j,(s.cb b ⟨(s.ae b).gen+1,.a8 e []⟩).ae⟩
 | .own a1 g',some (.a8 _)=>K_ s i b a1 g'
 | _,_=>s
def La(bs:List (Nat×bO))(s:az)(c j b:Nat):az:=
 match (s.ae c).body with
 | .cells t f=>match f j,(s.ae b).body,K9 bs b with
  | .cV,.fm,some (.a8 e)=>(s.cb b ⟨(s.ae b).gen+1,.a8 e []⟩).cb c ⟨(s.ae c).gen,.cells t λq=>if q=j then .own b ((s.ae b).gen+1) else f q⟩
  | _,_,_=>s
 | _=>s
def FM(bs:List (Nat×bO)):List (Nat×bK)->az->az
 | [],s=>s
 | p::l,s=>FM bs l (match p.2 with | .own b=>K' bs s p.1 b | _=>s)
def FN(bs:List (Nat×bO))(c:Nat):List bK->Nat->az->az
 | [],_,s=>s
 | t::l,j,s=>FN bs c l (j+1) (match t with | .own b=>La bs s c j b | _=>s)
def FO(bs:List (Nat×bO)):List (Nat×bO)->az->az
 | [],s=>s
 | p::l,s=>FO bs l (match p.2 with | .cells _ ts=>FN bs p.1 ts 0 s | _=>s)
def dp.FP(sh:dp)(s:az):az:=FO sh.bq sh.bq (FM sh.bq sh.bG s)
def bO.Sv:bO->Bool
 | .a8 _ | .hj _ | .fQ _ _=>true
 | _=>false
def dp.FQ(sh:dp)(s:az):Bool:=sh.bq.all λp=>!(decide (wL<=p.1)&&p.2.Sv)||decide ((s.ae p.1).gen=0)
def dp.iR(sh:dp)(s:az):Option (sh.ai):=
 match sh.FQ (sh.FP s) with
 | true=>(sh.zB (λb=>b) (sh.FP s)).map (·.1)
 | false=>none
def dp.mL{β:Type}(sh:dp)(s:az)(k:sh.ai->M β):M β:=
 match sh.iR s with
 | some A=>k A
 | none=>M.fail
def bK.xd(t:bK){R:Type}(r:R):t.cons R:=
 match t with
 | .val t=>(t.cP,r)
 | .dD t=>(t.cP,r)
 | .sub _=>((0,0),r)
 | .tr _=>((0,λ_=>False,[],false),r)
 | .gN=>(0,r)
 | .iL _=>(0,r)
 | .undef | .loc _ _ | .own _ | .fs _ | .jW _ | .cV | .il _ _ | .hn _=>r
def Sw:(l:List bK)->{R:Type}->R->p5 l R
 | [],_,r=>r
 | t::l,_,r=>t.xd (Sw l r)
def bO.xd(t:bO){R:Type}(r:R):t.cons R:=
 match t with
 | .cells _ l=>Sw l r
 | .a8 _=>([],r)
 | .hj _=>([],r)
 | .mp _ _=>([],r)
 | .i_ _ _=>([],r)
 | .fL t=>(t.cP,r)
 | .gm t=>(t.cP,r)
 | .b9 _ _=>((none,[]),r)
 | .fQ _ t=>(([],0),t.xd r)
def Sx:(l:List (Nat×bO))->o9 l
 | []=>()
 | p::l=>p.2.xd (Sx l)
def Sy:(l:List (Nat×bK))->{R:Type}->R->oe l R
 | [],_,r=>r
 | p::l,_,r=>p.2.xd (Sy l r)
def dp.xd(sh:dp):sh.ai:=Sy sh.bG (Sx sh.bq)
structure SC where
 ts:af
 tr:af
 sh:ts.ai->M tr.ai
 dx:Bool
def aL.dc(c:aL):SC:=⟨c.ts,c.tr,c.sh,true⟩
def M.Cx{aq:Type}(m:M aq):Prop:=∀ x y,m.bD x->m.bD y->x=y
open Classical in
def M.val{aq:Type}(m:M aq)(d:aq):aq:=if h:∃ x,m.bD x then h.choose else d
def SC.fc(c:SC):aL:=⟨c.ts,c.tr,λx=>(c.sh x).b1,λx=>(c.sh x).val c.tr.cP⟩
structure IOC where
 b6:dp
 bD:dp
 ks:z9'
 j9:Nat
 sh:b6.ai->M bD.ai
structure ITC where
 ts:af
 aK:af
 pre:ts.ai->Prop
 seq:ts.ai->List aK.ai
inductive eN where
 | dc (c:SC)
 | io (c:IOC)
 | b9 (c:ITC)
 | Lb (c:SC)
 | FR (c:IOC) (sh:Nat->c.b6.ai->M c.bD.ai) (ids:List Nat)
 | ow (c:aL)
def FT(a6:Nat->Option aL)(Ψ:Nat->Option eN)(k:Nat):Option aL:=
 match Ψ k with
 | some (.dc c)=>match c.dx&&!ny c.tr with
  | true=>some c.fc
  | false=>none
 | some (.ow c)=>some c
 | some _=>none
 | none=>a6 k
def Lc(a6:Nat->Option aL)(Ψ:Nat->Option eN)(k:Nat):Option SC:=
 match Ψ k with
 | some (.dc c)=>some c
 | some _=>none
 | none=>(a6 k).bind λc=>if ny c.tr=true then none else some c.dc
structure hJ where
 aq:Type
 d:aq
 bT:Prop
 m:M aq
 st:aq->az
 Cy:Option (Bool->aq->az)
def qW(s:az)(o:Oper)(tr:af)(fl:List Nat)(v:aF):az:=(if tr.pure then s else s.cd fl).set o.dst v
def Cz(U:dm)(s:az)(o:Oper)(args:List Operand)(dc:SC):Option hJ:=
 match (iN dc.ts ((args.map (aW U s.ax)).map λv=>(use v).2)).run s.ae with
 | some (x,fl)=>some ⟨dc.tr.ai,dc.tr.cP,jz (args.map (aW U s.ax)),dc.sh x,λy=>qW s o dc.tr fl (qH dc.tr y),some λg y=>qW s o dc.tr fl (.hi g (qH dc.tr y))⟩
 | none=>none
def FU(U:dm)(s:az)(o:Oper)(args:List Operand)(dc:SC):Option hJ:=
 match (iN dc.ts ((args.map (aW U s.ax)).map λv=>(use v).2)).run s.ae with
 | some (x,_)=>some ⟨dc.tr.ai,dc.tr.cP,jz (args.map (aW U s.ax)),dc.sh x,λy=>s.set o.dst (qH dc.tr y),none⟩
 | none=>none
def CA(U:dm)(s:az)(o:Oper)(t:Nat)(args:List Operand):Option hJ:=
 match use (s.ax t) with
 | (bT,.val (.fn a b) f)=>match (iN a ((args.map (aW U s.ax)).map λv=>(use v).2)).run s.ae with
  | some (x,fl)=>some ⟨b.ai,b.cP,bT/\jz (args.map (aW U s.ax)),f x,λy=>qW s o b fl (qH b y),some λg y=>qW s o b fl (.hi g (qH b y))⟩
  | none=>none
 | _=>none
def Sz(t:bK)(av:aF):z8':=
 match t,av with
 | .loc a1 _,.loc b _ _=>[(a1,b)]
 | .own a1,.own b _=>[(a1,b)]
 | .sub a1,.own b _=>[(a1,b)]
 | .sub a1,.sub b _ _ _=>[(a1,b)]
 | .fs a1,.fs b _=>[(a1,b)]
 | .jW a1,.jW b _=>[(a1,b)]
 | .il _ fE,.il _ _ cH=>(List.range fE.length).filterMap λi=>match fE[i]?,cH i with
  | some p,.loc b _ _=>some (p.1,b)
  | _,_=>none
 | _,_=>[]
def SA:List bK->(Nat->aF)->Nat->z8'
 | [],_,_=>[]
 | t::l,c,i=>Sz t (c i)++SA l c (i+1)
def Ld:z8'->Nat->Option Nat
 | [],_=>none
 | p::l,b=>if b=p.1 then some p.2 else Ld l b
def SB(H:Nat->bw):List (Nat×bO)->z8'->z8'
 | [],m=>m
 | p::l,m=>SB H l (m++match p.2,Ld m p.1 with
  | .cells _ ts,some b=>(match (H b).body with | .cells _ c=>SA ts c 0 | _=>[])
  | _,_=>[])
def aeJ(sh:dp)(s:az):z8':=SB s.ae sh.bq (sh.bG.flatMap λp=>Sz p.2 (s.ax p.1))
def r1(s:az)(avs:List aF):az:=⟨λi=>if i=TRS then s.ax TRS else if i<avs.length then avs.getD i .undef else .undef,s.ae⟩
def mM:Nat:=99999
def r2(s:az)(d:Nat)(f:Nat->Nat)(ins:List Nat):List (Nat×bO)->Nat->z6'
 | [],_=>[]
 | p::l,j=>(if ins.contains p.1 then (p.1,(f p.1,match p.2 with
   | .cells _ _ | .fL _ | .mp _ _ | .gm _ | .i_ _ _=>(s.ae (f p.1)).gen
   | .a8 _=>if wL<=p.1 then (s.ae (f p.1)).gen else (s.ae (f p.1)).gen+1
   | _=>(s.ae (f p.1)).gen+1)) else (p.1,(50000+10*d+j,(s.ae (50000+10*d+j)).gen+1)))::r2 s d f ins l (j+1)
def hK:z6'->Nat->Nat×Nat
 | [],_=>(mM,0)
 | p::l,b=>if b=p.1 then p.2 else hK l b
def o':z9'->(Nat->aF)->Nat->List aF
 | [],_,_=>[]
 | none::l,c,i=>c i::o' l c (i+1)
 | some n::l,c,i=>.agg n (λj=>c (i+j))::o' l c (i+n)
def Le(l:List aF):aF:=
 match l with
 | [v]=>v
 | l=>.pT l.length (gP l)
def xe(s:az)(c:IOC)(f:Nat->Nat)(bW:z6')(τ:c.bD.ai):az:=
 ⟨λi=>if i=TRS then (if c.bD.bG.any (λp=>p.1 == TRS) then ff (ed (hK bW) c.bD.bG τ).1 TRS else if c.b6.bG.any (λp=>p.1 == TRS) then .undef else s.ax TRS) else s.ax i,λb=>match bW.find? (λp=>p.2.1 == b) with
  | some p=>⟨p.2.2,(eA (gS (hK bW) c.bD.bq (ed (hK bW) c.bD.bG τ).2) p.1).body⟩
  | none=>if (c.b6.og.map f).contains b then ⟨(s.ae b).gen+1,.fm⟩ else s.ae b⟩
def aeK(s:az)(o:Oper)(c:IOC)(f:Nat->Nat)(bW:z6')(τ:c.bD.ai):az:=
 az.set (xe s c f bW τ) o.dst (Le (o' c.ks (ff (ed (hK bW) c.bD.bG τ).1) 0))
def FV(l:List Nat):Bool:=decide l.Nodup
def CB(c:IOC)(f:Nat->Nat)(du:az)(bW:z6')(d n:Nat):Bool:=
  decide (d < 4000) && decide (c.bD.bq.length <= 10) && FV (c.b6.bq.map (·.1)) && FV (c.b6.bq.map λp => f p.1) && FV (bW.map (·.1)) && FV (bW.map (·.2.1)) && (c.b6.bq.map (·.1)).all (λb => decide (eC <= b))
        &&!(bW.map (·.2.1)).contains mM&&(match (du.ae mM).body with | .fm=>true | _=>false)&&c.bD.bq.all (λp=>c.b6.bq.all λq=>!(p.1 == q.1&&q.2.Cw)||p.2.FJ q.2)&&(decide (n=c.j9)&&decide (n<=eC))
def qX(U:dm)(s:az)(args:List Operand):List aF:=(args.map (aW U s.ax)).map λv=>(use v).2
def qY(c:IOC)(eh:az)(b:Nat):Nat:=(Ld (aeJ c.b6 eh) b).getD mM
def xf(U:dm)(s:az)(o:Oper)(args:List Operand)(c:IOC):Option hJ:=
 match c.b6.zB (qY c (r1 s (qX U s args))) (r1 s (qX U s args)) with
 | some (A,fl)=>match CB c (qY c (r1 s (qX U s args))) (s.cd fl) (r2 (s.cd fl) (o.dst.getD 0) (qY c (r1 s (qX U s args))) c.b6.og c.bD.bq 0) (o.dst.getD 0) args.length with
  | true=>some ⟨c.bD.ai,c.bD.xd,jz (args.map (aW U s.ax)),c.sh A,λτ=>aeK (s.cd fl) o c (qY c (r1 s (qX U s args))) (r2 (s.cd fl) (o.dst.getD 0) (qY c (r1 s (qX U s args))) c.b6.og c.bD.bq 0) τ,none⟩
  | false=>none
 | none=>none
def SD:Nat:=999999
def SE(c:IOC)(sh:Nat->c.b6.ai->M c.bD.ai)(ids:List Nat)(n:Option Nat):IOC:={ c with sh:=λA=>M.ag (∃ k∈ids,n=some k) (sh (n.getD 0) A) }
def FW(U:dm)(Ψ:Nat->Option eN)(s:az)(o:Oper)(t:Nat)(args:List Operand):Option hJ:=
 match s.ax t with
 | .val .dT n=>match Ψ SD with
  | some (.FR c sh ids)=>xf U s o args (SE c sh ids n)
  | _=>none
 | _=>none
def FX(U:dm)(s:az)(o:Oper)(t:Nat)(args:List Operand):Option hJ:=
 match s.ax t,s.ax TRS with
 | .gN l',.tr l aK L n st=>match (iN aK ((args.map (aW U s.ax)).map λv=>(use v).2)).run s.ae with
  | some (x,fl)=>some ⟨Bool,false,jz (args.map (aW U s.ax)),M.ag (l'=l/\st=false/\∃ T,L (n++x::T)) (M.any λ_=>True),λb=>az.set ⟨λi=>if i=TRS then .tr l aK L (n++[x]) (!b) else s.ax i,(s.cd fl).ae⟩ o.dst (.val .bool b),none⟩
  | none=>none
 | _,_=>none
def FY(U:dm)(T:Nat->af)(s:az)(o:Oper)(ty:TypeId)(x:Operand):Option hJ:=
 match T ty,o.dst with
 | .map k v,some d=>match use (aW U s.ax x) with
  | (bT,av)=>match (di (.map k v) av).run s.ae with
   | some (es,fl)=>if fl.contains d then none else
    some ⟨Unit,(),bT,M.pure (),λ_=>((s.cd fl).cb d ⟨(s.ae d).gen+1,.b9 k v none es⟩).set o.dst (.jW d ((s.ae d).gen+1)),none⟩
   | none=>none
 | _,_=>none
def FZ{aq:Type}(l:List aq):M (Option Nat):=⟨True,λx=>match x with | none=>l=[] | some i=>i<l.length⟩
def SF(i:Option Nat):Nat:=match i with | none=>0 | some _=>2
def nH{aq:Type}(c:Option aq)(b5:List aq)(i:Option Nat):Option aq:=match i with | none=>c | some i=>b5[i]?
def CC{aq:Type}(b5:List aq)(i:Option Nat):List aq:=match i with | none=>b5 | some i=>b5.eraseIdx i
def F1(U:dm)(s:az)(o:Oper)(x:Operand)(str:Bool):Option hJ:=
 match str,aW U s.ax x with
 | false,.jW b g=>if (s.ae b).gen=g then (match (s.ae b).body with
  | .b9 k v c b5=>some ⟨Option Nat,none,True,FZ b5,λi=>(s.cb b ⟨g,.b9 k v (nH c b5 i) (CC b5 i)⟩).set o.dst (.pT (Nat.succ (SF i)) (gP [.val .bool i.isSome])),none⟩
  | _=>none) else none
 | _,_=>none
def F2(U:dm)(s:az)(o:Oper)(x:Operand):Option hJ:=
 match aW U s.ax x with
 | .jW b g=>if (s.ae b).gen=g then (match (s.ae b).body with
  | .b9 k v c _=>some ⟨Unit,(),True,M.ag (c.isSome=true) (M.pure ()),λ_=>s.set o.dst (.pT 2 (gP [.val k ((c.map (·.1)).getD k.cP),.val v ((c.map (·.2)).getD v.cP)])),none⟩
  | _=>none) else none
 | _=>none
def CD(U:dm)(T:Nat->af)(s:az)(o:Oper)(op:BinOp)(ty:TypeId)(x y:Operand):Option hJ:=
 match T ty,aW U s.ax y with
 | .slice e,.cV=>match (di (.slice e) (use (aW U s.ax x)).2).run s.ae with
  | some (xs,_)=>match op with
   | .eql=>some ⟨Bool,false,(use (aW U s.ax x)).1,M.any λb=>b=true->xs=[],λb=>s.set o.dst (.val .bool b),none⟩
   | .neq=>some ⟨Bool,false,(use (aW U s.ax x)).1,M.any λb=>b=true->xs=[],λb=>s.set o.dst (.val .bool (!b)),none⟩
   | _=>none
  | none=>none
 | _,_=>none
def qZ(U:dm)(T:Nat->af)(a6:Nat->Option aL)(Ψ:Nat->Option eN)(s:az)(o:Oper):Option hJ:=
 match o.op with
 | .call c=>match c.callee with
  | .value f=>match f with
   | .func k=>match Ψ k with
    | some (.io c')=>xf U s o c.args.toList c'
    | some (.Lb c')=>FU U s o c.args.toList c'
    | _=>match Lc a6 Ψ k with
     | some dc=>Cz U s o c.args.toList dc
     | none=>none
   | .tmp t=>match CA U s o t c.args.toList with
    | some r=>some r
    | none=>match FW U Ψ s o t c.args.toList with
     | some r=>some r
     | none=>FX U s o t c.args.toList
   | _=>none
  | _=>none
 | .range ty x=>FY U T s o ty x
 | .next x str=>F1 U s o x str
 | .entry x=>F2 U s o x
 | .binOp op ty x y _=>CD U T s o op ty x y
 | _=>none
def b7{aq:Type}(g:Bool)(m:M aq)(d:aq):M aq:=if g=true then m else M.pure d
def r3{β:Type}(b:Bool)(p:Prop)(m:M β):M β:=match b with | true=>m | false=>M.ag p m
def CE(o:Oper)(eR:aF)(l:List (Nat×bw)):Option (List (Nat×bw)×aF):=
 match l with
 | []=>some ([],eR)
 | p::l'=>match o.op with
  | .makeFunc ..=>some (p::l',eR)
  | .buildSlice _ n _=>match l',eR,p.2.body with
   | [],.own a1 g',.a8 e xs=>if (a1=p.1/\g'=p.2.gen)/\n≠0 then some ([(p.1,⟨p.2.gen,.fm⟩)],.val (.slice e) xs) else none
   | _,_,_=>none
  | _=>none
def SG(hk:List (Nat×bw))(eR:aF):aF:=
 match eR with
 | .own b _=>match hk.find? (λp=>p.1 == b) with
  | some (_,⟨_,.a8 e xs⟩)=>.val (.slice e) xs
  | _=>eR
 | _=>eR
abbrev pa:=List (Nat×(Nat×Bool))
def r4(ops:Array Oper)(j d:Nat):Bool:=match ops[j]? with | some o=>(match o.dst with | some e=>e == d | none=>false) | none=>false
def aeL(tg:pa)(t:Nat)(k:Nat×Bool):Bool:=tg.any λp=>p.1 == t&&(p.2.1 == k.1&&p.2.2 == k.2)
def xg(ops:Array Oper)(tg:pa)(o:Oper):pa:=
 match o.dst with
 | none=>tg
 | some d=>match o.guard with
  | some k=>if r4 ops k.1 d=true then tg.filter λp=>p.1 != d&&!r4 ops p.2.1 d else (d,k)::tg.filter λp=>p.1 != d&&!r4 ops p.2.1 d
  | none=>tg.filter λp=>p.1 != d&&!r4 ops p.2.1 d
def xh(aG:Operand->aF)(tg:pa)(gk:Option (Nat×Bool))(x:Operand):Bool:=
 !(aG x).zu||(match x,gk with | .tmp t,some k=>aeL tg t k | _,_=>false)
def F3(ops:Array Oper)(tg:pa)(c x:Operand)(want:Bool):Bool:=
 match c,x with
 | .tmp c,.tmp t=>tg.any λp=>p.1 == t&&(r4 ops p.2.1 c&&p.2.2 == want)
 | _,_=>false
def pb(aG:Operand->aF)(tg:pa)(gk:Option (Nat×Bool))(o:Oper):Bool:=o.op.operands.toList.all (xh aG tg gk)
def zC(aG:Operand->aF)(ops:Array Oper)(tg:pa)(gk:Option (Nat×Bool))(o:Oper):Bool:=
 match o.op with
 | .pick c a b=>xh aG tg gk c&&((xh aG tg gk a||F3 ops tg c a true)&&(xh aG tg gk b||F3 ops tg c b false))
 | _=>pb aG tg gk o
def Lf(aG:Operand->aF)(tg:pa)(gk:Option (Nat×Bool))(o:Oper)(eR:aF):Bool:=
 !eR.zu||(match o.op with | .move x=>xh aG tg gk x | _=>false)
def hZ:Operand->Option Nat
 | .tmp t=>some t
 | _=>none
def zD(o gb kK:Oper):Option (Oper×Nat×Nat):=
 match o.op with
 | .mapEntry ty m x=>match gb.op with
  | .extract e 1=>match kK.op with
   | .entryStore mB df aV y=>match o.dst,gb.dst,kK.dst with
    | some d1,some d2,none=>if hZ e=some d1/\hZ aV=some d2/\mB=ty/\(hZ df).isSome=true/\hZ df=hZ m/\(hZ y).isSome=true/\hZ m≠some d1/\hZ m≠some d2/\hZ y≠some d1/\hZ y≠some d2/\o.guard.isNone=true/\gb.guard.isNone=true/\kK.guard.isNone=true
     then some ({ kK with op:=.mapUpdate ty m x y },d1,d2) else none
    | _,_,_=>none
   | _=>none
  | _=>none
 | _=>none
def zE(o:Oper)(os:List Oper):Option (Oper×Nat×Nat):=
 match os with
 | gb::kK::_=>zD o gb kK
 | _=>none
def F4{β:Type}:Nat->Int->(Nat->M β)->M β
 | 0,_,_=>M.fail
 | 1,_,k=>k 0
 | n+2,v,k=>if v=((n+1:Nat):Int) then k (n+1) else F4 (n+1) v k
theorem SH{β:Type}{O:β->Prop}{k:Nat->M β}{v:Int}:∀ {n:Nat},M.ca (F4 n v k) O->0<=v->v<(n:Int)->M.ca (k v.toNat) O
 | 0,h,_,_=>h.1.elim
 | 1,h,h0,h1=>by
  have:v.toNat=0:=by omega
  rw[this];exact h
 | n+2,h,h0,h1=>by
  unfold F4 at h;split at h
  ·grind
  ·exact SH h h0 (by omega)
def ma{β:Type}(U:dm)(T:Nat->af)(a6:Nat->Option aL)(Ψ:Nat->Option eN)(ops:Array Oper):List Oper->pa->az->(az->M β)->M β
 | [],_,s,k=>k s
 | o::os,tg,s,k=>
  match zE o os with
  | some (oU,d1,d2)=>match os with
   | _::_::aeM=>match (bh U T a6 (aW U s.ax) oU).run s.ae with
    | some res=>M.ag res.bT (M.ag res.c (ma U T a6 Ψ ops aeM [] (((s.hW none res).set (some d1) .undef).set (some d2) .undef) k))
    | none=>M.fail
   | _=>M.fail
  | none=>
  match kp s.ax ops o.guard with
  | none=>M.fail
  | some none=>match (bh U T a6 (aW U s.ax) o).run s.ae with
   | some res=>r3 (zC (aW U s.ax) ops tg none o) res.bT (r3 (mJ (aW U s.ax) o) res.c (ma U T a6 Ψ ops os (xg ops tg o) (s.hW o.dst res) k))
   | none=>match qZ U T a6 Ψ s o with
    | some pr=>r3 (r0 (aW U s.ax) o) pr.bT (M.bind pr.m λy=>ma U T a6 Ψ ops os [] (pr.st y) k)
    | none=>M.fail
  | some (some g)=>match (bh U T a6 (aW U s.ax) o).run s.ae with
   | some ⟨bT,c,eR,hk⟩=>match CE o eR hk with
    | some (xi,r5)=>r3 (zC (aW U s.ax) ops tg o.guard o&&(mJ (aW U s.ax) o&&Lf (aW U s.ax) tg o.guard o r5)) (g=true->bT/\(c/\(use r5).1)) (ma U T a6 Ψ ops os (xg ops tg o) ((s.fK xi).set o.dst (.hi g (use r5).2)) k)
    | none=>if g=true then M.ag bT (M.ag c (ma U T a6 Ψ ops os [] (s.hW o.dst ⟨bT,c,eR,hk⟩) k)) else ma U T a6 Ψ ops os [] (s.set o.dst (.hi false (SG hk (use eR).2))) k
   | none=>match qZ U T a6 Ψ s o with
    | some pr=>match pr.Cy with
     | some gs=>r3 (pb (aW U s.ax) tg o.guard o) (g=true->pr.bT) (M.bind (b7 g pr.m pr.d) λy=>ma U T a6 Ψ ops os (xg ops tg o) (gs g y) k)
     | none=>if g=true then M.ag pr.bT (M.bind pr.m λy=>ma U T a6 Ψ ops os [] (pr.st y) k) else ma U T a6 Ψ ops os [] (s.set o.dst (.hi false (use ((pr.st pr.d).ax (o.dst.getD 0))).2)) k
    | none=>M.fail
def CF{β:Type}:List Prop->M β->M β
 | [],m=>m
 | p::l,m=>M.ag p (CF l m)
def zF(cl:List (List Nat)):Nat->Nat
 | 0=>0
 | n+1=>if (List.range n).all (λi=>(cl.getD n []).contains i)=true then zF cl n else n+1
def Lg(gg h' ho iz lK:Oper):Bool:=
 match gg.op,h'.op,ho.op with
 | .lookup ty m x false,.binOp .add _ (.tmp t) (.const (.int k c)) _,.mapEntry mB df dr=>match gg.dst,h'.dst,zD ho iz lK with
  | some dL,some fv,some (_,d1,d2)=>decide (t=dL/\mB=ty/\fA k c/\hZ df=hZ m/\hZ dr=hZ x/\dL≠fv/\dL≠d1/\dL≠d2/\fv≠d1/\fv≠d2/\d1≠d2/\
    (hZ m).isSome=true/\(hZ x).isSome=true/\hZ m≠some dL/\hZ m≠some fv/\hZ m≠some d1/\hZ m≠some d2/\hZ x≠some dL/\hZ x≠some fv/\hZ x≠some d1/\hZ x≠some d2/\gg.guard.isNone=true/\h'.guard.isNone=true)
  | _,_,_=>false
 | _,_,_=>false
def F5(ops:List Oper):Bool:=
 match ops.drop (ops.length - 5) with
 | [gg,h',ho,iz,lK]=>Lg gg h' ho iz lK&&(Cu ops&&((List.range 5).all λq=>(List.range (ops.length - 5)).all λi=>((h_ ops).getD (ops.length - 5+q) []).contains i)&&
   ((h_ ops).getD (ops.length - 5+1) []).contains (ops.length - 5)&&((h_ ops).getD (ops.length - 5+3) []).contains (ops.length - 5+2)&&((List.range 4).all λq=>((h_ ops).getD (ops.length - 5+4) []).contains (ops.length - 5+q))&&
   (hY ho).all (λi=>decide (i<ops.length - 5))&&(hY iz).all (λi=>decide (i<ops.length - 5)||decide (i=ops.length - 5+2)))
 | _=>false
def lL(ops:List Oper):Nat:=if F5 ops=true then ops.length - 5 else zF (h_ ops) ops.length
def M.aeN{aq:Type}(l:List (M aq)):M aq:=⟨∀ m∈l,m.b1,λx=>∃ m∈l,m.bD x⟩
def u9(ops:List Oper)(done:List Nat):List Nat:=(List.range ops.length).filter λi=>!done.contains i&&match ops[i]? with | some o=>(hY o).all λj=>done.contains j | none=>false
def q0(ops:List Oper):Nat->List Nat->List (List Nat)
 | 0,_=>[[]]
 | f+1,done=>match u9 ops done with
  | []=>[[]]
  | l=>l.flatMap λi=>(q0 ops f (i::done)).map (i::·)
def F6(ops:List Oper):Nat->List Nat->Bool
 | 0,done=>(u9 ops done).isEmpty
 | f+1,done=>(u9 ops done).all λi=>F6 ops f (i::done)
def F7{β:Type}(U:dm)(T:Nat->af)(a6:Nat->Option aL)(Ψ:Nat->Option eN)(ops:Array Oper)(o:Oper)(s:az)(k:az->M β):M β:=
 match o.guard with
 | some _=>M.fail
 | none=>match (bh U T a6 (aW U s.ax) o).run s.ae with
  | some res=>r3 (zC (aW U s.ax) ops [] none o) res.bT (r3 (mJ (aW U s.ax) o) res.c (k (s.hW o.dst res)))
  | none=>match qZ U T a6 Ψ s o with
   | some pr=>r3 (r0 (aW U s.ax) o) pr.bT (M.bind pr.m λy=>k (pr.st y))
   | none=>M.fail
def zG{β:Type}(U:dm)(T:Nat->af)(a6:Nat->Option aL)(Ψ:Nat->Option eN)(ops:Array Oper):List Nat->az->(az->M β)->M β
 | [],s,k=>k s
 | i::bU,s,k=>match ops[i]? with
  | some o=>F7 U T a6 Ψ ops o s λs'=>zG U T a6 Ψ ops bU s' k
  | none=>M.fail
def SI{β:Type}(U:dm)(T:Nat->af)(a6:Nat->Option aL)(Ψ:Nat->Option eN)(ops:Array Oper)(s:az)(k:az->M β):M β:=
 match F6 ops.toList ops.size [] with
 | true=>M.aeN ((q0 ops.toList ops.size []).map λl=>zG U T a6 Ψ ops l s k)
 | false=>M.fail
def zH{β:Type}(U:dm)(T:Nat->af)(a6:Nat->Option aL)(Ψ:Nat->Option eN)(ops:Array Oper)(s:az)(k:az->M β):M β:=
 match w6 U T a6 ops ops.toList s with
 | some (l,s')=>match zx ops.toList l with
  | true=>CF (l.flatMap ez.cs) (k s')
  | false=>M.fail
 | none=>match w6 U T a6 ops (ops.toList.take (lL ops.toList)) s with
  | some (l,s')=>match zx (ops.toList.take (lL ops.toList)) l&&Cu ops.toList with
   | true=>CF (l.flatMap ez.cs) (ma U T a6 Ψ ops (ops.toList.drop (lL ops.toList)) [] s' k)
   | false=>M.fail
  | none=>SI U T a6 Ψ ops s k
def k6(ops:List Oper):List Oper:=
 match ops with
 | []=>[]
 | o::l=>o::l.map λp=>{ p with after:=p.after.push ⟨0,.phase⟩ }
def Lh(ops:Array Oper):Bool:=
 match ops.toList with
 | []=>false
 | o::l=>(match o.op with | .move _=>true | _=>false)&&(o.guard.isNone&&(o.after.isEmpty&&(Region.noSelect ops&&l.all λp=>(hY p).contains 0||o.apart ops p)))
inductive ch where
 | ew
 | seq (a b:ch)
 | join (sh:dp) (a b:ch)
 | cond (a b:ch)
 | block (a:ch)
 | loop (sh:dp) (a:ch)
 | scope (a:ch)
 | range (sh rin rout:dp) (a b:ch)
 | nI (a b:ch)
 | split (i off n:Nat) (a:ch)
 | num (i n:Nat) (a:ch)
 | nD (i:Nat) (a:ch)
 | F8 (b:Nat) (a:ch)
 | F9
def ch.dO:ch->Bool
 | .ew=>true
 | .seq a b=>a.dO&&b.dO
 | .join _ a b=>a.dO&&b.dO
 | .cond a b=>a.dO&&b.dO
 | .block a=>a.dO
 | .loop _ a=>a.dO
 | .scope a=>a.dO
 | .range ..=>false
 | .nI a b=>a.dO&&b.dO
 | .split _ _ _ a=>a.dO
 | .num _ _ a=>a.dO
 | .nD _ a=>a.dO
 | .F8 _ a=>a.dO
 | .F9=>false
def ch.oh:ch->Bool
 | .nI ..=>true
 | .ew=>true
 | _=>false
inductive cT where
 | normal
 | exit (id:Nat)
 | ret
def cT.pc:cT->Exit
 | .normal=>.normal
 | .exit id=>.exit id
 | .ret=>.ret
open M (ab)
def SJ{β:Type}(k:cT->az->M β)(f:az->M β)(e:cT)(s:az):M β:=
 match e with
 | .normal=>f s
 | .exit id=>k (.exit id) s
 | .ret=>k .ret s
def xj{A β:Type}(k:cT->az->M β)(f:az->M (ab A β))(e:cT)(s:az):M (ab A β):=
 match e with
 | .normal=>f s
 | .exit id=>M.bind (k (.exit id) s) λr=>M.pure (.done r)
 | .ret=>M.bind (k .ret s) λr=>M.pure (.done r)
def SK{β:Type}(id:Nat)(k:cT->az->M β)(e:cT)(s:az):M β:=
 match e with
 | .normal=>k .normal s
 | .exit F_=>if F_=id then k .normal s else k (.exit F_) s
 | .ret=>k .ret s
def ab.bm{A β:Type}(f:A->M β)(st:ab A β):M β:=
 match st with
 | .next x=>f x
 | .done r=>M.pure r
def SL{β:Type}(v:aF)(m n:M β):M β:=
 match v with
 | .val .bool t=>if t=true then m else n
 | .hi g (.val .bool t)=>M.ag (g=true) (if t=true then m else n)
 | _=>M.fail
def p6(s:az)(i off:Nat):Option (Int×(Nat->az)):=
 match s.ax i with
 | .loc b _ o=>match (s.ae b).body with
  | .cells t f=>match f (o+off) with
   | .val (.int tD) x=>some (x,λj=>⟨s.ax,λa1=>if a1=b then ⟨(s.ae b).gen,.cells t λq=>if q=o+off then .val (.int tD) (j:Int) else f q⟩ else s.ae a1⟩)
   | _=>none
  | _=>none
 | _=>none
theorem aeO{s:az}{i off:Nat}{x:Int}{f:Nat->az}(h:p6 s i off=some (x,f))(h0:0<=x):f x.toNat=s:=by
 unfold p6 at h;split at h
 ·rename_i b g o hs;split at h
  ·rename_i t iv ad;split at h
   ·rename_i tD dr hx;simp only[Option.some.injEq,Prod.mk.injEq]at h;obtain⟨rfl,rfl⟩:=h;have e0:((dr.toNat:Nat):Int)=dr:=by omega
    have e1:(λq=>if q=o+off then aF.val (.int tD) (show (af.int tD).ai from ((dr.toNat:Nat):Int)) else iv q)=iv:=by
     grind
    have e2:(λa1=>if a1=b then (⟨(s.ae b).gen,.cells t iv⟩:bw) else s.ae a1)=s.ae:=by
     funext q;split
     ·rename_i e;rw[e,<-ad]
     ·rfl
    simp_all
   grind
  grind
 grind
def q1(s:az)(i:Nat):Option (Int×(Nat->az)):=
 match s.ax i with
 | .val (.int tD) x=>some (x,λn=>⟨λj=>if j=i then .val (.int tD) (n:Int) else s.ax j,s.ae⟩)
 | _=>none
theorem aeP{s:az}{i n:Nat}{x:Int}{f:Nat->az}(h:q1 s i=some (x,f))(h0:x=(n:Int)):f n=s:=by
 unfold q1 at h;split at h
 ·rename_i tD dr hs;simp only[Option.some.injEq,Prod.mk.injEq]at h;obtain⟨rfl,rfl⟩:=h;have e1:(λj=>if j=i then aF.val (.int tD) (show (af.int tD).ai from (n:Int)) else s.ax j)=s.ax:=by
   grind
  simp_all
 grind
def Li(s:az)(i:Nat):Option az:=
 match s.ax i with
 | .n5 b g n off=>match (s.ae b).body,off with
  | .a8 (.st (.slice e)) xs,0=>if g=(s.ae b).gen then some ⟨λj=>if j=i then .iL b g n else s.ax j,λa1=>if a1=b then ⟨g,.fQ (.st (.slice e)) xs n (.val (.slice e) (xs.getD n []))⟩ else s.ae a1⟩ else none
  | _,_=>none
 | _=>none
def Lj(s:az)(b:Nat):Option az:=
 match (s.ae b).body with
 | .fQ (.st (.slice e)) xs n v=>match (di (.slice e) v).run s.ae with
  | some (y,fl)=>if fl.contains b then none else some ((s.cd fl).cb b ⟨(s.ae b).gen,.a8 (.st (.slice e)) (xs.set n y)⟩)
  | none=>none
 | _=>none
def jE{A aq:Type}(body:A->aq->M (cT×A)):List aq->A->M (cT×A)
 | [],A=>M.pure (.normal,A)
 | x::xs,A=>M.bind (body A x) λp=>match p.1 with
  | .normal=>jE body xs p.2
  | .exit id=>M.pure (.exit id,p.2)
  | .ret=>M.pure (.ret,p.2)
def zI(aK:af)(x:aK.ai):List Tmp->Nat->(Nat->aF)->Nat->aF
 | [],_,f=>f
 | p::ps,i,f=>zI aK x ps (i+1) (λj=>if j=p then kl aK x i else f j)
def xk(s:az)(aK:af)(x:aK.ai)(ps:List Tmp):az:=⟨λi=>if i=TRS then s.ax TRS else zI aK x ps 0 s.ax i,s.ae⟩
def u_(rin rout:dp):IOC:=⟨rin,rout,[],0,λ_=>M.fail⟩
def tE{τ:Type}(sh rin rout:dp)(aK:af)(ps:List Tmp)(A:sh.ai)(x:aK.ai)(run:az->M (τ×rout.ai)):M (τ×sh.ai):=
 match rin.zB (qY (u_ rin rout) (xk (sh.st A) aK x ps)) (xk (sh.st A) aK x ps) with
 | some (aG,fl)=>match CB (u_ rin rout) (qY (u_ rin rout) (xk (sh.st A) aK x ps)) ((sh.st A).cd fl) (r2 ((sh.st A).cd fl) 0 (qY (u_ rin rout) (xk (sh.st A) aK x ps)) rin.og rout.bq 0) 0 0 with
  | true=>M.bind (run (rin.st aG)) λp=>sh.mL (xe ((sh.st A).cd fl) (u_ rin rout) (qY (u_ rin rout) (xk (sh.st A) aK x ps)) (r2 ((sh.st A).cd fl) 0 (qY (u_ rin rout) (xk (sh.st A) aK x ps)) rin.og rout.bq 0) p.2) λiA=>M.pure (p.1,iA)
  | false=>M.fail
 | none=>M.fail
def nJ(sh rout:dp)(aK:af)(ps:List Tmp)(nt:Nat):Bool:=
 rout.bG.isEmpty&&!sh.bG.any (λp=>p.1 == TRS)&&decide (aK≠.cA)&&decide (ps.length=jZ aK)&&ps.all λp=>decide (p<nt)
def Ga{β:Type}(f:az->M β)(e:cT)(s:az):M β:=
 match e with
 | .normal=>f s
 | .exit _=>M.fail
 | .ret=>M.fail
def r6{β:Type}(n:M β)(x:Nat->M β)(r:M β)(e:cT):M β:=
 match e with
 | .normal=>n
 | .exit id=>x id
 | .ret=>r
def Lk{β:Type}(k:cT->az->M β)(e:cT)(s:az):M β:=r6 (k .normal s) (λid=>k (.exit id) s) (k .ret s) e
theorem SM{β:Type}(k:cT->az->M β)(e:cT)(s:az):Lk k e s=k e s:=by cases e<;>rfl
def ej(U:dm)(T:Nat->af)(a6:Nat->Option aL)(Ψ:Nat->Option eN):ch->{β:Type}->Code->az->(cT->az->M β)->M β
 | .seq a b,_,c,s,k=>match c with
  | .seq x y=>ej U T a6 Ψ a x s (SJ k λs'=>ej U T a6 Ψ b y s' k)
  | _=>M.fail
 | .join sh a b,β,c,s,k=>match c with
  | .seq x y=>M.bind (ej U T a6 Ψ a (β:=ab sh.ai β) x s (xj k λs'=>sh.mL s' λA=>M.pure (.next A))) (ab.bm λA=>ej U T a6 Ψ b y (sh.st A) k)
  | _=>M.fail
 | .cond a b,_,c,s,k=>match c with
  | .cond c x y=>SL (aW U s.ax c) (ej U T a6 Ψ a x s k) (ej U T a6 Ψ b y s k)
  | _=>M.fail
 | .block a,_,c,s,k=>match c with
  | .block id c=>ej U T a6 Ψ a c s (SK id k)
  | _=>M.fail
 | .loop sh a,β,c,s,k=>match c with
  | .loop c=>sh.mL s λA=>M.loop (λA=>ej U T a6 Ψ a (β:=ab sh.ai β) c (sh.st A) (xj k λs'=>sh.mL s' λiA=>M.pure (.next iA))) A
  | _=>M.fail
 | .nI a b,_,c,s,k=>match c with
  | .loop x=>match b.oh with
   | true=>ej U T a6 Ψ a x s (SJ k λs'=>ej U T a6 Ψ b (.loop x) s' k)
   | false=>M.fail
  | _=>M.fail
 | .scope a,_,c,s,k=>match c with
  | .scope c=>ej U T a6 Ψ a c s k
  | _=>M.fail
 | .num i n a,_,c,s,k=>match q1 s i with
  | some (x,f)=>M.ag (x=(n:Int)) (ej U T a6 Ψ a c (f n) k)
  | none=>M.fail
 | .nD i a,_,c,s,k=>match Li s i with
  | some s'=>ej U T a6 Ψ a c s' k
  | none=>M.fail
 | .F8 b a,_,c,s,k=>match Lj s b with
  | some s'=>ej U T a6 Ψ a c s' k
  | none=>M.fail
 | .split i off n a,_,c,s,k=>match p6 s i off with
  | some (x,f)=>M.ag (0<=x/\x<(n:Int)) (F4 n x λj=>ej U T a6 Ψ a c (f j) k)
  | none=>M.fail
 | .range sh rin rout a b,_,c,s,k=>match c with
  | .rangeFunc g ps assign body=>match aW U s.ax g with
   | .rI q4 n eF=>match Ψ q4 with
    | some (.b9 ic)=>match (iN ic.ts ((List.range n).map eF)).run s.ae with
     | some (x,fl)=>match nJ sh rout ic.aK ps.toList eC&&(a.dO&&b.dO) with
      | true=>sh.mL (s.cd fl) λA=>M.ag (ic.pre x) (M.bind (jE (λA y=>tE sh rin rout ic.aK ps.toList A y λeh=>
       ej U T a6 Ψ a (β:=cT×rout.ai) assign eh (Ga λdu=>ej U T a6 Ψ b body du λe ek=>rout.mL ek λτ=>M.pure (e,τ))) (ic.seq x) A) λp=>Lk k p.1 (sh.st p.2))
      | false=>M.fail
     | none=>M.fail
    | _=>M.fail
   | .val (.b9 aK) S=>match nJ sh rout aK ps.toList eC&&(a.dO&&b.dO) with
    | true=>sh.mL s λA=>M.bind (M.any S) λL=>M.bind (jE (λA y=>tE sh rin rout aK ps.toList A y λeh=>
     ej U T a6 Ψ a (β:=cT×rout.ai) assign eh (Ga λdu=>ej U T a6 Ψ b body du λe ek=>rout.mL ek λτ=>M.pure (e,τ))) L A) λp=>Lk k p.1 (sh.st p.2)
    | false=>M.fail
   | _=>M.fail
  | _=>M.fail
 | .F9,_,c,s,k=>match c with
  | .region _ ops draw=>match draw&&Lh ops with
   | true=>zH U T (FT a6 Ψ) Ψ (k6 ops.toList).toArray s (k .normal)
   | false=>M.fail
  | _=>M.fail
 | .ew,_,c,s,k=>match c with
  | .region _ ops draw=>match draw with
   | true=>zH U T (FT a6 Ψ) Ψ ops s (k .normal)
   | false=>ma U T a6 Ψ ops ops.toList [] s (k .normal)
  | .skip=>k .normal s
  | .label _=>k .normal s
  | .exit id=>k (.exit id) s
  | .ret=>k .ret s
  | _=>M.fail
def k7(nt:Nat):Code->Bool
 | .region _ ops _=>ops.toList.all λo=>k4 o nt
 | .seq a b=>k7 nt a&&k7 nt b
 | .cond _ a b=>k7 nt a&&k7 nt b
 | .block _ a=>k7 nt a
 | .loop a=>k7 nt a
 | .scope a=>k7 nt a
 | .rangeFunc _ ps a b=>ps.toList.all (λp=>decide (p<nt))&&(k7 nt a&&k7 nt b)
 | .skip=>true
 | .label _=>true
 | .exit _=>true
 | .ret=>true
 | _=>false
end Go.Fer
