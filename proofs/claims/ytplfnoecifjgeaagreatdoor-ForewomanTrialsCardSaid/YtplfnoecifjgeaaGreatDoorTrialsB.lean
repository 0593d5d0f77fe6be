/- Part 2 of the proof of Trials: shallow programs of Go functions, and what they compute. No condition. -/
import Derived.Test.YtplfnoecifjgeaaGreatDoorTrialsA
import Derived.Laws.BytesString
noncomputable section
set_option linter.unusedVariables false
set_option linter.unusedSimpArgs false
namespace Go.Fer
open Go.RowKit
theorem BZ{p:Addr}(h:p.spot=none)(n:Nat):p.add n=⟨p.block,p.off+n,none⟩:=by
 obtain⟨b,o,sp⟩:=p;simp only at h;subst h;exact uV b o n
theorem J4{e:af}{xs:List e.ah}{i:Int}(h1:0<=i)(h2:i<(xs.length:Int)):kz e xs i=xs[i.toNat]'(by omega):=by
 unfold kz;grind
section
variable {C:bS} {T:Nat->af} {a1:Nat->Option aJ} {o:Oper} {s:ay} {res:d'}
theorem J5{P:Program}{w:World}{e:af}{ty:TypeId}(h:bQ P (.slice e) ty){p:Addr}(hp:p.spot=none){n cap:Nat}{k:IntKind}{i:Int}(h1:0<=i)(h2:i<(n:Int)) :
  (Instr.indexAt ty (.slice (some p) n cap) (.int k i)).run P w=.ok (.pointer (some ⟨p.block,p.off+i.toNat*e.size,none⟩)) w:=by
 obtain⟨j,aC,iO,_⟩:=h.sl;simp[Instr.indexAt,asIntOf,di aC,h1,h2,iO.size,BZ hp]
theorem adk(hT:dx C.P T){ty:TypeId}{x i:Operand}(a6:∀ i,o.dst=some i->i<C.nt)(ag:o.op=.indexAddr ty x i)(h:(bh C.aK T a1 (aT C.aK s.ax) o).run s.ad=some res):cn C o s res:=by
 simp only[bh,ag]at h;split at h
 ·rename_i e0 k n aG E;have cU:=hT.bO aG (by simp);simp only[bz,aq.eJ,Option.bind_eq_some_iff,aq.bx,Option.some.injEq]at h;obtain⟨⟨c,v⟩,gP,rfl⟩:=h;refine cn.pure (by grind) a6 λa w κ F G aY hc=>?_;have hx:bl C.P s.ad κ F w (use (aT C.aK s.ax x)).2 (a.eval x):=cv G x rfl aY.1;have h2:=n5 (cv G i rfl aY.2) E;have y_:∀ (xs:List e0.ah),bt C.P (.slice e0) F w [a.eval x] xs->0<=n/\n<(xs.length:Int)->∃ r,(execOp a.eval o).run C.P w=.ok (.value r) w/\bl C.P s.ad κ F w (.dz e0 (kz e0 xs n)) r:=by
   intro xs hG az;obtain⟨a',cap,e1,m1,m2,m3,m4⟩:=hG;have e1:=(List.cons.inj e1).1;cases a' with
   | none=>grind
   | some p=>
    obtain⟨dH,dM,jv⟩:=m4 p rfl (by omega);obtain⟨a_,d1,d2⟩:=jv n.toNat (by omega);refine⟨_,by simp[execOp,ag,e1,h2.1,J5 cU dM az.1 az.2],⟨p.block,p.off+n.toNat*e0.size,none⟩,a_,rfl,d1,?_⟩;rw[J4 az.1 az.2];exact d2
  unfold Q5 at gP;split at gP
  ·rename_i e xs eN;simp only[aq.bx]at gP;split at gP
   ·rename_i he;subst he;simp only[Option.some.injEq,Prod.mk.injEq]at gP;obtain⟨rfl,rfl⟩:=gP;rw[eN]at hx;exact y_ xs ((dy rfl).1 hx).2 hc
   grind
  ·rename_i b g eN;rw[eN]at hx;simp only[aq.eI,aq.bx]at gP;split at gP
   ·rename_i aA;have aN:=G.bp b;unfold cg at aN;split at gP
    ·rename_i e xs bD;split at gP
     ·rename_i he;subst he;simp only[Option.some.injEq,Prod.mk.injEq]at gP;obtain⟨rfl,rfl⟩:=gP;have hv:=hx.2 aA.symm (by rw[bD];rfl);rw[bD]at hv aN;have u2:(κ b).eL=false:=by
       cases az:(κ b).eL with
       | false=>rfl
       | true=>rw[aN.1 az]at hc;grind
      simp only[bo.slice,u2,Bool.false_eq_true,if_false,bB.len]at hv;refine⟨_,by simp[execOp,ag,hv,h2.1,J5 cU (p:=⟨(κ b).ad,(κ b).off,none⟩) rfl hc.1 hc.2];rfl,⟨hx.1.1,rfl⟩,λ_ _=>?_⟩;rw[bD];exact⟨by simp only[bB.len];omega,u2,rfl⟩
     grind
    ·rename_i e xs bD;split at gP
     ·rename_i he;subst he;simp only[Option.some.injEq,Prod.mk.injEq]at gP;obtain⟨rfl,rfl⟩:=gP;have hv:=hx.2 aA.symm (by rw[bD];rfl);rw[bD]at hv aN;simp only[bB.len]at hv;refine y_ xs ?_ hc;rw[hv];exact aN
     grind
    grind
   grind
  ·rename_i b g lo E eN;rw[eN]at hx;simp only[aq.eI,aq.bx]at gP;split at gP
   ·rename_i aA;have aN:=G.bp b;unfold cg at aN;split at gP
    ·rename_i e xs bD;split at gP
     ·rename_i he;subst he;simp only[Option.some.injEq,Prod.mk.injEq]at gP;obtain⟨rfl,rfl⟩:=gP;obtain⟨⟨aO,aP⟩,bA⟩:=hx.2 aA.symm (by rw[bD];rfl);rw[bD]at aP bA aN;simp only[bB.len,bB.eH]at aP bA;rcases bA with⟨az,_⟩ | ⟨az,l6,hv,o1,gh⟩
      ·rw[aN.1 az]at aP;grind
      ·obtain⟨cs,hH,c1,c2,c3,c4,c5⟩:=aN.2 az;refine⟨_,by simp[execOp,ag,hv,h2.1,J5 cU (p:=⟨(κ b).ad,l6,none⟩) rfl hc.1 hc.2];rfl,⟨hx.1.1,rfl⟩,λ_ _=>?_⟩;rw[bD];refine⟨by simp only[bB.len];omega,az,?_⟩;rw[gh (by omega)];simp only[bB.eH,Nat.add_mul];grind
     grind
    ·rename_i e xs bD;split at gP
     ·rename_i he;subst he;simp only[Option.some.injEq,Prod.mk.injEq]at gP;obtain⟨rfl,rfl⟩:=gP;obtain⟨⟨aO,aP⟩,bA⟩:=hx.2 aA.symm (by rw[bD];rfl);rw[bD]at aP bA aN;simp only[bB.len,bB.eH]at aP bA;have hlen:((xs.take E).drop lo).length=E - lo:=by grind
      obtain⟨r,bR,cp⟩:=y_ ((xs.take E).drop lo) (E0 aN aO aP bA) (by omega);refine⟨r,bR,?_⟩;have e1:kz e ((xs.take E).drop lo) n=kz e xs ((lo:Int)+n):=by
       rw[J4 hc.1 (by omega),J4 (by omega) (by omega)];grind
      grind
     grind
    grind
   grind
  ·simp_all
  ·cases gP
 ·rename_i m e0 k n aG E;split at h
  ·rename_i da aS xs eN;split at h
   ·rename_i he;obtain⟨rfl,rfl⟩:=he;simp only[bz,aq.bx,Option.some.injEq]at h;subst h;refine cn.pure (by grind) a6 λa w κ F G aY hc=>?_;have hx:bl C.P s.ad κ F w (use (aT C.aK s.ax x)).2 (a.eval x):=cv G x rfl aY.1;rw[eN]at hx;have h2:=n5 (cv G i rfl aY.2) E;obtain⟨j,aC,qH,_⟩:=(hT.bO aG (by simp)).a8;obtain⟨p,a_,hv,cA,nx⟩:=hx;obtain⟨c1,c2,c3,rfl,e2,e3⟩:=JS nx (i:=n.toNat) (by omega);refine⟨.pointer (some ⟨p.block,p.off+n.toNat*aS.size,none⟩),?_,⟨p.block,p.off+n.toNat*aS.size,none⟩,c2,rfl,⟨cA.1,rfl,λq bf=>?_⟩,e3⟩
    ·simp[execOp,ag,Instr.indexAt,hv,h2.1,asIntOf,di aC,hc.1,hc.2,qH.size,BZ cA.2.1,Instr.sureAddr]
    ·have:=cA.2.2 (c1.length+q) (by grind);grind
   ·cases h
  ·rename_i b g off eN;simp only[aq.eI,aq.bx]at h;split at h
   ·rename_i bb;simp only[Bool.and_eq_true,decide_eq_true_eq]at bb;simp only[Option.some.injEq]at h;subst h;refine cn.pure (by grind) a6 λa w κ F G aY hc=>?_;have h1:bl C.P s.ad κ F w (use (aT C.aK s.ax x)).2 (a.eval x):=cv G x rfl aY.1;rw[eN]at h1;have h2:=n5 (cv G i rfl aY.2) E;have h3:=h1.2 bb.1.symm bb.2;obtain⟨j,aC,qH,_⟩:=(hT.bO aG (by simp)).a8;exact⟨_,by simp[execOp,ag,Instr.indexAt,h3,h2.1,asIntOf,di aC,hc.1,hc.2,qH.size,BZ (p:=⟨(κ b).ad,off,none⟩) rfl,Instr.sureAddr],⟨h1.1.1,rfl⟩,λ_ _=>rfl⟩
   grind
  ·cases h
 ·cases h
theorem B0{a:Act}{w:World}{κ:Nat->bo}{F:Nat->Prop}(G:bc C s a w κ F){x:Option Operand}{p:Prop}{n:Option Int}(h:kU (aT C.aK s.ax) x=some (p,n))(hp:p) :
  (x=none/\n=none)\/∃ y k m,x=some y/\n=some m/\a.eval y=.int k m:=by
 cases x with
 | none=>simp only[kU,Option.some.injEq,Prod.mk.injEq]at h;grind
 | some y=>
  simp only[kU]at h;split at h
  ·rename_i q k m hu;simp only[Option.some.injEq,Prod.mk.injEq]at h;obtain⟨rfl,rfl⟩:=h;exact .inr ⟨y,k,m,rfl,rfl,(gE.1 (cv G y hu hp)).1⟩
  grind
theorem Rx{P:Program}{w:World}{isS:Bool}{len cap:Nat}{lo E:Option Value}{l h:Option Int}(ai:(lo=none/\l=none)\/∃ k m,lo=some (.int k m)/\l=some m)(cA:(E=none/\h=none)\/∃ k m,E=some (.int k m)/\h=some m)
  (h1:0<=cY l) (h2:cY l<=fg len h) (h3:fg len h<=(cap:Int)) (_h4:len<=cap):(Instr.sliceBounds isS len cap lo E none).run P w=.ok ((cY l).toNat,(fg len h).toNat,cap) w:=by
 rcases ai with⟨rfl,rfl⟩ | ⟨k,m,rfl,rfl⟩<;>rcases cA with⟨rfl,rfl⟩ | ⟨k',da,rfl,rfl⟩<;>simp only[cY,fg]at h1 h2 h3 ⊢
 ·rfl
 ·have:0<=da/\da<=(cap:Int):=by omega
  simp[Instr.sliceBounds,Instr.sliceBound,asIntOf,this]
 ·have:0<=m/\m<=(len:Int):=by omega
  simp[Instr.sliceBounds,Instr.sliceBound,asIntOf,this]
 ·have e1:0<=da/\da<=(cap:Int):=by omega
  have e2:0<=m/\m<=da:=by omega
  have e3:max da 0=da:=by omega
  simp[Instr.sliceBounds,Instr.sliceBound,asIntOf,e1,e2,e3]
theorem adl{l h:Option Int}{n m:Nat}(Ry:n<=m):BF l h n m<=m:=by
 unfold BF;grind
theorem adm(hT:dx C.P T){ty:TypeId}{x:Operand}{lo E:Option Operand}(a6:∀ i,o.dst=some i->i<C.nt)(ag:o.op=.slice ty x lo E none)(h:(bh C.aK T a1 (aT C.aK s.ax) o).run s.ad=some res):cn C o s res:=by
 simp only[bh,ag,Option.isSome_none,Bool.false_eq_true,if_false,E3]at h;split at h
 ·rename_i ol l qC lA pT J6;have au:∀ c,o.op≠.defer c:=by grind
  have rI:∀ (a:Act) (w:World) κ F,bc C s a w κ F->ol->qC->((lo.map a.eval=none/\l=none)\/∃ k m,lo.map a.eval=some (.int k m)/\l=some m)/\((E.map a.eval=none/\lA=none)\/∃ k m,E.map a.eval=some (.int k m)/\lA=some m):=by
   intro a w κ F G B1 B2;constructor
   ·rcases B0 G pT B1 with⟨rfl,rfl⟩ | ⟨y,k,m,rfl,rfl,e⟩
    ·exact .inl ⟨rfl,rfl⟩
    ·exact .inr ⟨k,m,by simp[e],rfl⟩
   ·rcases B0 G J6 B2 with⟨rfl,rfl⟩ | ⟨y,k,m,rfl,rfl,e⟩
    ·exact .inl ⟨rfl,rfl⟩
    ·exact .inr ⟨k,m,by simp[e],rfl⟩
  split at h
  ·rename_i e0 aG;have cU:=hT.bO aG (by simp);obtain⟨j,aC,iO,n8⟩:=cU.sl;simp only[aq.eJ,Option.bind_eq_some_iff]at h;obtain⟨⟨c,v⟩,fB,h⟩:=h;simp only[bz,aq.bx,Option.some.injEq]at h;subst h;have runs:∀ (a:Act) (w:World) κ F,bc C s a w κ F->ol->qC->∀ (q:Option Addr) (n cap:Nat),a.eval x=.slice q n cap->n<=cap->0<=cY l/\cY l<=fg n lA/\fg n lA<=(cap:Int)->
     (execOp a.eval o).run C.P w=.ok (.value (.slice (if cap=(cY l).toNat then q else q.map (·.add ((cY l).toNat*e0.size))) ((fg n lA).toNat - (cY l).toNat) (cap - (cY l).toNat))) w:=by
    intro a w κ F G B1 B2 q n cap hv az hc;obtain⟨dt,eG⟩:=rI a w κ F G B1 B2;have:=Rx (P:=C.P) (w:=w) (isS:=true) dt eG hc.1 hc.2.1 hc.2.2 az;simp[execOp,ag,hv,Instr.sliceAt,Instr.slice,di aC,this,iO.size]
   unfold Q6 at fB;split at fB
   ·rename_i e xs eN;simp only[aq.bx]at fB;split at fB
    ·rename_i he;subst he;simp only[Option.some.injEq,Prod.mk.injEq]at fB;obtain⟨rfl,rfl⟩:=fB;refine cn.pure au a6 λa w κ F G aY hc=>?_;have hx:bl C.P s.ad κ F w (use (aT C.aK s.ax x)).2 (a.eval x):=cv G x rfl aY.1;rw[eN]at hx;obtain⟨_,a',cap,e1,m1,m2,m3,m4⟩:=(dy rfl).1 hx;have e1:=(List.cons.inj e1).1;refine⟨_,runs a w κ F G aY.2.1 aY.2.2 a' xs.length cap e1 m1 ⟨hc.1,hc.2.1,by omega⟩,(dy rfl).2 ⟨rfl,?_⟩⟩;have hlen:((xs.take (fg xs.length lA).toNat).drop (cY l).toNat).length=(fg xs.length lA).toNat - (cY l).toNat:=by
      simp;omega
     refine⟨_,_,by rw[hlen],by omega,by omega,?_,λp hp uQ=>?_⟩
     ·intro az;split at az
      ·omega
      ·cases a' with
       | none=>have:=m3 rfl;omega
       | some q=>cases az
     ·cases a' with
      | none=>split at hp<;>cases hp
      | some q=>
       obtain⟨dH,dM,jv⟩:=m4 q rfl (by omega);have bf:∃ d,p=⟨q.block,q.off+d,none⟩/\(d=(cY l).toNat*e.size\/cap=(cY l).toNat):=by
        split at hp
        ·omega
        ·simp only[Option.map_some,Option.some.injEq]at hp;rw[BZ dM]at hp;grind
       obtain⟨d,rfl,wI⟩:=bf;refine⟨dH,rfl,λi E=>?_⟩;rw[hlen]at E;obtain⟨a_,d1,d2⟩:=jv ((cY l).toNat+i) (by omega);rcases wI with rfl | wU
       ·refine⟨a_,⟨d1.1,rfl,λk ao=>?_⟩,?_⟩
        ·have:=d1.2.2 k ao;rw[Nat.add_mul]at this;rw[show q.off+(cY l).toNat*e.size+i*e.size=q.off+((cY l).toNat*e.size+i*e.size) from by omega];exact this
        ·have e2:((xs.take (fg xs.length lA).toNat).drop (cY l).toNat)[i]'(by rw[hlen];exact E)=xs[(cY l).toNat+i]'(by omega):=by simp
         rw[e2];exact d2
       ·omega
    grind
   ·rename_i eN;simp only[aq.bx,Option.some.injEq,Prod.mk.injEq]at fB;obtain⟨rfl,rfl⟩:=fB;refine cn.pure au a6 λa w κ F G aY hc=>?_;have hx:bl C.P s.ad κ F w (use (aT C.aK s.ax x)).2 (a.eval x):=cv G x rfl aY.1;rw[eN]at hx;simp only[bl]at hx;have jx:0<=cY l/\cY l<=fg 0 lA/\fg 0 lA<=((0:Nat):Int):=hc;have cH:=runs a w κ F G aY.2.1 aY.2.2 none 0 0 hx (Nat.le_refl _) jx;have h0:(fg 0 lA).toNat=0:=by omega
    rw[h0]at cH;refine⟨_,cH,?_⟩;simp only[bl];simp
   ·rename_i b g eN;simp only[aq.eI,aq.bx]at fB;split at fB
    ·rename_i bb;simp only[Bool.and_eq_true,decide_eq_true_eq,beq_iff_eq]at bb;obtain⟨⟨aA,eO⟩,BR⟩:=bb;simp only[Option.some.injEq,Prod.mk.injEq]at fB;obtain⟨rfl,rfl⟩:=fB;refine cn.pure au a6 λa w κ F G aY hc=>?_;have hx:bl C.P s.ad κ F w (use (aT C.aK s.ax x)).2 (a.eval x):=cv G x rfl aY.1;rw[eN]at hx;have hv:=hx.2 aA.symm eO;obtain⟨dH,dM⟩:=y5 G eO;cases az:(κ b).eL with
     | true=>
      have h0:=dH az;simp only[bo.slice,az,if_true]at hv;rw[h0]at hc;have cH:=runs a w κ F G aY.2.1 aY.2.2 none 0 0 hv (Nat.le_refl _) hc;refine⟨_,cH,⟨hx.1.1,by rfl⟩,λ_ _=>⟨by grind,.inl ⟨az,?_⟩⟩⟩;grind
     | false=>
      have wU:=JT G eO az;simp only[bo.slice,az,Bool.false_eq_true,if_false]at hv;have cH:=runs a w κ F G aY.2.1 aY.2.2 _ _ _ hv wU ⟨hc.1,hc.2.1,by omega⟩;refine⟨_,cH,⟨hx.1.1,by rfl⟩,λ_ _=>⟨by omega,.inr ⟨az,?_⟩⟩⟩;rw[<-BR];by_cases lv:(κ b).cap=(cY l).toNat
      ·grind
      ·rw[if_neg lv];simp only[Option.map_some,uV];simp
    grind
   ·rename_i b g eV h0 eN;simp only[aq.eI,aq.bx]at fB;split at fB
    ·rename_i bb;simp only[Bool.and_eq_true,decide_eq_true_eq,beq_iff_eq]at bb;obtain⟨⟨aA,eO⟩,BR⟩:=bb;simp only[Option.some.injEq,Prod.mk.injEq]at fB;obtain⟨rfl,rfl⟩:=fB;refine cn.pure au a6 λa w κ F G aY hc=>?_;have hx:bl C.P s.ad κ F w (use (aT C.aK s.ax x)).2 (a.eval x):=cv G x rfl aY.1;rw[eN]at hx;obtain⟨⟨aO,aP⟩,bA⟩:=hx.2 aA.symm eO;obtain⟨dH,dM⟩:=y5 G eO;have rS:BF l lA (h0 - eV) ((s.ad b).body.len - eV)<=(s.ad b).body.len - eV:=adl (by omega);revert hc rS;generalize BF l lA (h0 - eV) ((s.ad b).body.len - eV)=lim;intro hc rS;rcases bA with⟨az,hv⟩ | ⟨az,l6,hv,o1,gh⟩
     ·have J7:=dH az;have e0:h0 - eV=0:=by omega
      have elim:lim=0:=by omega
      rw[e0,elim]at hc;grind
     ·have wU:=JT G eO az;have cH:=runs a w κ F G aY.2.1 aY.2.2 _ _ _ hv (by omega) ⟨hc.1,hc.2.1,by omega⟩;refine⟨_,cH,⟨hx.1.1,by rfl⟩,λ_ _=>⟨by omega,.inr ⟨az,?_⟩⟩⟩;rw[<-BR];rw[<-BR]at cH;have e1:(fg (h0 - eV) lA).toNat - (cY l).toNat=eV+(fg (h0 - eV) lA).toNat - (eV+(cY l).toNat):=by omega
      have e2:(κ b).cap - eV - (cY l).toNat=(κ b).cap - (eV+(cY l).toNat):=by omega
      rw[e1,e2];have e3:(eV+(cY l).toNat)*(s.ad b).body.eH=eV*(s.ad b).body.eH+(cY l).toNat*(s.ad b).body.eH:=Nat.add_mul _ _ _;by_cases lv:(κ b).cap - eV=(cY l).toNat
      ·rw[if_pos lv];exact⟨_,rfl,by omega,λh=>by omega⟩
      ·rw[if_neg lv];simp only[Option.map_some,uV];exact⟨_,rfl,by omega,λh=>by omega⟩
    grind
   ·cases fB
  ·rename_i aG;have cU:=(hT.bO aG (by simp)).str;split at h
   ·rename_i c v fB;simp only[bz,aq.bx,Option.some.injEq]at h;subst h;unfold Q7 at fB;split at fB
    ·rename_i xs eN;simp only[Option.some.injEq,Prod.mk.injEq]at fB;obtain⟨rfl,rfl⟩:=fB;refine cn.pure au a6 λa w κ F G aY hc=>?_;have hx:bl C.P s.ad κ F w (use (aT C.aK s.ax x)).2 (a.eval x):=cv G x rfl aY.1;rw[eN]at hx;obtain⟨hv,b4⟩:=lX.1 hx;obtain⟨dt,eG⟩:=rI a w κ F G aY.2.1 aY.2.2;have hs:ByteArray.size ⟨xs.toArray⟩=xs.length:=by rfl
     have:=Rx (P:=C.P) (w:=w) (isS:=false) (len:=xs.length) (cap:=xs.length) dt eG hc.1 hc.2.1 hc.2.2 (Nat.le_refl _);refine⟨.string ⟨((xs.take (fg xs.length lA).toNat).drop (cY l).toNat).toArray⟩,?_,lX.2 ⟨rfl,by grind⟩⟩;simp only[execOp,ag,hv,Instr.sliceAt,Instr.slice,Sem.run_bind,di cU,Result.andThen_ok,Option.map_none,Option.isSome_none,Bool.false_eq_true,if_false,hs,this,Sem.run_pure];have he:ByteArray.extract ⟨xs.toArray⟩ (cY l).toNat (fg xs.length lA).toNat=⟨((xs.take (fg xs.length lA).toNat).drop (cY l).toNat).toArray⟩:=by
      apply ByteArray.ext;rw[ByteArray.data_extract];grind
     rw[he]
    grind
   ·cases h
  ·cases h
 ·cases h
end
end Go.Fer
namespace Go.Fer
open Go.RowKit
def fW(P:Program)(e:af)(F:Nat->Prop)(w:World)(all:List Value)(xs:List e.ah):Prop:=
 all.length=xs.length*e.size/\∀ i (h:i<xs.length),bt P e F w ((all.drop (i*e.size)).take e.size) xs[i]
theorem fW.append{P:Program}{e:af}{F:Nat->Prop}{w:World}{l m:List Value}{xs ys:List e.ah}(h:fW P e F w l xs)(k:fW P e F w m ys):fW P e F w (l++m) (xs++ys):=by
 refine⟨by simp[h.1,k.1,Nat.add_mul],λi E=>?_⟩;by_cases hx:i<xs.length
 ·have e1:(xs++ys)[i]=xs[i]:=List.getElem_append_left hx;rw[e1];have hle:(i+1)*e.size<=xs.length*e.size:=Nat.mul_le_mul_right _ (by omega);rw[Nat.add_mul,Nat.one_mul]at hle;have:((l++m).drop (i*e.size)).take e.size=(l.drop (i*e.size)).take e.size:=by
   rw[List.drop_append_of_le_length (by rw[h.1];omega),List.take_append_of_le_length (by simp[h.1];omega)]
  rw[this];exact h.2 i hx
 ·have dp:i - xs.length<ys.length:=by grind
  have e1:(xs++ys)[i]=ys[i - xs.length]:=List.getElem_append_right (by omega);rw[e1];have an:i*e.size=xs.length*e.size+(i - xs.length)*e.size:=by rw[<-Nat.add_mul];grind
  have:(l++m).drop (i*e.size)=m.drop ((i - xs.length)*e.size):=by
   rw[an,<-h.1,List.drop_append,List.drop_of_length_le (by omega)];simp
  rw[this];exact k.2 _ dp
theorem fW.B3{P:Program}{e:af}{F:Nat->Prop}{w:World}{all pre post:List Value}{cs:Array Value}{xs:List e.ah}(h:fW P e F w all xs)(hc:cs.toList=pre++(all++post)):ln P e F w cs pre.length xs:=by
 intro i E;have hle:(i+1)*e.size<=xs.length*e.size:=Nat.mul_le_mul_right _ (by omega);rw[Nat.add_mul,Nat.one_mul]at hle;refine⟨_,λj aC=>?_,h.2 i E⟩;have fA:j<e.size:=by grind
 rw[<-Array.getElem?_toList,hc,List.getElem?_append_right (by omega),List.getElem?_append_left (by grind)];grind
theorem Fk{P:Program}{e:af}{F:Nat->Prop}{w:World}:∀ {xs:List e.ah} {p:Addr},(0<xs.length->p.spot=none)->(∀ i (h:i<xs.length),∃ a_,kk w ⟨p.block,p.off+i*e.size,none⟩ a_/\bt P e F w a_ xs[i])->
  ∃ all,fW P e F w all xs/\kk w p all
 | [],p,hp,_=>⟨[],⟨by simp,λi E=>by grind⟩,λh=>by grind,λj aC=>by grind⟩
 | x::xs,p,hp,h=>by
  obtain⟨a_,d1,d2⟩:=h 0 (by simp);have u1:=hC e d2;obtain⟨all,bV,a2⟩:=Fk (P:=P) (F:=F) (w:=w) (xs:=xs) (p:=⟨p.block,p.off+e.size,none⟩) (λ_=>rfl) (λi E=>by
   obtain⟨Rw,aO,aP⟩:=h (i+1) (by grind);grind)
  refine⟨a_++all,?_,λ_=>hp (by simp),λj aC=>?_⟩
  ·have h1:fW P e F w a_ [x]:=⟨by grind,λi E=>by
    have:i=0:=by grind
    subst this;grind⟩
   exact h1.append bV
  ·rcases Nat.lt_or_ge j a_.length with h1 | h1
   ·rw[List.getElem_append_left h1];have:=d1.2 j h1;grind
   ·rw[List.getElem_append_right h1];have:=a2.2 (j - a_.length) (by grind);grind
section
variable {C:bS} {T:Nat->af} {a1:Nat->Option aJ} {o:Oper} {s:ay} {res:d'}
theorem rT{a:Act}{w:World}{κ:Nat->bo}{F:Nat->Prop}(G:bc C s a w κ F){e:af}{av:aD}{v:Value}{ys:List e.ah}{l:List Nat}(h:(dd (.slice e) av).run s.ad=some (ys,l))(hv:bl C.P s.ad κ F w av v) :
  ∃ q cap,v=.slice q ys.length cap/\((q=none/\ys=[]/\cap=0)\/∃ p all,q=some p/\fW C.P e F w all ys/\kk w p all):=by
 have y_:∀ {xs:List e.ah},bt C.P (.slice e) F w [v] xs->∃ q cap,v=.slice q xs.length cap/\((q=none/\xs=[]/\cap=0)\/∃ p all,q=some p/\fW C.P e F w all xs/\kk w p all):=by
  intro xs hx;obtain⟨q,cap,e1,m1,m2,m3,m4⟩:=hx;refine⟨q,cap,(List.cons.inj e1).1,?_⟩;cases q with
  | none=>
   simp_all
  | some p=>
   obtain⟨all,bV,a2⟩:=Fk (P:=C.P) (F:=F) (w:=w) (xs:=xs) (p:=p) (λh=>(m4 p rfl (by omega)).2.1) (λi E=>let ⟨a_,d1,d2⟩:=(m4 p rfl (by omega)).2.2 i E;⟨a_,d1.JL,d2⟩);grind
 cases av with
 | val cD y=>
  simp only[dd,aq.bx,Option.map_eq_some_iff,Prod.mk.injEq]at h;obtain⟨z,bb,rfl,_⟩:=h;exact y_ (((dy rfl).1 (EZ bb hv)).2)
 | cR=>
  simp only[dd,kf,af.ee,if_true,dA,aq.bx,Option.some.injEq,Prod.mk.injEq]at h;obtain⟨rfl,_⟩:=h;simp only[bl]at hv;grind
 | own b g=>
  simp only[dd,kf,af.ee,if_true,dA,aq.eI,aq.bx]at h;split at h
  ·rename_i aA;have aN:=G.bp b;unfold cg at aN;split at h
   ·rename_i aS xs bD;simp only[Option.map_eq_some_iff,Prod.mk.injEq]at h;obtain⟨z,bb,rfl,_⟩:=h;obtain⟨qI,rfl⟩:=ky bb;cases qI;have tp:=hv.2 aA.symm (by rw[bD];rfl);rw[bD]at tp aN;simp only[bB.len]at tp;cases az:(κ b).eL with
    | true=>
     have hG:=aN.1 az;subst hG;simp only[bo.slice,az,if_true]at tp;grind
    | false=>
     obtain⟨cs,hH,c1,c2,c3,c4,c5⟩:=aN.2 az;simp only[bo.slice,az,Bool.false_eq_true,if_false]at tp;obtain⟨all,bV,a2⟩:=Fk (P:=C.P) (F:=F) (w:=w) (xs:=xs) (p:=⟨(κ b).ad,(κ b).off,none⟩) (λ_=>rfl) (λi E=>by
      obtain⟨a_,d1,d2⟩:=c5 i E;exact⟨a_,⟨λ_=>rfl,λj aC=>by rw[uX c1];grind⟩,d2⟩)
     grind
   ·rename_i aS xs bD;simp only[Option.map_eq_some_iff,Prod.mk.injEq]at h;obtain⟨z,bb,rfl,_⟩:=h;obtain⟨qI,rfl⟩:=ky bb;cases qI;have tp:=hv.2 aA.symm (by rw[bD];rfl);rw[bD]at tp aN;simp only[bB.len]at tp;simp only[jo]at aN;grind
   grind
  grind
 | sub b g lo E=>
  simp only[dd,kf,af.ee,if_true,dA,aq.eI,aq.bx]at h;split at h
  ·rename_i aA;have aN:=G.bp b;unfold cg at aN;split at h
   ·rename_i aS xs bD;simp only[Option.map_eq_some_iff,Prod.mk.injEq]at h;obtain⟨z,bb,rfl,_⟩:=h;obtain⟨qI,rfl⟩:=ky bb;cases qI;obtain⟨⟨aO,aP⟩,bA⟩:=hv.2 aA.symm (by rw[bD];rfl);rw[bD]at aP bA aN;simp only[bB.len,bB.eH]at aP bA;have hlen:((xs.take E).drop lo).length=E - lo:=by grind
    rcases bA with⟨az,tp⟩ | ⟨az,l6,tp,o1,gh⟩
    ·have hG:=aN.1 az;grind
    ·obtain⟨cs,hH,c1,c2,c3,c4,c5⟩:=aN.2 az;obtain⟨all,bV,a2⟩:=Fk (P:=C.P) (F:=F) (w:=w) (xs:=(xs.take E).drop lo) (p:=⟨(κ b).ad,l6,none⟩) (λ_=>rfl) (λi dp=>by
      rw[hlen]at dp;obtain⟨a_,d1,d2⟩:=c5 (lo+i) (by omega);refine⟨a_,⟨λ_=>rfl,λj aC=>?_⟩,?_⟩
      ·rw[uX c1,<-d1 j aC];grind
      grind)
     grind
   ·rename_i aS xs bD;simp only[Option.map_eq_some_iff,Prod.mk.injEq]at h;obtain⟨z,bb,rfl,_⟩:=h;obtain⟨qI,rfl⟩:=ky bb;cases qI;obtain⟨⟨aO,aP⟩,bA⟩:=hv.2 aA.symm (by rw[bD];rfl);rw[bD]at aP bA aN;exact y_ (E0 aN aO aP bA)
   grind
  grind
 | dz cD y=>simp[dd,kf,af.ee,dA,aq.none]at h
 | jn u=>simp[dd,kf,af.ee,dA,BB]at h
 | _=>simp[dd,kf,af.ee,dA,aq.none]at h
theorem y'{P:Program}{w:World}{e:af}{q:Option Addr}{n cap:Nat}{xs:List e.ah}{F:Nat->Prop}(az:n=xs.length)(h:(q=none/\xs=[]/\cap=0)\/∃ p all,q=some p/\fW P e F w all xs/\kk w p all) :
  ∃ all,(Builtin.firstCells e.size n (.slice q n cap)).run P w=.ok all.toArray w/\fW P e F w all xs:=by
 subst az;rcases h with⟨rfl,rfl,rfl⟩ | ⟨p,all,rfl,bV,a2⟩
 ·exact⟨[],by rfl,by simp[fW]⟩
 ·refine⟨all,?_,bV⟩;simp only[Builtin.firstCells];rw[<-bV.1];exact E_ a2
theorem adn(n:Nat):∀ (k c:Nat),Builtin.growBy n k c<=max c (2*n+768):=by
 intro k;induction k with
 | zero=>intro c;simp only[Builtin.growBy];omega
 | succ k aH=>
  intro c;simp only[Builtin.growBy];grind
theorem ado{Fl cap:Nat}(h:cap<Fl):Builtin.nextslicecap Fl cap<=2*Fl+768:=by
 unfold Builtin.nextslicecap;split
 ·omega
 ·split
  ·omega
  ·have:=adn Fl 4 cap;omega
theorem adp{z:Array Value}{n k:Nat}(h:z.size=k):(Builtin.zeroCells z n).size=n*k:=by simp[Builtin.zeroCells,h]
theorem adq{P:Program}{w:World}{e:af}{ty my:TypeId}{F:Nat->Prop}(h:bQ P (.slice e) ty)(c6:bQ P (.slice e) my\/∃ aS,bQ P (.slice aS) my){q q':Option Addr}{cap cap':Nat}{xs ys:List e.ah}
  (hx:(q=none/\xs=[]/\cap=0)\/∃ p all,q=some p/\fW P e F w all xs/\kk w p all) (aM:(q'=none/\ys=[]/\cap'=0)\/∃ p all,q'=some p/\fW P e F w all ys/\kk w p all)
  (hc:cap<xs.length+ys.length) (ai:bT (xs.length+ys.length)) (rt:TypeId) :
  ∃ jy qJ cs,(Builtin.append_ #[ty,my] rt #[.slice q xs.length cap,.slice q' ys.length cap']).run P w=.ok (.slice (some ⟨w.heap.size,0,none⟩) (xs.length+ys.length) qJ) (w.drew.alloc (.cells cs jy))/\
   qJ<2 ^ 63/\xs.length+ys.length<=qJ/\cs.size=qJ*e.size/\ln P e F w cs 0 (xs++ys):=by
 obtain⟨jy,aC,iO,n8⟩:=h.sl;obtain⟨jY,fA⟩:∃ jY,P.underlying my=some (.slice jY):=by
  rcases c6 with c6 | ⟨aS,c6⟩
  ·obtain⟨jY,k,_⟩:=c6.sl;grind
  ·obtain⟨jY,k,_⟩:=c6.sl;grind
 obtain⟨i,z,i1,i2,i3,i4,i5,i6⟩:=kh iO.kg;have bb:=(BV e (P:=P) i5).2;have adr:∀ t:Nat,xs.length+ys.length<=xs.length+ys.length+t % (2 ^ 63 - (xs.length+ys.length))/\xs.length+ys.length+t % (2 ^ 63 - (xs.length+ys.length))<2 ^ 63:=by
  intro t;unfold bT at ai;have:t % (2 ^ 63 - (xs.length+ys.length))<2 ^ 63 - (xs.length+ys.length):=Nat.mod_lt _ (by omega);omega
 generalize J8:xs.length+ys.length+(w.tape w.drawn (.appendCap (xs.length+ys.length) cap jy)) % (2 ^ 63 - (xs.length+ys.length))=qJ;have J9:=adr (w.tape w.drawn (.appendCap (xs.length+ys.length) cap jy));rw[J8]at J9;have Rz:∀ {p:Addr} {all:List Value},kk w p all->kk w.drew p all:=λh=>h;have RA:∀ {all:List Value} {zs:List e.ah},fW P e F w all zs->fW P e F w.drew all zs:=λh=>⟨h.1,λi E=>eS e (F:=F) (F':=F) (w:=w) (w':=w.drew) (λ_ G=>G) ⟨Nat.le_refl _,λ_ _=>rfl⟩ (h.2 i E)⟩
 have nw:(q=none/\xs=[]/\cap=0)\/∃ p all,q=some p/\fW P e F w.drew all xs/\kk w.drew p all:=hx.imp id λ⟨p,all,a,b,c⟩=>⟨p,all,a,RA b,Rz c⟩
 have B4:(q'=none/\ys=[]/\cap'=0)\/∃ p all,q'=some p/\fW P e F w.drew all ys/\kk w.drew p all:=aM.imp id λ⟨p,all,a,b,c⟩=>⟨p,all,a,RA b,Rz c⟩
 obtain⟨u3,o1,gh⟩:=y' (P:=P) (w:=w.drew) (cap:=cap) rfl nw;obtain⟨dZ,dH,dM⟩:=y' (P:=P) (w:=w.drew) (cap:=cap') rfl B4;refine⟨jy,qJ,u3.toArray++dZ.toArray++Builtin.zeroCells z.cells (qJ - (xs.length+ys.length)),?_,J9.2,J9.1,?_,?_⟩
 ·have ab:=ado hc;have qK:Builtin.nextslicecap (xs.length+ys.length) cap*i.bytes<=281474976710656:=by
   unfold bT at ai;calc Builtin.nextslicecap (xs.length+ys.length) cap*i.bytes<=(2*4294967296+768)*1024:=Nat.mul_le_mul (by omega) i3
    _<=281474976710656:=by decide
  have za:¬((xs.length+ys.length:Nat):Int) > IntKind.i64.max:=by
   unfold bT at ai;have:IntKind.i64.max=9223372036854775807:=by decide
   omega
  have ads:¬Builtin.nextslicecap (xs.length+ys.length) cap*i.bytes > 2 ^ 48:=by
   omega
  have RB:(Question.appendCap (xs.length+ys.length) cap jy).cut (w.tape w.drawn (.appendCap (xs.length+ys.length) cap jy))=qJ:=by
   rw[<-J8];rfl
  have adt:(Question.appendCap (xs.length+ys.length) cap jy).forced=false:=rfl;simp only[Builtin.append_,List.getElem?_toArray,List.getElem?_cons_zero,List.getElem?_cons_succ,Sem.run_bind,di aC,di fA,Result.andThen_ok,rN i1,i2,Sem.run_pure,Builtin.lenOf,Bool.false_eq_true,if_false,if_neg (show ¬xs.length+ys.length<=cap by omega),za,false_and,E8 i1,ads,run_choose,adt,RB,run_askRoom,Bool.not_false,if_true,World.drew_eq,o1,dH,qE i1 i4];rfl
 ·have h1:=gh.1;have h2:=dM.1;simp only[Array.size_append,List.size_toArray,adp bb,h1,h2];rw[<-Nat.add_mul,<-Nat.add_mul];grind
 ·have i':=gh.append dM;have adu:fW P e F w (u3++dZ) (xs++ys):=⟨i'.1,λi E=>eS e (F:=F) (F':=F) (w:=w.drew) (w':=w) (λ_ G=>G) ⟨Nat.le_refl _,λ_ _=>rfl⟩ (i'.2 i E)⟩
  exact adu.B3 (pre:=[]) (post:=(Builtin.zeroCells z.cells (qJ - (xs.length+ys.length))).toList) (by simp)
end
end Go.Fer
namespace Go.Fer
open Go.RowKit
section
variable {C:bS} {T:Nat->af} {a1:Nat->Option aJ} {o:Oper} {s:ay} {res:d'}
theorem bc.B5{a:Act}{w w':World}{κ:Nat->bo}{F:Nat->Prop}(h:bc C s a w κ F){b g:Nat}{e:af}{zs:List e.ah}{k:bo}(aA:(s.ad b).gen<g)(kY:k.eL=true\/k.ad=w.heap.size)(bW:w.heap.size<=w'.heap.size)
  (nz:∀ r,r<w.heap.size->w'.heap[r]?=w.heap[r]?) (b4:k.eL=false->k.ad<w'.heap.size) (hc:cM w w')
  (bD:∀ H κ',jo C.P H κ' F w' k (.a8 e zs)):bc C (s.b' b ⟨g,.a8 e zs⟩) a w' (λi=>if i=b then k else κ i) F:=by
 have ai:e6 s.ad κ (λi=>if i=b then (⟨g,.a8 e zs⟩:bu) else s.ad i) (λi=>if i=b then k else κ i):=yO aA λaZ cS=>by grind
 have he:cG F w w':=⟨bW,λr G=>nz r (h.cL r G)⟩
 refine h.move (H':=λi=>if i=b then (⟨g,.a8 e zs⟩:bu) else s.ad i) ai (λ_ G=>G) (λ_ G=>.inl G) bW (λr G _=>nz r G) hc (λ_=>?_) ?_ ?_ (λr G=>Nat.lt_of_lt_of_le (h.cL r G) bW) (yP (.inr ⟨rfl,rfl⟩) λaZ cS=>by grind)
 ·intro i;by_cases E:i=b
  ·subst E;simp only[cg,if_true];grind
  ·exact cg.kT (h.bp i) ai (λ_ G=>G) he (by grind) (by grind) λag=>nz _ (h.own i ag).1
 ·intro i E;by_cases ek:i=b
  ·subst ek;simp only[if_true,bB.bJ,Bool.not_eq_true']at E ⊢;have ao:=kY.resolve_left (by grind);refine⟨b4 E,λar=>?_,.inr (by omega)⟩;have:=h.cL _ ar;omega
  ·simp only[if_neg ek]at E ⊢;have:=h.own i E;grind
 ·intro i j E aC aS;by_cases ek:i=b<;>by_cases lZ:j=b
  ·omega
  ·simp only[if_pos ek,if_neg lZ,bB.bJ,Bool.not_eq_true']at E aC aS;have ao:=kY.resolve_left (by grind);have:=(h.own j aC).1;omega
  ·simp only[if_neg ek,if_pos lZ,bB.bJ,Bool.not_eq_true']at E aC aS;have ao:=kY.resolve_left (by grind);have:=(h.own i E).1;omega
  ·simp only[if_neg ek,if_neg lZ]at E aC aS;exact h.inj i j E aC aS
theorem adv(s:ay)(b:Nat)(x y:bu):(s.b' b x).b' b y=s.b' b y:=by
 unfold ay.b';grind
theorem bc.adw{a:Act}{w:World}{κ:Nat->bo}{F:Nat->Prop}(h:bc C s a w κ F){b:Nat}{e:af}{xs:List e.ah}(ab:(s.ad b).body=.a8 e xs){lo E:Nat}(h1:lo<=E)(h2:E<=xs.length){v:Value}(hs:EY (κ b) e.size lo E v) :
  ∃ κ',bc C (s.b' b ⟨(s.ad b).gen+1,.a8 e ((xs.take E).drop lo)⟩) a w κ' F/\v=(κ' b).slice ((xs.take E).drop lo).length:=by
 have hlen:((xs.take E).drop lo).length=E - lo:=by grind
 have fV:∀ κ':Nat->bo,(∀ aZ,aZ≠b->κ' aZ=κ aZ)->e6 s.ad κ (λi=>if i=b then (⟨(s.ad b).gen+1,.a8 e ((xs.take E).drop lo)⟩:bu) else s.ad i) κ':=
  λκ' Bz=>yO (Nat.lt_succ_self _) Bz
 have aN:=h.bp b;unfold cg at aN;rw[ab]at aN;rcases hs with⟨az,rfl⟩ | ⟨az,o,rfl,o1,gh⟩
 ·have hG:=aN.1 az;subst hG;refine⟨κ,?_,by simp[bo.slice,az]⟩;refine h.move (H':=λi=>if i=b then (⟨(s.ad b).gen+1,.a8 e ((([]:List e.ah).take E).drop lo)⟩:bu) else s.ad i) (fV κ λ_ _=>rfl) (λ_ G=>G) (λ_ G=>.inl G) (Nat.le_refl _) (λ_ _ _=>rfl) (cM.refl _) (λ_=>?_) ?_ ?_ h.cL (yP (.inr ⟨rfl,rfl⟩) λ_ _=>rfl)
  ·intro i;by_cases E:i=b
   ·subst E;simp only[cg,if_true];exact⟨λ_=>by simp,λh=>by grind⟩
   ·exact cg.kT (h.bp i) (fV κ λ_ _=>rfl) (λ_ G=>G) (cG.refl _ _) (by grind) rfl λ_=>rfl
  ·intro i E;by_cases ek:i=b
   ·subst ek;simp[bB.bJ,az]at E
   ·simp only[if_neg ek]at E;exact⟨(h.own i E).1,(h.own i E).2.1,.inl ⟨i,E,rfl⟩⟩
  ·intro i j E aC aS;by_cases ek:i=b
   ·subst ek;simp[bB.bJ,az]at E
   ·by_cases lZ:j=b
    ·subst lZ;simp[bB.bJ,az]at aC
    ·simp only[if_neg ek,if_neg lZ]at E aC;exact h.inj i j E aC aS
 ·obtain⟨cs,hH,c1,c2,c3,c4,c5⟩:=aN.2 az;let k':bo:=⟨(κ b).ad,o,(κ b).cap - lo,false⟩
  let κ':Nat->bo:=λi=>if i=b then k' else κ i
  have B6:∀ aZ,aZ≠b->κ' aZ=κ aZ:=λaZ h=>if_neg h;have zb:κ' b=k':=if_pos rfl;have fS:=h.own b (by rw[ab];simp[bB.bJ,az]);refine⟨κ',?_,by rw[zb,hlen];rfl⟩;refine h.move (H':=λi=>if i=b then (⟨(s.ad b).gen+1,.a8 e ((xs.take E).drop lo)⟩:bu) else s.ad i) (fV κ' B6) (λ_ G=>G) (λ_ G=>.inl G) (Nat.le_refl _) (λ_ _ _=>rfl) (cM.refl _) (λ_=>?_) ?_ ?_ h.cL (yP (.inr ⟨rfl,rfl⟩) B6)
  ·intro i;by_cases dp:i=b
   ·subst dp;simp only[cg,if_true,zb];have hmul:lo*e.size<=(κ i).cap*e.size:=Nat.mul_le_mul_right _ (by omega);refine⟨λh=>(by cases h),λ_=>⟨cs,hH,c1,?_,by grind,by grind,λj aC=>?_⟩⟩
    ·simp only[k'];rw[Nat.sub_mul];omega
    ·rw[hlen]at aC;obtain⟨a_,d1,d2⟩:=c5 (lo+j) (by omega);grind
   ·exact cg.kT (h.bp i) (fV κ' B6) (λ_ G=>G) (cG.refl _ _) (by grind) (B6 i dp) λ_=>rfl
  ·intro i dp;by_cases ek:i=b
   ·subst ek;rw[zb];exact⟨fS.1,fS.2.1,.inl ⟨i,by rw[ab];simp[bB.bJ,az],rfl⟩⟩
   ·simp only[if_neg ek]at dp;rw[B6 i ek]at dp ⊢;exact⟨(h.own i dp).1,(h.own i dp).2.1,.inl ⟨i,dp,rfl⟩⟩
  ·intro i j dp aC aS;have RC:∀ i,(κ' i).ad=(κ i).ad:=λi=>by
    grind
   have bU:∀ i,((if i=b then (⟨(s.ad b).gen+1,.a8 e ((xs.take E).drop lo)⟩:bu) else s.ad i).body.bJ (κ' i)=true)->(s.ad i).body.bJ (κ i)=true:=λi E=>by
    by_cases ek:i=b
    ·subst ek;rw[ab];simp[bB.bJ,az]
    grind
   rw[RC,RC]at aS;exact h.inj i j (bU i dp) (bU j aC) aS
theorem ln.later{P:Program}{e:af}{F:Nat->Prop}{w w':World}{cs:Array Value}{off:Nat}{xs:List e.ah}(h:ln P e F w cs off xs)(he:cG F w w'):ln P e F w' cs off xs:=h.mono (λ_ G=>G) he
theorem adx(hT:dx C.P T){args:Array Operand}{cT:Array TypeId}(a6:∀ i,o.dst=some i->i<C.nt)(ag:o.op=.call { callee:=.builtin .append,args:=args,argTypes:=cT })(h:(BH T (aT C.aK s.ax) o.dst args.toList cT.toList).run s.ad=some res):cn C o s res:=by
 obtain⟨args⟩:=args;obtain⟨cT⟩:=cT;have au:∀ c,o.op≠.defer c:=by grind
 simp only[BH]at h;split at h
 ·rename_i x y t u;split at h
  ·rename_i e e2 aG hu;have cU:=hT.bO aG (by simp);have uZ:=hT.bO hu (by simp);obtain⟨jy,aC,iO,n8⟩:=cU.sl;obtain⟨ady,fA,_⟩:=uZ.sl;obtain⟨inf,z,i1,i2,i3,i4,i5,i6⟩:=kh iO.kg;have mz:∀ (a:Act) (w w':World) v,(Builtin.append_ #[t,u] o.type #[a.eval x,a.eval y]).run C.P w=.ok v w'->(execOp a.eval o).run C.P w=.ok (.value v) w':=by
    intro a w w' v hv;refine wR ag ?_;simp[builtin,hv]
   have main:∀ (s:ay) (a:Act) (w:World) (κ:Nat->bo) (F:Nat->Prop) (Q:Exit->Act->World->Prop) (b g:Nat) (xs ys:List e.ah),bc C s a w κ F->
     (∃ q cap,a.eval y=.slice q ys.length cap/\((q=none/\ys=[]/\cap=0)\/∃ p all,q=some p/\fW C.P e F w all ys/\kk w p all))->
     (s.ad b).gen<g->(∃ q cap,a.eval x=.slice q xs.length cap/\((q=none/\xs=[]/\cap=0)\/∃ p all,q=some p/\fW C.P e F w all xs/\kk w p all))->
     (∀ q cap,a.eval x=.slice q xs.length cap->q≠none->xs.length+ys.length<=cap->(s.ad b).body=.a8 e xs/\(κ b).eL=false/\q=some ⟨(κ b).ad,(κ b).off,none⟩/\cap=(κ b).cap)->bT (xs.length+ys.length)->
     o.wpIn (dw C.r) 0 C.P a w (λa' w'=>b9 C ((s.b' b ⟨g,.a8 e (xs++ys)⟩).set o.dst (.own b g)) a' w') Q:=by
    intro s a w κ F Q b g xs ys G nA J_ rU adz hlen;obtain⟨q,cap,rU,J'⟩:=rU;obtain⟨q',cap',tq,nA⟩:=nA;have Ka:∀ (κ':Nat->bo) (v:Value) (w':World),bc C (s.b' b ⟨g,.a8 e (xs++ys)⟩) a w' κ' F->v=(κ' b).slice (xs++ys).length->b9 C ((s.b' b ⟨g,.a8 e (xs++ys)⟩).set o.dst (.own b g)) (a.put o.dst v) w':=by
     intro κ' v w' aW hv;refine⟨κ',F,bc.set aW a6 ⟨⟨by simp[ay.b'],?_⟩,λ_ _=>?_⟩⟩
     ·rw[hv];unfold bo.slice;split<;>rfl
     ·rw[hv];simp[ay.b',bB.len]
    by_cases wV:xs.length+ys.length<=cap
    ·cases bf:q with
     | none=>
      subst bf;obtain⟨adA,uQ⟩:xs=[]/\cap=0:=by
       grind
      subst adA;subst uQ;have Kb:ys=[]:=by grind
      subst Kb;obtain⟨dZ,dH,dM⟩:=y' (P:=C.P) (w:=w) (cap:=cap') rfl nA;have cH:(Builtin.append_ #[t,u] o.type #[a.eval x,a.eval y]).run C.P w=.ok (.slice none 0 0) w:=by
       rw[rU,tq];simp only[List.length_nil]at dH ⊢;simp[Builtin.append_,di aC,di fA,rN i1,Builtin.lenOf];rw[i2,dH];simp
      refine ha au (mz a w w _ cH) (Ka _ _ _ (G.B5 (k:=⟨0,0,0,true⟩) J_ (.inl rfl) (Nat.le_refl _) (λ_ _=>rfl) (λh=>by cases h) (cM.refl _) λH κ'=>⟨λ_=>rfl,λh=>by cases h⟩) ?_);simp[bo.slice]
     | some Fm=>
      obtain⟨ab,u2,hp,wU⟩:=adz q cap rU (by grind) wV;rw[bf]at hp;have hp:=Option.some.inj hp;subst hp;subst wU;have aN:=G.bp b;unfold cg at aN;rw[ab]at aN;obtain⟨cs,hH,c1,c2,c3,c4,c5⟩:=aN.2 u2;obtain⟨dZ,dH,dM⟩:=y' (P:=C.P) (w:=w) (cap:=cap') rfl nA;have oW:=dM.1;have ny:∀ v∈dZ,v.oneCell'=true:=by
       intro v hv;obtain⟨j,aC,rfl⟩:=List.mem_iff_getElem.1 hv;have kX:0<e.size:=Nat.pos_of_ne_zero n8;have hdiv:j / e.size<ys.length:=(Nat.div_lt_iff_lt_mul kX).2 (by omega);have nx:=dM.2 (j / e.size) hdiv;have ik:=yS (P:=C.P) (H:=λ_=>⟨0,.ff⟩) (κ:=λ_=>⟨0,0,0,true⟩) e nx;have zc:=Nat.mod_lt j kX;have adB:j / e.size*e.size+j % e.size=j:=Nat.div_add_mod' j e.size;have B7:((dZ.drop (j / e.size*e.size)).take e.size).length=e.size:=hC e nx;have:=(ik.kz (j % e.size) (by rw[ik.len,B7];omega)).2;grind
      have adC:(κ b).off+xs.length*e.size+0+dZ.length<=cs.size:=by
       rw[oW];have:(xs.length+ys.length)*e.size<=(κ b).cap*e.size:=Nat.mul_le_mul_right _ wV;grind
      obtain⟨w',cP,bR,cp,dX,lx,ly,l3⟩:=uY (P:=C.P) dZ ((κ b).off+xs.length*e.size) 0 w cs c1 adC ny;have cH:(Builtin.append_ #[t,u] o.type #[a.eval x,a.eval y]).run C.P w=.ok (.slice (some ⟨(κ b).ad,(κ b).off,none⟩) (xs.length+ys.length) (κ b).cap) w':=by
       rw[rU,tq,bf];simp only[Builtin.append_,List.getElem?_toArray,List.getElem?_cons_zero,List.getElem?_cons_succ,Sem.run_bind,di aC,di fA,Result.andThen_ok,rN i1,i2,Sem.run_pure,Builtin.lenOf,Bool.false_eq_true,if_false,if_pos wV,Bool.not_false,if_true,dH,uV];simp only[bR,Result.andThen_ok]
      have fV:e6 s.ad κ (λi=>if i=b then (⟨g,.a8 e (xs++ys)⟩:bu) else s.ad i) κ:=yO J_ λ_ _=>rfl;refine ha au (mz a w w' _ cH) (Ka κ _ _ (G.oO (b:=b) (by rw[ab];simp[bB.bJ,u2]) (by simp[bB.bJ,u2]) fV (λh=>by cases h) (λh=>by cases h) lx ly l3 λH mB b4 he=>?_) (by simp[bo.slice,u2]));refine⟨λh=>(by grind),λ_=>?_⟩;have Fi:cP.size=cs.size:=by
       rw[<-Array.length_toList,dX];grind
      refine⟨cP,hH,cp,by omega,by grind,c4,λi E=>?_⟩;simp only[Nat.add_zero]at dX;have gw:(cs.toList.take ((κ b).off+xs.length*e.size)).length=(κ b).off+xs.length*e.size:=by grind
      by_cases RD:i<xs.length
      ·obtain⟨a_,d1,d2⟩:=c5 i RD;have e1:(xs++ys)[i]=xs[i]:=List.getElem_append_left RD;rw[e1];refine⟨a_,λk ao=>?_,eS e (λ_ G=>G) he d2⟩;have RE:=hC e d2;have hle:(i+1)*e.size<=xs.length*e.size:=Nat.mul_le_mul_right _ (by omega);rw[Nat.add_mul]at hle;rw[<-Array.getElem?_toList,dX,List.getElem?_append_left (by omega),List.getElem?_take,if_pos (by omega)];grind
      ·have dp:i - xs.length<ys.length:=by grind
       have e1:(xs++ys)[i]=ys[i - xs.length]:=List.getElem_append_right (by omega);rw[e1];have B8:=dM.B3 (pre:=cs.toList.take ((κ b).off+xs.length*e.size)) (post:=cs.toList.drop ((κ b).off+xs.length*e.size+dZ.length)) dX;obtain⟨a_,d1,d2⟩:=B8 (i - xs.length) dp;refine⟨a_,λk ao=>?_,eS e (λ_ G=>G) he d2⟩;have:=d1 k ao;rw[gw]at this;rw[<-this];congr 1;have:i*e.size=xs.length*e.size+(i - xs.length)*e.size:=by rw[<-Nat.add_mul];grind
       omega
    ·obtain⟨adD,qJ,cs,bR,cp,dX,lx,ly⟩:=adq (P:=C.P) (w:=w) (F:=F) (cap:=cap) (cap':=cap') cU (.inr ⟨e2,uZ⟩) J' nA (by omega) hlen o.type;rw[<-rU,<-tq]at bR;refine ha au (mz a w _ _ bR) (Ka _ _ _ (G.B5 (k:=⟨w.heap.size,0,qJ,false⟩) J_ (.inr rfl) (by simp) (λr G=>?_) (λ_=>by simp) ⟨rfl,rfl,rfl⟩ λH κ'=>⟨λh=>(by cases h),λ_=>⟨cs,adD,?_,by grind,by grind,cp,?_⟩⟩) ?_)
     ·exact oN w.drew _ G
     ·exact pM w.drew _
     ·exact ly.later ⟨by simp,λr aW=>oN w.drew _ (G.cL r aW)⟩
     ·simp[bo.slice]
   simp only[JI]at h;split at h
   ·rename_i b g eN;simp only[aq.eI]at h;split at h
    ·rename_i aS xs bD;split at h
     ·rename_i qL;subst qL;simp only[aq.eJ,Option.bind_eq_some_iff,aq.bx,Option.some.injEq]at h;obtain⟨⟨ys,l⟩,jX,rfl⟩:=h;have aA:(s.ad b).gen=g/\(s.ad b).body=.a8 aS xs:=by
       grind
      intro a w κ F Q G aY hc;have hx:bl C.P s.ad κ F w (use (aT C.aK s.ax x)).2 (a.eval x):=cv G x rfl aY.1;have nw:=hx;rw[eN]at nw;have hv:=nw.2 aA.1.symm (by rw[aA.2];rfl);rw[aA.2]at hv;simp only[bB.len]at hv;have hG:(dd (.slice aS) (use (aT C.aK s.ax x)).2).run s.ad=some (xs,[b]):=by
       rw[eN];simp[dd,kf,af.ee,dA,aA.1,aA.2,ez]
      refine main s a w κ F Q b (g+1) xs ys G (rT G jX (cv G y rfl aY.2)) (by omega) (rT G hG hx) (λq cap bf Kc _=>?_) hc;rw[hv]at bf;cases az:(κ b).eL with
      | true=>
       simp only[bo.slice,az,if_true,Value.slice.injEq]at bf;grind
      | false=>
       simp only[bo.slice,az,Bool.false_eq_true,if_false,Value.slice.injEq]at bf;grind
     ·cases h
    ·cases h
   ·rename_i b g lo E eN;simp only[aq.eI]at h;split at h
    ·rename_i aS xs bD;split at h
     ·rename_i qL;subst qL;simp only[aq.eJ,Option.bind_eq_some_iff,aq.bx,Option.some.injEq]at h;obtain⟨⟨ys,l⟩,jX,rfl⟩:=h;have aA:(s.ad b).gen=g/\(s.ad b).body=.a8 aS xs:=by
       grind
      intro a w κ F Q G aY hc;have hx:bl C.P s.ad κ F w (use (aT C.aK s.ax x)).2 (a.eval x):=cv G x rfl aY.1;rw[eN]at hx;obtain⟨⟨aO,aP⟩,bA⟩:=hx.2 aA.1.symm (by rw[aA.2];rfl);rw[aA.2]at aP bA;simp only[bB.len,bB.eH]at aP bA;obtain⟨κ',aW,hv⟩:=G.adw aA.2 aO aP bA;have nA:=rT G jX (cv G y rfl aY.2);have RF:(s.b' b ⟨(s.ad b).gen+1,.a8 aS ((xs.take E).drop lo)⟩).ad b=⟨(s.ad b).gen+1,.a8 aS ((xs.take E).drop lo)⟩:=by simp[ay.b']
      have hG:(dd (.slice aS) (.own b (g+1))).run (s.b' b ⟨(s.ad b).gen+1,.a8 aS ((xs.take E).drop lo)⟩).ad=some ((xs.take E).drop lo,[b]):=by
       simp[dd,kf,af.ee,dA,ay.b',aA.1,ez]
      have J':bl C.P (s.b' b ⟨(s.ad b).gen+1,.a8 aS ((xs.take E).drop lo)⟩).ad κ' F w (.own b (g+1)) (a.eval x):=by
       refine⟨⟨by grind,hx.1.2⟩,λ_ _=>?_⟩;rw[RF];exact hv
      have:=main (s.b' b ⟨(s.ad b).gen+1,.a8 aS ((xs.take E).drop lo)⟩) a w κ' F Q b (g+2) ((xs.take E).drop lo) ys aW nA (by grind) (rT aW hG J') (λq cap bf Kc _=>?_) hc
      ·rw[adv]at this;exact this
      ·rw[hv]at bf;cases az:(κ' b).eL with
       | true=>
        simp only[bo.slice,az,if_true,Value.slice.injEq]at bf;grind
       | false=>
        simp only[bo.slice,az,Bool.false_eq_true,if_false,Value.slice.injEq]at bf;grind
     ·cases h
    ·cases h
   ·rename_i eN;simp only[aq.eJ,Option.bind_eq_some_iff]at h;obtain⟨⟨ys,l⟩,jX,h⟩:=h;obtain⟨b,ab,ao⟩:=qG h;simp only[Option.some.injEq]at ao;subst ao;intro a w κ F Q G aY hc;have hx:bl C.P s.ad κ F w (use (aT C.aK s.ax x)).2 (a.eval x):=cv G x rfl aY.1;rw[eN]at hx;simp only[bl]at hx;have:=main s a w κ F Q b ((s.ad b).gen+1) [] ys G (rT G jX (cv G y rfl aY.2)) (Nat.lt_succ_self _) ⟨none,0,hx,.inl ⟨rfl,rfl,rfl⟩⟩ (λq cap bf Kc _=>by grind) (by grind);exact this
   ·rename_i aS xs eN;split at h
    ·rename_i qL;subst qL;simp only[aq.eJ,Option.bind_eq_some_iff]at h;obtain⟨⟨ys,l⟩,jX,h⟩:=h;obtain⟨b,ab,ao⟩:=qG h;simp only[Option.some.injEq]at ao;subst ao;intro a w κ F Q G aY hc;have hx:bl C.P s.ad κ F w (use (aT C.aK s.ax x)).2 (a.eval x):=cv G x rfl aY.1;rw[eN]at hx;obtain⟨J1,BT,Fj⟩:=hx;have hG:(dd (.slice aS) (.val (.slice aS) xs)).run s.ad=some (xs,[]):=by
      simp[dd,ez]
     exact main s a w κ F Q b ((s.ad b).gen+1) xs ys G (rT G jX (cv G y rfl aY.2)) (Nat.lt_succ_self _) (rT G hG J1) (λq cap bf Kc wV=>by
      grind) hc.2
    ·cases h
   ·cases h
  ·cases h
 ·cases h
theorem adE{P:Program}{F:Nat->Prop}{w:World}{all:List Value}{ys:z1'}(h:fW P (.int .u8) F w all ys):all=ys.map (Value.int .u8):=by
 obtain⟨h1,h2⟩:=h;have h1:all.length=ys.length:=h1.trans (Nat.mul_one _);apply List.ext_getElem (by simpa using h1);intro i E dp;have df:i<ys.length:=by omega
 obtain⟨e,_⟩:=h2 i df;have hs:af.size (.int .u8)=1:=rfl;rw[hs,Nat.mul_one,List.drop_eq_getElem_cons E]at e;have:=(List.cons.inj e).1;rw[this];simp
theorem RG:∀ (ys:z1') (s:ByteArray),ys.foldl (λr n=>r.push (UInt8.ofNat n.toNat)) s=⟨s.data++(uU ys).toArray⟩
 | [],s=>by simp[uU]
 | y::ys,s=>by
  rw[List.foldl_cons,RG ys];refine congrArg ByteArray.mk ?_;apply Array.ext';simp[uU,ByteArray.push]
theorem adF(ys:z1'):ys.foldl (λr n=>r.push (UInt8.ofNat n.toNat)) ByteArray.empty=⟨(uU ys).toArray⟩:=by
 rw[RG];refine congrArg ByteArray.mk ?_;apply Array.ext';simp[ByteArray.empty,ByteArray.emptyWithCapacity];rfl
theorem adG(hT:dx C.P T){Kd Ke:TypeId}{x:Operand}(a6:∀ i,o.dst=some i->i<C.nt)(ag:o.op=.convert Kd Ke x)(h:(bh C.aK T a1 (aT C.aK s.ax) o).run s.ad=some res):cn C o s res:=by
 simp only[bh,ag]at h;split at h
 ·rename_i aO k aP n t1 t2 hx;simp only[bz,aq.bx,Option.some.injEq]at h;subst h;refine cn.pure (by grind) a6 λa w κ F G aY _=>?_;have h1:=n5 (cv G x rfl aY) hx;have e1:=(hT.bO t1 (by simp)).int;have e2:=(hT.bO t2 (by simp)).int;refine⟨.int k (k.wrap n),?_,gE.2 ⟨rfl,pP _ _⟩⟩;simp[execOp,ag,convert,di e1,di e2,h1.1,Conv.intToInt]
 ·rename_i t1 t2;simp only[aq.eJ,Option.bind_eq_some_iff,bz,aq.bx,Option.some.injEq]at h;obtain⟨⟨ys,l⟩,jX,rfl⟩:=h;refine cn.pure (by grind) a6 λa w κ F G aY _=>?_;have hu:=cv G x rfl aY;obtain⟨q,cap,hv,nA⟩:=rT G jX hu;have b4:ys.length<2 ^ 63:=by
   have h1:=l1 (F':=λ_=>True) G.bp (λ_ _=>trivial) jX (λ_ _ _=>trivial) hu;obtain⟨_,h2⟩:=(dy rfl).1 h1;obtain⟨q',cap',e1,m1,m2,_⟩:=h2;have e2:=(List.cons.inj (e1.symm.trans rfl)).1;omega
  obtain⟨jy,aC,iO,_⟩:=(hT.bO t1 (by simp)).sl;have e1:=iO.int;have e2:=(hT.bO t2 (by simp)).str;refine⟨.string ⟨(uU ys).toArray⟩,?_,lX.2 ⟨rfl,by simpa [uU]using b4⟩⟩;have hc:(convert Kd Ke (a.eval x)).run C.P w=.ok (.string ⟨(uU ys).toArray⟩) w:=by
   rw[hv,run_convert_bytes_string w Kd Ke jy q ys.length cap aC e1 e2];rcases nA with⟨rfl,rfl,rfl⟩ | ⟨p,all,rfl,aV,n9⟩
   ·rfl
   ·have fo:all=ys.map (Value.int .u8):=adE aV;have ai:=E_ (P:=C.P) n9;rw[fo,List.length_map]at ai;rw[run_bytesToString w p ys.length cap ys ai];refine congrArg (λs=>Result.ok (Value.string s) w) ?_;exact adF ys
  simp[execOp,ag,hc]
 ·cases h
end
end Go.Fer
namespace Go.Fer
open Go.RowKit
theorem hN.yR{P:Program}{k:FuncId}{ts tr:af}{sh RH:ts.ah->M tr.ah}(h:hN P k ts tr sh)(hs:∀ x,M.le (sh x) (RH x)):hN P k ts tr RH where
 enter:=h.enter
 iH:=λF w args x bd fT aV qM=>by
  obtain⟨h1,h2⟩:=hs x qM;exact (h.iH F w args x bd fT aV h1).mono λe w' ⟨v,y,e1,e2,e3⟩=>⟨v,y,e1,h2 y e2,e3⟩
def aJ.sh(c:aJ)(x:c.ts.ah):M c.tr.ah:=M.dv (c.pre x) (c.g x)
def adH(P:Program)(k:FuncId)(ts:af)(x:ts.ah)(e:af)(ys:List e.ah):Prop:=
 ∀ (F:Nat->Prop) (w:World) (args:List Value),(∀ r,F r->r<w.heap.size)->np P F w->e5 P ts F w args x->Calls P k args.toArray w λz w'=>∃ (b:bo) (F':Nat->Prop),z=.returned (b.slice ys.length)/\(∀ r,F r->F' r)/\(∀ r,F' r->F r\/(w.heap.size<=r/\r<w'.heap.size))/\
  (b.eL=true->ys=[])/\(b.eL=false->(w.heap.size<=b.ad/\b.ad<w'.heap.size/\¬F' b.ad)/\∃ cs T,w'.heap[b.ad]?=some (.cells cs T (0,0))/\b.off+b.cap*e.size<=cs.size/\ys.length<=b.cap/\b.cap<2 ^ 63/\ln P e F' w' cs b.off ys)/\Below w.heap.size w w'
def B9(P:Program)(k:FuncId)(c:aJ):Prop:=(∀ args w,(callFunc k args).run P w=.ok (.enter k args) w)/\∀ x,c.pre x->∀ y,BJ c.tr (c.g x)=some y->adH P k c.ts x y.1 y.2
def ja(P:Program)(a1:Nat->Option aJ):Prop:=∀ k c,a1 k=some c->(nu c.tr=false->hN P k c.ts c.tr c.sh)/\(nu c.tr=true->B9 P k c)
theorem adI{t:af}{y:t.ah}{z:(e:af)×List e.ah}(h:BJ t y=some z):nu t=true:=by
 unfold BJ at h;unfold nu;split at h<;>simp_all
theorem adJ{t:af}{y:t.ah}(h:BJ t y=none):nu t=false:=by
 cases hc:nu t with
 | false=>rfl
 | true=>
  unfold nu at hc;split at hc
  ·cases h
  ·cases hc
theorem jZ{t:af}(aG:t.gg=true)(avs:List aD):iK t avs=(match avs with | [v]=>dd t v | _=>.none:aq (Option (t.ah×List Nat))):=by
 cases t<;>first
  | (cases aG;done)
  | (rcases avs with _ | ⟨v,_ | ⟨u,aB⟩⟩<;>rfl)
theorem u4{P:Program}{H:Nat->bu}{κ:Nat->bo}{F F':Nat->Prop}{w:World}(aN:∀ b,cg P H κ F w b)(bd:∀ r,F r->F' r):∀ (t:af) {avs:List aD} {aB:List Value} {x:t.ah} {l:List Nat},(iK t avs).run H=some (x,l)->
  iJ H κ F' l->avs.length=aB.length->(∀ i (h:i<avs.length) (c6:i<aB.length),bl P H κ F w avs[i] aB[i])->e5 P t F' w aB x:=by
 have gg:∀ (t:af),t.gg=true->∀ {avs:List aD} {aB:List Value} {x:t.ah} {l:List Nat},(match avs with | [v]=>dd t v | _=>.none:aq (Option (t.ah×List Nat))).run H=some (x,l)->
   iJ H κ F' l->avs.length=aB.length->(∀ i (h:i<avs.length) (c6:i<aB.length),bl P H κ F w avs[i] aB[i])->e5 P t F' w aB x:=by
  intro t aG avs aB x l h ai hlen fo;split at h
  ·rename_i v;match aB,hlen with
   | [u],_=>
    refine (rG aG).2 ⟨u,rfl,l1 aN bd h ai ?_⟩;exact fo 0 (by simp) (by simp)
  ·cases h
 intro t;induction t with
 | aw a b fe ej=>
  intro avs aB x l h ai hlen fo;match avs,aB,hlen with
  | [],_,_=>simp[iK,aq.none]at h
  | v::avs,u::aB,hlen=>
   simp only[iK,aq.eJ,Option.bind_eq_some_iff,aq.bx,Option.some.injEq,Prod.mk.injEq]at h;obtain⟨⟨y,m⟩,h1,⟨z,da⟩,h2,rfl,rfl⟩:=h;refine Bv.2 ⟨l1 aN bd h1 ai.left (fo 0 (by simp) (by simp)),?_⟩;exact ej h2 ai.right (by grind) λi E dp=>by
    have:=fo (i+1) (by grind) (by grind);grind
 | cz=>
  intro avs aB x l h ai hlen fo;match avs,aB,hlen with
  | [],[],_=>exact⟨rfl,rfl⟩
  | _::_,_,_=>simp[iK,aq.none]at h
 | bool=>intro avs aB x l h;rw[jZ rfl]at h;exact gg _ rfl h
 | int k=>intro avs aB x l h;rw[jZ rfl]at h;exact gg (.int k) rfl h
 | str=>intro avs aB x l h;rw[jZ rfl]at h;exact gg _ rfl h
 | st t _=>intro avs aB x l h;rw[jZ rfl]at h;exact gg (.st t) rfl h
 | slice e _=>intro avs aB x l h;rw[jZ rfl]at h;exact gg (.slice e) rfl h
 | array n e _=>intro avs aB x l h;rw[jZ rfl]at h;exact gg (.array n e) rfl h
 | bq e _=>intro avs aB x l h;rw[jZ rfl]at h;exact gg (.bq e) rfl h
 | map k v _ _=>intro avs aB x l h;rw[jZ rfl]at h;exact gg (.map k v) rfl h
 | fn a b _ _=>intro avs aB x l h;rw[jZ rfl]at h;exact gg (.fn a b) rfl h
 | b8 a _=>intro avs aB x l h;rw[jZ rfl]at h;exact gg (.b8 a) rfl h
 | dT=>intro avs aB x l h;rw[jZ rfl]at h;exact gg .dT rfl h
theorem pU{H:Nat->bu}:∀ (t:af) {avs:List aD} {x:t.ah} {l:List Nat},(iK t avs).run H=some (x,l)->gu H l:=by
 have gg:∀ (t:af),t.gg=true->∀ {avs:List aD} {x:t.ah} {l:List Nat},(match avs with | [v]=>dd t v | _=>.none:aq (Option (t.ah×List Nat))).run H=some (x,l)->gu H l:=by
  intro t _ avs x l h;split at h
  ·exact mA h
  ·cases h
 intro t;induction t with
 | aw a b fe ej=>
  intro avs x l h;match avs with
  | []=>simp[iK,aq.none]at h
  | v::avs=>
   simp only[iK,aq.eJ,Option.bind_eq_some_iff,aq.bx,Option.some.injEq,Prod.mk.injEq]at h;obtain⟨⟨y,m⟩,h1,⟨z,da⟩,h2,rfl,rfl⟩:=h;exact (mA h1).append (ej h2)
 | cz=>
  intro avs x l h;match avs with
  | []=>
   simp only[iK,aq.bx,Option.some.injEq,Prod.mk.injEq]at h;rw[<-h.2];exact .nil H
  | _::_=>simp[iK,aq.none]at h
 | bool=>intro avs x l h;rw[jZ rfl]at h;exact gg _ rfl h
 | int k=>intro avs x l h;rw[jZ rfl]at h;exact gg (.int k) rfl h
 | str=>intro avs x l h;rw[jZ rfl]at h;exact gg _ rfl h
 | st t _=>intro avs x l h;rw[jZ rfl]at h;exact gg (.st t) rfl h
 | slice e _=>intro avs x l h;rw[jZ rfl]at h;exact gg (.slice e) rfl h
 | array n e _=>intro avs x l h;rw[jZ rfl]at h;exact gg (.array n e) rfl h
 | bq e _=>intro avs x l h;rw[jZ rfl]at h;exact gg (.bq e) rfl h
 | map k v _ _=>intro avs x l h;rw[jZ rfl]at h;exact gg (.map k v) rfl h
 | fn a b _ _=>intro avs x l h;rw[jZ rfl]at h;exact gg (.fn a b) rfl h
 | b8 a _=>intro avs x l h;rw[jZ rfl]at h;exact gg (.b8 a) rfl h
 | dT=>intro avs x l h;rw[jZ rfl]at h;exact gg .dT rfl h
theorem adK{H:Nat->bu}{e:af}{ps:List (Nat×aD)}:∀ (n i:Nat) {xs:List e.ah} {l:List Nat},(td e ps i n).run H=some (xs,l)->gu H l:=by
 intro n;induction n with
 | zero=>intro i xs l h;cases h;exact .nil H
 | succ n aH=>
  intro i xs l h;simp only[td,aq.eJ,Option.bind_eq_some_iff,aq.bx,Option.some.injEq,Prod.mk.injEq]at h;obtain⟨⟨x,m⟩,h1,⟨ys,da⟩,h2,rfl,rfl⟩:=h;refine gu.append ?_ (aH (i+1) h2);split at h1
  ·exact mA h1
  ·simp only[aq.bx,Option.some.injEq,Prod.mk.injEq]at h1;rw[<-h1.2];exact .nil H
theorem RI{P:Program}{F F':Nat->Prop}{w w':World}{t:af}{aB:List Value}{x:t.ah}(aG:t.pure=true)(h:e5 P t F w aB x):e5 P t F' w' aB x:=⟨h.1,acv t aG h.2⟩
theorem tt{P:Program}{H:Nat->bu}{κ:Nat->bo}{F:Nat->Prop}{w:World}:∀ (t:af) {aB:List Value} {y:t.ah},e5 P t F w aB y->t≠.cz->aB.length=jU t/\∀ i,i<jU t->bl P H κ F w (ki t y i) (aB.getD i Go.undef):=by
 intro t;induction t with
 | aw a b _ ej=>
  intro aB y h _;obtain⟨v,us,rfl,h1,h2⟩:=EV h;by_cases ab:b=.cz
  ·subst ab;have:us=[]:=h2.1;subst this;refine⟨rfl,λi E=>?_⟩;cases i with
   | zero=>exact h1
   | succ i=>simp only[jU]at E;omega
  ·obtain⟨aO,aP⟩:=ej h2 ab;refine⟨by simp[jU,aO],λi E=>?_⟩;cases i with
   | zero=>exact h1
   | succ i=>
    have:=aP i (by simp only[jU]at E;omega);simpa [ki]using this
 | cz=>simp
 | _=>
  intro aB y h _;obtain⟨v,rfl,h1⟩:=(rG rfl).1 h;refine⟨rfl,λi E=>?_⟩;simp only[jU]at E;have:i=0:=by omega
  subst this;exact h1
theorem B_{P:Program}{H:Nat->bu}{κ:Nat->bo}{F:Nat->Prop}{w:World}{t:af}{v:Value}{y:t.ah}(h:s8 P t F w v y):bl P H κ F w (qB t y) v:=by
 have pK:=@tt P H κ F w;obtain⟨aB,h1,h2⟩:=h;cases t with
 | aw a b=>
  simp only[yK]at h1;obtain⟨aO,aP⟩:=pK (.aw a b) h2 (by simp);exact⟨aB,h1,aO,aP⟩
 | cz=>exact h1.1
 | _=>
  obtain⟨u,rfl,hu⟩:=(rG rfl).1 h2;have:v=u:=by simpa [yK,eq_comm]using h1
  rw[this];exact hu
section
variable {C:bS} {T:Nat->af} {a1:Nat->Option aJ} {o:Oper} {s:ay} {res:d'}
theorem bc.grow{a:Act}{w w':World}{κ:Nat->bo}{F:Nat->Prop}(h:bc C s a w κ F)(ab:Below w.heap.size w w'):bc C s a w' κ (uN F w w'):=by
 have he:cG F w w':=⟨ab.size,λr G=>ab.block r (h.cL r G)⟩
 refine h.move (H':=s.ad) (e6.refl _ _) (λ_ G=>.inl G) (λr G=>G.imp id λG=>.inr G.1) ab.size (λr G _=>ab.block r G) ⟨ab.os,ab.tape,ab.output⟩ (λ_=>?_) ?_ h.inj ?_ (λ_ _ h=>⟨rfl,h⟩)
 ·intro b;exact cg.kT (h.bp b) (e6.refl _ _) (λ_ G=>.inl G) he rfl rfl λag=>ab.block _ (h.own b ag).1
 ·intro b ag;have:=h.own b ag;refine⟨Nat.lt_of_lt_of_le this.1 ab.size,λar=>?_,.inl ⟨b,ag,rfl⟩⟩;rcases ar with ar | ⟨ar,_⟩
  ·exact this.2.1 ar
  ·omega
 ·intro r G;rcases G with G | ⟨_,G⟩
  ·exact Nat.lt_of_lt_of_le (h.cL r G) ab.size
  omega
theorem B'{r:Option Nat}{P:Program}{o:Oper}{a:Act}{w:World}{K:Act->World->Prop}{Q:Exit->Act->World->Prop}{f:FuncId}{args:Array Value}{R:Ending->World->Prop}(au:∀ c,o.op≠.defer c)
  (h:(execOp a.eval o).run P w=.ok (.enter f args) w) (hc:Calls P f args w R) (ao:∀ e w',R e w'->∃ v,e=.returned v/\K (a.put o.dst v) w'):o.wpIn (dw r) 0 P a w K Q:=by
 refine⟨λ_ _=>trivial,?_⟩;rw[y1 au,h];refine⟨λhs=>(by cases hs),?_⟩;have h1:CallsIn Fence.wide 0 P f args w R:=callsIn_wide.2 hc;have h2:CallsIn (dw r) 0 P f args w R:=by
  cases r with
  | none=>exact h1
  | some l=>exact CallsIn.inRound l h1
 refine h2.mono λe w' he=>?_;grind
theorem RJ{a:Act}{w:World}{κ:Nat->bo}{F:Nat->Prop}{ts:af}(G:bc C s a w κ F){args:Array Operand}(aY:ju (args.toList.map (aT C.aK s.ax))){x:ts.ah}{l:List Nat}
  (hx:(iK ts ((args.toList.map (aT C.aK s.ax)).map λv=>(use v).2)).run s.ad=some (x,l)):∃ F',(∀ r,F r->F' r)/\bc C (s.cc l) a w κ F'/\e5 C.P ts F' w (args.toList.map a.eval) x:=by
 obtain⟨args⟩:=args;obtain⟨F',f1,aW,f2⟩:=bc.kW (pU ts hx) G;refine⟨F',f1,aW,u4 G.bp f1 ts hx f2 (by simp) λi E dp=>?_⟩;simp only[List.getElem_map];have df:i<args.length:=by grind
 have h1:=rO aY i (by grind);have e1:(args.map (aT C.aK s.ax)).getD i .undef=aT C.aK s.ax args[i]:=by grind
 rw[show (List.map (aT C.aK s.ax) (⟨args⟩:Array Operand).toList)=args.map (aT C.aK s.ax) from rfl,e1]at h1;exact oQ (jW G args[i]) h1
theorem RL{a:Act}{w:World}{κ:Nat->bo}{F:Nat->Prop}{Q:Exit->Act->World->Prop}{K:Act->World->Prop}{k:FuncId}{ts tr:af}{sh:ts.ah->M tr.ah}(G:bc C s a w κ F)(ar:hN C.P k ts tr sh)
  (a6:∀ i,o.dst=some i->i<C.nt) {args:Array Operand} {cT:Array TypeId} (ag:o.op=.call { callee:=.value (.func k),args:=args,argTypes:=cT }) (aY:ju (args.toList.map (aT C.aK s.ax))) {x:ts.ah} {l:List Nat}
  (hx:(iK ts ((args.toList.map (aT C.aK s.ax)).map λv=>(use v).2)).run s.ad=some (x,l)) (hs:(sh x).bY)
  (ao:∀ y w',(sh x).bC y->∀ v,b9 C ((if tr.pure then s else s.cc l).set o.dst (qB tr y)) (a.put o.dst v) w'->K (a.put o.dst v) w'):o.wpIn (dw C.r) 0 C.P a w K Q:=by
 have au:∀ c,o.op≠.defer c:=by grind
 obtain⟨args⟩:=args;have cH:(execOp a.eval o).run C.P w=.ok (.enter k (args.map a.eval).toArray) w:=by
  simp only[execOp,ag,Sem.run_bind,resolve,Act.eval,Deferred.ofValue,Sem.run_pure,Result.andThen_ok,invoke];have:=ar.enter (args.map a.eval).toArray w;grind
 obtain⟨F',f1,aW,dB⟩:=RJ G aY hx;refine B' au cH (ar.iH F' w _ x aW.cL aW.ij dB hs) λe w' ⟨v,y,he,aM,fU,ab⟩=>⟨v,he,ao y w' aM v ?_⟩
 by_cases hp:tr.pure=true
 ·rw[if_pos hp];have aA:=G.grow ab;refine⟨κ,_,aA.set a6 (B_ ?_)⟩;obtain⟨aB,c7,q2⟩:=fU;exact⟨aB,c7,RI hp q2⟩
 ·rw[if_neg hp];have aA:=aW.grow ab;exact⟨κ,_,aA.set a6 (B_ fU)⟩
theorem bc.hn{a:Act}{w w':World}{κ:Nat->bo}{F F':Nat->Prop}(h:bc C s a w κ F){b g:Nat}{e:af}{ys:List e.ah}{k:bo}(BA:b<ev)(aA:(s.ad b).gen<g)(ab:Below w.heap.size w w')
  (bd:∀ r,F r->F' r) (s7:∀ r,F' r->F r\/(w.heap.size<=r/\r<w'.heap.size)) (h1:k.eL=true->ys=[])
  (h2:k.eL=false->(w.heap.size<=k.ad/\k.ad<w'.heap.size/\¬F' k.ad)/\∃ cs T,w'.heap[k.ad]?=some (.cells cs T (0,0))/\k.off+k.cap*e.size<=cs.size/\ys.length<=k.cap/\k.cap<2 ^ 63/\ln C.P e F' w' cs k.off ys) :
  bc C (s.b' b ⟨g,.a8 e ys⟩) a w' (λi=>if i=b then k else κ i) F':=by
 have ai:e6 s.ad κ (λi=>if i=b then ⟨g,.a8 e ys⟩ else s.ad i) (λi=>if i=b then k else κ i):=yO aA λaZ cS=>by grind
 refine h.move (H':=λi=>if i=b then ⟨g,.a8 e ys⟩ else s.ad i) ai bd (λr G=>(s7 r G).imp id λh=>.inr h.1) ab.size (λr G _=>ab.block r G) ⟨ab.os,ab.tape,ab.output⟩ (λhe=>?_) ?_ ?_ ?_ (yP (.inl BA) λaZ cS=>by grind)
 ·intro i;by_cases E:i=b
  ·subst E;simp only[cg,if_true];exact⟨h1,λaz=>(h2 az).2⟩
  ·refine cg.kT (h.bp i) ai bd he (by grind) (by grind) λag=>?_;exact ab.block _ (h.own i ag).1
 ·intro i E;by_cases ek:i=b
  ·subst ek;simp only[if_true,bB.bJ,Bool.not_eq_true']at E ⊢;obtain⟨⟨aO,aP,bA⟩,_⟩:=h2 E;exact⟨aP,bA,.inr aO⟩
  ·simp only[if_neg ek]at E ⊢;have:=h.own i E;refine⟨Nat.lt_of_lt_of_le this.1 ab.size,λar=>?_,.inl ⟨i,E,rfl⟩⟩;rcases s7 _ ar with ar | ar
   ·exact this.2.1 ar
   ·omega
 ·intro i j E aC aS;by_cases ek:i=b<;>by_cases lZ:j=b
  ·omega
  ·simp only[if_pos ek,if_neg lZ,bB.bJ,Bool.not_eq_true']at E aC aS;have:=(h.own j aC).1;have:=(h2 E).1.1;omega
  ·simp only[if_neg ek,if_pos lZ,bB.bJ,Bool.not_eq_true']at E aC aS;have:=(h.own i E).1;have:=(h2 aC).1.1;omega
  ·simp only[if_neg ek,if_neg lZ]at E aC aS;exact h.inj i j E aC aS
 ·intro r G;rcases s7 r G with c6 | c6
  ·exact Nat.lt_of_lt_of_le (h.cL r c6) ab.size
  ·exact c6.2
theorem adL(cd:ja C.P a1){k:FuncId}{args:Array Operand}{cT:Array TypeId}(a6:∀ i,o.dst=some i->i<C.nt)(ag:o.op=.call { callee:=.value (.func k),args:=args,argTypes:=cT })(h:(bh C.aK T a1 (aT C.aK s.ax) o).run s.ad=some res):cn C o s res:=by
 simp only[bh,ag,mx,E5]at h;split at h
 ·rename_i c hc;simp only[aq.eJ,Option.bind_eq_some_iff]at h;obtain⟨⟨x,l⟩,hx,h⟩:=h;split at h
  ·rename_i y aM;simp only[aq.run_bind]at h;obtain⟨d,au,h⟩:=qG h;split at h
   ·cases h
   rename_i tu;cases h;have tu:d ∉ l:=by simpa using tu
   have Kf:=a6 d au;intro a w κ F Q G aY gw;obtain⟨aO,aP⟩:=(cd k c hc).2 (adI aM);obtain⟨F',f1,aW,dB⟩:=RJ G aY hx;have cH:(execOp a.eval o).run C.P w=.ok (.enter k (args.map a.eval)) w:=by
    simp only[execOp,ag,Sem.run_bind,resolve,Act.eval,Deferred.ofValue,Sem.run_pure,Result.andThen_ok,invoke];have:=aO (args.map a.eval) w;grind
   have jb:=aP x gw y aM F' w _ aW.cL aW.ij dB;rw[show (args.toList.map a.eval).toArray=args.map a.eval from by rw[<-Array.toList_map,Array.toArray_toList]]at jb;refine B' (by grind) cH jb λz w' ⟨b,dN,bb,g1,dW,g3,g4,g5⟩=>⟨_,bb,?_⟩
   have zd:(s.cc l).ad d=s.ad d:=by simp[ay.cc,tu]
   have i':=aW.hn (b:=d) (g:=(s.ad d).gen+1) (e:=y.1) (ys:=y.2) (k:=b) (Nat.lt_of_lt_of_le Kf G.fR) (by rw[zd];omega) g5 g1 dW g3 g4;refine⟨λi=>if i=d then b else κ i,dN,?_⟩;simp only[ay.hR];rw[BU,tk];refine i'.set a6 ⟨⟨by simp[ay.b'],by unfold bo.slice;split<;>rfl⟩,λ_ _=>by simp[ay.b',bB.len]⟩
  rename_i aM;simp only[aq.run_bind,aq.bx,Option.some.injEq]at h;subst h;intro a w κ F Q G aY gw;refine RL G ((cd k c hc).1 (adJ aM)) a6 ag aY hx gw λy w' aM v j0=>?_;have aM:y=c.g x:=aM;subst aM;have e:∀ (r:aq (List (Nat×bu))),r=(if c.tr.pure then .ret [] else jt l)->s.fK (r.run s.ad)=(if c.tr.pure then s else s.cc l):=by
   intro r G;subst G;split
   ·rfl
   ·exact tk s l
  simp only[ay.hR];grind
 ·cases h
theorem RM{P:Program}{H:Nat->bu}{κ:Nat->bo}{F F':Nat->Prop}{w:World}(aN:∀ b,cg P H κ F w b)(bd:∀ r,F r->F' r){e:af}{zero:List Value}(bb:bt P e F' w zero e.cO){ps:List (Nat×aD)}{qs:List (Nat×Value)}(hlen:ps.length=qs.length)
  (fo:∀ i (h:i<ps.length) (c6:i<qs.length),ps[i].1=qs[i].1/\bl P H κ F w ps[i].2 qs[i].2):∀ (n i:Nat) {xs:List e.ah} {l:List Nat},(td e ps i n).run H=some (xs,l)->
  iJ H κ F' l->xs.length=n/\∀ j (h:j<xs.length),∃ a_,bt P e F' w a_ xs[j]/\(match qs.find? (λp=>p.1 == i+j) with | some q=>a_=q.2.cells.toList | none=>a_=zero):=by
 have find:∀ (ps:List (Nat×aD)) (qs:List (Nat×Value)),ps.length=qs.length->(∀ i (h:i<ps.length) (c6:i<qs.length),ps[i].1=qs[i].1/\bl P H κ F w ps[i].2 qs[i].2)->∀ i,(ps.find? (λp=>p.1 == i)=none/\qs.find? (λp=>p.1 == i)=none)\/∃ p q,ps.find? (λp=>p.1 == i)=some p/\qs.find? (λp=>p.1 == i)=some q/\bl P H κ F w p.2 q.2:=by
  intro ps;induction ps with
  | nil=>grind
  | cons p ps aH=>
   intro qs ai h i;cases qs with
   | nil=>grind
   | cons q qs=>
    have h0:=h 0 (by simp) (by simp);simp only[List.getElem_cons_zero]at h0;by_cases hp:p.1=i
    ·grind
    ·have bf:q.1≠i:=by omega
     have:=aH qs (by grind) (λj aC fA=>by have:=h (j+1) (by grind) (by grind);grind) i;grind
 intro n;induction n with
 | zero=>intro i xs l h _;cases h;simp
 | succ n aH=>
  intro i xs l h ai;simp only[td,aq.eJ,Option.bind_eq_some_iff,aq.bx,Option.some.injEq,Prod.mk.injEq]at h;obtain⟨⟨x,m⟩,h1,⟨ys,da⟩,h2,rfl,rfl⟩:=h;obtain⟨aO,aP⟩:=aH (i+1) h2 ai.right;refine⟨by grind,λj aC=>?_⟩;cases j with
  | zero=>
   rcases find ps qs hlen fo i with⟨f1,f2⟩ | ⟨p,q,f1,f2,f3⟩
   ·rw[f1]at h1;simp only[aq.bx,Option.some.injEq,Prod.mk.injEq]at h1;grind
   ·rw[f1]at h1;refine⟨q.2.cells.toList,(l1 aN bd h1 ai.left f3).2,?_⟩;grind
  | succ j=>
   obtain⟨a_,d1,d2⟩:=aP j (by grind);grind
end
end Go.Fer
namespace Go.Fer
open Go.RowKit
def rV(d:Nat)(em:Bool)(xs:Array Value):List Field->Sem Unit
 | []=>pure ()
 | f::eA=>
  if f.name ≠ "_" then do
   let a <-part f.type xs f.offset
   Instr.checkKey em d f.type a
   rV d em xs eA
  else rV d em xs eA
theorem adM{P:Program}(w:World)(em:Bool)(d:Nat)(t:TypeId)(xs:Array Value)(aG:P.underlying t=some (.struct (P.fieldsOf t))) :
  (Instr.checkKey em (d+1) t (.agg xs)).run P w=(rV d em xs (P.fieldsOf t).toList).run P w:=by
 simp only[Instr.checkKey,Sem.run_bind,di aG,Result.andThen_ok];rw[<-Array.forIn_toList];generalize (P.fieldsOf t).toList=eA;clear aG;induction eA generalizing w with
 | nil=>rfl
 | cons f eA aH=>
  simp only[List.forIn_cons,rV,Sem.run_bind,Sem.run_ite];split
  ·generalize (part f.type xs f.offset).run P w=bR;cases bR with
   | ok a b6=>
    simp only[Result.andThen_ok];generalize (Instr.checkKey em d f.type a).run P b6=cp;cases cp with
    | ok b cI=>
     simp_all
    | halt x cI=>rfl
   | halt x b6=>rfl
  simp_all
theorem Ca{P:Program}{F:Nat->Prop}{w:World}{em:Bool}:∀ (t:af) (d:Nat),t.kA=true->t.jV<=d->
  (∀ {id:TypeId} {v:Value} {x:t.ah},bQ P t id->dU P t F w v x->(Instr.checkKey em d id v).run P w=.ok () w)/\
  (∀ {l:List Field} {off:Nat} {xs:Array Value} {p c q:List Value} {x:t.ah},ch P t (.inr (l,off))=true->xs.toList=p++(c++q)->p.length=off->bt P t F w c x->
   (rV d em xs l).run P w=.ok () w):=by
 intro t;induction t with
 | bool=>
  intro d _ au;refine⟨λ{id v x} h h1=>?_,λh=>by simp[ch]at h⟩;rw[eT.1 h1];obtain⟨d,rfl⟩:∃ e,d=e+1:=⟨d - 1,by simp only[af.jV]at au;omega⟩
  unfold bQ at h;simp only[ch,Bool.and_eq_true]at h;obtain⟨_,h⟩:=h;split at h
  ·rename_i hu;simp[Instr.checkKey,di hu]
  grind
 | int k=>
  intro d _ au;refine⟨λ{id v x} h h1=>?_,λh=>by simp[ch]at h⟩;rw[(gE.1 h1).1];obtain⟨d,rfl⟩:∃ e,d=e+1:=⟨d - 1,by simp only[af.jV]at au;omega⟩
  simp[Instr.checkKey,di (bQ.int h)]
 | str=>
  intro d _ au;refine⟨λ{id v x} h h1=>?_,λh=>by simp[ch]at h⟩;rw[(lX.1 h1).1];obtain⟨d,rfl⟩:∃ e,d=e+1:=⟨d - 1,by simp only[af.jV]at au;omega⟩
  simp[Instr.checkKey,di (bQ.str h)]
 | cz=>intro d h;cases h
 | slice e _=>intro d h;cases h
 | array n e _=>intro d h;cases h
 | bq e _=>intro d h;cases h
 | map k v _ _=>intro d h;cases h
 | fn a b _ _=>intro d h;cases h
 | b8 a _=>intro d h;cases h
 | dT=>intro d h;cases h
 | aw a b fe ej=>
  intro d hc au;simp only[af.kA,Bool.and_eq_true]at hc;simp only[af.jV]at au;have ia:=fe d hc.1 (by omega);have oL:=ej d hc.2 (by omega);refine⟨λh=>by unfold bQ at h;simp[ch]at h,?_⟩;intro l off xs p c q x h hx hp oS;simp only[bt]at oS;obtain⟨c1,c2,rfl,aO,aP⟩:=oS;have eR:=hC a aO;have step : ∀ (f : Field) (b5 : List Field), f.offset = off -> bQ P a f.type -> f.name ≠ "_" -> (rV d em xs (f :: b5)).run P w = (rV d em xs b5).run P w := by
   intro f b5 ag ar az;obtain⟨v,bR,cp⟩:=qF (cs:=xs) (p:=p) (c:=c1) (q:=c2++q) ar (by grind) aO;simp only[rV,az,ne_eq,not_false_eq_true,if_true,Sem.run_bind];rw[ag,<-hp,bR,Result.andThen_ok,ia.1 ar cp,Result.andThen_ok]
  match l,h with
  | [],h=>rfl
  | [f],h=>simp only[ch,Bool.false_eq_true]at h
  | [f,g],h=>
   simp only[ch,Bool.and_eq_true,beq_iff_eq,bne_iff_ne,ne_eq]at h;obtain⟨⟨⟨⟨h1,h2⟩,h3⟩,aR⟩,⟨⟨⟨bw,cZ⟩,fN⟩,iX⟩⟩:=h;rw[step f [g] h1 h2 aR];obtain⟨v,bR,cp⟩:=qF (cs:=xs) (p:=p++c1) (c:=c2) (q:=q) cZ (by grind) aP;have e1:(p++c1).length=g.offset:=by grind
   rw[e1]at bR;simp only[rV,iX,ne_eq,not_false_eq_true,if_true,Sem.run_bind,bR,Result.andThen_ok,oL.1 cZ cp,Sem.run_pure]
  | f::g::i::l,h=>
   simp only[ch,Bool.and_eq_true,beq_iff_eq,bne_iff_ne,ne_eq]at h;obtain⟨⟨⟨⟨h1,h2⟩,h3⟩,aR⟩,bw⟩:=h;rw[step f _ h1 h2 aR,oL.2 bw (p:=p++c1) (c:=c2) (q:=q) (by grind) (by grind) aP]
 | st t aH=>
  intro d hc au;simp only[af.jV]at au;obtain⟨d,rfl⟩:∃ e,d=e+1:=⟨d - 1,by omega⟩
  refine⟨λ{id v x} h h1=>?_,λh=>by simp[ch]at h⟩;have i:=aH d hc (by omega);obtain⟨e1,e2,e3,e4⟩:=h.BN;obtain⟨⟨xs,rfl,hG⟩,oS⟩:=h1;simp only[Value.cells,bt]at oS;rw[adM w em d id xs e4];rcases e3 with e3 | ⟨f,e3,dC,kS,ti⟩ | ⟨rfl,e3⟩
  ·exact i.2 e3 (p:=[]) (c:=xs.toList) (q:=[]) (by simp) rfl oS
  ·rw[e3];obtain⟨v,bR,cp⟩:=qF (cs:=xs) (p:=[]) (c:=xs.toList) (q:=[]) kS (by simp) oS;simp only[List.length_nil]at bR;simp only[rV,ti,ne_eq,not_false_eq_true,if_true,Sem.run_bind,dC,bR,Result.andThen_ok,i.1 kS cp,Sem.run_pure]
  ·cases hc
theorem Kg:∀ (t:af),t.kA=true->∀ (x y:t.ah),gr t x y=true<->x=y:=by
 intro t;induction t with
 | bool=>intro _ x y;simp[gr]
 | int k=>intro _ x y;simp[gr]
 | str=>intro _ x y;simp[gr]
 | st t aH=>intro h x y;exact aH h x y
 | aw a b fe ej=>
  intro h x y;simp only[af.kA,Bool.and_eq_true]at h;simp only[gr,Bool.and_eq_true,fe h.1,ej h.2];grind
 | _=>intro h;cases h
def ze{k:af}{β:Type}(x:k.ah)(es:List MapEntry)(xs:List (k.ah×β))(i:Nat)(r:Option (Nat×Value)):Prop:=
 (r=none/\∀ p∈xs,gr k x p.1=false)\/∃ j e p,es[j]?=some e/\xs[j]?=some p/\gr k x p.1=true/\(∀ jY q,jY<j->xs[jY]?=some q->gr k x q.1=false)/\r=some (i+j,e.val)
theorem ze.next{k:af}{β:Type}{x:k.ah}{e:MapEntry}{es:List MapEntry}{p:k.ah×β}{xs:List (k.ah×β)}{i:Nat}{r:Option (Nat×Value)}(h:ze x es xs (i+1) r)(hp:gr k x p.1=false):ze x (e::es) (p::xs) i r:=by
 rcases h with⟨h1,h2⟩ | ⟨j,aS,p',h1,h2,h3,aR,bw⟩
 ·exact .inl ⟨h1,λq bf=>by
   grind⟩
 ·refine .inr ⟨j+1,aS,p',by grind,by grind,h3,λjY q fA bf=>?_,by grind⟩;grind
theorem RN{P:Program}{F:Nat->Prop}{w:World}{k:af}{β:Type}(hc:k.kA=true)(az:k.jV<=10000){kZ:TypeId}(ao:bQ P k kZ){tv:Value}{x:k.ah}(hx:dU P k F w tv x):∀ (es:List MapEntry) (xs:List (k.ah×β)) (i:Nat),es.length=xs.length->(∀ (j:Nat) (e:MapEntry) (p:k.ah×β),es[j]?=some e->xs[j]?=some p->dU P k F w e.key p.1)->∃ r,(Instr.findAsking kZ tv es i).run P w=.ok r w/\ze x es xs i r
 | [],[],i,_,_=>⟨none,rfl,.inl ⟨rfl,λp hp=>by cases hp⟩⟩
 | e::es,p::xs,i,ai,h=>by
  have h0:=h 0 e p rfl rfl;have he:=(JO k 10000 hc az).1 ao hx h0;obtain⟨r,bR,cp⟩:=RN (β:=β) hc az ao hx es xs (i+1) (by grind) λj aS p' h1 h2=>h (j+1) aS p' (by grind) (by grind);cases bf:gr k x p.1 with
  | true=>
   refine⟨some (i,e.val),by simp[Instr.findAsking,Op.equal,Op.maxDepth,he,bf],.inr ⟨0,e,p,rfl,rfl,bf,λjY q fA=>by omega,rfl⟩⟩
  | false=>exact⟨r,by simp[Instr.findAsking,Op.equal,Op.maxDepth,he,bf,bR],cp.next bf⟩
theorem RO{P:Program}{F:Nat->Prop}{w:World}{k:af}{kZ:TypeId}(ao:bQ P k kZ){d:TypeDesc}(au:P.underlying kZ=some d){u v:Value}{x y:k.ah}(hu:dU P k F w u x)(hv:dU P k F w v y){b:Bool}(h:Instr.sameNow d u v=some b):b=gr k x y:=by
 cases k with
 | bool=>
  rw[eT.1 hu,eT.1 hv]at h;cases d<;>simp only[Instr.sameNow,Option.some.injEq,reduceCtorEq]at h;rw[<-h];rfl
 | int k=>
  rw[(gE.1 hu).1,(gE.1 hv).1]at h;cases d<;>simp only[Instr.sameNow,if_true,Option.some.injEq,reduceCtorEq]at h;rw[<-h];rfl
 | str=>
  rw[(lX.1 hu).1,(lX.1 hv).1]at h;cases d<;>simp only[Instr.sameNow,Option.some.injEq,reduceCtorEq]at h;rw[<-h,beq_toListBytes,ByteArray.toList_eq,ByteArray.toList_eq];simp only[gr];grind
 | st t=>
  obtain⟨⟨us,rfl,_⟩,_⟩:=hu;cases d<;>cases v<;>simp[Instr.sameNow]at h
 | array n t=>
  obtain⟨⟨us,rfl,_⟩,_⟩:=hu;cases d<;>cases v<;>simp[Instr.sameNow]at h
 | cz=>exact hu.1.elim
 | aw a b=>exact hu.1.elim
 | slice e=>
  obtain⟨_,a,cap,e1,_⟩:=(dy rfl).1 hu;obtain rfl:=(List.cons.inj e1).1;cases d<;>simp[Instr.sameNow]at h
 | bq e=>
  obtain⟨_,hx⟩:=(dy rfl).1 hu;rcases hx with⟨e1,_⟩ | ⟨p,y,a_,e1,_⟩<;>(obtain rfl:=(List.cons.inj e1).1;cases d<;>simp[Instr.sameNow]at h)
 | map k' hO=>
  obtain⟨_,hx⟩:=(dy rfl).1 hu;rcases hx with⟨e1,_⟩ | ⟨r,es,clk,e1,_⟩<;>(obtain rfl:=(List.cons.inj e1).1;cases d<;>simp[Instr.sameNow]at h)
 | fn a b=>
  obtain⟨i,z,h1,h2,h3,aR,bw,cZ⟩:=kh ao.kg;unfold bQ at ao;simp only[ch,Bool.and_eq_true,au]at ao;cases d<;>simp[Instr.sameNow]at ao h
 | b8 a=>
  obtain⟨i,z,h1,h2,h3,aR,bw,cZ⟩:=kh ao.kg;unfold bQ at ao;simp only[ch,Bool.and_eq_true,au]at ao;cases d<;>simp[Instr.sameNow]at ao h
 | dT=>
  obtain⟨i,z,h1,h2,h3,aR,bw,cZ⟩:=kh ao.kg;unfold bQ at ao;simp only[ch,Bool.and_eq_true,au]at ao;cases d<;>simp[Instr.sameNow]at ao h
theorem RP{P:Program}{F:Nat->Prop}{w:World}{k:af}{β:Type}{kZ:TypeId}(ao:bQ P k kZ){d:TypeDesc}(au:P.underlying kZ=some d){tv:Value}{x:k.ah}(hx:dU P k F w tv x):∀ (es:List MapEntry) (xs:List (k.ah×β)) (i:Nat) {r:Option (Nat×Value)},es.length=xs.length->(∀ (j:Nat) (e:MapEntry) (p:k.ah×β),es[j]?=some e->xs[j]?=some p->dU P k F w e.key p.1)->Instr.findNow d tv es i=some r->ze x es xs i r
 | [],[],i,r,_,_,h=>by cases h;exact .inl ⟨rfl,λp hp=>by cases hp⟩
 | e::es,p::xs,i,r,ai,h,ar=>by
  have h0:=h 0 e p rfl rfl;simp only[Instr.findNow]at ar;split at ar
  ·rename_i hs;have:=RO ao au hx h0 hs;cases ar;exact .inr ⟨0,e,p,rfl,rfl,this.symm,λjY q fA=>by omega,rfl⟩
  ·rename_i hs;have:=RO ao au hx h0 hs;exact (RP ao au hx es xs (i+1) (by grind) (λj aS p' h1 h2=>h (j+1) aS p' (by grind) (by grind)) ar).next this.symm
  grind
theorem bQ.adN{P:Program}{t:af}{id:TypeId}(h:bQ P t id)(hc:t.kA=true):∃ d,P.underlying id=some d:=by
 cases t with
 | bool=>
  unfold bQ at h;simp only[ch,Bool.and_eq_true]at h;grind
 | int k=>exact⟨_,bQ.int h⟩
 | str=>exact⟨_,bQ.str h⟩
 | st t=>exact⟨_,h.BN.2.2.2⟩
 | aw a b=>unfold bQ at h;simp[ch]at h
 | _=>cases hc
theorem wW{P:Program}{F:Nat->Prop}{w:World}{k:af}{β:Type}(hc:tf k=true){kZ:TypeId}(ao:bQ P k kZ){tv:Value}{x:k.ah}(hx:dU P k F w tv x){es:List MapEntry}{xs:List (k.ah×β)}
  (ai:es.length=xs.length) (h:∀ (j:Nat) (e:MapEntry) (p:k.ah×β),es[j]?=some e->xs[j]?=some p->dU P k F w e.key p.1):∃ r,(Instr.findKey kZ tv es).run P w=.ok r w/\ze x es xs 0 r:=by
 simp only[tf,Bool.and_eq_true,decide_eq_true_eq]at hc;obtain⟨d,au⟩:=ao.adN hc.1;simp only[Instr.findKey,Sem.run_bind,di au,Result.andThen_ok];cases az:Instr.findNow d tv es 0 with
 | some r=>exact⟨r,rfl,RP ao au hx es xs 0 ai h az⟩
 | none=>exact RN hc.1 (by omega) ao hx es xs 0 ai h
theorem RQ{k v:af}{es:List (k.ah×v.ah)}{x:k.ah}:∀ {j:Nat} {p:k.ah×v.ah},es[j]?=some p->gr k x p.1=true->(∀ jY q,jY<j->es[jY]?=some q->gr k x q.1=false)->yW es x=some p.2/\∀ y,ls es x y=es.set j (p.1,y):=by
 induction es with
 | nil=>simp
 | cons q es aH=>
  intro j p h1 h2 h3;cases j with
  | zero=>
   simp at h1;subst h1;exact⟨by simp[yW,h2],λy=>by simp[ls,h2]⟩
  | succ j=>
   have h0:=h3 0 q (by omega) rfl;obtain⟨aO,aP⟩:=aH (j:=j) (p:=p) (by grind) h2 λjY q' fA tn=>h3 (jY+1) q' (by omega) (by grind);exact⟨by simpa [yW,List.find?_cons,h0]using aO,λy=>by simp[ls,h0,aP y]⟩
theorem RR{k v:af}{es:List (k.ah×v.ah)}{x:k.ah}(h:∀ p∈es,gr k x p.1=false):yW es x=none/\∀ y,ls es x y=es++[(x,y)]:=by
 induction es with
 | nil=>exact⟨rfl,λ_=>rfl⟩
 | cons q es aH=>
  have h0:=h q (by simp);obtain⟨aO,aP⟩:=aH λp hp=>h p (by grind);exact⟨by simpa [yW,List.find?_cons,h0]using aO,λy=>by simp[ls,h0,aP y]⟩
section
variable {C:bS} {T:Nat->af} {a1:Nat->Option aJ} {o:Oper} {s:ay} {res:d'}
theorem adO{P:Program}{F:Nat->Prop}{w:World}{v:af}{z:Value}(hv:v.ee=true\/v.isAgg=true)(i5:jT v z.cells.toList=some [])(i6:(∃ cs,z=.agg cs)<->v.isAgg=true):dU P v F w z v.cO:=by
 obtain⟨c,e,n7,z2⟩:=uS (P:=P) (H:=λ_=>⟨0,.ff⟩) (κ:=λ_=>⟨0,0,0,true⟩) (F:=F) (w:=w) v i5;rw[List.append_nil]at e;refine⟨?_,by grind⟩;have ai:=hC v n7;rcases hv with hv | hv
 ·obtain⟨u,rfl,hu⟩:=Bw hv n7;have Fh:∀ cs,z≠.agg cs:=λcs bb=>by
   have:=i6.1 ⟨cs,bb⟩;cases v<;>simp[af.ee,af.isAgg]at hv this
  have bb:z.cells=#[z]:=by
   cases z<;>first | rfl | grind
  cases v<;>simp only[af.ee,Bool.false_eq_true]at hv<;>exact bb
 ·obtain⟨cs,rfl⟩:=i6.2 hv;have aS:cs.toList=c:=e;cases v<;>simp only[af.isAgg,Bool.false_eq_true]at hv
  ·exact⟨cs,rfl,by rw[<-Array.length_toList,aS,ai];rfl⟩
  ·exact⟨cs,rfl,by rw[<-Array.length_toList,aS,ai];rfl⟩
def Kh(P:Program)(k v:af)(F:Nat->Prop)(w:World)(ms:List MapEntry)(xs:List (k.ah×v.ah)):Prop:=
 ms.length=xs.length/\∀ (j:Nat) (e:MapEntry) (p:k.ah×v.ah),ms[j]?=some e->xs[j]?=some p->dU P k F w e.key p.1/\dU P v F w e.val p.2
theorem uO.es{P:Program}{k v:af}{F:Nat->Prop}{w:World}{ms:Array MapEntry}{clk:Nat}{xs:List (k.ah×v.ah)}(h:uO P k v F w ms clk xs):Kh P k v F w ms.toList xs:=by
 obtain⟨h1,h2,h3,aR⟩:=h;refine⟨by omega,λj e p he hp=>?_⟩;obtain⟨aC,rfl⟩:=List.getElem?_eq_some_iff.1 hp;obtain⟨fA,rfl⟩:=List.getElem?_eq_some_iff.1 he;obtain⟨a,b,c,d,_⟩:=h3 j aC (by omega);exact⟨⟨a,by grind⟩,c,by grind⟩
theorem adP{a:Act}{w:World}{κ:Nat->bo}{F:Nat->Prop}(G:bc C s a w κ F){k v:af}{av:aD}{u:Value}{xs:List (k.ah×v.ah)}(h:(BK k v av).run s.ad=some xs)(hu:bl C.P s.ad κ F w av u) :
  (u=.map none/\xs=[])\/∃ r ms clk,u=.map (some r)/\w.heap[r]?=some (.map ms clk)/\Kh C.P k v F w ms.toList xs:=by
 have cc:∀ {xs:List (k.ah×v.ah)},bt C.P (.map k v) F w [u] xs->(u=.map none/\xs=[])\/∃ r ms clk,u=.map (some r)/\w.heap[r]?=some (.map ms clk)/\Kh C.P k v F w ms.toList xs:=by
  intro xs hx;rcases hx with⟨e1,e2⟩ | ⟨r,ms,clk,e1,h1,h2,h3,aR,bw,cZ⟩
  ·grind
  ·exact .inr ⟨r,ms,clk,(List.cons.inj e1).1,h2,uO.es ⟨h3,aR,bw,cZ⟩⟩
 cases av with
 | val t es=>
  simp only[BK,aq.bx]at h;exact cc ((dy rfl).1 (EZ h hu)).2
 | jn x=>
  simp only[bl]at hu;subst hu;have hx:u=.map none/\xs=[]:=by
   unfold BK at h;split at h
   ·grind
   ·simp_all
   ·grind
   ·cases h
  grind
 | fp b g=>
  simp only[BK,aq.eI,aq.bx]at h;split at h
  ·rename_i aA;have aN:=G.bp b;unfold cg at aN;split at h
   ·rename_i k' hO es ab;obtain⟨e,rfl⟩:=ky h;cases e;rw[ab]at aN;obtain⟨ms,clk,h1,h2⟩:=aN;exact .inr ⟨_,ms,clk,hu.2 aA.symm (by rw[ab];rfl),h1,h2.es⟩
   ·rename_i k' hO es ab;obtain⟨e,rfl⟩:=ky h;cases e;rw[ab]at aN;have:=hu.2 aA.symm (by rw[ab];rfl);simp only[jo]at aN;grind
   grind
  grind
 | _=>cases h
theorem adQ{ty:TypeId}{r:Option Operand}(a6:∀ i,o.dst=some i->i<C.nt)(ag:o.op=.makeMap ty r)(h:(bh C.aK T a1 (aT C.aK s.ax) o).run s.ad=some res):cn C o s res:=by
 simp only[bh,ag]at h;split at h
 ·cases h
 ·rename_i RS;have RS:r=none:=by simp_all
  subst RS;split at h
  ·rename_i k v aG;obtain⟨b,au,ao⟩:=qG h;simp only[Option.some.injEq]at ao;subst ao;intro a w κ F Q G _ _;have cH:(execOp a.eval o).run C.P w=.ok (.value (.map (some w.heap.size))) (w.alloc (.map #[] 0)):=by
    simp[execOp,ag,Instr.makeMap]
   have h1:=G.alloc (b:=b) (x:=⟨(s.ad b).gen+1,.mp k v []⟩) (G.gv (a6 b au)) (Nat.lt_succ_self _) (o:=.map #[] 0) (k:=⟨w.heap.size,0,0,false⟩) rfl λH κ' _ _ _=>
    ⟨#[],0,pM _ _,rfl,by simp,λi E=>by simp,λi j E=>by simp⟩
   refine ha (by grind) cH ⟨_,F,bc.set (s:=s.b' b _) h1 a6 ⟨⟨by simp[ay.b'],rfl⟩,λ_ _=>by simp⟩⟩
  ·cases h
theorem adR(hT:dx C.P T){ty:TypeId}{m x:Operand}{ok:Bool}(a6:∀ i,o.dst=some i->i<C.nt)(ag:o.op=.lookup ty m x ok)(h:(bh C.aK T a1 (aT C.aK s.ax) o).run s.ad=some res):cn C o s res:=by
 simp only[bh,ag,yX]at h;split at h
 ·rename_i k v aG;split at h
  ·rename_i hc;simp only[Bool.and_eq_true,Bool.or_eq_true]at hc;obtain⟨i,j,E,mC,gP⟩:=(hT.bO aG (by simp)).mp;simp only[aq.eJ,Option.bind_eq_some_iff,bz,aq.bx,Option.some.injEq]at h;obtain⟨es,oT,⟨y,l⟩,aM,rfl⟩:=h;refine cn.pure (by grind) a6 λa w κ F G aY _=>?_;have an:=cv G m rfl aY.1;have hx:=BQ G aM (cv G x rfl aY.2);obtain⟨inf,z,i1,i2,i3,i4,i5,i6⟩:=kh gP.kg;have hzero:dU C.P v F w z v.cO:=adO hc.2 i5 i6;have fin:∀ (u:Value) (q:Option v.ah),dU C.P v F w u (q.getD v.cO)->bl C.P s.ad κ F w (Q9 v q ok) (if ok=true then .tuple #[u,.bool q.isSome] else u):=by
    intro u q h3;cases ok with
    | true=>
     refine⟨[u,.bool q.isSome],rfl,rfl,λi E=>?_⟩;match i,E with
     | 0,_=>exact h3
     | 1,_=>exact eT.2 rfl
    | false=>exact h3
   have lY:tf k=true:=hc.1;have eX:k.kA=true/\k.jV<=100:=by simpa [tf]using lY
   rcases adP G oT an with⟨hu,az⟩ | ⟨r,ms,clk,hu,hw,j1⟩
   ·subst az;have dG:=(Ca (em:=true) k 10000 eX.1 (by omega)).1 mC hx;obtain⟨f,f1,f2⟩:=wW (β:=v.ah) (xs:=[]) (es:=[]) lY mC hx rfl (λj e p h=>by cases h);rcases f2 with⟨rfl,_⟩ | ⟨j,e,p,h1,_⟩
    ·refine⟨_,?_,fin z none hzero⟩;simp only[execOp,ag,hu,Instr.lookup,Sem.run_bind,di E,Result.andThen_ok,Sem.run_pure];simp only[show (#[]:Array MapEntry).isEmpty=true from rfl,dG,Result.andThen_ok,f1];cases ok<;>simp[qE i1 i4]
    grind
   ·have dG:=(Ca (em:=ms.isEmpty) k 10000 eX.1 (by omega)).1 mC hx;obtain⟨f,f1,f2⟩:=wW (β:=v.ah) (xs:=es) (es:=ms.toList) lY mC hx j1.1 (λj e p h1 h2=>by
     have:=(j1.2 j e p h1 h2).1;exact⟨this.1,eS k (λ_ _=>trivial) (cG.refl F w) this.2⟩)
    have eB:(getObj r).run C.P w=.ok (.map ms clk) w:=by simp[getObj,Sem.run,hw]
    rcases f2 with⟨rfl,ea⟩ | ⟨j,e,p,h1,h2,h3,aR,rfl⟩
    ·refine⟨_,?_,by rw[(RR ea).1];exact fin z none hzero⟩;simp only[execOp,ag,hu,Instr.lookup,Sem.run_bind,di E,Result.andThen_ok,Sem.run_pure,eB,dG,f1,qE i1 i4];rfl
    ·refine⟨_,?_,by rw[(RQ h2 h3 aR).1];exact fin e.val (some p.2) (j1.2 j e p h1 h2).2⟩;simp only[execOp,ag,hu,Instr.lookup,Sem.run_bind,di E,Result.andThen_ok,Sem.run_pure,eB,dG,f1];rfl
  ·cases h
 ·cases h
theorem Ki(P:Program)(w:World)(u3 dZ:Value):∃ k' w',(Instr.keyThatStays u3 dZ).run P w=.ok k' w'/\(k'=dZ\/k'=u3)/\(w'=w\/w'=w.drew):=by
 unfold Instr.keyThatStays;split
 ·exact⟨dZ,w,rfl,.inl rfl,.inl rfl⟩
 ·have ar : (Question.extern "map.whichKeyStays" 2).forced = false := rfl;simp only[Sem.run_bind,run_choose,ar,Bool.false_eq_true,if_false,Result.andThen_ok];split
  ·exact⟨dZ,_,rfl,.inl rfl,.inr rfl⟩
  ·exact⟨u3,_,rfl,.inr rfl,.inr rfl⟩
theorem rW{P:Program}{w:World}{r:Nat}{es:Array MapEntry}{clk:Nat}(h:w.heap[r]?=some (.map es clk))(o:Obj):(setObj r o).run P w=.ok () { w with heap:=w.heap.setIfInBounds r o }:=by
 simp[setObj,Sem.run,h]
theorem Kj(hT:dx C.P T){ty:TypeId}{m x y:Operand}(Kf:o.dst=none)(ag:o.op=.mapUpdate ty m x y\/o.op=.insert ty m x y)(h:(bh C.aK T a1 (aT C.aK s.ax) o).run s.ad=some res):cn C o s res:=by
 have au:∀ c,o.op≠.defer c:=by grind
 have kD:∀ aF,bh C.aK T a1 aF o=qD T aF ty m x y:=λaF=>by rcases ag with ag | ag<;>simp only[bh,ag]
 have hex:∀ aF w,(execOp aF o).run C.P w=(do Instr.mapUpdate ty (aF m) (aF x) (aF y);pure .skip:Sem Next).run C.P w:=λaF w=>by rcases ag with ag | ag<;>simp only[execOp,ag]
 rw[kD]at h;simp only[qD]at h;split at h
 ·rename_i k v aG;obtain⟨kZ,zf,E,mC,gP⟩:=(hT.bO aG (by simp)).mp;split at h
  ·rename_i hc;split at h
   ·rename_i b g tw;simp only[aq.eJ,Option.bind_eq_some_iff,aq.run_bind,aq.eI,aq.bx]at h;obtain⟨⟨dn,n2⟩,hx,⟨mD,n3⟩,aM,h⟩:=h;split at h
    ·rename_i aA;obtain⟨aA,pR⟩:=aA;have pR:b ∉ n2++n3:=by
      grind
     split at h
     ·rename_i k' hO es ab;simp only[Option.map_eq_some_iff]at h;obtain⟨RT,oT,rfl⟩:=h;obtain⟨e,rfl⟩:=ky oT;cases e;intro a w κ F Q G aY _;obtain⟨F',f1,aW,f2⟩:=bc.kW ((mA hx).append (mA aM)) G;have an:bl C.P s.ad κ F w (use (aT C.aK s.ax m)).2 (a.eval m):=cv G m rfl aY.1;rw[tw]at an;have kE:=an.2 aA.symm (by rw[ab];rfl);have tx:=l1 G.bp f1 hx f2.left (cv G x rfl aY.2.1);have Fo:=l1 G.bp f1 aM f2.right (cv G y rfl aY.2.2);have oX:(s.cc (n2++n3)).ad b=s.ad b:=by simp only[ay.cc];grind
      have aN:=aW.bp b;unfold cg at aN;rw[oX,ab]at aN;obtain⟨ms,clk,hw,tz⟩:=aN;have eX:k.kA=true/\k.jV<=100:=by simpa [tf]using hc
      have dG:=(Ca (em:=false) k 10000 eX.1 (by omega)).1 mC tx;have j1:=tz.es;obtain⟨f,c7,q2⟩:=wW (β:=v.ah) (xs:=es) (es:=ms.toList) hc mC tx j1.1 (λj e p h1 h2=>(j1.2 j e p h1 h2).1);have eB:(getObj (κ b).ad).run C.P w=.ok (.map ms clk) w:=by simp[getObj,Sem.run,hw]
      have oV:s.fK ((jt (n2++n3)).run s.ad++[(b,⟨(s.ad b).gen,.mp k v (ls es dn mD)⟩)])=(s.cc (n2++n3)).b' b ⟨(s.ad b).gen,.mp k v (ls es dn mD)⟩:=by
       rw[BU,tk]
      have fV:e6 (s.cc (n2++n3)).ad κ (λi=>if i=b then (⟨(s.ad b).gen,.mp k v (ls es dn mD)⟩:bu) else (s.cc (n2++n3)).ad i) κ:=
       qA (by rw[oX]) (λh=>by cases h) (λh=>by cases h) (λ_=>by rw[oX,ab];rfl) (λh=>by cases h)
      obtain⟨g_,Kk,Fp,RU⟩:=tz;have done:∀ (b6:World) (Fq:Array MapEntry) (Fs:Nat),(b6=w\/b6=w.drew)->
        (execOp a.eval o).run C.P w=.ok .skip { b6 with heap:=b6.heap.setIfInBounds (κ b).ad (.map Fq Fs) }->
        (∀ {w'},cG F' w w'->uO C.P k v F' w' Fq Fs (ls es dn mD))->
        o.wpIn (dw C.r) 0 C.P a w (λa' w'=>b9 C (s.hR o.dst ⟨(use (aT C.aK s.ax m)).1/\(use (aT C.aK s.ax x)).1/\(use (aT C.aK s.ax y)).1,True,.undef,(jt (n2++n3)).run s.ad++[(b,⟨(s.ad b).gen,.mp k v (ls es dn mD)⟩)]⟩) a' w') Q:=by
       intro b6 Fq Fs lB cH adS;have cA:b6.heap=w.heap:=by rcases lB with rfl | rfl<;>rfl
       have iN:cM w b6:=by rcases lB with rfl | rfl<;>exact⟨rfl,rfl,rfl⟩
       refine E' au cH ⟨κ,F',?_⟩;simp only[ay.hR];rw[oV,Kf];refine aW.oO (b:=b) (x:=⟨(s.ad b).gen,.mp k v (ls es dn mD)⟩) (by rw[oX,ab];rfl) rfl fV (λh=>by cases h) (λ_=>by rw[oX,ab];rfl) (λr Kl=>?_) (by grind) ⟨iN.os,iN.tape,iN.output⟩ λH _ _ he=>?_
       ·grind
       ·have b4:(κ b).ad<w.heap.size:=(Array.getElem?_eq_some_iff.1 hw).1;exact⟨Fq,Fs,by grind,adS he⟩
      rcases q2 with⟨rfl,ea⟩ | ⟨j,e,p,h1,h2,h3,aR,rfl⟩
      ·refine done w (ms.push { key:=a.eval x,val:=a.eval y,born:=clk }) (clk+1) (.inl rfl) ?_ λ{w'} he=>?_
       ·rw[hex];simp only[kE,Instr.mapUpdate,Sem.run_bind,di E,Result.andThen_ok,eB,dG,c7,rW hw,Sem.run_pure]
       ·rw[(RR ea).2];refine⟨by grind,?_,λi E dp=>?_,λi j E aC e=>?_⟩
        ·rw[List.map_append,List.nodup_append];refine⟨Kk,by simp,λq bf q' tn=>?_⟩;obtain⟨p,hp,rfl⟩:=List.mem_map.1 bf;simp only[List.map_cons,List.map_nil,List.mem_singleton]at tn;subst tn;intro e;have:=ea p hp;rw[e,(Kg k eX.1 _ _).2 rfl]at this;grind
        ·by_cases pV:i<es.length
         ·obtain⟨aO,aP,bA,gi,oY⟩:=Fp i pV (by omega);have e1:(es++[(dn,mD)])[i]=es[i]:=List.getElem_append_left pV;have e2:(ms.push { key:=a.eval x,val:=a.eval y,born:=clk })[i]=ms[i]'(by omega):=Array.getElem_push_lt (by omega);rw[e1,e2];exact⟨aO,eS k (λ_ h=>h) he aP,bA,eS v (λ_ h=>h) he gi,by omega⟩
         ·have adT:i=es.length:=by grind
          subst adT;have e1:(es++[(dn,mD)])[es.length]=(dn,mD):=by simp
          have e2:(ms.push { key:=a.eval x,val:=a.eval y,born:=clk })[es.length]={ key:=a.eval x,val:=a.eval y,born:=clk }:=by
           grind
          rw[e1,e2];exact⟨tx.1,eS k (λ_ h=>h) he tx.2,Fo.1,eS v (λ_ h=>h) he Fo.2,by simp⟩
        ·have born:∀ i (h:i<(ms.push { key:=a.eval x,val:=a.eval y,born:=clk }).size),(∃ c6:i<ms.size,(ms.push { key:=a.eval x,val:=a.eval y,born:=clk })[i]=ms[i])\/(i=ms.size/\((ms.push { key:=a.eval x,val:=a.eval y,born:=clk })[i]).born=clk):=by
          grind
         grind
      ·have aC:j<es.length:=(List.getElem?_eq_some_iff.1 h2).1;have wX:j<ms.size:=by omega
       have Km:ms[j]=e:=by
        grind
       have mE:es[j]=p:=(List.getElem?_eq_some_iff.1 h2).2;have adU:dn=p.1:=(Kg k eX.1 _ _).1 h3;obtain⟨jc,b6,bR,cp,dX⟩:=Ki C.P w e.key (a.eval x);have lB:b6.heap[(κ b).ad]?=some (.map ms clk):=by rcases dX with rfl | rfl<;>exact hw
       refine done b6 (ms.modify j λe=>{ e with key:=jc,val:=a.eval y }) clk dX ?_ λ{w'} he=>?_
       ·rw[hex];rw[Nat.zero_add]at c7;simp only[kE,Instr.mapUpdate,Sem.run_bind,di E,Result.andThen_ok,eB,dG,c7];have nz:((ms[j]?).map (·.key)).getD (a.eval x)=e.key:=by
         grind
        rw[nz,bR];simp only[Result.andThen_ok,rW lB,Sem.run_pure]
       ·rw[(RQ h2 h3 aR).2];refine⟨by grind,?_,λi E dp=>?_,λi jY E fA aS=>?_⟩
        ·have:(es.set j (p.1,mD)).map (·.1)=es.map (·.1):=by
          apply List.ext_getElem?;grind
         grind
        ·have pV:i<es.length:=by grind
         have Kn:i<ms.size:=by omega
         obtain⟨aO,aP,bA,gi,oY⟩:=Fp i pV Kn;by_cases zg:j=i
         ·subst zg;have e1:(es.set j (p.1,mD))[j]=(p.1,mD):=by simp
          have e2:(ms.modify j λe=>{ e with key:=jc,val:=a.eval y })[j]={ key:=jc,val:=a.eval y,born:=ms[j].born }:=by grind
          rw[e1,e2];have uW:dU C.P k F' w jc p.1:=by
           rcases cp with rfl | rfl
           ·grind
           ·rw[<-Km,<-mE];exact⟨aO,aP⟩
          exact⟨uW.1,eS k (λ_ h=>h) he uW.2,Fo.1,eS v (λ_ h=>h) he Fo.2,oY⟩
         ·have e1:(es.set j (p.1,mD))[i]=es[i]:=by grind
          have e2:(ms.modify j λe=>{ e with key:=jc,val:=a.eval y })[i]=ms[i]:=by grind
          rw[e1,e2];exact⟨aO,eS k (λ_ h=>h) he aP,bA,eS v (λ_ h=>h) he gi,oY⟩
        grind
     grind
    grind
   ·cases h
  ·cases h
 ·cases h
end
end Go.Fer
namespace Go.Fer
open Go.RowKit
section
variable {C:bS} {T:Nat->af} {a1:Nat->Option aJ} {o:Oper} {s:ay} {res:d'}
theorem RV{P:Program}{F:Nat->Prop}{w:World}{e:af}{z:Value}(bw:jT e z.cells.toList=some [])(n:Nat) :
  fW P e F w ((Array.range (n*e.size)).map (λi=>z.cells[i % z.cells.size]!)).toList (List.replicate n e.cO):=by
 obtain⟨c,ec,n7,z2⟩:=uS (P:=P) (H:=λ_=>⟨0,.ff⟩) (κ:=λ_=>⟨0,0,0,true⟩) (F:=F) (w:=w) e bw;rw[List.append_nil]at ec;have tA:z.cells.size=e.size:=by rw[<-Array.length_toList,ec];exact hC e n7
 refine⟨by simp,λi E=>?_⟩;have dp:i<n:=by grind
 have hle:(i+1)*e.size<=n*e.size:=Nat.mul_le_mul_right _ (by omega);rw[Nat.add_mul]at hle;have:((((Array.range (n*e.size)).map (λi=>z.cells[i % z.cells.size]!)).toList.drop (i*e.size)).take e.size)=z.cells.toList:=by
  apply List.ext_getElem?;intro j;simp only[List.getElem?_take,List.getElem?_drop];split
  ·rename_i aC;have fA:j<z.cells.size:=by omega
   rw[Array.getElem?_toList,Array.getElem?_toList];have zc:(i*e.size+j) % z.cells.size=j:=by rw[tA,Nat.add_comm,Nat.add_mul_mod_self_right,Nat.mod_eq_of_lt aC]
   grind
  grind
 grind
theorem adV{n:Int}(h0:0<=n)(h1:n<=4294967296):IntKind.i64.wrap n=n:=by
 simp only[IntKind.wrap,IntKind.signed,IntKind.bits];grind
theorem adW(hT:dx C.P T){ty:TypeId}{l c:Operand}(a6:∀ i,o.dst=some i->i<C.nt)(ag:o.op=.makeSlice ty l c)(h:(bh C.aK T a1 (aT C.aK s.ax) o).run s.ad=some res):cn C o s res:=by
 simp only[bh,ag,E6]at h;split at h
 ·rename_i e aG;split at h
  ·rename_i n m ai an;have cU:=hT.bO aG (by simp);obtain⟨jy,aC,iO,n8⟩:=cU.sl;obtain⟨inf,z,i1,i2,i3,i4,i5,i6⟩:=kh iO.kg;obtain⟨b,au,ao⟩:=qG h;simp only[Option.some.injEq]at ao;subst ao;intro a w κ F Q G aY hc;have adX:=n5 (cv G l rfl aY.1) ai;have iN:=n5 (cv G c rfl aY.2) an;obtain⟨c0,rfl,c1⟩:0<=n/\n=m/\bT n.toNat:=hc;unfold bT at c1;obtain⟨k,rfl⟩:∃ k:Nat,n=k:=⟨n.toNat,by omega⟩
   simp only[Int.toNat_natCast]at c1;have hw:IntKind.i64.wrap (k:Int)=k:=adV (by omega) (by omega);let cs:Array Value:=(Array.range (k*e.size)).map (λi=>z.cells[i % z.cells.size]!);have i':fW C.P e F w cs.toList (List.replicate k e.cO):=RV i5 k;have axa:inf.bytes*k<=2 ^ 47:=by
    calc inf.bytes*k<=1024*4294967296:=Nat.mul_le_mul i3 (by omega)
     _<=2 ^ 47:=by decide
   have cH:(execOp a.eval o).run C.P w=.ok (.value (.slice (some ⟨w.heap.size,0,none⟩) k k)) (w.alloc (.cells cs jy)):=by
    have adY:¬((inf.bytes:Int)*(k:Int) > 2 ^ 48):=by
     omega
    have mF:¬((k:Int)<0):=by omega
    have wV:¬(k*inf.bytes > roomBytes):=by
     have:roomBytes=2 ^ 47:=rfl;grind
    have uW:¬((k:Int) > (k:Int)):=by omega
    simp only[execOp,ag,Instr.makeSlice,adX.1,iN.1,Sem.run_bind,di aC,Result.andThen_ok,asInt,asIntOf,Sem.run_pure,E8 i1,hw,adY,mF,uW,decide_false,Bool.or_false,Bool.false_or,Bool.false_eq_true,if_false,run_askRoom,Int.toNat_natCast,rN i1,i2];by_cases rX:k*e.size=0
    ·have adZ:cs=#[]:=Array.eq_empty_of_size_eq_zero (by grind);rw[adZ];have ad0:(Array.map (λ_:Nat=>(default:Value)) (Array.range 0))=#[]:=by simp
     simp[rX,newRow];rw[ad0]
    ·simp[rX,qE i1 i4,newRow,cs]
   have h3:=G.B5 (b:=b) (g:=(s.ad b).gen+1) (zs:=List.replicate k e.cO) (k:=⟨w.heap.size,0,k,false⟩) (w':=w.alloc (.cells cs jy)) (Nat.lt_succ_self _) (.inr rfl) (by simp) (λr G=>oN w _ G) (λ_=>by simp) ⟨rfl,rfl,rfl⟩
    (λH κ'=>⟨λh=>(by cases h),λ_=>⟨cs,jy,pM w _,by grind,by simp,by grind,(i'.B3 (pre:=[]) (post:=[]) (by simp)).later (cG.alloc G.cL _)⟩⟩)
   refine ha (by grind) cH ⟨_,F,bc.set (s:=s.b' b _) h3 a6 ⟨⟨by simp[ay.b'],rfl⟩,λ_ _=>by simp[ay.b',bo.slice,bB.len]⟩⟩
  ·cases h
 ·cases h
theorem fW.take{P:Program}{e:af}{F:Nat->Prop}{w:World}{all:List Value}{xs:List e.ah}(h:fW P e F w all xs){n:Nat}(az:n<=xs.length):fW P e F w (all.take (n*e.size)) (xs.take n):=by
 have hle:n*e.size<=xs.length*e.size:=Nat.mul_le_mul_right _ az;refine⟨by simp only[List.length_take,h.1];simp,λi E=>?_⟩;have dp:i<n:=by grind
 have ad1:(i+1)*e.size<=n*e.size:=Nat.mul_le_mul_right _ (by omega);rw[Nat.add_mul]at ad1;have:((all.take (n*e.size)).drop (i*e.size)).take e.size=(all.drop (i*e.size)).take e.size:=by
  rw[List.drop_take,List.take_take,Nat.min_eq_left (by omega)]
 rw[this];simpa using h.2 i (by omega)
theorem RW{P:Program}{w:World}{e:af}{q:Option Addr}{n cap:Nat}{xs:List e.ah}{F:Nat->Prop}(az:n<=xs.length)(h:(q=none/\xs=[]/\cap=0)\/∃ p all,q=some p/\fW P e F w all xs/\kk w p all) :
  ∃ all,(Builtin.firstCells e.size n (.slice q xs.length cap)).run P w=.ok all.toArray w/\fW P e F w all (xs.take n):=by
 rcases h with⟨rfl,rfl,rfl⟩ | ⟨p,all,rfl,bV,a2⟩
 ·exact⟨[],by rfl,by simp[fW]⟩
 ·have hle:n*e.size<=xs.length*e.size:=Nat.mul_le_mul_right _ az;refine⟨all.take (n*e.size),?_,bV.take az⟩;simp only[Builtin.firstCells];have ai:(all.take (n*e.size)).length=n*e.size:=by simp only[List.length_take,bV.1];omega
  have G:kk w p (all.take (n*e.size)):=⟨λh0=>a2.1 (by grind),λj aC=>by
   have fA:j<all.length:=by grind
   rw[List.getElem_take];exact a2.2 j fA⟩
  have:=E_ (P:=P) G;grind
theorem ln.fO{P:Program}{e:af}{F:Nat->Prop}{w w':World}{cs cP:Array Value}{off lo:Nat}{xs zs:List e.ah}{dZ:List Value}(h:ln P e F w cs off xs)(he:cG F w w')(az:fW P e F w dZ zs)(ai:lo+zs.length<=xs.length)
  (oR:off+xs.length*e.size<=cs.size) (hc:cP.toList=cs.toList.take (off+lo*e.size)++(dZ++cs.toList.drop (off+lo*e.size+dZ.length))):ln P e F w' cP off (Go.Fer.fO xs lo zs):=by
 have hlen:(Go.Fer.fO xs lo zs).length=xs.length:=by simp[Go.Fer.fO];omega
 have ad2:(lo+zs.length)*e.size<=xs.length*e.size:=Nat.mul_le_mul_right _ ai;rw[Nat.add_mul]at ad2;have oW:=az.1;have gw:(cs.toList.take (off+lo*e.size)).length=off+lo*e.size:=by grind
 intro i E;rw[hlen]at E;have ad3:i<lo\/(lo<=i/\i<lo+zs.length)\/lo+zs.length<=i:=by omega
 rcases ad3 with h1 | ⟨h1,h2⟩ | h1
 ·obtain⟨a_,d1,d2⟩:=h i E;have RE:=hC e d2;have e1:(Go.Fer.fO xs lo zs)[i]'(by omega)=xs[i]:=by
   simp only[Go.Fer.fO,List.append_assoc];grind
  rw[e1];refine⟨a_,λj aC=>?_,eS e (λ_ h=>h) he d2⟩;have hle:(i+1)*e.size<=lo*e.size:=Nat.mul_le_mul_right _ (by omega);rw[Nat.add_mul]at hle;rw[<-Array.getElem?_toList,hc,List.getElem?_append_left (by omega),List.getElem?_take,if_pos (by omega),Array.getElem?_toList];grind
 ·have B8:=az.B3 (pre:=cs.toList.take (off+lo*e.size)) (post:=cs.toList.drop (off+lo*e.size+dZ.length)) hc;obtain⟨a_,d1,d2⟩:=B8 (i - lo) (by omega);have e1:(Go.Fer.fO xs lo zs)[i]'(by omega)=zs[i - lo]'(by omega):=by
   simp only[Go.Fer.fO,List.append_assoc];grind
  rw[e1];refine⟨a_,λj aC=>?_,eS e (λ_ h=>h) he d2⟩;have:=d1 j aC;rw[gw]at this;rw[<-this];congr 1;have:i*e.size=lo*e.size+(i - lo)*e.size:=by rw[<-Nat.add_mul];grind
  omega
 ·obtain⟨a_,d1,d2⟩:=h i E;have RE:=hC e d2;have e1:(Go.Fer.fO xs lo zs)[i]'(by omega)=xs[i]:=by
   simp only[Go.Fer.fO,List.append_assoc];have fV:(xs.take lo).length=lo:=by grind
   rw[List.getElem_append_right (by omega),List.getElem_append_right (by omega)];grind
  rw[e1];refine⟨a_,λj aC=>?_,eS e (λ_ h=>h) he d2⟩;have Ft:(lo+zs.length)*e.size<=i*e.size:=Nat.mul_le_mul_right _ h1;rw[Nat.add_mul]at Ft;rw[<-Array.getElem?_toList,hc,List.getElem?_append_right (by omega),List.getElem?_append_right (by omega),List.getElem?_drop,gw];grind
theorem fW.one{P:Program}{e:af}{F:Nat->Prop}{w:World}{dZ:List Value}{ys:List e.ah}(h:fW P e F w dZ ys)(kX:0<e.size):∀ v∈dZ,v.oneCell'=true:=by
 intro v hv;obtain⟨j,aC,rfl⟩:=List.mem_iff_getElem.1 hv;have hdiv:j / e.size<ys.length:=(Nat.div_lt_iff_lt_mul kX).2 (by rw[<-h.1];exact aC);have nx:=h.2 (j / e.size) hdiv;have ik:=yS (P:=P) (H:=λ_=>⟨0,.ff⟩) (κ:=λ_=>⟨0,0,0,true⟩) e nx;have zc:=Nat.mod_lt j kX;have adB:j / e.size*e.size+j % e.size=j:=Nat.div_add_mod' j e.size;have B7:((dZ.drop (j / e.size*e.size)).take e.size).length=e.size:=hC e nx;have:=(ik.kz (j % e.size) (by rw[ik.len,B7];omega)).2;grind
theorem ad4(hT:dx C.P T){args:Array Operand}{cT:Array TypeId}(a6:∀ i,o.dst=some i->i<C.nt)(ag:o.op=.call { callee:=.builtin .copy,args:=args,argTypes:=cT })(h:(bh C.aK T a1 (aT C.aK s.ax) o).run s.ad=some res):cn C o s res:=by
 obtain⟨args⟩:=args;obtain⟨cT⟩:=cT;have au:∀ c,o.op≠.defer c:=by grind
 simp only[bh,ag,mx,E7]at h;split at h
 ·rename_i x y t u;split at h
  ·rename_i e e2 aG hu;have cU:=hT.bO aG (by simp);obtain⟨jy,aC,iO,n8⟩:=cU.sl;obtain⟨inf,z,i1,i2,i3,i4,i5,i6⟩:=kh iO.kg;have kX:0<e.size:=Nat.pos_of_ne_zero n8;split at h
   ·rename_i b g lo E Cb;simp only[aq.eJ,Option.bind_eq_some_iff,aq.eI,aq.bx]at h;obtain⟨⟨ys,l⟩,jX,h⟩:=h;split at h
    ·rename_i aA;split at h
     ·rename_i aS xs ab;split at h
      ·rename_i qL;subst qL;simp only[Option.some.injEq]at h;subst h;intro a w κ F Q G aY _;obtain⟨q',cap',tq,nA⟩:=rT G jX (cv G y rfl aY.2);have hx:bl C.P s.ad κ F w (use (aT C.aK s.ax x)).2 (a.eval x):=cv G x rfl aY.1;have aN:=G.bp b;unfold cg at aN;rw[ab]at aN;have place:lo<=E.getD xs.length/\E.getD xs.length<=xs.length/\(((κ b).eL=true/\∃ cap,a.eval x=.slice none 0 cap)\/((κ b).eL=false/\∃ l6 cap,a.eval x=.slice (some ⟨(κ b).ad,l6,none⟩) (E.getD xs.length - lo) cap/\(lo<E.getD xs.length->l6=(κ b).off+lo*aS.size))):=by
        split at Cb
        ·rename_i aZ g' eN;simp only[Option.some.injEq,Prod.mk.injEq]at Cb;obtain⟨rfl,rfl,rfl,rfl⟩:=Cb;rw[eN]at hx;have hv:=hx.2 aA.symm (by rw[ab];rfl);rw[ab]at hv;simp only[bB.len]at hv;refine⟨Nat.zero_le _,Nat.le_refl _,?_⟩;cases az:(κ aZ).eL with
         | true=>exact .inl ⟨rfl,0,by simpa [bo.slice,az]using hv⟩
         | false=>exact .inr ⟨rfl,(κ aZ).off,(κ aZ).cap,by simpa [bo.slice,az]using hv,λ_=>by simp⟩
        ·rename_i aZ g' axb dp eN;simp only[Option.some.injEq,Prod.mk.injEq]at Cb;obtain⟨rfl,rfl,rfl,rfl⟩:=Cb;rw[eN]at hx;obtain⟨⟨aO,aP⟩,bA⟩:=hx.2 aA.symm (by rw[ab];rfl);rw[ab]at aP bA;simp only[bB.len,bB.eH]at aP bA;refine⟨aO,aP,?_⟩;rcases bA with⟨az,hv⟩ | ⟨az,l6,hv,o1,gh⟩
         ·grind
         ·obtain⟨cs,hH,c1,c2,c3,c4,c5⟩:=aN.2 az;grind
        grind
       obtain⟨jw,pS,l5⟩:=place;have RX:∀ m:Nat,m<=ys.length->m<=xs.length->fz .i64 (m:Int):=by
        intro m _ an;have:=y5 G (b:=b) (by rw[ab];rfl);rw[ab]at this;simp only[bB.len]at this;exact BS (by omega)
       generalize RY:E.getD xs.length=cA at *
       have Ry:Nat.min ys.length (cA - lo)=min (cA - lo) ys.length:=Nat.min_comm _ _;have ad5:(ys.take (cA - lo)).length=min (cA - lo) ys.length:=by simp
       have zh:(fO xs lo (ys.take (cA - lo))).length=xs.length:=by simp[fO];omega
       have fV:e6 s.ad κ (λi=>if i=b then (⟨(s.ad b).gen,.a8 aS (fO xs lo (ys.take (cA - lo)))⟩:bu) else s.ad i) κ:=
        qA rfl (λh=>by cases h) (λ_=>by rw[ab];exact⟨rfl,zh,rfl⟩) (λh=>by cases h) (λh=>by cases h)
       have mz:∀ (w':World) v,(Builtin.copy_ #[t,u] o.type #[a.eval x,a.eval y]).run C.P w=.ok v w'->(execOp a.eval o).run C.P w=.ok (.value v) w':=by
        intro w' v hv;refine wR ag ?_;simp[builtin,hv]
       rcases l5 with⟨az,cap,rU⟩ | ⟨az,l6,cap,rU,ad6⟩
       ·have hG:=aN.1 az;subst hG;have ad7:cA=0:=by grind
        subst ad7;have Ko:lo=0:=by omega
        subst Ko;obtain⟨dZ,dH,dM⟩:=RW (P:=C.P) (w:=w) (n:=0) (Nat.zero_le _) nA;have cH:(Builtin.copy_ #[t,u] o.type #[a.eval x,a.eval y]).run C.P w=.ok (.int .i64 ((0:Nat):Int)) w:=by
         simp only[Builtin.copy_,List.getElem?_toArray,List.getElem?_cons_zero,List.getElem?_cons_succ,Sem.run_bind,di aC,Result.andThen_ok,rU,tq,Builtin.lenOf,Sem.run_pure,rN i1,i2,Nat.min_zero];rw[dH];rfl
        refine ha au (mz w _ cH) ⟨κ,F,bc.set (s:=s.b' b _) ?_ a6 (gE.2 ⟨by simp,RX _ (by simp) (by simp)⟩)⟩;have e0:fO ([]:List aS.ah) 0 (ys.take (0 - 0))=[]:=by rfl
        have es:s.b' b ⟨(s.ad b).gen,.a8 aS (fO ([]:List aS.ah) 0 (ys.take (0 - 0)))⟩=s:=by
         rw[e0];unfold ay.b';have:(λi=>if i=b then (⟨(s.ad b).gen,.a8 aS []⟩:bu) else s.ad i)=s.ad:=by
          funext i;by_cases E:i=b
          ·subst E;simp only[if_true];rw[<-ab]
          grind
         rw[this]
        grind
       ·obtain⟨cs,hH,c1,c2,c3,c4,c5⟩:=aN.2 az;have BW:min (cA - lo) ys.length<=ys.length:=Nat.min_le_right _ _;obtain⟨dZ,dH,dM⟩:=RW (P:=C.P) (w:=w) BW nA;have kB:ys.take (min (cA - lo) ys.length)=ys.take (cA - lo):=by
         simp
        rw[kB]at dM;have oW:=dM.1;rw[ad5]at oW;have ny:=dM.one kX;have RZ:xs.length*aS.size<=(κ b).cap*aS.size:=Nat.mul_le_mul_right _ c3;have Cc:(lo+min (cA - lo) ys.length)*aS.size<=xs.length*aS.size:=Nat.mul_le_mul_right _ (by omega);rw[Nat.add_mul]at Cc;obtain⟨w',cP,bR,cp,dX,lx,ly,l3⟩:∃ w' cP,(storeCells ⟨(κ b).ad,l6,none⟩ dZ).run C.P w=.ok () w'/\w'.heap[(κ b).ad]?=some (.cells cP hH (0,0))/\cP.toList=cs.toList.take ((κ b).off+lo*aS.size)++(dZ++cs.toList.drop ((κ b).off+lo*aS.size+dZ.length))/\
          (∀ r,r≠(κ b).ad->w'.heap[r]?=w.heap[r]?)/\w'.heap.size=w.heap.size/\cM w w':=by
         by_cases b4:lo<cA
         ·rw[ad6 b4];obtain⟨w',cP,bR,cp,dX,lx,ly,l3⟩:=uY (P:=C.P) dZ ((κ b).off+lo*aS.size) 0 w cs c1 (by omega) ny;grind
         ·have h0:min (cA - lo) ys.length=0:=by omega
          rw[h0,Nat.zero_mul]at oW;have:dZ=[]:=List.eq_nil_of_length_eq_zero oW;subst this;exact⟨w,cs,by rfl,c1,by simp,λ_ _=>rfl,rfl,cM.refl w⟩
        have cH:(Builtin.copy_ #[t,u] o.type #[a.eval x,a.eval y]).run C.P w=.ok (.int .i64 ((min (cA - lo) ys.length:Nat):Int)) w':=by
         simp only[Builtin.copy_,List.getElem?_toArray,List.getElem?_cons_zero,List.getElem?_cons_succ,Sem.run_bind,di aC,Result.andThen_ok,rU,tq,Builtin.lenOf,Sem.run_pure,rN i1,i2];rw[Ry,dH];simp only[Result.andThen_ok,bR];rfl
        refine ha au (mz w' _ cH) ⟨κ,F,bc.set (s:=s.b' b _) ?_ a6 (gE.2 ⟨rfl,RX _ (by omega) (by omega)⟩)⟩;refine G.oO (b:=b) (by rw[ab];simp[bB.bJ,az]) (by simp[bB.bJ,az]) fV (λh=>by cases h) (λh=>by cases h) lx ly l3 λH mB b4 he=>?_;refine⟨λh=>(by grind),λ_=>⟨cP,hH,cp,?_,by omega,c4,?_⟩⟩
        ·have:cP.size=cs.size:=by
          rw[<-Array.length_toList,dX];simp only[List.length_append,List.length_take,List.length_drop,Array.length_toList];omega
         omega
        ·exact c5.fO he dM (by omega) (by omega) dX
      grind
     grind
    grind
   ·cases h
  ·cases h
 ·cases h
theorem R0(ag:(bh C.aK T a1 (aT C.aK s.ax) o).run s.ad=some ⟨True,False,.undef,[]⟩)(h:(bh C.aK T a1 (aT C.aK s.ax) o).run s.ad=some res):cn C o s res:=by
 rw[ag]at h;cases h;intro a w κ F Q _ _ hc;grind
end
end Go.Fer
namespace Go.Fer
open Go.RowKit
section
variable {C:bS} {T:Nat->af} {a1:Nat->Option aJ} {o:Oper} {s:ay} {res:d'}
theorem ad8{P:Program}{w:World}{len cap:Nat}{lo:Option Value}{l:Option Int}{k k':IntKind}{h m:Int}(ai:(lo=none/\l=none)\/∃ k m,lo=some (.int k m)/\l=some m)
  (h1:0<=cY l) (h2:cY l<=h) (h3:h<=m) (aR:m<=(cap:Int)):(Instr.sliceBounds true len cap lo (some (.int k h)) (some (.int k' m))).run P w=.ok ((cY l).toNat,h.toNat,m.toNat) w:=by
 rcases ai with⟨rfl,rfl⟩ | ⟨k,n,rfl,rfl⟩<;>simp only[cY]at h1 h2 ⊢
 ·have e1:0<=m/\m<=(cap:Int):=by omega
  have e2:0<=h/\h<=m:=by omega
  have e3:max m 0=m:=by omega
  simp[Instr.sliceBounds,Instr.sliceBound,asIntOf,e1,e2,e3]
 ·have e1:0<=m/\m<=(cap:Int):=by omega
  have e2:0<=h/\h<=m:=by omega
  have e3:max m 0=m:=by omega
  have e4:0<=n/\n<=h:=by omega
  have dC:max h 0=h:=by omega
  simp[Instr.sliceBounds,Instr.sliceBound,asIntOf,e1,e2,e3,e4,dC]
theorem ad9(hT:dx C.P T){ty:TypeId}{x:Operand}{lo E:Option Operand}{oP:Operand}(a6:∀ i,o.dst=some i->i<C.nt)(ag:o.op=.slice ty x lo E (some oP))(h:(bh C.aK T a1 (aT C.aK s.ax) o).run s.ad=some res):cn C o s res:=by
 simp only[bh,ag,Option.isSome_some,if_true,E4]at h;split at h
 ·rename_i ol l qC cA uT m pT J6 ad_;have au:∀ c,o.op≠.defer c:=by grind
  split at h
  ·rename_i e0 aG;have cU:=hT.bO aG (by simp);obtain⟨j,aC,iO,n8⟩:=cU.sl;simp only[aq.eJ,Option.bind_eq_some_iff]at h;obtain⟨⟨c,v⟩,fB,h⟩:=h;simp only[bz,aq.bx,Option.some.injEq]at h;subst h;have runs:∀ (a:Act) (w:World) κ F,bc C s a w κ F->ol->qC->uT->∀ (q:Option Addr) (n cap:Nat),a.eval x=.slice q n cap->0<=cY l->cY l<=cA->cA<=m->m<=(cap:Int)->
     (execOp a.eval o).run C.P w=.ok (.value (.slice (if m.toNat=(cY l).toNat then q else q.map (·.add ((cY l).toNat*e0.size))) (cA.toNat - (cY l).toNat) (m.toNat - (cY l).toNat))) w:=by
    intro a w κ F G B1 B2 ad' q n cap hv c1 c2 c3 c4;have dt:(lo.map a.eval=none/\l=none)\/∃ k m,lo.map a.eval=some (.int k m)/\l=some m:=by
     rcases B0 G pT B1 with⟨rfl,rfl⟩ | ⟨y,k,m,rfl,rfl,e⟩
     ·exact .inl ⟨rfl,rfl⟩
     ·exact .inr ⟨k,m,by simp[e],rfl⟩
    obtain⟨axc,aP,m2,rfl,e2,e3⟩:∃ y k n,E=some y/\cA=n/\a.eval y=.int k n:=by
     rcases B0 G J6 B2 with⟨_,h⟩ | ⟨y,k,m,rfl,h,e⟩
     ·cases h
     ·exact⟨y,k,m,rfl,Option.some.inj h,e⟩
    obtain⟨bA,e4⟩:∃ k,a.eval oP=.int k m:=by
     rcases B0 G ad_ ad' with⟨h,_⟩ | ⟨y,k,m,h1,h2,e⟩
     ·cases h
     ·cases h1;cases h2;exact⟨k,e⟩
    subst e2;have:=ad8 (P:=C.P) (w:=w) (len:=n) (k:=aP) (k':=bA) dt c1 c2 c3 c4;simp[execOp,ag,hv,Instr.sliceAt,Instr.slice,di aC,e3,e4,this,iO.size]
   unfold Q8 at fB;split at fB
   ·rename_i e xs eN;simp only[aq.bx]at fB;split at fB
    ·rename_i he;subst he;simp only[Option.some.injEq,Prod.mk.injEq]at fB;obtain⟨rfl,rfl⟩:=fB;refine cn.pure au a6 λa w κ F G aY hc=>?_;have hx:bl C.P s.ad κ F w (use (aT C.aK s.ax x)).2 (a.eval x):=cv G x rfl aY.1;rw[eN]at hx;obtain⟨_,a',cap,e1,m1,m2,m3,m4⟩:=(dy rfl).1 hx;have e1:=(List.cons.inj e1).1;simp only[fg]at hc;obtain⟨c1,c2,c3,c4⟩:=hc;subst c3;have hlen:((xs.take cA.toNat).drop (cY l).toNat).length=cA.toNat - (cY l).toNat:=by
      grind
     have axd:(xs.length:Int)<=cap:=by omega
     refine⟨_,runs a w κ F G aY.2.1 aY.2.2.1 aY.2.2.2 a' xs.length cap e1 c1 c2 (Int.le_refl _) (by omega),(dy rfl).2 ⟨rfl,?_⟩,_,by rw[hlen]⟩;refine⟨_,_,by rw[hlen],by omega,by omega,?_,λp hp uQ=>?_⟩
     ·intro az;split at az
      ·omega
      ·cases a' with
       | none=>grind
       | some q=>cases az
     ·cases a' with
      | none=>grind
      | some q=>
       obtain⟨dH,dM,jv⟩:=m4 q rfl (by omega);have bf:p=⟨q.block,q.off+(cY l).toNat*e.size,none⟩:=by
        split at hp
        ·omega
        ·simp only[Option.map_some,Option.some.injEq]at hp;rw[BZ dM]at hp;grind
       subst bf;refine⟨dH,rfl,λi E=>?_⟩;rw[hlen]at E;obtain⟨a_,d1,d2⟩:=jv ((cY l).toNat+i) (by omega);grind
    grind
   ·rename_i eN;simp only[aq.bx,Option.some.injEq,Prod.mk.injEq]at fB;obtain⟨rfl,rfl⟩:=fB;refine cn.pure au a6 λa w κ F G aY hc=>?_;have hx:bl C.P s.ad κ F w (use (aT C.aK s.ax x)).2 (a.eval x):=cv G x rfl aY.1;rw[eN]at hx;simp only[bl]at hx;simp only[fg]at hc;obtain⟨c1,c2,c3⟩:=hc;have cH:=runs a w κ F G aY.2.1 aY.2.2.1 aY.2.2.2 none 0 0 hx (by omega) (by omega) (by omega) (by omega);have h0:cA.toNat=0:=by omega
    have h1:m.toNat=0:=by omega
    have h2:(cY l).toNat=0:=by omega
    rw[h0,h1,h2]at cH;simp only[if_true,Nat.sub_zero]at cH;exact⟨_,cH,(dy rfl).2 ⟨rfl,none,0,rfl,Nat.le_refl _,by decide,λ_=>rfl,λp hp=>by simp⟩,none,rfl⟩
   ·rename_i b g eN;simp only[aq.eI,aq.bx]at fB;split at fB
    ·rename_i bb;simp only[Bool.and_eq_true,decide_eq_true_eq]at bb;obtain⟨aA,eO⟩:=bb;simp only[Option.some.injEq,Prod.mk.injEq]at fB;obtain⟨rfl,rfl⟩:=fB;refine cn.pure au a6 λa w κ F G aY hc=>?_;have hx:bl C.P s.ad κ F w (use (aT C.aK s.ax x)).2 (a.eval x):=cv G x rfl aY.1;rw[eN]at hx;have hv:=hx.2 aA.symm eO;obtain⟨dH,dM⟩:=y5 G eO;simp only[fg]at hc;obtain⟨c1,c2,c3,c4⟩:=hc;cases az:(κ b).eL with
     | true=>
      have h0:=dH az;simp only[bo.slice,az,if_true]at hv;exact⟨_,runs a w κ F G aY.2.1 aY.2.2.1 aY.2.2.2 none 0 0 hv c1 c2 c3 (by omega),trivial⟩
     | false=>
      have wU:=JT G eO az;simp only[bo.slice,az,Bool.false_eq_true,if_false]at hv;exact⟨_,runs a w κ F G aY.2.1 aY.2.2.1 aY.2.2.2 _ _ _ hv c1 c2 c3 (by omega),trivial⟩
    grind
   ·cases fB
  ·cases h
 ·cases h
theorem aea{b:Nat}{e:af}(ab:(s.ad b).body=.a8 e []):s.b' b ⟨(s.ad b).gen,.a8 e []⟩=s:=by
 unfold ay.b';have:(λi=>if i=b then (⟨(s.ad b).gen,.a8 e []⟩:bu) else s.ad i)=s.ad:=by
  funext i;by_cases E:i=b
  ·subst E;simp only[if_true];rw[<-ab]
  grind
 rw[this]
theorem aeb(hT:dx C.P T){args:Array Operand}{cT:Array TypeId}(a6:∀ i,o.dst=some i->i<C.nt)(ag:o.op=.call { callee:=.builtin .append,args:=args,argTypes:=cT }){b g lo E:Nat}(hs:wL (aT C.aK s.ax) args.toList=some (b,g,lo,E))
  (h:(BL T (aT C.aK s.ax) args.toList cT.toList b g lo E).run s.ad=some res):cn C o s res:=by
 obtain⟨args⟩:=args;obtain⟨cT⟩:=cT;have au:∀ c,o.op≠.defer c:=by grind
 simp only[BL]at h;split at h
 ·rename_i x y t u;have eN:(use (aT C.aK s.ax x)).2=.sub b g lo E:=by
   simp only[wL]at hs;grind
  split at h
  ·rename_i e e2 aG hu;have cU:=hT.bO aG (by simp);have uZ:=hT.bO hu (by simp);obtain⟨jy,aC,iO,n8⟩:=cU.sl;obtain⟨ady,fA,_⟩:=uZ.sl;obtain⟨inf,z,i1,i2,i3,i4,i5,i6⟩:=kh iO.kg;have kX:0<e.size:=Nat.pos_of_ne_zero n8;simp only[aq.eJ,Option.bind_eq_some_iff,aq.eI,aq.bx]at h;obtain⟨⟨ys,l⟩,jX,h⟩:=h;split at h
   ·rename_i aA;split at h
    ·rename_i aS xs ab;split at h
     ·rename_i qL;subst qL;simp only[Option.some.injEq]at h;subst h;intro a w κ F Q G aY hc;change E+ys.length<=xs.length at hc;obtain⟨q',cap',tq,nA⟩:=rT G jX (cv G y rfl aY.2);have hx:bl C.P s.ad κ F w (use (aT C.aK s.ax x)).2 (a.eval x):=cv G x rfl aY.1;rw[eN]at hx;have aN:=G.bp b;unfold cg at aN;rw[ab]at aN;obtain⟨⟨aO,aP⟩,bA⟩:=hx.2 aA.symm (by rw[ab];rfl);rw[ab]at aP bA;simp only[bB.len,bB.eH]at aP bA;have mz:∀ (w':World) v,(Builtin.append_ #[t,u] o.type #[a.eval x,a.eval y]).run C.P w=.ok v w'->(execOp a.eval o).run C.P w=.ok (.value v) w':=by
       intro w' v hv;refine wR ag ?_;simp[builtin,hv]
      have zh:(fO xs E ys).length=xs.length:=by simp[fO];omega
      have fV:e6 s.ad κ (λi=>if i=b then (⟨(s.ad b).gen,.a8 aS (fO xs E ys)⟩:bu) else s.ad i) κ:=
       qA rfl (λh=>by cases h) (λ_=>by rw[ab];exact⟨rfl,zh,rfl⟩) (λh=>by cases h) (λh=>by cases h)
      rcases bA with⟨az,hv⟩ | ⟨az,l6,hv,o1,gh⟩
      ·have hG:=aN.1 az;subst hG;have n_:E=0:=by grind
       subst n_;have Ko:lo=0:=by omega
       subst Ko;have Kb:ys=[]:=by grind
       subst Kb;obtain⟨dZ,dH,dM⟩:=y' (P:=C.P) (w:=w) (cap:=cap') rfl nA;have cH:(Builtin.append_ #[t,u] o.type #[a.eval x,a.eval y]).run C.P w=.ok (.slice none 0 0) w:=by
        rw[hv,tq];simp only[List.length_nil]at dH ⊢;simp[Builtin.append_,di aC,di fA,rN i1,Builtin.lenOf];simp_all
       have e0:fO ([]:List aS.ah) 0 []=[]:=by rfl
       refine ha au (mz w _ cH) ⟨κ,F,bc.set (s:=s.b' b _) ?_ a6 ⟨⟨by simp[ay.b',aA],rfl⟩,λ_ _=>⟨by simp,.inl ⟨az,rfl⟩⟩⟩⟩;rw[e0,aea ab];exact G
      ·obtain⟨cs,hH,c1,c2,c3,c4,c5⟩:=aN.2 az;obtain⟨dZ,dH,dM⟩:=y' (P:=C.P) (w:=w) (cap:=cap') rfl nA;have oW:=dM.1;have ny:=dM.one kX;have RZ:xs.length*aS.size<=(κ b).cap*aS.size:=Nat.mul_le_mul_right _ c3;have Cc:(E+ys.length)*aS.size<=xs.length*aS.size:=Nat.mul_le_mul_right _ hc;rw[Nat.add_mul]at Cc;obtain⟨w',cP,bR,cp,dX,lx,ly,l3⟩:∃ w' cP,(storeCells ⟨(κ b).ad,l6+(E - lo)*aS.size,none⟩ dZ).run C.P w=.ok () w'/\w'.heap[(κ b).ad]?=some (.cells cP hH (0,0))/\cP.toList=cs.toList.take ((κ b).off+E*aS.size)++(dZ++cs.toList.drop ((κ b).off+E*aS.size+dZ.length))/\
         (∀ r,r≠(κ b).ad->w'.heap[r]?=w.heap[r]?)/\w'.heap.size=w.heap.size/\cM w w':=by
        by_cases b4:lo<(κ b).cap
        ·have zi:l6+(E - lo)*aS.size=(κ b).off+E*aS.size:=by
          rw[gh b4,Nat.add_assoc,<-Nat.add_mul];grind
         rw[zi];obtain⟨w',cP,bR,cp,dX,lx,ly,l3⟩:=uY (P:=C.P) dZ ((κ b).off+E*aS.size) 0 w cs c1 (by omega) ny;grind
        ·have h0:ys.length=0:=by omega
         rw[h0,Nat.zero_mul]at oW;have:dZ=[]:=List.eq_nil_of_length_eq_zero oW;subst this;exact⟨w,cs,by rfl,c1,by simp,λ_ _=>rfl,rfl,cM.refl w⟩
       have wV:E - lo+ys.length<=(κ b).cap - lo:=by omega
       have cH:(Builtin.append_ #[t,u] o.type #[a.eval x,a.eval y]).run C.P w=.ok (.slice (some ⟨(κ b).ad,l6,none⟩) (E - lo+ys.length) ((κ b).cap - lo)) w':=by
        rw[hv,tq];simp only[Builtin.append_,List.getElem?_toArray,List.getElem?_cons_zero,List.getElem?_cons_succ,Sem.run_bind,di aC,di fA,Result.andThen_ok,rN i1,i2,Sem.run_pure,Builtin.lenOf,Bool.false_eq_true,if_false,if_pos wV,Bool.not_false,if_true,dH,uV];simp_all
       refine ha au (mz w' _ cH) ⟨κ,F,bc.set (s:=s.b' b _) ?_ a6 ⟨⟨by simp[ay.b',aA],rfl⟩,λ_ _=>⟨by simp only[ay.b',if_true,bB.len,zh];omega,.inr ⟨az,l6,?_,?_,?_⟩⟩⟩⟩
       ·refine G.oO (b:=b) (by rw[ab];simp[bB.bJ,az]) (by simp[bB.bJ,az]) fV (λh=>by cases h) (λh=>by cases h) lx ly l3 λH mB b4 he=>?_;refine⟨λh=>(by grind),λ_=>⟨cP,hH,cp,?_,by omega,c4,?_⟩⟩
        ·have:cP.size=cs.size:=by
          rw[<-Array.length_toList,dX];grind
         omega
        ·exact c5.fO he dM hc (by omega) dX
       ·grind
       ·simp only[ay.b',if_true,bB.eH];exact o1
       ·simp only[ay.b',if_true,bB.eH];exact gh
     grind
    grind
   grind
  ·cases h
 ·cases h
theorem aec(hT:dx C.P T){args:Array Operand}{cT:Array TypeId}(a6:∀ i,o.dst=some i->i<C.nt)(ag:o.op=.call { callee:=.builtin .clear,args:=args,argTypes:=cT })
  (h:(BM T (aT C.aK s.ax) args.toList cT.toList).run s.ad=some res):cn C o s res:=by
 obtain⟨args⟩:=args;obtain⟨cT⟩:=cT;have au:∀ c,o.op≠.defer c:=by grind
 simp only[BM]at h;split at h
 ·rename_i x t;split at h
  ·rename_i e aG;have cU:=hT.bO aG (by simp);obtain⟨jy,aC,iO,n8⟩:=cU.sl;obtain⟨inf,z,i1,i2,i3,i4,i5,i6⟩:=kh iO.kg;have kX:0<e.size:=Nat.pos_of_ne_zero n8;split at h
   ·rename_i b g lo E eN;simp only[aq.eI,aq.bx]at h;split at h
    ·rename_i aA;split at h
     ·rename_i aS xs ab;split at h
      ·rename_i qL;subst qL;simp only[Option.some.injEq]at h;subst h;intro a w κ F Q G aY _;have hx:bl C.P s.ad κ F w (use (aT C.aK s.ax x)).2 (a.eval x):=cv G x rfl aY;rw[eN]at hx;have aN:=G.bp b;unfold cg at aN;rw[ab]at aN;obtain⟨⟨aO,aP⟩,bA⟩:=hx.2 aA.symm (by rw[ab];rfl);rw[ab]at aP bA;simp only[bB.len,bB.eH]at aP bA;have mz:∀ (w':World) v,(Builtin.clear_ #[t] o.type #[a.eval x]).run C.P w=.ok v w'->(execOp a.eval o).run C.P w=.ok (.value v) w':=by
        intro w' v hv;refine wR ag ?_;simp[builtin,hv]
       have tB:(List.replicate (E - lo) aS.cO).length=E - lo:=by simp
       have zh:(fO xs lo (List.replicate (E - lo) aS.cO)).length=xs.length:=by simp[fO];omega
       have fV:e6 s.ad κ (λi=>if i=b then (⟨(s.ad b).gen,.a8 aS (fO xs lo (List.replicate (E - lo) aS.cO))⟩:bu) else s.ad i) κ:=
        qA rfl (λh=>by cases h) (λ_=>by rw[ab];exact⟨rfl,zh,rfl⟩) (λh=>by cases h) (λh=>by cases h)
       have nothing:E - lo=0->fO xs lo (List.replicate (E - lo) aS.cO)=xs:=λh0=>by rw[h0];simp[fO]
       have hl:E - lo=0->s.b' b ⟨(s.ad b).gen,.a8 aS (fO xs lo (List.replicate (E - lo) aS.cO))⟩=s:=λh0=>by
        rw[nothing h0];unfold ay.b';have:(λi=>if i=b then (⟨(s.ad b).gen,.a8 aS xs⟩:bu) else s.ad i)=s.ad:=by
         funext i;by_cases E:i=b
         ·subst E;simp only[if_true];rw[<-ab]
         grind
        rw[this]
       rcases bA with⟨az,hv⟩ | ⟨az,l6,hv,o1,gh⟩
       ·have hG:=aN.1 az;subst hG;have n_:E - lo=0:=by grind
        have cH:(Builtin.clear_ #[t] o.type #[a.eval x]).run C.P w=.ok (.tuple #[]) w:=by
         rw[hv];simp[Builtin.clear_,di aC]
        refine ha au (mz w _ cH) ⟨κ,F,bc.set (s:=s.b' b _) ?_ a6 trivial⟩;grind
       ·obtain⟨cs,hH,c1,c2,c3,c4,c5⟩:=aN.2 az;by_cases h0:E - lo=0
        ·have cH:(Builtin.clear_ #[t] o.type #[a.eval x]).run C.P w=.ok (.tuple #[]) w:=by
          rw[hv,h0];simp[Builtin.clear_,di aC]
         refine ha au (mz w _ cH) ⟨κ,F,bc.set (s:=s.b' b _) ?_ a6 trivial⟩;grind
        ·obtain⟨n,pW⟩:∃ n,E - lo=n+1:=⟨E - lo - 1,by omega⟩
         have i':fW C.P aS F w ((Array.range ((E - lo)*aS.size)).map (λi=>z.cells[i % z.cells.size]!)).toList (List.replicate (E - lo) aS.cO):=RV i5 _;have tA:z.cells.size=aS.size:=by
          obtain⟨c,ec,n7,z2⟩:=uS (P:=C.P) (H:=λ_=>⟨0,.ff⟩) (κ:=λ_=>⟨0,0,0,true⟩) (F:=F) (w:=w) aS i5;rw[List.append_nil]at ec;rw[<-Array.length_toList,ec];exact hC aS n7
         have oW:=i'.1;rw[tB]at oW;have ny:=i'.one kX;revert i' oW ny;generalize kY:((Array.range ((E - lo)*aS.size)).map (λi=>z.cells[i % z.cells.size]!)).toList=dZ;intro i' oW ny;have RZ:xs.length*aS.size<=(κ b).cap*aS.size:=Nat.mul_le_mul_right _ c3;have Cc:(lo+(E - lo))*aS.size<=xs.length*aS.size:=Nat.mul_le_mul_right _ (by omega);rw[Nat.add_mul]at Cc;have zi:l6=(κ b).off+lo*aS.size:=gh (by omega);obtain⟨w',cP,bR,cp,dX,lx,ly,l3⟩:=uY (P:=C.P) dZ ((κ b).off+lo*aS.size) 0 w cs c1 (by omega) ny;have cH:(Builtin.clear_ #[t] o.type #[a.eval x]).run C.P w=.ok (.tuple #[]) w':=by
          rw[hv,zi];have bb:(Builtin.zeroCells z.cells (E - lo)).toList=dZ:=by rw[<-kY,<-tA];rfl
          simp only[Builtin.clear_,List.getElem?_toArray,List.getElem?_cons_zero,Sem.run_bind,di aC,Result.andThen_ok,qE i1 i4,pW];simp_all
         refine ha au (mz w' _ cH) ⟨κ,F,bc.set (s:=s.b' b _) ?_ a6 trivial⟩;refine G.oO (b:=b) (by rw[ab];simp[bB.bJ,az]) (by simp[bB.bJ,az]) fV (λh=>by cases h) (λh=>by cases h) lx ly l3 λH mB b4 he=>?_;refine⟨λh=>(by grind),λ_=>⟨cP,hH,cp,?_,by omega,c4,?_⟩⟩
         ·have:cP.size=cs.size:=by
           rw[<-Array.length_toList,dX];grind
          omega
         ·exact c5.fO he i' (by omega) (by omega) (by omega)
      grind
     grind
    grind
   ·cases h
  ·cases h
 ·cases h
end
end Go.Fer
namespace Go.Fer
open Go.RowKit
section
variable {C:bS} {T:Nat->af} {a1:Nat->Option aJ} {o:Oper} {s:ay} {res:d'}
theorem Kp{place:Nat->Option (Nat×Nat)}{size:Nat}(hp:∀ i,place i=some (i*size,size)):∀ (qs:List (Nat×Value)) (cs:Array Value),(∀ q∈qs,q.2.cells.size=size/\q.1*size+size<=cs.size)->(qs.map (·.1)).Nodup->
  ∃ cP,Instr.fill place cs qs=some cP/\cP.size=cs.size/\∀ i,i*size+size<=cs.size->(cP.toList.drop (i*size)).take size=(match qs.find? (λp=>p.1 == i) with | some q=>q.2.cells.toList | none=>(cs.toList.drop (i*size)).take size)
 | [],cs,_,_=>⟨cs,rfl,rfl,λi _=>rfl⟩
 | (k,v)::qs,cs,h,az=>by
  obtain⟨h1,h2⟩:=h (k,v) (by simp);simp only at h1 h2;have Fg:=Fe v.cells.toList 0 (k*size) cs (by grind);have e:(v.cells.zipIdx.foldl (λ(cs:Array Value) (p:Value×Nat)=>cs.setIfInBounds (k*size+p.2) p.1) cs)=((v.cells.toList.zipIdx 0).foldl (λ(cs:Array Value) (p:Value×Nat)=>cs.setIfInBounds (k*size+p.2) p.1) cs):=by
   rw[<-Array.foldl_toList];simp
  generalize axe:(v.cells.zipIdx.foldl (λ(cs:Array Value) (p:Value×Nat)=>cs.setIfInBounds (k*size+p.2) p.1) cs)=Fu at *
  have R1:Fu.toList=cs.toList.take (k*size)++(v.cells.toList++cs.toList.drop (k*size+size)):=by
   grind
  have bW:Fu.size=cs.size:=by
   rw[<-Array.length_toList,R1];grind
  have Cd:(qs.map (·.1)).Nodup/\k ∉ qs.map (·.1):=by
   grind
  obtain⟨cP,aO,aP,bA⟩:=Kp hp qs Fu (λq bf=>by grind) Cd.1;refine⟨cP,?_,by omega,λi E=>?_⟩
  ·simp only[Instr.fill,hp];grind
  ·rw[bA i (by omega)];by_cases mC:k=i
   ·grind
   ·have:((k,v)::qs).find? (λp=>p.1 == i)=qs.find? (λp=>p.1 == i):=by grind
    rw[this];have i':(Fu.toList.drop (i*size)).take size=(cs.toList.drop (i*size)).take size:=by
     apply List.ext_getElem?;intro j;simp only[List.getElem?_take,List.getElem?_drop];split
     ·rename_i aC;rw[R1];have kB:(List.take (k*size) cs.toList).length=k*size:=by grind
      have wT:v.cells.toList.length=size:=by omega
      rcases Nat.lt_or_ge i k with h3 | h3
      ·have:(i+1)*size<=k*size:=Nat.mul_le_mul_right _ (by omega);grind
      ·have:(k+1)*size<=i*size:=Nat.mul_le_mul_right _ (by omega);rw[Nat.add_mul]at this;rw[List.getElem?_append_right (by omega),kB,List.getElem?_append_right (by omega),List.getElem?_drop];congr 1;omega
     ·rfl
    grind
theorem aed(hT:dx C.P T){ty n:Nat}{ps:Array (Nat×Operand)}(a6:∀ i,o.dst=some i->i<C.nt)(ag:o.op=.buildSlice ty n ps)(h:(bh C.aK T a1 (aT C.aK s.ax) o).run s.ad=some res):cn C o s res:=by
 obtain⟨ps⟩:=ps;have au:∀ c,o.op≠.defer c:=by grind
 simp only[bh,ag]at h;split at h
 ·rename_i e aG;have cU:=hT.bO aG (by simp);obtain⟨jy,aC,iO,n8⟩:=cU.sl;obtain⟨inf,z,i1,i2,i3,i4,i5,i6⟩:=kh iO.kg;simp only[aq.eJ,Option.bind_eq_some_iff,aq.run_bind]at h;obtain⟨⟨xs,fl⟩,hG,h⟩:=h;obtain⟨b,axf,ao⟩:=qG h;split at ao
  ·rename_i Fv;obtain⟨axg,R2⟩:=Fv;simp only[Bool.and_eq_true,Bool.not_eq_true',decide_eq_true_eq]at R2;obtain⟨⟨fC,tu⟩,Kq⟩:=R2;have pR:b ∉ fl:=by grind
   simp only[Option.some.injEq]at ao;subst ao;intro a w κ F Q G aY _;obtain⟨F',f1,aW,f2⟩:=bc.kW (adK n 0 hG) G;obtain⟨aee,Fw,n7,z2⟩:=uS (P:=C.P) (H:=s.ad) (κ:=κ) (F:=F') (w:=w) e i5;rw[List.append_nil]at Fw;have Kr:=JY G ps aY;have j2:=RM G.bp f1 n7 (ps:=il (ps.map λp=>(p.1,aT C.aK s.ax p.2))) (qs:=ps.map λp=>(p.1,a.eval p.2)) (by simp[il]) Kr n 0 hG f2;have tA:=(BV e (P:=C.P) i5).2;have Ks:∀ p∈ps,p.1<n:=by
    intro p hp;have:=List.all_eq_true.1 Kq (p.1,(use (aT C.aK s.ax p.2)).2) (by simp only[il,List.map_map,List.mem_map];grind);grind
   have Kt:((ps.map λp=>(p.1,a.eval p.2)).map (·.1)).Nodup:=by
    have:(il (ps.map λp=>(p.1,aT C.aK s.ax p.2))).map (·.1)=(ps.map λp=>(p.1,a.eval p.2)).map (·.1):=by simp[il]
    grind
   have R3:∀ q∈ps.map (λp=>(p.1,a.eval p.2)),q.2.cells.size=e.size/\q.1*e.size+e.size<=n*e.size:=by
    intro q bf;obtain⟨p,hp,rfl⟩:=List.mem_map.1 bf;have b4:=Ks p hp;refine⟨?_,by
     have:(p.1+1)*e.size<=n*e.size:=Nat.mul_le_mul_right _ (by omega);grind⟩
    obtain⟨a_,d1,d2⟩:=j2.2 p.1 (by omega);rw[Nat.zero_add]at d2;have u5:(ps.map λp=>(p.1,a.eval p.2)).find? (λr=>r.1 == p.1)=some (p.1,a.eval p.2):=by
     have aef:∀ (l:List (Nat×Value)),(l.map (·.1)).Nodup->∀ q∈l,l.find? (λr=>r.1 == q.1)=some q:=by
      intro l;induction l with
      | nil=>simp
      | cons c l aH=>
       grind
     grind
    rw[u5]at d2;have:=hC e d1;grind
   have Ku:z.cells.size≠0:=by omega
   let base:Array Value:=(Array.range (n*e.size)).map (λi=>z.cells[i % z.cells.size]!);have axh:base.size=n*e.size:=by grind
   obtain⟨cP,aO,aP,bA⟩:=Kp (place:=λi=>some (i*e.size,e.size)) (λi=>rfl) (ps.map λp=>(p.1,a.eval p.2)) base (by grind) Kt;have axi:∀ i,i<n->(base.toList.drop (i*e.size)).take e.size=z.cells.toList:=by
    intro i E;have hle:(i+1)*e.size<=n*e.size:=Nat.mul_le_mul_right _ (by omega);rw[Nat.add_mul]at hle;apply List.ext_getElem?;intro j;simp only[List.getElem?_take,List.getElem?_drop];split
    ·rename_i aC;have fA:j<z.cells.size:=by omega
     rw[Array.getElem?_toList,Array.getElem?_toList];have zc:(i*e.size+j) % z.cells.size=j:=by rw[tA,Nat.add_comm,Nat.add_mul_mod_self_right,Nat.mod_eq_of_lt aC]
     grind
    grind
   have aeg:fW C.P e F' w cP.toList xs:=by
    refine⟨by grind,λi E=>?_⟩;have dp:i<n:=by omega
    have hle:(i+1)*e.size<=n*e.size:=Nat.mul_le_mul_right _ (by omega);grind
   have cH:(execOp a.eval o).run C.P w=.ok (.value (.slice (some ⟨w.heap.size,0,none⟩) n n)) (w.alloc (.cells cP jy)):=by
    have aeh:¬n*e.size > 2 ^ 24:=by omega
    simp only[execOp,ag,Instr.buildSlice,Sem.run_bind,di aC,Result.andThen_ok,rN i1,i2,aeh,if_false];by_cases rX:n*e.size=0
    ·have zj:base=#[]:=Array.eq_empty_of_size_eq_zero (by omega);rw[zj]at aO;simp only[rX,if_true,Sem.run_bind,Sem.run_pure,Result.andThen_ok];rw[show ((Array.range 0).map (λi=>(#[]:Array Value)[i % (#[]:Array Value).size]!))=#[] from by simp];simp only[List.map_toArray]at aO ⊢;rw[show Instr.fill (λi=>some (i*e.size,e.size)) #[] (ps.map λx=>(x.1,a.eval x.2))=some cP from aO];rfl
    ·simp only[rX,if_false,Sem.run_bind,qE i1 i4,Result.andThen_ok,Sem.run_pure];simp only[List.map_toArray];rw[show Instr.fill (λi=>some (i*e.size,e.size)) ((Array.range (n*e.size)).map (λi=>z.cells[i % z.cells.size]!)) (ps.map λx=>(x.1,a.eval x.2))=some cP from aO];rfl
   have oV:s.fK ((jt fl).run s.ad++[(b,⟨(s.ad b).gen+1,.a8 e xs⟩)])=(s.cc fl).b' b ⟨(s.ad b).gen+1,.a8 e xs⟩:=by
    rw[BU,tk]
   have oX:(s.cc fl).ad b=s.ad b:=by simp[ay.cc,pR]
   have h3:=aW.B5 (b:=b) (g:=(s.ad b).gen+1) (zs:=xs) (k:=⟨w.heap.size,0,n,false⟩) (w':=w.alloc (.cells cP jy)) (by grind) (.inr rfl) (by simp) (λr G=>oN w _ G) (λ_=>by simp) ⟨rfl,rfl,rfl⟩
    (λH κ'=>⟨λh=>(by cases h),λ_=>⟨cP,jy,pM w _,by grind,by grind,by
     have:n<=n*e.size:=Nat.le_mul_of_pos_right _ (Nat.pos_of_ne_zero n8);grind,(aeg.B3 (pre:=[]) (post:=[]) (by simp)).later (cG.alloc aW.cL _)⟩⟩)
   refine ha au cH ?_;simp only[ay.hR];rw[oV];exact⟨_,F',bc.set h3 a6 ⟨⟨by simp[ay.b'],rfl⟩,λ_ _=>by simp[ay.b',bo.slice,bB.len,j2.1]⟩⟩
  grind
 ·cases h
theorem R4(nB:Nat):∀ (m:Nat) (l:List Value),l.length=m*nB->((List.range m).map λi=>(l.drop (i*nB)).take nB).flatten=l
 | 0,l,h=>by
  have:l=[]:=List.eq_nil_of_length_eq_zero (by omega);simp[this]
 | m+1,l,h=>by
  rw[Nat.add_mul]at h;have aH:=R4 nB m (l.take (m*nB)) (by grind);rw[List.range_succ,List.map_append,List.flatten_append];have e:((List.range m).map λi=>(l.drop (i*nB)).take nB)=((List.range m).map λi=>((l.take (m*nB)).drop (i*nB)).take nB):=by
   refine List.map_congr_left λi E=>?_;have hle:(i+1)*nB<=m*nB:=Nat.mul_le_mul_right _ (by have:=List.mem_range.1 E;omega);rw[Nat.add_mul]at hle;rw[List.drop_take,List.take_take,Nat.min_eq_left (by omega)]
  rw[e,aH];have:(l.drop (m*nB)).take nB=l.drop (m*nB):=List.take_of_length_le (by grind);simp[this]
theorem aei(hT:dx C.P T){ty m:Nat}{e:af}{ps:Array (Nat×Operand)}(a6:∀ i,o.dst=some i->i<C.nt)(ag:o.op=.build ty ps)(aG:T ty=.array m e)
  (h:((td e (il (ps.toList.map λp=>(p.1,aT C.aK s.ax p.2))) 0 m).cx λ(xs,fl)=>if (fl.isEmpty&&decide ((il (ps.toList.map λp=>(p.1,aT C.aK s.ax p.2))).map (·.1)).Nodup&&(il (ps.toList.map λp=>(p.1,aT C.aK s.ax p.2))).all (λp=>decide (p.1<m)))=true then bz (rL (ps.toList.map λp=>(p.1,aT C.aK s.ax p.2))) True (.val (.array m e) xs) else .none).run s.ad=some res):cn C o s res:=by
 obtain⟨ps⟩:=ps;simp only[aq.eJ,Option.bind_eq_some_iff]at h;obtain⟨⟨xs,fl⟩,hG,h⟩:=h;have cU:=hT.bO aG (by simp);obtain⟨jy,aC,iO,n8⟩:=cU.a8;obtain⟨i,z,h1,h2,h3,aR,bw,cZ⟩:=kh cU.kg;split at h
 ·rename_i hc;simp only[Bool.and_eq_true,decide_eq_true_eq,List.isEmpty_iff,List.all_eq_true]at hc;obtain⟨⟨rfl,tu⟩,Kq⟩:=hc;simp only[bz,aq.bx,Option.some.injEq]at h;subst h;refine cn.pure (by grind) a6 λa w κ F G aY _=>?_;obtain⟨aee,Fw,n7,z2⟩:=uS (P:=C.P) (H:=s.ad) (κ:=κ) (F:=F) (w:=w) (.array m e) bw;rw[List.append_nil]at Fw;have tA:=(BV (.array m e) (P:=C.P) bw).2;have axj:z.cells.size=m*e.size:=tA;have Kr:=JY G ps aY;have j2:=λ(zero:List Value) (bb:bt C.P e F w zero e.cO)=>RM G.bp (λ_ h=>h) bb (ps:=il (ps.map λp=>(p.1,aT C.aK s.ax p.2))) (qs:=ps.map λp=>(p.1,a.eval p.2)) (by simp[il]) Kr m 0 hG (λ_ h=>by cases h);have Ks:∀ p∈ps,p.1<m:=by
   intro p hp;exact Kq (p.1,(use (aT C.aK s.ax p.2)).2) (by simp only[il,List.map_map,List.mem_map];grind)
  have Kt:((ps.map λp=>(p.1,a.eval p.2)).map (·.1)).Nodup:=by
   have:(il (ps.map λp=>(p.1,aT C.aK s.ax p.2))).map (·.1)=(ps.map λp=>(p.1,a.eval p.2)).map (·.1):=by simp[il]
   grind
  have i':∀ i,i<m->bt C.P e F w ((z.cells.toList.drop (i*e.size)).take e.size) e.cO:=by
   intro i E;have aej:bt C.P (.array m e) F w z.cells.toList (af.array m e).cO:=by rw[Fw];exact n7
   obtain⟨p,c,q,aO,aP,bA⟩:=JS aej E;have ai:=hC e bA;have:(af.cO (.array m e)).getD i e.cO=e.cO:=by
    show (List.replicate m e.cO).getD i e.cO=e.cO;grind
   rw[this]at bA;have:(z.cells.toList.drop (i*e.size)).take e.size=c:=by
    rw[aO,<-aP];simp[ai]
   rw[this];exact bA
  have R5:xs.length=m:=by
   rcases Nat.eq_zero_or_pos m with h0 | h0
   ·subst h0;simp only[td,aq.bx,Option.some.injEq,Prod.mk.injEq]at hG;rw[<-hG.1];rfl
   ·exact (j2 _ (i' 0 h0)).1
  have R3:∀ q∈ps.map (λp=>(p.1,a.eval p.2)),q.2.cells.size=e.size/\q.1*e.size+e.size<=z.cells.size:=by
   intro q bf;obtain⟨p,hp,rfl⟩:=List.mem_map.1 bf;have b4:=Ks p hp;refine⟨?_,by
    have:(p.1+1)*e.size<=m*e.size:=Nat.mul_le_mul_right _ (by omega);grind⟩
   obtain⟨a_,d1,d2⟩:=(j2 _ (i' p.1 b4)).2 p.1 (by omega);rw[Nat.zero_add]at d2;have u5:(ps.map λp=>(p.1,a.eval p.2)).find? (λr=>r.1 == p.1)=some (p.1,a.eval p.2):=by
    have aef:∀ (l:List (Nat×Value)),(l.map (·.1)).Nodup->∀ q∈l,l.find? (λr=>r.1 == q.1)=some q:=by
     intro l;induction l with
     | nil=>simp
     | cons c l aH=>
      grind
    grind
   rw[u5]at d2;have:=hC e d1;grind
  obtain⟨cP,aO,aP,bA⟩:=Kp (place:=λi=>some (i*e.size,e.size)) (λi=>rfl) (ps.map λp=>(p.1,a.eval p.2)) z.cells R3 Kt;refine⟨.agg cP,?_,⟨cP,rfl,by omega⟩,?_⟩
  ·simp only[execOp,ag,Instr.build,Sem.run_bind,qE h1 aR,Result.andThen_ok,di aC,iO.size];simp_all
  ·refine⟨(List.range m).map λi=>(cP.toList.drop (i*e.size)).take e.size,(R4 e.size m cP.toList (by grind)).symm,by simp,R5,λi E dp=>?_⟩;simp only[List.getElem_map,List.getElem_range];have Kn:i<m:=by omega
   have hle:(i+1)*e.size<=m*e.size:=Nat.mul_le_mul_right _ (by omega);rw[Nat.add_mul]at hle;obtain⟨a_,d1,d2⟩:=(j2 _ (i' i Kn)).2 i E;rw[Nat.zero_add]at d2;have:=bA i (by omega);have:(cP.toList.drop (i*e.size)).take e.size=a_:=by
    rw[this];split at d2<;>simp_all
   rw[this];exact d1
 ·cases h
theorem e5.mono{P:Program}{t:af}{F F':Nat->Prop}{w w':World}{aB:List Value}{x:t.ah}(h:e5 P t F w aB x)(bd:∀ r,F r->F' r)(he:cG F w w'):e5 P t F' w' aB x:=⟨h.1,eS t bd he h.2⟩
theorem aek{k:FuncId}{cF:List Operand}(a6:∀ i,o.dst=some i->i<C.nt)(ag:o.op=.makeFunc (.func k) #[] ⟨cF⟩){v:EX}(hv:C.aK.s_ k=some v)
  (h:((iK (fP (v.cs.map .bq)) ((cF.map (aT C.aK s.ax)).map λv=>(use v).2)).cx λ(y,fl)=>(jt fl).bind λwl=>.ret (some ⟨ju (cF.map (aT C.aK s.ax)),True,.val (.fn (fP v.as) v.tr) (λx=>v.sh (EW v.as (v.cs.map .bq) x y)),wl⟩):aq (Option d')).run s.ad=some res):cn C o s res:=by
 simp only[aq.eJ,Option.bind_eq_some_iff,aq.run_bind,aq.bx,Option.some.injEq]at h;obtain⟨⟨y,l⟩,aM,rfl⟩:=h;intro a w κ F Q G aY _;obtain⟨F',f1,aW,f2⟩:=bc.kW (pU _ aM) G;have dB:e5 C.P (fP (v.cs.map .bq)) F' w (cF.map a.eval) y:=by
  refine u4 G.bp f1 _ aM f2 (by simp) λi E dp=>?_;simp only[List.getElem_map];have df:i<cF.length:=by grind
  have h1:=rO aY i (by grind);have e1:(cF.map (aT C.aK s.ax)).getD i .undef=aT C.aK s.ax cF[i]:=by grind
  rw[e1]at h1;exact oQ (jW G cF[i]) h1
 obtain⟨hs,wY⟩:=G.jr.s_ k v hv;have cH:(execOp a.eval o).run C.P w=.ok (.value (.func (.func k) #[] (cF.map a.eval).toArray)) w:=by simp[execOp,ag,Instr.makeFunc]
 refine ha (by grind) cH ⟨κ,F',?_⟩;simp only[ay.hR];rw[tk];refine bc.set aW a6 ((dy rfl).2 ⟨rfl,_,rfl,⟨rfl,rfl⟩,λdN cI zk wZ tC w1 args x h1 h2 h3=>⟨k,_,rfl,wY.enter,?_⟩⟩);have aC:=QT v.as (v.cs.map .bq) hs (P:=C.P) (F:=dN) (w:=cI) ⟨h1,h2⟩ (dB.mono zk wZ);have:=wY.iH dN cI _ _ tC w1 aC h3;have e:(args++cF.map a.eval).toArray=args.toArray++(cF.map a.eval).toArray:=by simp
 rw[e]at this;exact this.mono λe s6 ⟨v,y,e1,e2,⟨aB,e3,e4,dC⟩,kS⟩=>⟨v,y,aB,e1,e2,e3,e4,dC,kS⟩
theorem ael{k:FuncId}{cF:List Operand}(a6:∀ i,o.dst=some i->i<C.nt)(ag:o.op=.makeFunc (.func k) #[] ⟨cF⟩){v:wB}(hv:C.aK.wD k=some v)
  (h:((iK (fP (v.cs.map .bq)) ((cF.map (aT C.aK s.ax)).map λv=>(use v).2)).cx λ(y,fl)=>(jt fl).bind λwl=>.ret (some ⟨ju (cF.map (aT C.aK s.ax)),True,.val (.b8 v.aI) (v.S y),wl⟩):aq (Option d')).run s.ad=some res):cn C o s res:=by
 simp only[aq.eJ,Option.bind_eq_some_iff,aq.run_bind,aq.bx,Option.some.injEq]at h;obtain⟨⟨y,l⟩,aM,rfl⟩:=h;intro a w κ F Q G aY _;obtain⟨F',f1,aW,f2⟩:=bc.kW (pU _ aM) G;have dB:e5 C.P (fP (v.cs.map .bq)) F' w (cF.map a.eval) y:=by
  refine u4 G.bp f1 _ aM f2 (by simp) λi E dp=>?_;simp only[List.getElem_map];have df:i<cF.length:=by grind
  have h1:=rO aY i (by grind);have e1:(cF.map (aT C.aK s.ax)).getD i .undef=aT C.aK s.ax cF[i]:=by grind
  rw[e1]at h1;exact oQ (jW G cF[i]) h1
 have wY:=G.jr.wD k v hv;have cH:(execOp a.eval o).run C.P w=.ok (.value (.func (.func k) #[] (cF.map a.eval).toArray)) w:=by simp[execOp,ag,Instr.makeFunc]
 refine ha (by grind) cH ⟨κ,F',?_⟩;simp only[ay.hR];rw[tk];refine bc.set aW a6 ((dy rfl).2 ⟨rfl,_,rfl,⟨rfl,rfl⟩,λdN cI zk wZ tC w1 ea=>⟨k,_,rfl,wY.enter,λl I Y hb jd d_=>?_⟩⟩);exact wY.iH dN cI _ _ tC w1 (dB.mono zk wZ) ea l I Y hb jd d_
theorem aem{k:FuncId}{cF:Array Operand}(a6:∀ i,o.dst=some i->i<C.nt)(ag:o.op=.makeFunc (.func k) #[] cF)(h:(bh C.aK T a1 (aT C.aK s.ax) o).run s.ad=some res):cn C o s res:=by
 obtain⟨cF⟩:=cF;simp only[bh,ag,Array.isEmpty_empty,if_true]at h;split at h;case h_1 v hv=>exact aek a6 ag hv h
 split at h;case h_1 v hv=>exact ael a6 ag hv h
 simp only[bz,aq.bx,Option.some.injEq]at h;subst h;refine cn.pure (by grind) a6 λa w κ F G aY _=>?_;refine⟨.func (.func k) #[] (cF.map a.eval).toArray,by simp[execOp,ag,Instr.makeFunc],cF.map a.eval,rfl,by simp,λi E=>?_⟩;have dp:i<cF.length:=by grind
 have h1:(use ((cF.map (aT C.aK s.ax)).getD i .undef)).1:=rO aY i (by omega);have e1:(cF.map (aT C.aK s.ax)).getD i .undef=aT C.aK s.ax cF[i]:=by grind
 rw[e1]at h1;have h2:=oQ (jW G cF[i]) h1;have e2:(cF.map a.eval).getD i Go.undef=a.eval cF[i]:=by grind
 have e3:gO ((cF.map (aT C.aK s.ax)).map λv=>(use v).2) i=(use (aT C.aK s.ax cF[i])).2:=by simp[gO,List.getD_eq_getElem?_getD,dp]
 grind
theorem aen{k:FuncId}{first cF:Array Operand}(a6:∀ i,o.dst=some i->i<C.nt)(ag:o.op=.makeFunc (.func k) first cF)(ar:first.isEmpty=false)(h:(bh C.aK T a1 (aT C.aK s.ax) o).run s.ad=some res):cn C o s res:=by
 obtain⟨first⟩:=first
 simp only[bh,ag,ar,Bool.false_eq_true,if_false]at h;split at h
 ·rename_i hc;have hc:cF=#[]:=by grind
  subst hc;simp only[bz,aq.bx,Option.some.injEq]at h;subst h;refine cn.pure (by grind) a6 λa w κ F G aY _=>?_;refine⟨.func (.func k) (first.map a.eval).toArray #[],by simp[execOp,ag,Instr.makeFunc],first.map a.eval,rfl,by simp,λi E=>?_⟩;have dp:i<first.length:=by omega
  have h1:(use ((first.map (aT C.aK s.ax)).getD i .undef)).1:=rO aY i (by grind);have e1:(first.map (aT C.aK s.ax)).getD i .undef=aT C.aK s.ax first[i]:=by grind
  rw[e1]at h1;have h2:=oQ (jW G first[i]) h1;have e2:(first.map a.eval).getD i Go.undef=a.eval first[i]:=by grind
  have e3:gO ((first.map (aT C.aK s.ax)).map λv=>(use v).2) i=(use (aT C.aK s.ax first[i])).2:=by simp[gO,List.getD_eq_getElem?_getD,dp]
  grind
 ·cases h
def k0(o:Oper)(nt:Nat):Bool:=
 (match o.dst with | some d=>decide (d<nt) | none=>true)&&(match o.op with | .store _ _ _=>o.dst.isNone | .mapUpdate _ _ _ _=>o.dst.isNone | .insert _ _ _ _=>o.dst.isNone | _=>true)
theorem w2(hT:dx C.P T)(cd:ja C.P a1)(au:k0 o C.nt=true)(h:(bh C.aK T a1 (aT C.aK s.ax) o).run s.ad=some res):cn C o s res:=by
 simp only[k0,Bool.and_eq_true]at au;have a6:∀ i,o.dst=some i->i<C.nt:=λi E=>by
  grind
 cases ag:o.op with
 | move x=>exact acK a6 ag h
 | assign x=>exact acL a6 ag h
 | pick c a b=>exact acM a6 ag h
 | binOp op t x y cD=>exact acU hT a6 ag h
 | unOp op t x=>exact acN a6 ag h
 | extract t i=>exact acO a6 ag h
 | nilCheck x=>exact acP a6 ag h
 | fieldAddr t x f=>exact acQ hT a6 ag h
 | field t x f=>exact acR hT a6 ag h
 | load t x=>exact acV hT a6 ag h
 | store t x y=>
  have:=au.2;rw[ag]at this;exact ade hT (by grind) ag h
 | alloc t=>
  by_cases aG:T t=.cz
  ·simp only[bh,ag,aG]at h;obtain⟨_,_,ao⟩:=qG h;grind
  ·exact ac5 hT a6 ag h aG
 | box t x=>exact ac7 a6 ag h
 | build t ps=>
  by_cases Fh:∀ m e,T t≠.array m e
  ·exact ada hT a6 ag Fh h
  ·obtain⟨m,e,aG⟩:∃ m e,T t=.array m e:=by grind
   refine aei hT a6 ag aG ?_;simpa only [bh,ag,aG]using h
 | buildSlice t n ps=>exact aed hT a6 ag h
 | indexAddr t x i=>exact adk hT a6 ag h
 | index t x i=>exact acX hT a6 ag h
 | convert a b x=>exact adG hT a6 ag h
 | makeFunc fn first cF=>
  cases fn with
  | func k=>
   by_cases ar:first=#[]
   ·subst ar;exact aem a6 ag h
   ·exact aen a6 ag (by grind) h
  | _=>simp[bh,ag,aq.none]at h
 | makeMap t r=>exact adQ a6 ag h
 | lookup t m x ok=>exact adR hT a6 ag h
 | mapUpdate t m x y=>
  have:=au.2;rw[ag]at this;exact Kj hT (by grind) (.inl ag) h
 | insert t m x y=>
  have:=au.2;rw[ag]at this;exact Kj hT (by grind) (.inr ag) h
 | makeSlice t l c=>exact adW hT a6 ag h
 | makeInterface t x=>exact R0 (by simp[bh,ag,bz]) h
 | panic x=>exact R0 (by simp[bh,ag,bz]) h
 | slice t x lo E oP=>
  cases oP with
  | none=>exact adm hT a6 ag h
  | some m=>exact ad9 hT a6 ag h
 | call c=>
  obtain⟨callee,args,cT⟩:=c;cases callee with
  | value f=>
   cases f with
   | func k=>exact adL cd a6 ag h
   | _=>simp[bh,ag,mx,aq.none]at h
  | invoke r m=>simp[bh,ag,mx,aq.none]at h
  | builtin b=>
   cases b with
   | len=>exact ac2 hT a6 ag h
   | append=>
    cases hs:wL (aT C.aK s.ax) args.toList with
    | none=>exact adx hT a6 ag (by simpa [bh,ag,mx,hs]using h)
    | some p=>exact aeb hT a6 ag hs (by simpa [bh,ag,mx,hs]using h)
   | clear=>exact aec hT a6 ag (by simpa [bh,ag,mx]using h)
   | copy=>exact ad4 hT a6 ag h
   | min=>exact Rn (.inl ⟨rfl,rfl⟩) a6 ag (by simpa [bh,ag,mx]using h)
   | max=>exact Rn (.inr ⟨rfl,rfl⟩) a6 ag (by simpa [bh,ag,mx]using h)
   | cap=>exact ac3 hT a6 ag (by simpa [bh,ag,mx]using h)
   | _=>simp[bh,ag,mx,aq.none]at h
 | _=>simp[bh,ag,aq.none]at h
end
end Go.Fer
namespace Go.Fer
open Go.RowKit
def aq.cB{aj:Type}(p:aj->Prop):aq aj->Prop
 | .ret a=>p a
 | .ew _ k=>∀ x,(k x).cB p
theorem Kv{aF:Operand->aD}{k:IntKind}:∀ (l:List Operand) {bU:Prop} {hQ:z1'},(∀ x∈l,(use (aF x)).1)->mw aF k l=some (bU,hQ)->bU
 | [],_,_,_,h=>by cases h
 | [x],bU,hQ,hu,h=>by
  simp only[mw]at h;split at h
  ·split at h
   ·cases h;exact hu x (by simp)
   ·cases h
  ·cases h
 | x::y::l,bU,hQ,hu,h=>by
  simp only[mw]at h;split at h
  ·rename_i ai;split at h
   ·cases h;exact⟨hu x (by simp),Kv (y::l) (λz bb=>hu z (List.mem_cons_of_mem _ bb)) ai⟩
   ·cases h
  ·cases h
theorem aq.cB.run{aj:Type}{p:aj->Prop}{m:aq aj}(h:m.cB p)(H:Nat->bu):p (m.run H):=by
 induction m with
 | ret a=>exact h
 | ew b k aH=>exact aH _ (h _)
theorem aq.cB.bind{aj β:Type}{p:β->Prop}{m:aq aj}{f:aj->aq β}(h:∀ a,(f a).cB p):(m.bind f).cB p:=by
 induction m with
 | ret a=>exact h a
 | ew b k aH=>exact λx=>aH x
def k1{aj:Type}(p:aj->Prop)(x:Option aj):Prop:=∀ a,x=some a->p a
theorem aq.cB.cx{aj β:Type}{p:β->Prop}{m:aq (Option aj)}{f:aj->aq (Option β)}(h:∀ a,(f a).cB (k1 p)):(m.cx f).cB (k1 p):=by
 refine aq.cB.bind λa=>?_;cases a with
 | none=>intro a h;cases h
 | some a=>grind
theorem aq.cB.R6{aj β:Type}{q:aj->Prop}{p:β->Prop}{m:aq (Option aj)}{f:aj->aq (Option β)}(an:m.cB (k1 q))(h:∀ a,q a->(f a).cB (k1 p)):(m.cx f).cB (k1 p):=by
 unfold aq.cx;induction m with
 | ret a=>
  cases a with
  | none=>intro b ab;cases ab
  | some a=>exact h a (an a rfl)
 | ew b k aH=>exact λx=>aH x (an x)
theorem aq.cB.bH{aj:Type}{p:aj->Prop}:(aq.none:aq (Option aj)).cB (k1 p):=by intro a h;cases h
theorem aq.cB.mG{aj:Type}{p:aj->Prop}{a:aj}(h:p a):(aq.ret (some a)).cB (k1 p):=by intro b ab;grind
theorem aq.cB.nil{aj:Type}{p:aj->Prop}:(aq.ret (Option.none:Option aj)).cB (k1 p):=by intro b ab;cases ab
theorem aq.cB.bz{p:d'->Prop}{bU c:Prop}{v:aD}(h:p ⟨bU,c,v,[]⟩):(bz bU c v).cB (k1 p):=aq.cB.mG h
theorem aq.cB.hP{p:d'->Prop}{d:Option Nat}{k:Nat->Nat->Option d'}(h:∀ b g,k1 p (k b g)):(hP d k).cB (k1 p):=by
 unfold Go.Fer.hP;split
 ·exact .bH
 ·exact λx=>h _ _
def aD.zl:aD->Bool
 | .hi _ _=>true
 | _=>false
theorem Fx{a:aD}(h:a.zl=false):(use a).1:=by
 cases a<;>first | trivial | cases h
def rY(aF:Operand->aD)(o:Oper):Bool:=o.op.operands.toList.all λx=>!(aF x).zl
def aD.aeo:aD->Bool
 | .fp _ _=>false
 | .val (.map _ _) _=>false
 | _=>true
def Fy(aF:Operand->aD)(b:Builtin)(args:List Operand):Bool:=
 match b with
 | .len=>match args with
  | [x]=>(use (aF x)).2.aeo
  | _=>false
 | .min=>true
 | .max=>true
 | _=>false
def aD.R7:aD->Bool
 | .iI ..=>true
 | _=>false
def mH(aF:Operand->aD)(o:Oper):Bool:=
 match o.op with
 | .move _ | .assign _ | .pick .. | .unOp .. | .extract .. | .fieldAddr .. | .field .. | .alloc .. | .box .. | .build .. | .buildSlice .. | .convert .. | .makeFunc .. | .makeMap .. | .lookup .. | .mapUpdate .. | .insert ..=>true
 | .load _ x=>!(use (aF x)).2.R7
 | .store _ x _=>!(use (aF x)).2.R7
 | .binOp op _ x _ _=>match op with
  | .quo | .rem | .shl | .shr=>false
  | .add=>(use (aF x)).2.l2.isSome
  | _=>true
 | .call c=>match c.callee with
  | .builtin b=>Fy aF b c.args.toList
  | _=>false
 | _=>false
theorem aep{op:BinOp}{k:IntKind}{a b:Int}{c:Prop}{v:aD}(h:yT op k a b=some (c,v))(h1:op≠.quo)(h2:op≠.rem):c:=by
 cases op<;>simp only[yT,Option.some.injEq,Prod.mk.injEq,reduceCtorEq]at h<;>first | (obtain⟨rfl,_⟩:=h;trivial) | contradiction
theorem aeq{op:BinOp}{a b:List UInt8}{c:Prop}{v:aD}(h:BE op a b=some (c,v))(h1:op≠.add):c:=by
 cases op<;>simp only[BE,Option.some.injEq,Prod.mk.injEq,reduceCtorEq]at h<;>first | (obtain⟨rfl,_⟩:=h;trivial) | contradiction
theorem aer{op:BinOp}{t:af}{x y:aD}:(yU op t x y).cB (k1 λr=>r.1):=by
 unfold yU;refine aq.cB.cx λe=>?_;cases op<;>first | exact .mG trivial | exact .nil
section
variable {U:dj} {T:Nat->af} {a1:Nat->Option aJ} {aF:Operand->aD} {o:Oper}
theorem aes{op:BinOp}{ty:TypeId}{x y:Operand}{t:TypeId}(ag:o.op=.binOp op ty x y t)(hc:mH aF o=true):(bh U T a1 aF o).cB (k1 λr=>r.c):=by
 unfold bh;rw[ag];simp only;simp only[mH,ag]at hc;split
 ·rename_i k a k' b h1 h2;split
  ·cases hc
  ·cases hc
  ·split
   ·split
    ·rename_i c v E;refine .bz (aep E ?_ ?_)<;>(grind)
    ·exact .bH
   ·exact .bH
 ·rename_i oZ;split
  ·rename_i a b h1 h2;split
   ·rename_i c v E;refine .bz (aeq E ?_);intro e;subst e;simp only at hc;generalize (use (aF x)).2=z at hc h1;cases z<;>try (cases h1;done)
    rename_i t d;cases t<;>first | (cases h1;done) | (cases hc;done)
   ·exact .bH
  ·exact aq.cB.R6 aer λr G=>.bz G
theorem Kw{p:d'->Prop}{ty:TypeId}{m x y:Operand}(h:∀ wl,p ⟨(use (aF m)).1/\(use (aF x)).1/\(use (aF y)).1,True,.undef,wl⟩):(qD T aF ty m x y).cB (k1 p):=by
 unfold qD;split
 ·simp only;split
  ·split
   ·refine aq.cB.cx λ_=>aq.cB.cx λ_=>aq.cB.bind λ_=>λz=>?_;intro r G;split at G
    ·split at G
     ·simp only[Option.map_eq_some_iff]at G;grind
     grind
    grind
   ·exact .bH
  ·exact .bH
 ·exact .bH
theorem R8{ty:TypeId}{m x y:Operand}:(qD T aF ty m x y).cB (k1 λr=>r.c):=Kw λ_=>trivial
theorem zm(hc:mH aF o=true):(bh U T a1 aF o).cB (k1 λr=>r.c):=by
 cases ag:o.op with
 | binOp op ty x y t=>exact aes ag hc
 | move x=>unfold bh;rw[ag];exact .bz trivial
 | assign x=>
  unfold bh;rw[ag];simp only;split
  ·exact .hP λb g=>λr G=>by grind
  ·exact .bz trivial
 | pick c a b=>
  unfold bh;rw[ag];simp only;split
  ·split
   ·split
    ·exact .bz trivial
    ·exact .bH
   ·split
    ·exact .bz trivial
    ·exact .bH
   ·exact .bH
  ·exact .bH
 | unOp op t x=>
  unfold bh;rw[ag];simp only;split
  ·exact .bz trivial
  ·exact .bz trivial
  ·exact .bH
 | extract x i=>
  unfold bh;rw[ag];simp only;split
  ·split
   ·exact .bz trivial
   ·exact .bH
  ·exact .bH
 | fieldAddr ty x f=>
  unfold bh;rw[ag];simp only;repeat' first | exact .bH | exact .bz trivial | split
  all_goals first
   | (intro z;intro r G;grind)
 | field ty x f=>
  unfold bh;rw[ag];simp only;repeat' first | exact .bH | exact .bz trivial | split
 | load ty x=>
  simp only[mH,ag]at hc;unfold bh;rw[ag];simp only;split
  ·rename_i hx;rw[hx]at hc;cases hc
  ·exact aq.cB.cx λ_=>.bz trivial
 | store ty x y=>
  simp only[mH,ag]at hc;unfold bh;rw[ag];simp only;split
  ·rename_i hx;rw[hx]at hc;cases hc
  ·exact aq.cB.cx λ_=>.mG trivial
 | alloc ty=>
  unfold bh;rw[ag];simp only;exact .hP λb g=>λr G=>by grind
 | box ty x=>
  unfold bh;rw[ag];simp only;split
  ·exact .hP λb g=>λr G=>by grind
  ·exact .bH
 | build ty ps=>
  unfold bh;rw[ag];simp only;repeat' first | exact .bH | exact .bz trivial | refine aq.cB.cx λ_=>?_ | split
 | buildSlice ty n ps=>
  unfold bh;rw[ag];simp only;split
  ·refine aq.cB.cx λ_=>aq.cB.bind λ_=>.hP λb g=>λr G=>by grind
  ·exact .bH
 | convert a b x=>
  unfold bh;rw[ag];simp only;repeat' first | exact .bH | exact .bz trivial | exact aq.cB.cx λ_=>.bz trivial | split
 | makeFunc fn first cF=>
  unfold bh;rw[ag];simp only;split
  ·split
   ·split
    ·exact aq.cB.cx λ_=>aq.cB.bind λ_=>.mG trivial
    ·split
     ·exact aq.cB.cx λ_=>aq.cB.bind λ_=>.mG trivial
     ·exact .bz trivial
   ·split
    ·exact .bz trivial
    ·exact .bH
  ·exact .bH
 | makeMap ty r=>
  unfold bh;rw[ag];simp only;split
  ·exact .bH
  ·split
   ·exact .hP λb g=>λr G=>by grind
   ·exact .bH
 | lookup ty m x ok=>
  unfold bh;rw[ag];simp only;unfold yX;split
  ·simp only;split
   ·exact aq.cB.cx λ_=>aq.cB.cx λ_=>.bz trivial
   ·exact .bH
  ·exact .bH
 | mapUpdate ty m x y=>
  unfold bh;rw[ag];exact R8
 | insert ty m x y=>
  unfold bh;rw[ag];exact R8
 | call c=>
  obtain⟨callee,args,cT⟩:=c;simp only[mH,ag]at hc;unfold bh;rw[ag];simp only;unfold mx;cases callee with
  | builtin b=>
   simp only at hc ⊢;cases b with
   | len=>
    simp only[BG];split
    ·rename_i x t e1 e2;simp only[Fy,e1]at hc;generalize use (aF x)=u at hc;obtain⟨cf,dD⟩:=u;simp only at hc ⊢;refine aq.cB.R6 (q:=λr:Prop×Int=>r.1) ?_ λr G=>.bz G;generalize T t=ty;cases ty<;>simp only[E1]<;>first | exact .bH | skip
     ·cases dD<;>first | exact .bH | skip
      ·rename_i cD d;cases cD<;>first | exact .bH | exact .mG trivial
     ·cases dD<;>first | exact .bH | exact .mG trivial | skip
      ·rename_i cD d;cases cD<;>first | exact .bH | exact .mG trivial
      ·intro z r G;grind
      ·intro z r G;grind
     ·cases dD<;>first | exact .bH | (cases hc;done) | skip
      ·rename_i cD d;cases cD<;>first | exact .bH | cases hc
    ·exact .bH
   | min=>
    simp only[rM];repeat' first | exact .bz trivial | exact .bH | split
   | max=>
    simp only[rM];repeat' first | exact .bz trivial | exact .bH | split
   | _=>simp[Fy]at hc
  | _=>cases hc
 | _=>simp[mH,ag]at hc
theorem Ce:∀ {l:List aD},(∀ v∈l,(use v).1)->ju l
 | [],_=>trivial
 | v::l,h=>by
  have h1:=h v (by simp);have h2:=Ce (l:=l) λu hu=>h u (by grind);cases v<;>first | exact h2 | exact⟨h1,h2⟩
theorem Kx:∀ {l:List (Nat×aD)},(∀ v∈l,(use v.2).1)->rL l
 | [],_=>trivial
 | (i,v)::l,h=>by
  have h1:=h (i,v) (by simp);have h2:=Kx (l:=l) λu hu=>h u (by grind);cases v<;>first | exact h2 | exact⟨h1,h2⟩
theorem Cf{x:Option Operand}{p:Prop}{n:Option Int}(h:kU aF x=some (p,n))(hx:∀ y,x=some y->(use (aF y)).1):p:=by
 unfold kU at h;grind
def qN(aF:Operand->aD)(o:Oper):Prop:=∀ x∈o.op.operands.toList,(use (aF x)).1
theorem Ky{aF:Operand->aD}{o:Oper}(h:rY aF o=true):qN aF o:=λx hx=>Fx (by simpa using List.all_eq_true.1 h x hx)
theorem qN.use{aF:Operand->aD}{o:Oper}(h:qN aF o){x:Operand}(hx:x∈o.op.operands.toList){bU:Prop}{v:aD}(hu:use (aF x)=(bU,v)):bU:=by
 have:=h x hx;grind
theorem R9(fh:qN aF o):(bh U T a1 aF o).cB (k1 λr=>r.bU):=by
 unfold qN at fh;have ar:∀ x∈o.op.operands.toList,(use (aF x)).1:=fh;have hu:∀ x∈o.op.operands.toList,∀ {bU:Prop} {v:aD},use (aF x)=(bU,v)->bU:=λx hx bU v h=>qN.use fh hx h;cases ag:o.op with
 | move x=>unfold bh;rw[ag];exact .bz trivial
 | assign x=>
  unfold bh;rw[ag];simp only;split
  ·exact .hP λb g=>λr G=>by grind
  ·exact .bz trivial
 | pick c a b=>
  rw[ag]at hu;unfold bh;rw[ag];simp only;split
  ·rename_i oc iM lC;have h1:=hu c (by simp[Op.operands]) lC;split
   ·split
    ·rename_i yY av aV;exact .bz ⟨h1,λ_=>hu a (by simp[Op.operands]) aV⟩
    ·exact .bH
   ·split
    ·rename_i yY av aV;exact .bz ⟨h1,λ_=>hu b (by simp[Op.operands]) aV⟩
    ·exact .bH
   ·exact .bH
  ·exact .bH
 | binOp op ty x y t=>
  rw[ag]at fh;have h:=And.intro (fh x (by simp[Op.operands])) (fh y (by simp[Op.operands]));unfold bh;rw[ag];simp only;split
  ·split
   ·split
    ·exact .bz h
    ·exact .bH
   ·split
    ·exact .bz h
    ·exact .bH
   ·split
    ·split
     ·exact .bz h
     ·exact .bH
    ·exact .bH
  ·split
   ·split
    ·exact .bz h
    ·exact .bH
   ·exact aq.cB.cx λ_=>.bz h
 | unOp op t x=>
  rw[ag]at hu;unfold bh;rw[ag];simp only;split
  ·rename_i hx;exact .bz (hu x (by simp[Op.operands]) hx)
  ·rename_i hx;exact .bz (hu x (by simp[Op.operands]) hx)
  ·exact .bH
 | extract x i=>
  rw[ag]at hu;unfold bh;rw[ag];simp only;split
  ·rename_i hx;split
   ·exact .bz (hu x (by simp[Op.operands]) hx)
   ·exact .bH
  ·exact .bH
 | nilCheck x=>
  rw[ag]at hu;unfold bh;rw[ag];simp only;split
  ·rename_i hx;intro z r G;split at G<;>cases G;exact hu x (by simp[Op.operands]) hx
  ·rename_i hx;exact .bz (hu x (by simp[Op.operands]) hx)
  ·rename_i hx;exact .bz (hu x (by simp[Op.operands]) hx)
  ·rename_i hx;intro z r G;split at G<;>cases G;exact hu x (by simp[Op.operands]) hx
  ·exact .bH
 | fieldAddr ty x f=>
  rw[ag]at hu;unfold bh;rw[ag];simp only;split
  ·split
   ·split
    ·rename_i hx;intro z r G;split at G<;>cases G;exact hu x (by simp[Op.operands]) hx
    ·rename_i hx;intro z r G;split at G<;>cases G;exact hu x (by simp[Op.operands]) hx
    ·rename_i hx;intro z r G;split at G<;>cases G;exact hu x (by simp[Op.operands]) hx
    ·rename_i hx;split
     ·split
      ·exact .bz (hu x (by simp[Op.operands]) hx)
      ·exact .bH
     ·exact .bH
    ·exact .bH
   ·exact .bH
  ·exact .bH
 | field ty x f=>
  rw[ag]at hu;unfold bh;rw[ag];simp only;split
  ·split
   ·rename_i hx;split
    ·split
     ·exact .bz (hu x (by simp[Op.operands]) hx)
     ·exact .bH
    ·exact .bH
   ·exact .bH
  ·exact .bH
 | load ty x=>
  rw[ag]at hu;unfold bh;rw[ag];simp only;split
  ·rename_i hx;have h:=hu x (by simp[Op.operands]) hx;intro z r G;repeat' split at G
   all_goals first | (cases G;exact h) | cases G
  ·rename_i hx;exact aq.cB.cx λ_=>.bz (hu x (by simp[Op.operands]) hx)
 | store ty x y=>
  rw[ag]at hu fh;unfold bh;rw[ag];simp only;split
  ·rename_i hx;have h:=hu x (by simp[Op.operands]) hx;have c6:=fh y (by simp[Op.operands]);unfold JK;split
   ·intro z r G;repeat' split at G
    all_goals first | (cases G;exact⟨h,c6⟩) | cases G
   ·exact .bH
  ·rename_i hx;exact aq.cB.cx λ_=>.mG ⟨hu x (by simp[Op.operands]) hx,fh y (by simp[Op.operands])⟩
 | alloc ty=>
  unfold bh;rw[ag];simp only;exact .hP λb g=>λr G=>by grind
 | box ty x=>
  rw[ag]at fh;unfold bh;rw[ag];simp only;split
  ·exact .hP λb g=>λr G=>by split at G<;>cases G;exact fh x (by simp[Op.operands])
  ·exact .bH
 | build ty ps=>
  rw[ag]at ar;have h:rL (ps.toList.map λp=>(p.1,aF p.2)):=Kx λv hv=>by
   simp only[List.mem_map]at hv;obtain⟨p,hp,rfl⟩:=hv;exact ar p.2 (by simp only[Op.operands,List.mem_map];grind)
  unfold bh;rw[ag];simp only;repeat' first | exact .bH | exact .bz h | refine aq.cB.cx λ_=>?_ | split
 | buildSlice ty n ps=>
  rw[ag]at ar;have h:rL (ps.toList.map λp=>(p.1,aF p.2)):=Kx λv hv=>by
   simp only[List.mem_map]at hv;obtain⟨p,hp,rfl⟩:=hv;exact ar p.2 (by simp only[Op.operands,List.mem_map];grind)
  unfold bh;rw[ag];simp only;split
  ·refine aq.cB.cx λ_=>aq.cB.bind λ_=>.hP λb g=>λr G=>by grind
  ·exact .bH
 | indexAddr ty x i=>
  rw[ag]at fh;have h:=And.intro (fh x (by simp[Op.operands])) (fh i (by simp[Op.operands]));unfold bh;rw[ag];simp only;split
  ·exact aq.cB.cx λ_=>.bz h
  ·split
   ·split
    ·exact .bz h
    ·exact .bH
   ·intro z r G;grind
   ·exact .bH
  ·exact .bH
 | index ty x i=>
  rw[ag]at fh;have h:=And.intro (fh x (by simp[Op.operands])) (fh i (by simp[Op.operands]));unfold bh;rw[ag];simp only;split
  ·exact .bz h
  ·split
   ·split
    ·exact .bz h
    ·exact .bH
   ·split
    ·exact .bz h
    ·exact .bH
   ·exact .bH
  ·exact .bH
 | convert a b x=>
  rw[ag]at fh;unfold bh;rw[ag];simp only;split
  ·exact .bz (fh x (by simp[Op.operands]))
  ·exact aq.cB.cx λ_=>.bz (fh x (by simp[Op.operands]))
  ·exact .bH
 | makeFunc fn first cF=>
  rw[ag]at ar;have h:ju (cF.toList.map aF):=Ce λv hv=>by
   simp only[List.mem_map]at hv;obtain⟨p,hp,rfl⟩:=hv;exact ar p (by simp[Op.operands];simp_all)
  have h2:ju (first.toList.map aF):=Ce λv hv=>by
   simp only[List.mem_map]at hv;obtain⟨p,hp,rfl⟩:=hv;exact ar p (by simp[Op.operands];simp_all)
  unfold bh;rw[ag];simp only;split
  ·split
   ·split
    ·exact aq.cB.cx λ_=>aq.cB.bind λ_=>.mG h
    ·split
     ·exact aq.cB.cx λ_=>aq.cB.bind λ_=>.mG h
     ·exact .bz h
   ·split
    ·exact .bz h2
    ·exact .bH
  ·exact .bH
 | slice ty x lo E oP=>
  rw[ag]at ar fh;unfold bh;rw[ag];simp only;split
  ·unfold E4;simp only;split
   ·rename_i ol l qC h uT m ai cA an;have aY:=And.intro (fh x (by simp[Op.operands])) (And.intro (Cf ai λy aM=>ar y (by subst aM;simp[Op.operands])) (And.intro (Cf cA λy aM=>ar y (by subst aM;simp[Op.operands])) (Cf an λy aM=>ar y (by subst aM;simp[Op.operands]))));split
    ·exact aq.cB.cx λ_=>.mG aY
    ·exact .bH
   ·exact .bH
  ·unfold E3;simp only;split
   ·rename_i ol l qC h ai cA;have aY:=And.intro (fh x (by simp[Op.operands])) (And.intro (Cf ai λy aM=>ar y (by subst aM;simp[Op.operands])) (Cf cA λy aM=>ar y (by subst aM;simp[Op.operands])));split
    ·exact aq.cB.cx λ_=>.mG aY
    ·split
     ·exact .bz aY
     ·exact .bH
    ·exact .bH
   ·exact .bH
 | call c=>
  rw[ag]at ar fh;obtain⟨callee,args,cT⟩:=c;have dB:∀ x∈args.toList,(use (aF x)).1:=λx hx=>ar x (by simp[Op.operands,Call.operands];simp_all);have o0:∀ x∈args.toList,(use (aF x)).1:=dB;have fo:ju (args.toList.map aF):=Ce λv hv=>by
   grind
  unfold bh;rw[ag];simp only;unfold mx;simp only;split
  ·split
   ·unfold BG;split
    ·rename_i x t e1 e2;exact aq.cB.cx λ_=>.bz (o0 x (by grind))
    ·exact .bH
   ·split
    ·unfold BL;split
     ·rename_i x y t u e1 e2;have h:=And.intro (o0 x (by grind)) (o0 y (by grind));split
      ·simp only;refine aq.cB.cx λ_=>λz=>?_;intro r G;grind
      ·exact .bH
     ·exact .bH
    unfold BH;split
    ·rename_i x y t u e1 e2;have h:=And.intro (o0 x (by grind)) (o0 y (by grind));split
     ·simp only;unfold JI;split
      ·intro z;dsimp only;split
       ·split
        ·exact aq.cB.cx λ_=>.mG h
        ·exact .bH
       ·exact .bH
      ·intro z;dsimp only;split
       ·split
        ·exact aq.cB.cx λ_=>.mG h
        ·exact .bH
       ·exact .bH
      ·exact aq.cB.cx λ_=>.hP λb g=>λr G=>by grind
      ·split
       ·exact aq.cB.cx λ_=>.hP λb g=>λr G=>by grind
       ·exact .bH
      ·exact .bH
     ·exact .bH
    ·exact .bH
   ·unfold BM;split
    ·rename_i x t e1 e2;have h:=o0 x (by grind);split
     ·simp only;split
      ·intro z;intro r G;grind
      ·exact .bH
     ·exact .bH
    ·exact .bH
   ·unfold E7;split
    ·rename_i x y t u e1 e2;have h:=And.intro (o0 x (by grind)) (o0 y (by grind));split
     ·simp only;split
      ·refine aq.cB.cx λ_=>λz=>?_;intro r G;grind
      ·exact .bH
     ·exact .bH
    ·exact .bH
   ·unfold rM;split
    ·rename_i x y l e1;split
     ·split
      ·rename_i ai;exact .bz ⟨o0 x (by grind),Kv (y::l) (λp hp=>o0 p (by rw[e1];exact List.mem_cons_of_mem _ hp)) ai⟩
      ·exact .bH
     ·exact .bH
    ·exact .bH
   ·unfold rM;split
    ·rename_i x y l e1;split
     ·split
      ·rename_i ai;exact .bz ⟨o0 x (by grind),Kv (y::l) (λp hp=>o0 p (by rw[e1];exact List.mem_cons_of_mem _ hp)) ai⟩
      ·exact .bH
     ·exact .bH
    ·exact .bH
   ·unfold BI;split
    ·rename_i x t e1 e2;have h:=o0 x (by grind);split
     ·rename_i e3;exact .bz (by grind)
     ·exact .bH
    ·exact .bH
   ·exact .bH
  ·split
   ·unfold E5;simp only;split
    ·refine aq.cB.cx λ_=>?_;split
     ·refine aq.cB.bind λ_=>.hP λb g=>λr G=>?_;split at G
      ·cases G
      ·cases G;exact fo
     ·exact aq.cB.bind λ_=>.mG fo
    ·exact .bH
   ·exact .bH
  ·exact .bH
 | makeMap ty r=>
  unfold bh;rw[ag];simp only;split
  ·exact .bH
  ·split
   ·exact .hP λb g=>λr G=>by grind
   ·exact .bH
 | lookup ty m x ok=>
  rw[ag]at fh;have h:=And.intro (fh m (by simp[Op.operands])) (fh x (by simp[Op.operands]));unfold bh;rw[ag];simp only;unfold yX;split
  ·simp only;split
   ·exact aq.cB.cx λ_=>aq.cB.cx λ_=>.bz h
   ·exact .bH
  ·exact .bH
 | mapUpdate ty m x y=>
  rw[ag]at fh;unfold bh;rw[ag];exact Kw λ_=>⟨fh m (by simp[Op.operands]),fh x (by simp[Op.operands]),fh y (by simp[Op.operands])⟩
 | insert ty m x y=>
  rw[ag]at fh;unfold bh;rw[ag];exact Kw λ_=>⟨fh m (by simp[Op.operands]),fh x (by simp[Op.operands]),fh y (by simp[Op.operands])⟩
 | makeSlice ty l c=>
  rw[ag]at fh;have h:=And.intro (fh l (by simp[Op.operands])) (fh c (by simp[Op.operands]));unfold bh;rw[ag];simp only;unfold E6;split
  ·simp only;split
   ·exact .hP λb g=>λr G=>by grind
   ·exact .bH
  ·exact .bH
 | makeInterface t x=>unfold bh;rw[ag];exact .bz trivial
 | panic x=>unfold bh;rw[ag];exact .bz trivial
 | _=>unfold bh;rw[ag];exact .bH
theorem R_(hc:rY aF o=true):(bh U T a1 aF o).cB (k1 λr=>r.bU):=R9 (Ky hc)
end
end Go.Fer
namespace Go.Fer
open Go.RowKit
theorem Kz{aF je:Operand->aD}{k:IntKind}:∀ (l:List Operand),(∀ x∈l,aF x=je x)->mw aF k l=mw je k l
 | [],_=>rfl
 | [x],h=>by simp only[mw,h x (by simp)]
 | x::y::l,h=>by simp only[mw,h x (by simp),Kz (y::l) λz bb=>h z (List.mem_cons_of_mem _ bb)]
section
variable {U:dj} {T:Nat->af} {a1:Nat->Option aJ} {aF je:Operand->aD} {o:Oper}
theorem KA{x:Option Operand}(h:∀ y,x=some y->aF y=je y):kU aF x=kU je x:=by
 cases x with
 | none=>rfl
 | some y=>have:=h y rfl;unfold kU;grind
theorem aet(h:∀ x∈o.op.operands.toList,aF x=je x):bh U T a1 aF o=bh U T a1 je o:=by
 cases ag:o.op with
 | move x=>rw[ag]at h;have h1:=h x (by simp[Op.operands]);unfold bh;simp_all
 | assign x=>rw[ag]at h;have h1:=h x (by simp[Op.operands]);unfold bh;simp_all
 | pick c a b=>
  rw[ag]at h;have h1:=h c (by simp[Op.operands]);have h2:=h a (by simp[Op.operands]);have h3:=h b (by simp[Op.operands]);unfold bh;simp_all
 | binOp op ty x y t=>
  rw[ag]at h;have h1:=h x (by simp[Op.operands]);have h2:=h y (by simp[Op.operands]);unfold bh;simp_all
 | unOp op t x=>rw[ag]at h;have h1:=h x (by simp[Op.operands]);unfold bh;simp_all
 | extract x i=>rw[ag]at h;have h1:=h x (by simp[Op.operands]);unfold bh;simp_all
 | nilCheck x=>rw[ag]at h;have h1:=h x (by simp[Op.operands]);unfold bh;simp_all
 | fieldAddr ty x f=>rw[ag]at h;have h1:=h x (by simp[Op.operands]);unfold bh;simp_all
 | field ty x f=>rw[ag]at h;have h1:=h x (by simp[Op.operands]);unfold bh;simp_all
 | load ty x=>rw[ag]at h;have h1:=h x (by simp[Op.operands]);unfold bh;simp_all
 | store ty x y=>
  rw[ag]at h;have h1:=h x (by simp[Op.operands]);have h2:=h y (by simp[Op.operands]);unfold bh;simp_all
 | alloc ty=>unfold bh;rw[ag]
 | box ty x=>rw[ag]at h;have h1:=h x (by simp[Op.operands]);unfold bh;simp_all
 | build ty ps=>
  rw[ag]at h;have h1:ps.toList.map (λp=>(p.1,aF p.2))=ps.toList.map (λp=>(p.1,je p.2)):=List.map_congr_left λp hp=>by rw[h p.2 (by simp only[Op.operands,List.mem_map];grind)]
  unfold bh;rw[ag];simp only[h1]
 | buildSlice ty n ps=>
  rw[ag]at h;have h1:ps.toList.map (λp=>(p.1,aF p.2))=ps.toList.map (λp=>(p.1,je p.2)):=List.map_congr_left λp hp=>by rw[h p.2 (by simp only[Op.operands,List.mem_map];grind)]
  unfold bh;rw[ag];simp only[h1]
 | indexAddr ty x i=>
  rw[ag]at h;have h1:=h x (by simp[Op.operands]);have h2:=h i (by simp[Op.operands]);unfold bh;simp_all
 | index ty x i=>
  rw[ag]at h;have h1:=h x (by simp[Op.operands]);have h2:=h i (by simp[Op.operands]);unfold bh;simp_all
 | convert a b x=>rw[ag]at h;have h1:=h x (by simp[Op.operands]);unfold bh;simp_all
 | makeFunc fn first cF=>
  rw[ag]at h;have h1:cF.toList.map aF=cF.toList.map je:=List.map_congr_left λp hp=>h p (by simp[Op.operands];simp_all);have h2:first.toList.map aF=first.toList.map je:=List.map_congr_left λp hp=>h p (by simp[Op.operands];simp_all)
  unfold bh;rw[ag];simp only[h1,h2]
 | lookup ty m x ok=>
  rw[ag]at h;have h1:=h m (by simp[Op.operands]);have h2:=h x (by simp[Op.operands]);unfold bh;rw[ag];simp only[yX,h1,h2]
 | mapUpdate ty m x y=>
  rw[ag]at h;have h1:=h m (by simp[Op.operands]);have h2:=h x (by simp[Op.operands]);have h3:=h y (by simp[Op.operands]);unfold bh;rw[ag];simp only[qD,h1,h2,h3]
 | insert ty m x y=>
  rw[ag]at h;have h1:=h m (by simp[Op.operands]);have h2:=h x (by simp[Op.operands]);have h3:=h y (by simp[Op.operands]);unfold bh;rw[ag];simp only[qD,h1,h2,h3]
 | makeSlice ty l c=>
  rw[ag]at h;have h1:=h l (by simp[Op.operands]);have h2:=h c (by simp[Op.operands]);unfold bh;rw[ag];simp only[E6,h1,h2]
 | slice ty x lo E oP=>
  rw[ag]at h;have h1:=h x (by simp[Op.operands]);have h2:kU aF lo=kU je lo:=KA λy aM=>h y (by subst aM;simp[Op.operands]);have h3:kU aF E=kU je E:=KA λy aM=>h y (by subst aM;simp[Op.operands]);have aR:kU aF oP=kU je oP:=KA λy aM=>h y (by subst aM;simp[Op.operands]);unfold bh;rw[ag];simp only[E3,E4,h1,h2,h3,aR]
 | call c=>
  rw[ag]at h;obtain⟨callee,args,cT⟩:=c;have dB:∀ x∈args.toList,aF x=je x:=λx hx=>h x (by simp[Op.operands,Call.operands];simp_all);have ai:args.toList.map aF=args.toList.map je:=List.map_congr_left dB;unfold bh;rw[ag];simp only;unfold mx;simp only;split
  ·split
   ·unfold BG;grind
   ·have qO:wL aF args.toList=wL je args.toList:=by
     unfold wL;grind
    rw[qO];split
    ·unfold BL;split
     ·rename_i x y t u e1 e2;rw[dB x (by simp[e1]),dB y (by simp[e1])]
     ·rfl
    ·unfold BH;grind
   ·unfold BM;split
    ·rename_i x t e1 e2;rw[dB x (by simp[e1])]
    ·rfl
   ·unfold E7;split
    ·rename_i x y t u e1 e2;rw[dB x (by grind),dB y (by grind)]
    ·rfl
   ·unfold rM;split
    ·rename_i x y l e1;have ai:∀ k,mw aF k (y::l)=mw je k (y::l):=λk=>Kz (y::l) λp hp=>dB p (by rw[e1];exact List.mem_cons_of_mem _ hp);simp only[dB x (by simp[e1]),ai]
    ·rfl
   ·unfold rM;split
    ·rename_i x y l e1;have ai:∀ k,mw aF k (y::l)=mw je k (y::l):=λk=>Kz (y::l) λp hp=>dB p (by rw[e1];exact List.mem_cons_of_mem _ hp);simp only[dB x (by simp[e1]),ai]
    ·rfl
   ·unfold BI;grind
   ·rfl
  ·split
   ·unfold E5;simp only[ai]
   ·rfl
  ·rfl
 | _=>unfold bh;rw[ag]
end
end Go.Fer
namespace Go.Fer
open Go.RowKit
def Fz(want b:Bool):Bool:=match want with | true=>b | false=>!b
def kl(s:Nat->aD)(ops:Array Oper):Option (Nat×Bool)->Option (Option Bool)
 | none=>some none
 | some (j,want)=>match ops[j]? with
  | some o=>match o.dst with
   | some d=>match s d with
    | .val .bool b=>some (some (Fz want b))
    | .hi g (.val .bool b)=>some (some (g&&Fz want b))
    | _=>none
   | none=>none
  | none=>none
def FA(ops:Array Oper):Option (Nat×Bool)->List Nat
 | none=>[]
 | some (j,_)=>match ops[j]? with
  | some o=>o.dst.toList
  | none=>[]
def aeu(l:List Operand):List Nat:=l.filterMap fun | .tmp t=>some t | _=>none
def Cg(ops:Array Oper)(o:Oper):List Nat:=FA ops o.guard++aeu o.op.operands.toList
structure et where
 cs:List Prop
 dst:Option Nat
 eM:aD
 hk:List (Nat×bu)
 km:List Nat
 tD:List Nat
def et.hS(r:et)(s:ay):ay:=(s.fK r.hk).set r.dst r.eM
def et.nC(r:et):List Nat:=r.dst.toList
def et.mI(r:et):List Nat:=r.hk.map (·.1)
def Ch(c7 q2:Bool)(bU c:Prop):List Prop:=(match c7 with | true=>[] | false=>[bU])++(match q2 with | true=>[] | false=>[c])
def u6(U:dj)(T:Nat->af)(a1:Nat->Option aJ)(ops:Array Oper)(s:ay)(o:Oper):Option et:=
 match kl s.ax ops o.guard with
 | none=>none
 | some g=>match (bh U T a1 (aT U s.ax) o).run s.ad with
  | none=>none
  | some res=>match g with
   | none=>some ⟨Ch (rY (aT U s.ax) o) (mH (aT U s.ax) o) res.bU res.c,o.dst,res.eM,res.hk,Cg ops o,(bh U T a1 (aT U s.ax) o).looks s.ad⟩
   | some b=>match res.hk with
    | []=>some ⟨Ch (rY (aT U s.ax) o&&(mH (aT U s.ax) o&&!res.eM.zl)) true (b=true->res.bU/\(res.c/\(use res.eM).1)) True,o.dst,.hi b (use res.eM).2,[],Cg ops o,(bh U T a1 (aT U s.ax) o).looks s.ad⟩
    | _=>none
def w3(U:dj)(T:Nat->af)(a1:Nat->Option aJ)(ops:Array Oper):List Oper->ay->Option (List et×ay)
 | [],s=>some ([],s)
 | o::os,s=>match u6 U T a1 ops s o with
  | none=>none
  | some r=>match w3 U T a1 ops os (r.hS s) with
   | none=>none
   | some (l,s')=>some (r::l,s')
def Ci(a b:List Nat):Bool:=a.all λx=>!b.contains x
def et.apart(a b:et):Bool:=Ci a.nC (b.km++b.nC)&&Ci a.km b.nC&&Ci a.mI (b.tD++b.mI)&&Ci a.tD b.mI
def hU(o:Oper):List Nat:=o.after.toList.filterMap λe=>if Region.binds .any e then some e.on else none
def Cj(acc:List Nat):List Nat->List Nat
 | []=>acc
 | x::l=>match acc.contains x with | true=>Cj acc l | false=>Cj (x::acc) l
theorem KB{x:Nat}:∀ {l acc:List Nat},x∈Cj acc l->x∈acc\/x∈l
 | [],acc,h=>.inl h
 | y::l,acc,h=>by
  unfold Cj at h;split at h
  ·exact (KB h).imp_right (List.mem_cons_of_mem _)
  ·rcases KB h with h | h
   ·rcases List.mem_cons.1 h with h | h
    ·exact .inr (h ▸ List.mem_cons_self)
    ·exact .inl h
   ·exact .inr (List.mem_cons_of_mem _ h)
def zn(acc:List (List Nat))(o:Oper):List (List Nat):=acc++[Cj [] ((hU o).flatMap λj=>j::acc.getD j [])]
def h7(ops:List Oper):List (List Nat):=ops.foldl zn []
def aev(cl:List (List Nat))(l:List et):Bool:=
 (List.range l.length).all λj=>(List.range j).all λi=>match l[i]?,l[j]? with
  | some a,some b=>(cl.getD j []).contains i||a.apart b
  | _,_=>false
def Ck(ops:List Oper):Bool:=(List.range ops.length).all λj=>match ops[j]? with
 | some o=>(hU o).all λi=>decide (i<j)
 | none=>false
def zo(ops:List Oper)(l:List et):Bool:=Ck ops&&aev (h7 ops) l
def w4(R:List Nat)(s s':ay):Prop:=∀ t∈R,s.ax t=s'.ax t
def w5(B:List Nat)(s s':ay):Prop:=∀ b∈B,s.ad b=s'.ad b
theorem FB{a b:List Nat}(h:Ci a b=true){x:Nat}(hx:x∈a):x ∉ b:=by
 have:=List.all_eq_true.1 h x hx;grind
theorem zp(s:ay):∀ (l:List (Nat×bu)),(s.fK l).ax=s.ax:=by
 intro l;induction l generalizing s with
 | nil=>rfl
 | cons p l aH=>simp only[ay.fK];rw[aH];rfl
theorem KC{b:Nat}:∀ (l:List (Nat×bu)) (s:ay),b ∉ l.map (·.1)->(s.fK l).ad b=s.ad b:=by
 intro l;induction l with
 | nil=>intro s _;rfl
 | cons p l aH=>
  intro s h;simp only[List.map_cons,List.mem_cons,not_or]at h;simp only[ay.fK];rw[aH _ h.2];simp[ay.b',h.1]
theorem KD{b:Nat}:∀ (l:List (Nat×bu)) (s s':ay),b∈l.map (·.1)->(s.fK l).ad b=(s'.fK l).ad b:=by
 intro l;induction l with
 | nil=>simp
 | cons p l aH=>
  intro s s' h;simp only[ay.fK];by_cases ab:b∈l.map (·.1)
  ·grind
  ·rw[KC l _ ab,KC l _ ab];have:b=p.1:=by grind
   simp[ay.b',this]
theorem aew(s:ay)(d:Option Nat)(v:aD):(s.set d v).ad=s.ad:=by cases d<;>rfl
theorem FC(r:et)(s:ay)(t:Nat):(r.hS s).ax t=if t∈r.nC then r.eM else s.ax t:=by
 unfold et.hS et.nC;cases h:r.dst with
 | none=>simp[ay.set,zp]
 | some d=>simp[ay.set,zp,eq_comm]
theorem w6(r:et)(s:ay)(b:Nat):(r.hS s).ad b=(s.fK r.hk).ad b:=by unfold et.hS;rw[aew]
theorem R'{r:et}{s:ay}{t:Nat}(h:t ∉ r.nC):(r.hS s).ax t=s.ax t:=by rw[FC,if_neg h]
theorem tE{r:et}{s:ay}{b:Nat}(h:b ∉ r.mI):(r.hS s).ad b=s.ad b:=by rw[w6];exact KC _ _ h
theorem ay.ext'{s s':ay}(h1:∀ t,s.ax t=s'.ax t)(h2:∀ b,s.ad b=s'.ad b):s=s':=by
 obtain⟨a,b⟩:=s;obtain⟨a',aZ⟩:=s';rw[show a=a' from funext h1,show b=aZ from funext h2]
theorem aex{a b:et}(h1:∀ t∈a.nC,t ∉ b.nC)(h2:∀ x∈a.mI,x ∉ b.mI)(s:ay):a.hS (b.hS s)=b.hS (a.hS s):=by
 apply ay.ext'
 ·intro t;simp only[FC];grind
 ·intro x;by_cases aV:x∈a.mI
  ·have ab:=h2 x aV;rw[tE ab,w6,w6];exact KD _ _ _ aV
  ·rw[tE aV];by_cases ab:x∈b.mI
   ·rw[w6,w6];exact KD _ _ _ ab
   ·rw[tE ab,tE ab,tE aV]
def jz(l:List et)(s:ay):ay:=l.foldl (λs r=>r.hS s) s
theorem aey{R B:List Nat}:∀ (l:List et) (s:ay),(∀ r∈l,(∀ t∈R,t ∉ r.nC)/\∀ b∈B,b ∉ r.mI)->w4 R (jz l s) s/\w5 B (jz l s) s:=by
 intro l;induction l with
 | nil=>intro s _;exact⟨λ_ _=>rfl,λ_ _=>rfl⟩
 | cons r l aH=>
  intro s h;obtain⟨h1,h2⟩:=aH (r.hS s) λpJ aW=>h pJ (List.mem_cons_of_mem _ aW);have G:=h r (List.mem_cons_self);exact⟨λt aG=>(h1 t aG).trans (R' (G.1 t aG)),λb ab=>(h2 b ab).trans (tE (G.2 b ab))⟩
theorem aez{R B:List Nat}{r:et}{s s':ay}(h1:w4 R s s')(h2:w5 B s s'):w4 R (r.hS s) (r.hS s')/\w5 B (r.hS s) (r.hS s'):=by
 refine⟨λt aG=>?_,λb ab=>?_⟩
 ·rw[FC,FC];split
  ·rfl
  ·exact h1 t aG
 ·by_cases hw:b∈r.mI
  ·rw[w6,w6];exact KD _ _ _ hw
  ·rw[tE hw,tE hw];exact h2 b ab
theorem aeA{R B:List Nat}(p:Nat×et->Bool):∀ (l:List (Nat×et)) (s s':ay),w4 R s s'->w5 B s s'->(∀ r∈l,p r=false->(∀ t∈R,t ∉ r.2.nC)/\∀ b∈B,b ∉ r.2.mI)->
  w4 R (jz ((l.filter p).map (·.2)) s) (jz (l.map (·.2)) s')/\w5 B (jz ((l.filter p).map (·.2)) s) (jz (l.map (·.2)) s'):=by
 intro l;induction l with
 | nil=>intro s s' h1 h2 _;exact⟨h1,h2⟩
 | cons r l aH=>
  intro s s' h1 h2 h;have ai:=λpJ aW=>h pJ (List.mem_cons_of_mem _ aW);cases hp:p r with
  | true=>
   rw[List.filter_cons_of_pos hp];obtain⟨aO,aP⟩:=aez (r:=r.2) h1 h2;exact aH _ _ aO aP ai
  | false=>
   rw[List.filter_cons_of_neg (by grind)];have G:=h r (List.mem_cons_self) hp;exact aH _ _ (λt aG=>(h1 t aG).trans (R' (G.1 t aG)).symm) (λb ab=>(h2 b ab).trans (tE (G.2 b ab)).symm) ai
theorem aeB{r:et}:∀ (l:List et) (s:ay),(∀ x∈l,(∀ t∈r.nC,t ∉ x.nC)/\∀ b∈r.mI,b ∉ x.mI)->jz l (r.hS s)=r.hS (jz l s):=by
 intro l;induction l with
 | nil=>intro s _;rfl
 | cons x l aH=>
  intro s h;have hx:=h x (List.mem_cons_self);show jz l (x.hS (r.hS s))=r.hS (jz l (x.hS s));rw[<-aex hx.1 hx.2 s];grind
def ir:Nat->List et->List (Nat×et)
 | _,[]=>[]
 | n,r::l=>(n,r)::ir (n+1) l
theorem Sa:∀ (l m:List et) (n:Nat),ir n (l++m)=ir n l++ir (n+l.length) m
 | [],m,n=>by rfl
 | r::l,m,n=>by simp only[List.cons_append,ir,Sa l m (n+1),List.length_cons];grind
theorem Cl:∀ (l:List et) (n:Nat),(ir n l).map (·.2)=l
 | [],_=>rfl
 | r::l,n=>by simp only[ir,List.map_cons,Cl l (n+1)]
theorem zq:∀ {l:List et} {n j:Nat} {x:et},(j,x)∈ir n l->n<=j/\l[j - n]?=some x
 | r::l,n,j,x,h=>by
  simp only[ir,List.mem_cons,Prod.mk.injEq]at h;rcases h with⟨rfl,rfl⟩ | h
  ·simp
  ·obtain⟨h1,h2⟩:=zq h;grind
 | [],_,_,_,h=>by cases h
def jf(l:List et)(s:ay)(f:Nat->Bool):ay:=jz (((ir 0 l).filter λp=>f p.1).map (·.2)) s
theorem Sb(l m:List et)(s:ay):jz (l++m) s=jz m (jz l s):=by simp[jz]
theorem KE{a b:et}(h:a.apart b=true):(∀ t∈a.nC,t ∉ b.km/\t ∉ b.nC)/\(∀ t∈a.km,t ∉ b.nC)/\(∀ x∈a.mI,x ∉ b.tD/\x ∉ b.mI)/\∀ x∈a.tD,x ∉ b.mI:=by
 simp only[et.apart,Bool.and_eq_true]at h;obtain⟨⟨⟨h1,h2⟩,h3⟩,aR⟩:=h;refine⟨λt aG=>?_,λt aG=>FB h2 aG,λx hx=>?_,λx hx=>FB aR hx⟩
 ·have:=FB h1 aG;grind
 ·have:=FB h3 hx;grind
theorem Sc{l:List et}{s:ay}{f:Nat->Bool}{i:Nat}{r:et}(E:l[i]?=some r)(ar:f i=false)
  (gw:∀ j x,j<i->l[j]?=some x->f j=false->x.apart r=true) (tF:∀ j x,i<j->l[j]?=some x->f j=true->r.apart x=true) :
  w4 r.km (jf l s f) (jz (l.take i) s)/\w5 r.tD (jf l s f) (jz (l.take i) s)/\jf l s (λj=>if j=i then true else f j)=r.hS (jf l s f):=by
 obtain⟨b4,eB⟩:=List.getElem?_eq_some_iff.1 E;have hlen:(l.take i).length=i:=by grind
 have Sd:ir 0 l=ir 0 (l.take i)++(i,r)::ir (i+1) (l.drop (i+1)):=by
  have h1:l=l.take i++r::l.drop (i+1):=by
   have:=List.take_append_drop i l;rw[List.drop_eq_getElem_cons b4,eB]at this;grind
  have h2:=Sa (l.take i) (r::l.drop (i+1)) 0;rw[<-h1,hlen]at h2;simpa [ir]using h2
 have aeC:∀ p∈ir 0 (l.take i),p.1<i/\l[p.1]?=some p.2:=by
  rintro⟨j,x⟩ hp;obtain⟨_,h2⟩:=zq hp;grind
 have axk:∀ p∈ir (i+1) (l.drop (i+1)),i<p.1/\l[p.1]?=some p.2:=by
  rintro⟨j,x⟩ hp;obtain⟨h1,h2⟩:=zq hp;grind
 have Se:∀ x∈((ir (i+1) (l.drop (i+1))).filter λp=>f p.1).map (·.2),r.apart x=true:=by
  grind
 have h8:jf l s f=jz (((ir (i+1) (l.drop (i+1))).filter λp=>f p.1).map (·.2)) (jz (((ir 0 (l.take i)).filter λp=>f p.1).map (·.2)) s):=by
  unfold jf;rw[Sd,List.filter_append,List.filter_cons_of_neg (by grind),List.map_append,Sb]
 have qO:=aey (R:=r.km) (B:=r.tD) (((ir (i+1) (l.drop (i+1))).filter λp=>f p.1).map (·.2)) (jz (((ir 0 (l.take i)).filter λp=>f p.1).map (·.2)) s)
  (λx hx=>by
   have:=KE (Se x hx);grind)
 have qP:=aeA (R:=r.km) (B:=r.tD) (λp=>f p.1) (ir 0 (l.take i)) s s (λ_ _=>rfl) (λ_ _=>rfl) (λp hp aeD=>by
  obtain⟨h1,h2⟩:=aeC p hp;have:=KE (gw p.1 p.2 h1 h2 aeD);grind)
 rw[Cl]at qP;refine⟨λt aG=>by rw[h8];exact (qO.1 t aG).trans (qP.1 t aG),λb ab=>by rw[h8];exact (qO.2 b ab).trans (qP.2 b ab),?_⟩;rw[h8];unfold jf;have e1:(ir 0 (l.take i)).filter (λp=>if p.1=i then true else f p.1)=(ir 0 (l.take i)).filter λp=>f p.1:=by
  apply List.filter_congr;grind
 have e2:(ir (i+1) (l.drop (i+1))).filter (λp=>if p.1=i then true else f p.1)=(ir (i+1) (l.drop (i+1))).filter λp=>f p.1:=by
  apply List.filter_congr;grind
 rw[Sd,List.filter_append,List.filter_cons_of_pos (by simp),e1,e2,List.map_append,Sb];show jz _ (r.hS _)=_;refine aeB _ _ λx hx=>?_;have:=KE (Se x hx);grind
theorem w7{p:Nat->Prop}:∀ (ops:List Oper) (acc:List (List Nat)),(∀ j i,i∈acc.getD j []->p j->p i)->(∀ j o,ops[j]?=some o->∀ i∈hU o,p (acc.length+j)->p i)->
  ∀ j i,i∈(ops.foldl zn acc).getD j []->p j->p i:=by
 intro ops;induction ops with
 | nil=>simp
 | cons o ops aH=>
  intro acc h au;refine aH (zn acc o) (λj i E aC=>?_) λj hF j3 i E aC=>au (j+1) hF (by grind) i E (by
   have:(zn acc o).length=acc.length+1:=by simp[zn]
   grind)
  unfold zn at E;rw[List.getD_eq_getElem?_getD,List.getElem?_append]at E;split at E
  ·grind
  ·rename_i b4;by_cases e:j=acc.length
   ·subst e;simp only[Nat.sub_self,List.getElem?_cons_zero,Option.getD_some]at E;have E:=(KB E).resolve_left (by simp);simp only[List.mem_flatMap,List.mem_cons]at E;obtain⟨k,ao,E⟩:=E;have u7:=au 0 o (by simp) k ao (by omega);grind
   grind
theorem Sf{U:dj}{T:Nat->af}{a1:Nat->Option aJ}{ops:Array Oper}:∀ (os:List Oper) (s:ay) {l:List et} {s':ay},w3 U T a1 ops os s=some (l,s')->
  l.length=os.length/\s'=jz l s/\∀ i o,os[i]?=some o->∃ r,l[i]?=some r/\u6 U T a1 ops (jz (l.take i) s) o=some r:=by
 intro os;induction os with
 | nil=>intro s l s' h;cases h;exact⟨rfl,rfl,λi o h=>by cases h⟩
 | cons o os aH=>
  intro s l s' h;simp only[w3]at h;split at h
  ·cases h
  ·rename_i r G;split at h
   ·cases h
   ·rename_i l' axl ai;cases h;obtain⟨h1,h2,h3⟩:=aH _ ai;refine⟨by grind,h2,λi hF j3=>?_⟩;cases i with
    | zero=>
     simp only[List.getElem?_cons_zero,Option.some.injEq]at j3;subst j3;exact⟨r,by simp,G⟩
    | succ i=>
     obtain⟨pJ,aO,aP⟩:=h3 i hF (by grind);exact⟨pJ,by grind,aP⟩
theorem KF{ops:Array Oper}{f im:Nat->aD}{g:Option (Nat×Bool)}(h:∀ t∈FA ops g,f t=im t):kl f ops g=kl im ops g:=by
 unfold kl;cases g with
 | none=>rfl
 | some p=>
  obtain⟨j,want⟩:=p;simp only;cases aC:ops[j]? with
  | none=>rfl
  | some o=>
   simp only;cases au:o.dst with
   | none=>rfl
   | some d=>
    simp only;rw[h d (by simp[FA,aC,au])]
theorem Sg{U:dj}{T:Nat->af}{a1:Nat->Option aJ}{ops:Array Oper}{s s':ay}{o:Oper}{r:et}(h:u6 U T a1 ops s o=some r)(h1:w4 r.km s' s)(h2:w5 r.tD s' s):u6 U T a1 ops s' o=some r:=by
 have Sh:r.km=Cg ops o/\r.tD=(bh U T a1 (aT U s.ax) o).looks s.ad:=by
  unfold u6 at h;grind
 rw[Sh.1]at h1;rw[Sh.2]at h2;have kD:∀ x∈o.op.operands.toList,aT U s'.ax x=aT U s.ax x:=by
  intro x hx;cases x with
  | tmp t=>
   refine h1 t ?_;simp only[Cg,List.mem_append];exact .inr (List.mem_filterMap.2 ⟨.tmp t,hx,rfl⟩)
  | _=>rfl
 have e1:kl s'.ax ops o.guard=kl s.ax ops o.guard:=KF λt aG=>h1 t (by simp[Cg,aG]);have e2:bh U T a1 (aT U s'.ax) o=bh U T a1 (aT U s.ax) o:=aet kD;have e3:=aq.QU (H:=s.ad) (H':=s'.ad) (bh U T a1 (aT U s.ax) o) h2;have e4:rY (aT U s'.ax) o=rY (aT U s.ax) o:=by
  unfold rY;grind
 have dC:mH (aT U s'.ax) o=mH (aT U s.ax) o:=by
  unfold mH;cases ag:o.op with
  | binOp op ty x y t=>
   rw[ag]at kD;simp only;rw[kD x (by simp[Op.operands])]
  | load ty x=>rw[ag]at kD;simp only;rw[kD x (by simp[Op.operands])]
  | store ty x y=>rw[ag]at kD;simp only;rw[kD x (by simp[Op.operands])]
  | call c=>
   obtain⟨callee,args,cT⟩:=c;rw[ag]at kD;cases callee with
   | builtin b=>
    have cA:∀ x∈args.toList,aT U s'.ax x=aT U s.ax x:=λx hx=>kD x (by simp[Op.operands,Call.operands];simp_all);simp only;unfold Fy;grind
   | _=>rfl
  | _=>rfl
 unfold u6 at h ⊢;simp_all
universe u
def M.fail{β:Type}:M β:=⟨False,λ_=>False⟩
inductive bI where
 | undef
 | val (t:af)
 | dz (t:af)
 | loc (b off:Nat)
 | own (b:Nat)
 | sub (b:Nat)
 | fp (b:Nat)
 | jR (b:Nat)
 | cR
 | ih (k:FuncId) (fD:z8')
 | tr (aI:af)
 | gM
 | hn (bs:List Nat)
 | iI (b:Nat)
 deriving DecidableEq
inductive bN where
 | cells (t:af) (l:List bI)
 | a8 (e:af)
 | hj (e:af)
 | mp (k v:af)
 | iY (k v:af)
 | fL (t:af)
 | gq (t:af)
 | b8 (k v:af)
 | fQ (e:af) (t:bI)
def bI.cons(t:bI)(R:Type):Type:=
 match t with
 | .val t=>t.ah×R
 | .dz t=>t.ah×R
 | .sub _=>(Nat×Nat)×R
 | .tr aI=>(Nat×(List aI.ah->Prop)×List aI.ah×Bool)×R
 | .gM=>Nat×R
 | .iI _=>Nat×R
 | _=>R
def pX:List bI->Type->Type
 | [],R=>R
 | t::l,R=>t.cons (pX l R)
def bN.cons(t:bN)(R:Type):Type:=
 match t with
 | .cells _ l=>pX l R
 | .a8 e=>List e.ah×R
 | .hj e=>List e.ah×R
 | .mp k v=>List (k.ah×v.ah)×R
 | .iY k v=>List (k.ah×v.ah)×R
 | .fL t=>t.ah×R
 | .gq t=>t.ah×R
 | .b8 k v=>(Option (k.ah×v.ah)×List (k.ah×v.ah))×R
 | .fQ e t=>(List e.ah×Nat)×t.cons R
def bN.Cm:bN->Bool
 | .cells _ _ | .a8 _ | .mp _ _ | .fL _ | .b8 _ _ | .fQ _ _=>true
 | _=>false
def bN.FD(t u:bN):Bool:=
 match t,u with
 | .cells _ _,.cells _ _ | .cells _ _,.fL _ | .fL _,.cells _ _ | .fL _,.fL _ | .gq _,.cells _ _ | .gq _,.fL _=>true
 | .mp _ _,.mp _ _ | .iY _ _,.mp _ _=>true
 | .a8 e,.a8 aS=>decide (e=aS)
 | .hj _,.a8 _=>true
 | _,_=>false
structure dm where
 bF:List (Nat×bI)
 bp:List (Nat×bN)
def o2:List (Nat×bN)->Type
 | []=>Unit
 | p::l=>p.2.cons (o2 l)
def n':List (Nat×bI)->Type->Type
 | [],R=>R
 | p::l,R=>p.2.cons (n' l R)
def dm.ah(sh:dm):Type:=n' sh.bF (o2 sh.bp)
def u9(g:Nat->Nat×Nat)(fD:z8'):Nat->aD:=gO (fD.map λp=>.loc (g p.1).1 (g p.1).2 p.2)
def u_(g:Nat->Nat×Nat)(bs:List Nat):Nat->aD:=gO (bs.map λb=>.own (g b).1 (g b).2)
def bI.av(g:Nat->Nat×Nat)(t:bI){R:Type}(x:t.cons R):aD×R:=
 match t,x with
 | .undef,x=>(.undef,x)
 | .val t,x=>(.val t x.1,x.2)
 | .dz t,x=>(.dz t x.1,x.2)
 | .loc b off,x=>(.loc (g b).1 (g b).2 off,x)
 | .own b,x=>(.own (g b).1 (g b).2,x)
 | .sub b,x=>(.sub (g b).1 (g b).2 x.1.1 x.1.2,x.2)
 | .fp b,x=>(.fp (g b).1 (g b).2,x)
 | .jR b,x=>(.jR (g b).1 (g b).2,x)
 | .cR,x=>(.cR,x)
 | .ih k fD,x=>(.ih k fD.length (u9 g fD),x)
 | .tr aI,x=>(.tr x.1.1 aI x.1.2.1 x.1.2.2.1 x.1.2.2.2,x.2)
 | .gM,x=>(.gM x.1,x.2)
 | .hn bs,x=>(.agg bs.length (u_ g bs),x)
 | .iI b,x=>(.iI (g b).1 (g b).2 x.1,x.2)
def o3(g:Nat->Nat×Nat):(l:List bI)->{R:Type}->pX l R->List aD×R
 | [],_,x=>([],x)
 | t::l,_,x=>let (a,y):=t.av g x;let (as,z):=o3 g l y;(a::as,z)
def bN.body(g:Nat->Nat×Nat)(t:bN){R:Type}(x:t.cons R):bB×R:=
 match t,x with
 | .cells t l,x=>let (as,y):=o3 g l x;(.cells t (gO as),y)
 | .a8 e,x=>(.a8 e x.1,x.2)
 | .hj e,x=>(.hj e x.1,x.2)
 | .mp k v,x=>(.mp k v x.1,x.2)
 | .iY k v,x=>(.iY k v x.1,x.2)
 | .fL t,x=>(.cells t (gO (nq t x.1)),x.2)
 | .gq t,x=>(.gq t x.1,x.2)
 | .b8 k v,x=>(.b8 k v x.1.1 x.1.2,x.2)
 | .fQ e t,x=>let (a,y):=t.av g x.2;(.fQ e x.1.1 x.1.2 a,y)
def eb(g:Nat->Nat×Nat):(l:List (Nat×bI))->{R:Type}->n' l R->List (Nat×aD)×R
 | [],_,x=>([],x)
 | p::l,_,x=>let (a,y):=p.2.av g x;let (as,z):=eb g l y;((p.1,a)::as,z)
def gQ(g:Nat->Nat×Nat):(l:List (Nat×bN))->o2 l->List (Nat×bB)
 | [],_=>[]
 | p::l,x=>let (a,y):=p.2.body g x;(p.1,a)::gQ g l y
def e7:List (Nat×aD)->Nat->aD
 | [],_=>.undef
 | p::l,i=>if i=p.1 then p.2 else e7 l i
def eu:List (Nat×bB)->Nat->bu
 | [],_=>⟨0,.ff⟩
 | p::l,i=>if i=p.1 then ⟨0,p.2⟩ else eu l i
def Si(aeE:List (Nat×aD))(bs:List (Nat×bB)):ay:=⟨e7 aeE,eu bs⟩
def cJ(b:Nat):Nat×Nat:=(b,0)
def dm.st(sh:dm)(A:sh.ah):ay:=
 Si (eb cJ sh.bF A).1 (gQ cJ sh.bp (eb cJ sh.bF A).2)
def w8(H:Nat->bu)(t:af)(av:aD){R:Type}(r:Option (R×List Nat)):Option ((t.ah×R)×List Nat):=
 match (dd t av).run H with
 | some (x,l)=>match r with
  | some (y,m)=>some ((x,y),l++m)
  | none=>none
 | none=>none
def KG(t:af)(av:aD){R:Type}(r:Option (R×List Nat)):Option ((t.ah×R)×List Nat):=
 match av with
 | .dz cD x=>match r with
  | some (y,m)=>if h:cD=t then some ((h ▸ x,y),m) else none
  | none=>none
 | _=>none
def KH(H:Nat->bu)(b:Nat)(av:aD){R:Type}(r:Option (R×List Nat)):Option (((Nat×Nat)×R)×List Nat):=
 match r with
 | some (y,m)=>match av with
  | .own aZ g=>if (aZ == b&&g == (H b).gen&&(H b).body.eU)=true then some (((0,(H b).body.len),y),m) else none
  | .sub aZ g lo E=>if (aZ == b&&g == (H b).gen)=true then some (((lo,E),y),m) else none
  | _=>none
 | none=>none
def KI(aI:af)(av:aD){R:Type}(r:Option (R×List Nat)):Option (((Nat×(List aI.ah->Prop)×List aI.ah×Bool)×R)×List Nat):=
 match av with
 | .tr l kn L n st=>match r with
  | some (y,m)=>if h:kn=aI then some (((l,h ▸ L,h ▸ n,st),y),m) else none
  | none=>none
 | _=>none
def KJ(av:aD){R:Type}(r:Option (R×List Nat)):Option ((Nat×R)×List Nat):=
 match av with
 | .gM l=>match r with
  | some (y,m)=>some ((l,y),m)
  | none=>none
 | _=>none
def KK(H:Nat->bu)(b:Nat)(av:aD){R:Type}(r:Option (R×List Nat)):Option ((Nat×R)×List Nat):=
 match av with
 | .iI aZ g i=>match r with
  | some (y,m)=>if (aZ == b&&g == (H b).gen)=true then some ((i,y),m) else none
  | none=>none
 | _=>none
def FE(H:Nat->bu)(b off:Nat)(av:aD):Bool:=
 match av with
 | .loc aZ g aeF=>aZ == b&&aeF == off&&g == (H b).gen
 | _=>false
def FF(H:Nat->bu)(b:Nat)(av:aD):Bool:=
 match av with
 | .own aZ g=>aZ == b&&g == (H b).gen
 | _=>false
def KL(H:Nat->bu)(b:Nat)(av:aD):Bool:=
 match av with
 | .fp aZ g=>aZ == b&&g == (H b).gen
 | _=>false
def KM(H:Nat->bu)(b:Nat)(av:aD):Bool:=
 match av with
 | .jR aZ g=>aZ == b&&g == (H b).gen
 | _=>false
def KN(av:aD):Bool:=
 match av with
 | .cR=>true
 | _=>false
def KO(H:Nat->bu)(f:Nat->Nat)(k:FuncId)(fD:z8')(av:aD):Bool:=
 match av with
 | .ih k' n cF=>k' == k&&n == fD.length&&(List.range n).all λi=>match fD[i]? with
  | some p=>FE H (f p.1) p.2 (cF i)
  | none=>false
 | _=>false
def KP(H:Nat->bu)(f:Nat->Nat)(bs:List Nat)(av:aD):Bool:=
 match av with
 | .agg n h=>n == bs.length&&(List.range n).all λi=>match bs[i]? with
  | some b=>FF H (f b) (h i)
  | none=>false
 | _=>false
def u'{aj:Type}(b:Bool)(r:Option aj):Option aj:=match b with | true=>r | false=>none
def bI.iP(H:Nat->bu)(f:Nat->Nat)(t:bI)(av:aD){R:Type}(r:Option (R×List Nat)):Option (t.cons R×List Nat):=
 match t with
 | .undef=>r
 | .val t=>w8 H t av r
 | .dz t=>KG t av r
 | .loc b off=>u' (FE H (f b) off av) r
 | .own b=>u' (FF H (f b) av) r
 | .sub b=>KH H (f b) av r
 | .fp b=>u' (KL H (f b) av) r
 | .jR b=>u' (KM H (f b) av) r
 | .cR=>u' (KN av) r
 | .ih k fD=>u' (KO H f k fD av) r
 | .tr aI=>KI aI av r
 | .gM=>KJ av r
 | .hn bs=>u' (KP H f bs av) r
 | .iI b=>KK H (f b) av r
def zr(H:Nat->bu)(f:Nat->Nat):(l:List bI)->(Nat->aD)->Nat->{R:Type}->Option (R×List Nat)->Option (pX l R×List Nat)
 | [],_,_,_,r=>r
 | t::l,c,i,_,r=>t.iP H f (c i) (zr H f l c (i+1) r)
def KQ(H:Nat->bu)(f:Nat->Nat)(t:af)(l:List bI)(b:bB){R:Type}(r:Option (R×List Nat)):Option (pX l R×List Nat):=
 match b with
 | .cells cD c=>if cD=t/\t.size=l.length then zr H f l c 0 r else none
 | _=>none
def KR(e:af)(b:bB){R:Type}(r:Option (R×List Nat)):Option ((List e.ah×R)×List Nat):=
 match b with
 | .a8 aS xs=>match r with
  | some (y,m)=>if h:aS=e then some ((h ▸ xs,y),m) else none
  | none=>none
 | _=>none
def KS(k v:af)(b:bB){R:Type}(r:Option (R×List Nat)):Option ((List (k.ah×v.ah)×R)×List Nat):=
 match b with
 | .mp k' hO es=>match r with
  | some (y,m)=>if h:k'=k/\hO=v then some ((h.1 ▸ h.2 ▸ es,y),m) else none
  | none=>none
 | _=>none
def KT(k v:af)(b:bB){R:Type}(r:Option (R×List Nat)):Option (((Option (k.ah×v.ah)×List (k.ah×v.ah))×R)×List Nat):=
 match b with
 | .b8 k' hO c es=>match r with
  | some (y,m)=>if h:k'=k/\hO=v then some (((h.1 ▸ h.2 ▸ c,h.1 ▸ h.2 ▸ es),y),m) else none
  | none=>none
 | _=>none
def KU(H:Nat->bu)(f:Nat->Nat)(e:af)(t:bI)(b:bB){R:Type}(r:Option (R×List Nat)):Option (((List e.ah×Nat)×t.cons R)×List Nat):=
 match b with
 | .fQ aS xs i v=>match t.iP H f v r with
  | some (y,m)=>if h:aS=e then some (((h ▸ xs,i),y),m) else none
  | none=>none
 | _=>none
def KV(H:Nat->bu)(t:af)(b:bB){R:Type}(r:Option (R×List Nat)):Option ((t.ah×R)×List Nat):=
 match b with
 | .cells cD f=>if cD=t then w8 H t (.agg t.size f) r else none
 | _=>none
def KW(H:Nat->bu)(t:af)(b:Nat){R:Type}(r:Option (R×List Nat)):Option ((t.ah×R)×List Nat):=
 match (dd (.bq t) (.loc b (H b).gen 0)).run H with
 | some (some x,l)=>match r with
  | some (y,m)=>some ((x,y),l++m)
  | none=>none
 | _=>none
def bN.iP(H:Nat->bu)(f:Nat->Nat)(t:bN)(b:Nat){R:Type}(r:Option (R×List Nat)):Option (t.cons R×List Nat):=
 match t with
 | .cells t l=>KQ H f t l (H b).body r
 | .a8 e=>KR e (H b).body r
 | .hj e=>w8 H (.slice e) (.own b (H b).gen) r
 | .mp k v=>KS k v (H b).body r
 | .iY k v=>w8 H (.map k v) (.fp b (H b).gen) r
 | .fL t=>KV H t (H b).body r
 | .gq t=>KW H t b r
 | .b8 k v=>KT k v (H b).body r
 | .fQ e t=>KU H f e t (H b).body r
def w9(H:Nat->bu)(f:Nat->Nat):(l:List (Nat×bN))->Option (o2 l×List Nat)
 | []=>some ((),[])
 | p::l=>p.2.iP H f (f p.1) (w9 H f l)
def w_(H:Nat->bu)(f:Nat->Nat):(l:List (Nat×bI))->(Nat->aD)->{R:Type}->Option (R×List Nat)->Option (n' l R×List Nat)
 | [],_,_,r=>r
 | p::l,c,_,r=>p.2.iP H f (c p.1) (w_ H f l c r)
def dm.oa(sh:dm):List Nat:=sh.bp.filterMap λp=>if p.2.Cm then some p.1 else none
def dm.zt(sh:dm)(f:Nat->Nat)(s:ay):Option (sh.ah×List Nat):=
 match w_ s.ad f sh.bF s.ax (w9 s.ad f sh.bp) with
 | some (A,fl)=>if sh.oa.all (λb=>!fl.contains (f b))=true then some (A,fl) else none
 | none=>none
def KX:List (Nat×bN)->Nat->Option bN
 | [],_=>none
 | p::l,b=>if b=p.1 then some p.2 else KX l b
def KY(s:ay)(i b aZ g':Nat):ay:=
 match decide (aZ≠b/\g'=(s.ad aZ).gen),(s.ad aZ).body with
 | true,.a8 e xs=>⟨λj=>if j=i then .own b ((s.ad b).gen+1) else s.ax j,λj=>if j=b then ⟨(s.ad b).gen+1,.a8 e xs⟩ else if j=aZ then ⟨(s.ad aZ).gen+1,.ff⟩ else s.ad j⟩
 | _,_=>s
def KZ(bs:List (Nat×bN))(s:ay)(i b:Nat):ay:=
 match s.ax i,KX bs b with
 | .cR,some (.a8 e)=>⟨λj=>if j=i then .own b ((s.ad b).gen+1) else s.ax j,(s.b' b ⟨(s.ad b).gen+1,.a8 e []⟩).ad⟩
 | .own aZ g',some (.a8 _)=>KY s i b aZ g'
 | _,_=>s
def K1(bs:List (Nat×bN))(s:ay)(c j b:Nat):ay:=
 match (s.ad c).body with
 | .cells t f=>match f j,(s.ad b).body,KX bs b with
  | .cR,.ff,some (.a8 e)=>(s.b' b ⟨(s.ad b).gen+1,.a8 e []⟩).b' c ⟨(s.ad c).gen,.cells t λq=>if q=j then .own b ((s.ad b).gen+1) else f q⟩
  | _,_,_=>s
 | _=>s
def FG(bs:List (Nat×bN)):List (Nat×bI)->ay->ay
 | [],s=>s
 | p::l,s=>FG bs l (match p.2 with | .own b=>KZ bs s p.1 b | _=>s)
def FH(bs:List (Nat×bN))(c:Nat):List bI->Nat->ay->ay
 | [],_,s=>s
 | t::l,j,s=>FH bs c l (j+1) (match t with | .own b=>K1 bs s c j b | _=>s)
def FI(bs:List (Nat×bN)):List (Nat×bN)->ay->ay
 | [],s=>s
 | p::l,s=>FI bs l (match p.2 with | .cells _ ts=>FH bs p.1 ts 0 s | _=>s)
def dm.FJ(sh:dm)(s:ay):ay:=FI sh.bp sh.bp (FG sh.bp sh.bF s)
def bN.Sj:bN->Bool
 | .a8 _ | .hj _ | .fQ _ _=>true
 | _=>false
def dm.FK(sh:dm)(s:ay):Bool:=sh.bp.all λp=>!(decide (wH<=p.1)&&p.2.Sj)||decide ((s.ad p.1).gen=0)
def dm.iP(sh:dm)(s:ay):Option (sh.ah):=
 match sh.FK (sh.FJ s) with
 | true=>(sh.zt (λb=>b) (sh.FJ s)).map (·.1)
 | false=>none
def dm.mJ{β:Type}(sh:dm)(s:ay)(k:sh.ah->M β):M β:=
 match sh.iP s with
 | some A=>k A
 | none=>M.fail
def bI.xa(t:bI){R:Type}(r:R):t.cons R:=
 match t with
 | .val t=>(t.cO,r)
 | .dz t=>(t.cO,r)
 | .sub _=>((0,0),r)
 | .tr _=>((0,λ_=>False,[],false),r)
 | .gM=>(0,r)
 | .iI _=>(0,r)
 | .undef | .loc _ _ | .own _ | .fp _ | .jR _ | .cR | .ih _ _ | .hn _=>r
def Sk:(l:List bI)->{R:Type}->R->pX l R
 | [],_,r=>r
 | t::l,_,r=>t.xa (Sk l r)
def bN.xa(t:bN){R:Type}(r:R):t.cons R:=
 match t with
 | .cells _ l=>Sk l r
 | .a8 _=>([],r)
 | .hj _=>([],r)
 | .mp _ _=>([],r)
 | .iY _ _=>([],r)
 | .fL t=>(t.cO,r)
 | .gq t=>(t.cO,r)
 | .b8 _ _=>((none,[]),r)
 | .fQ _ t=>(([],0),t.xa r)
def Sl:(l:List (Nat×bN))->o2 l
 | []=>()
 | p::l=>p.2.xa (Sl l)
def Sm:(l:List (Nat×bI))->{R:Type}->R->n' l R
 | [],_,r=>r
 | p::l,_,r=>p.2.xa (Sm l r)
def dm.xa(sh:dm):sh.ah:=Sm sh.bF (Sl sh.bp)
structure SC where
 ts:af
 tr:af
 sh:ts.ah->M tr.ah
 dv:Bool
def aJ.c8(c:aJ):SC:=⟨c.ts,c.tr,c.sh,true⟩
def M.Cn{aj:Type}(m:M aj):Prop:=∀ x y,m.bC x->m.bC y->x=y
open Classical in
def M.val{aj:Type}(m:M aj)(d:aj):aj:=if h:∃ x,m.bC x then h.choose else d
def SC.fc(c:SC):aJ:=⟨c.ts,c.tr,λx=>(c.sh x).bY,λx=>(c.sh x).val c.tr.cO⟩
structure IOC where
 b7:dm
 bC:dm
 ko:z9'
 j4:Nat
 sh:b7.ah->M bC.ah
structure ITC where
 ts:af
 aI:af
 pre:ts.ah->Prop
 seq:ts.ah->List aI.ah
inductive eK where
 | c8 (c:SC)
 | io (c:IOC)
 | b8 (c:ITC)
 | K2 (c:SC)
 | FL (c:IOC) (sh:Nat->c.b7.ah->M c.bC.ah) (ids:List Nat)
 | ow (c:aJ)
def FM(a1:Nat->Option aJ)(Ψ:Nat->Option eK)(k:Nat):Option aJ:=
 match Ψ k with
 | some (.c8 c)=>match c.dv&&!nu c.tr with
  | true=>some c.fc
  | false=>none
 | some (.ow c)=>some c
 | some _=>none
 | none=>a1 k
def K3(a1:Nat->Option aJ)(Ψ:Nat->Option eK)(k:Nat):Option SC:=
 match Ψ k with
 | some (.c8 c)=>some c
 | some _=>none
 | none=>(a1 k).bind λc=>if nu c.tr=true then none else some c.c8
structure hI where
 aj:Type
 d:aj
 bU:Prop
 m:M aj
 st:aj->ay
 Co:Option (Bool->aj->ay)
def qQ(s:ay)(o:Oper)(tr:af)(fl:List Nat)(v:aD):ay:=(if tr.pure then s else s.cc fl).set o.dst v
def Cp(U:dj)(s:ay)(o:Oper)(args:List Operand)(c8:SC):Option hI:=
 match (iK c8.ts ((args.map (aT U s.ax)).map λv=>(use v).2)).run s.ad with
 | some (x,fl)=>some ⟨c8.tr.ah,c8.tr.cO,ju (args.map (aT U s.ax)),c8.sh x,λy=>qQ s o c8.tr fl (qB c8.tr y),some λg y=>qQ s o c8.tr fl (.hi g (qB c8.tr y))⟩
 | none=>none
def FN(U:dj)(s:ay)(o:Oper)(args:List Operand)(c8:SC):Option hI:=
 match (iK c8.ts ((args.map (aT U s.ax)).map λv=>(use v).2)).run s.ad with
 | some (x,_)=>some ⟨c8.tr.ah,c8.tr.cO,ju (args.map (aT U s.ax)),c8.sh x,λy=>s.set o.dst (qB c8.tr y),none⟩
 | none=>none
def Cq(U:dj)(s:ay)(o:Oper)(t:Nat)(args:List Operand):Option hI:=
 match use (s.ax t) with
 | (bU,.val (.fn a b) f)=>match (iK a ((args.map (aT U s.ax)).map λv=>(use v).2)).run s.ad with
  | some (x,fl)=>some ⟨b.ah,b.cO,bU/\ju (args.map (aT U s.ax)),f x,λy=>qQ s o b fl (qB b y),some λg y=>qQ s o b fl (.hi g (qB b y))⟩
  | none=>none
 | _=>none
def Sn(t:bI)(av:aD):z8':=
 match t,av with
 | .loc aZ _,.loc b _ _=>[(aZ,b)]
 | .own aZ,.own b _=>[(aZ,b)]
 | .sub aZ,.own b _=>[(aZ,b)]
 | .sub aZ,.sub b _ _ _=>[(aZ,b)]
 | .fp aZ,.fp b _=>[(aZ,b)]
 | .jR aZ,.jR b _=>[(aZ,b)]
 | .ih _ fD,.ih _ _ cF=>(List.range fD.length).filterMap λi=>match fD[i]?,cF i with
  | some p,.loc b _ _=>some (p.1,b)
  | _,_=>none
 | _,_=>[]
def Sp:List bI->(Nat->aD)->Nat->z8'
 | [],_,_=>[]
 | t::l,c,i=>Sn t (c i)++Sp l c (i+1)
def K4:z8'->Nat->Option Nat
 | [],_=>none
 | p::l,b=>if b=p.1 then some p.2 else K4 l b
def Sq(H:Nat->bu):List (Nat×bN)->z8'->z8'
 | [],m=>m
 | p::l,m=>Sq H l (m++match p.2,K4 m p.1 with
  | .cells _ ts,some b=>(match (H b).body with | .cells _ c=>Sp ts c 0 | _=>[])
  | _,_=>[])
def aeG(sh:dm)(s:ay):z8':=Sq s.ad sh.bp (sh.bF.flatMap λp=>Sn p.2 (s.ax p.1))
def rZ(s:ay)(avs:List aD):ay:=⟨λi=>if i=TRS then s.ax TRS else if i<avs.length then avs.getD i .undef else .undef,s.ad⟩
def mK:Nat:=99999
def r0(s:ay)(d:Nat)(f:Nat->Nat)(ins:List Nat):List (Nat×bN)->Nat->z6'
 | [],_=>[]
 | p::l,j=>(if ins.contains p.1 then (p.1,(f p.1,match p.2 with
   | .cells _ _ | .fL _ | .mp _ _ | .gq _ | .iY _ _=>(s.ad (f p.1)).gen
   | .a8 _=>if wH<=p.1 then (s.ad (f p.1)).gen else (s.ad (f p.1)).gen+1
   | _=>(s.ad (f p.1)).gen+1)) else (p.1,(50000+10*d+j,(s.ad (50000+10*d+j)).gen+1)))::r0 s d f ins l (j+1)
def hJ:z6'->Nat->Nat×Nat
 | [],_=>(mK,0)
 | p::l,b=>if b=p.1 then p.2 else hJ l b
def o4:z9'->(Nat->aD)->Nat->List aD
 | [],_,_=>[]
 | none::l,c,i=>c i::o4 l c (i+1)
 | some n::l,c,i=>.agg n (λj=>c (i+j))::o4 l c (i+n)
def K5(l:List aD):aD:=
 match l with
 | [v]=>v
 | l=>.pK l.length (gO l)
def xb(s:ay)(c:IOC)(f:Nat->Nat)(bZ:z6')(τ:c.bC.ah):ay:=
 ⟨λi=>if i=TRS then (if c.bC.bF.any (λp=>p.1 == TRS) then e7 (eb (hJ bZ) c.bC.bF τ).1 TRS else if c.b7.bF.any (λp=>p.1 == TRS) then .undef else s.ax TRS) else s.ax i,λb=>match bZ.find? (λp=>p.2.1 == b) with
  | some p=>⟨p.2.2,(eu (gQ (hJ bZ) c.bC.bp (eb (hJ bZ) c.bC.bF τ).2) p.1).body⟩
  | none=>if (c.b7.oa.map f).contains b then ⟨(s.ad b).gen+1,.ff⟩ else s.ad b⟩
def aeH(s:ay)(o:Oper)(c:IOC)(f:Nat->Nat)(bZ:z6')(τ:c.bC.ah):ay:=
 ay.set (xb s c f bZ τ) o.dst (K5 (o4 c.ko (e7 (eb (hJ bZ) c.bC.bF τ).1) 0))
def FO(l:List Nat):Bool:=decide l.Nodup
def Cr(c:IOC)(f:Nat->Nat)(ds:ay)(bZ:z6')(d n:Nat):Bool:=
  decide (d < 4000) && decide (c.bC.bp.length <= 10) && FO (c.b7.bp.map (·.1)) && FO (c.b7.bp.map λp => f p.1) && FO (bZ.map (·.1)) && FO (bZ.map (·.2.1)) && (c.b7.bp.map (·.1)).all (λb => decide (ev <= b))
        &&!(bZ.map (·.2.1)).contains mK&&(match (ds.ad mK).body with | .ff=>true | _=>false)&&c.bC.bp.all (λp=>c.b7.bp.all λq=>!(p.1 == q.1&&q.2.Cm)||p.2.FD q.2)&&(decide (n=c.j4)&&decide (n<=ev))
def qR(U:dj)(s:ay)(args:List Operand):List aD:=(args.map (aT U s.ax)).map λv=>(use v).2
def qS(c:IOC)(eg:ay)(b:Nat):Nat:=(K4 (aeG c.b7 eg) b).getD mK
def xc(U:dj)(s:ay)(o:Oper)(args:List Operand)(c:IOC):Option hI:=
 match c.b7.zt (qS c (rZ s (qR U s args))) (rZ s (qR U s args)) with
 | some (A,fl)=>match Cr c (qS c (rZ s (qR U s args))) (s.cc fl) (r0 (s.cc fl) (o.dst.getD 0) (qS c (rZ s (qR U s args))) c.b7.oa c.bC.bp 0) (o.dst.getD 0) args.length with
  | true=>some ⟨c.bC.ah,c.bC.xa,ju (args.map (aT U s.ax)),c.sh A,λτ=>aeH (s.cc fl) o c (qS c (rZ s (qR U s args))) (r0 (s.cc fl) (o.dst.getD 0) (qS c (rZ s (qR U s args))) c.b7.oa c.bC.bp 0) τ,none⟩
  | false=>none
 | none=>none
def Sr:Nat:=999999
def Ss(c:IOC)(sh:Nat->c.b7.ah->M c.bC.ah)(ids:List Nat)(n:Option Nat):IOC:={ c with sh:=λA=>M.ae (∃ k∈ids,n=some k) (sh (n.getD 0) A) }
def FP(U:dj)(Ψ:Nat->Option eK)(s:ay)(o:Oper)(t:Nat)(args:List Operand):Option hI:=
 match s.ax t with
 | .val .dT n=>match Ψ Sr with
  | some (.FL c sh ids)=>xc U s o args (Ss c sh ids n)
  | _=>none
 | _=>none
def FQ(U:dj)(s:ay)(o:Oper)(t:Nat)(args:List Operand):Option hI:=
 match s.ax t,s.ax TRS with
 | .gM l',.tr l aI L n st=>match (iK aI ((args.map (aT U s.ax)).map λv=>(use v).2)).run s.ad with
  | some (x,fl)=>some ⟨Bool,false,ju (args.map (aT U s.ax)),M.ae (l'=l/\st=false/\∃ T,L (n++x::T)) (M.any λ_=>True),λb=>ay.set ⟨λi=>if i=TRS then .tr l aI L (n++[x]) (!b) else s.ax i,(s.cc fl).ad⟩ o.dst (.val .bool b),none⟩
  | none=>none
 | _,_=>none
def FR(U:dj)(T:Nat->af)(s:ay)(o:Oper)(ty:TypeId)(x:Operand):Option hI:=
 match T ty,o.dst with
 | .map k v,some d=>match use (aT U s.ax x) with
  | (bU,av)=>match (dd (.map k v) av).run s.ad with
   | some (es,fl)=>if fl.contains d then none else
    some ⟨Unit,(),bU,M.pure (),λ_=>((s.cc fl).b' d ⟨(s.ad d).gen+1,.b8 k v none es⟩).set o.dst (.jR d ((s.ad d).gen+1)),none⟩
   | none=>none
 | _,_=>none
def FT{aj:Type}(l:List aj):M (Option Nat):=⟨True,λx=>match x with | none=>l=[] | some i=>i<l.length⟩
def St(i:Option Nat):Nat:=match i with | none=>0 | some _=>2
def nD{aj:Type}(c:Option aj)(b5:List aj)(i:Option Nat):Option aj:=match i with | none=>c | some i=>b5[i]?
def Cs{aj:Type}(b5:List aj)(i:Option Nat):List aj:=match i with | none=>b5 | some i=>b5.eraseIdx i
def FU(U:dj)(s:ay)(o:Oper)(x:Operand)(str:Bool):Option hI:=
 match str,aT U s.ax x with
 | false,.jR b g=>if (s.ad b).gen=g then (match (s.ad b).body with
  | .b8 k v c b5=>some ⟨Option Nat,none,True,FT b5,λi=>(s.b' b ⟨g,.b8 k v (nD c b5 i) (Cs b5 i)⟩).set o.dst (.pK (Nat.succ (St i)) (gO [.val .bool i.isSome])),none⟩
  | _=>none) else none
 | _,_=>none
def FV(U:dj)(s:ay)(o:Oper)(x:Operand):Option hI:=
 match aT U s.ax x with
 | .jR b g=>if (s.ad b).gen=g then (match (s.ad b).body with
  | .b8 k v c _=>some ⟨Unit,(),True,M.ae (c.isSome=true) (M.pure ()),λ_=>s.set o.dst (.pK 2 (gO [.val k ((c.map (·.1)).getD k.cO),.val v ((c.map (·.2)).getD v.cO)])),none⟩
  | _=>none) else none
 | _=>none
def Ct(U:dj)(T:Nat->af)(s:ay)(o:Oper)(op:BinOp)(ty:TypeId)(x y:Operand):Option hI:=
 match T ty,aT U s.ax y with
 | .slice e,.cR=>match (dd (.slice e) (use (aT U s.ax x)).2).run s.ad with
  | some (xs,_)=>match op with
   | .eql=>some ⟨Bool,false,(use (aT U s.ax x)).1,M.any λb=>b=true->xs=[],λb=>s.set o.dst (.val .bool b),none⟩
   | .neq=>some ⟨Bool,false,(use (aT U s.ax x)).1,M.any λb=>b=true->xs=[],λb=>s.set o.dst (.val .bool (!b)),none⟩
   | _=>none
  | none=>none
 | _,_=>none
def qT(U:dj)(T:Nat->af)(a1:Nat->Option aJ)(Ψ:Nat->Option eK)(s:ay)(o:Oper):Option hI:=
 match o.op with
 | .call c=>match c.callee with
  | .value f=>match f with
   | .func k=>match Ψ k with
    | some (.io c')=>xc U s o c.args.toList c'
    | some (.K2 c')=>FN U s o c.args.toList c'
    | _=>match K3 a1 Ψ k with
     | some c8=>Cp U s o c.args.toList c8
     | none=>none
   | .tmp t=>match Cq U s o t c.args.toList with
    | some r=>some r
    | none=>match FP U Ψ s o t c.args.toList with
     | some r=>some r
     | none=>FQ U s o t c.args.toList
   | _=>none
  | _=>none
 | .range ty x=>FR U T s o ty x
 | .next x str=>FU U s o x str
 | .entry x=>FV U s o x
 | .binOp op ty x y _=>Ct U T s o op ty x y
 | _=>none
def b1{aj:Type}(g:Bool)(m:M aj)(d:aj):M aj:=if g=true then m else M.pure d
def r1{β:Type}(b:Bool)(p:Prop)(m:M β):M β:=match b with | true=>m | false=>M.ae p m
def Cu(o:Oper)(eM:aD)(l:List (Nat×bu)):Option (List (Nat×bu)×aD):=
 match l with
 | []=>some ([],eM)
 | p::l'=>match o.op with
  | .makeFunc ..=>some (p::l',eM)
  | .buildSlice _ n _=>match l',eM,p.2.body with
   | [],.own aZ g',.a8 e xs=>if (aZ=p.1/\g'=p.2.gen)/\n≠0 then some ([(p.1,⟨p.2.gen,.ff⟩)],.val (.slice e) xs) else none
   | _,_,_=>none
  | _=>none
def Su(hk:List (Nat×bu))(eM:aD):aD:=
 match eM with
 | .own b _=>match hk.find? (λp=>p.1 == b) with
  | some (_,⟨_,.a8 e xs⟩)=>.val (.slice e) xs
  | _=>eM
 | _=>eM
abbrev o5:=List (Nat×(Nat×Bool))
def r2(ops:Array Oper)(j d:Nat):Bool:=match ops[j]? with | some o=>(match o.dst with | some e=>e == d | none=>false) | none=>false
def aeI(tg:o5)(t:Nat)(k:Nat×Bool):Bool:=tg.any λp=>p.1 == t&&(p.2.1 == k.1&&p.2.2 == k.2)
def xd(ops:Array Oper)(tg:o5)(o:Oper):o5:=
 match o.dst with
 | none=>tg
 | some d=>match o.guard with
  | some k=>if r2 ops k.1 d=true then tg.filter λp=>p.1 != d&&!r2 ops p.2.1 d else (d,k)::tg.filter λp=>p.1 != d&&!r2 ops p.2.1 d
  | none=>tg.filter λp=>p.1 != d&&!r2 ops p.2.1 d
def xe(aF:Operand->aD)(tg:o5)(gk:Option (Nat×Bool))(x:Operand):Bool:=
 !(aF x).zl||(match x,gk with | .tmp t,some k=>aeI tg t k | _,_=>false)
def FW(ops:Array Oper)(tg:o5)(c x:Operand)(want:Bool):Bool:=
 match c,x with
 | .tmp c,.tmp t=>tg.any λp=>p.1 == t&&(r2 ops p.2.1 c&&p.2.2 == want)
 | _,_=>false
def K6(aF:Operand->aD)(tg:o5)(gk:Option (Nat×Bool))(o:Oper):Bool:=o.op.operands.toList.all (xe aF tg gk)
def zu(aF:Operand->aD)(ops:Array Oper)(tg:o5)(gk:Option (Nat×Bool))(o:Oper):Bool:=
 match o.op with
 | .pick c a b=>xe aF tg gk c&&((xe aF tg gk a||FW ops tg c a true)&&(xe aF tg gk b||FW ops tg c b false))
 | _=>K6 aF tg gk o
def K7(aF:Operand->aD)(tg:o5)(gk:Option (Nat×Bool))(o:Oper)(eM:aD):Bool:=
 !eM.zl||(match o.op with | .move x=>xe aF tg gk x | _=>false)
def hV:Operand->Option Nat
 | .tmp t=>some t
 | _=>none
def zv(o gh kF:Oper):Option (Oper×Nat×Nat):=
 match o.op with
 | .mapEntry ty m x=>match gh.op with
  | .extract e 1=>match kF.op with
   | .entryStore my da aS y=>match o.dst,gh.dst,kF.dst with
    | some d1,some d2,none=>if hV e=some d1/\hV aS=some d2/\my=ty/\(hV da).isSome=true/\hV da=hV m/\(hV y).isSome=true/\hV m≠some d1/\hV m≠some d2/\hV y≠some d1/\hV y≠some d2/\o.guard.isNone=true/\gh.guard.isNone=true/\kF.guard.isNone=true
     then some ({ kF with op:=.mapUpdate ty m x y },d1,d2) else none
    | _,_,_=>none
   | _=>none
  | _=>none
 | _=>none
def zw(o:Oper)(os:List Oper):Option (Oper×Nat×Nat):=
 match os with
 | gh::kF::_=>zv o gh kF
 | _=>none
def FX{β:Type}:Nat->Int->(Nat->M β)->M β
 | 0,_,_=>M.fail
 | 1,_,k=>k 0
 | n+2,v,k=>if v=((n+1:Nat):Int) then k (n+1) else FX (n+1) v k
theorem Sv{β:Type}{O:β->Prop}{k:Nat->M β}{v:Int}:∀ {n:Nat},M.b_ (FX n v k) O->0<=v->v<(n:Int)->M.b_ (k v.toNat) O
 | 0,h,_,_=>h.1.elim
 | 1,h,h0,h1=>by
  have:v.toNat=0:=by omega
  rw[this];exact h
 | n+2,h,h0,h1=>by
  unfold FX at h;split at h
  ·grind
  ·exact Sv h h0 (by omega)
def l7{β:Type}(U:dj)(T:Nat->af)(a1:Nat->Option aJ)(Ψ:Nat->Option eK)(ops:Array Oper):List Oper->o5->ay->(ay->M β)->M β
 | [],_,s,k=>k s
 | o::os,tg,s,k=>
  match zw o os with
  | some (oU,d1,d2)=>match os with
   | _::_::aeJ=>match (bh U T a1 (aT U s.ax) oU).run s.ad with
    | some res=>M.ae res.bU (M.ae res.c (l7 U T a1 Ψ ops aeJ [] (((s.hR none res).set (some d1) .undef).set (some d2) .undef) k))
    | none=>M.fail
   | _=>M.fail
  | none=>
  match kl s.ax ops o.guard with
  | none=>M.fail
  | some none=>match (bh U T a1 (aT U s.ax) o).run s.ad with
   | some res=>r1 (zu (aT U s.ax) ops tg none o) res.bU (r1 (mH (aT U s.ax) o) res.c (l7 U T a1 Ψ ops os (xd ops tg o) (s.hR o.dst res) k))
   | none=>match qT U T a1 Ψ s o with
    | some pr=>r1 (rY (aT U s.ax) o) pr.bU (M.bind pr.m λy=>l7 U T a1 Ψ ops os [] (pr.st y) k)
    | none=>M.fail
  | some (some g)=>match (bh U T a1 (aT U s.ax) o).run s.ad with
   | some ⟨bU,c,eM,hk⟩=>match Cu o eM hk with
    | some (xf,r3)=>r1 (zu (aT U s.ax) ops tg o.guard o&&(mH (aT U s.ax) o&&K7 (aT U s.ax) tg o.guard o r3)) (g=true->bU/\(c/\(use r3).1)) (l7 U T a1 Ψ ops os (xd ops tg o) ((s.fK xf).set o.dst (.hi g (use r3).2)) k)
    | none=>if g=true then M.ae bU (M.ae c (l7 U T a1 Ψ ops os [] (s.hR o.dst ⟨bU,c,eM,hk⟩) k)) else l7 U T a1 Ψ ops os [] (s.set o.dst (.hi false (Su hk (use eM).2))) k
   | none=>match qT U T a1 Ψ s o with
    | some pr=>match pr.Co with
     | some gs=>r1 (K6 (aT U s.ax) tg o.guard o) (g=true->pr.bU) (M.bind (b1 g pr.m pr.d) λy=>l7 U T a1 Ψ ops os (xd ops tg o) (gs g y) k)
     | none=>if g=true then M.ae pr.bU (M.bind pr.m λy=>l7 U T a1 Ψ ops os [] (pr.st y) k) else l7 U T a1 Ψ ops os [] (s.set o.dst (.hi false (use ((pr.st pr.d).ax (o.dst.getD 0))).2)) k
    | none=>M.fail
def Cv{β:Type}:List Prop->M β->M β
 | [],m=>m
 | p::l,m=>M.ae p (Cv l m)
def zx(cl:List (List Nat)):Nat->Nat
 | 0=>0
 | n+1=>if (List.range n).all (λi=>(cl.getD n []).contains i)=true then zx cl n else n+1
def K8(gj h9 ho iu lD:Oper):Bool:=
 match gj.op,h9.op,ho.op with
 | .lookup ty m x false,.binOp .add _ (.tmp t) (.const (.int k c)) _,.mapEntry my da dn=>match gj.dst,h9.dst,zv ho iu lD with
  | some dI,some fr,some (_,d1,d2)=>decide (t=dI/\my=ty/\fz k c/\hV da=hV m/\hV dn=hV x/\dI≠fr/\dI≠d1/\dI≠d2/\fr≠d1/\fr≠d2/\d1≠d2/\
    (hV m).isSome=true/\(hV x).isSome=true/\hV m≠some dI/\hV m≠some fr/\hV m≠some d1/\hV m≠some d2/\hV x≠some dI/\hV x≠some fr/\hV x≠some d1/\hV x≠some d2/\gj.guard.isNone=true/\h9.guard.isNone=true)
  | _,_,_=>false
 | _,_,_=>false
def FY(ops:List Oper):Bool:=
 match ops.drop (ops.length - 5) with
 | [gj,h9,ho,iu,lD]=>K8 gj h9 ho iu lD&&(Ck ops&&((List.range 5).all λq=>(List.range (ops.length - 5)).all λi=>((h7 ops).getD (ops.length - 5+q) []).contains i)&&
   ((h7 ops).getD (ops.length - 5+1) []).contains (ops.length - 5)&&((h7 ops).getD (ops.length - 5+3) []).contains (ops.length - 5+2)&&((List.range 4).all λq=>((h7 ops).getD (ops.length - 5+4) []).contains (ops.length - 5+q))&&
   (hU ho).all (λi=>decide (i<ops.length - 5))&&(hU iu).all (λi=>decide (i<ops.length - 5)||decide (i=ops.length - 5+2)))
 | _=>false
def lE(ops:List Oper):Nat:=if FY ops=true then ops.length - 5 else zx (h7 ops) ops.length
def M.aeK{aj:Type}(l:List (M aj)):M aj:=⟨∀ m∈l,m.bY,λx=>∃ m∈l,m.bC x⟩
def va(ops:List Oper)(done:List Nat):List Nat:=(List.range ops.length).filter λi=>!done.contains i&&match ops[i]? with | some o=>(hU o).all λj=>done.contains j | none=>false
def qU(ops:List Oper):Nat->List Nat->List (List Nat)
 | 0,_=>[[]]
 | f+1,done=>match va ops done with
  | []=>[[]]
  | l=>l.flatMap λi=>(qU ops f (i::done)).map (i::·)
def FZ(ops:List Oper):Nat->List Nat->Bool
 | 0,done=>(va ops done).isEmpty
 | f+1,done=>(va ops done).all λi=>FZ ops f (i::done)
def F1{β:Type}(U:dj)(T:Nat->af)(a1:Nat->Option aJ)(Ψ:Nat->Option eK)(ops:Array Oper)(o:Oper)(s:ay)(k:ay->M β):M β:=
 match o.guard with
 | some _=>M.fail
 | none=>match (bh U T a1 (aT U s.ax) o).run s.ad with
  | some res=>r1 (zu (aT U s.ax) ops [] none o) res.bU (r1 (mH (aT U s.ax) o) res.c (k (s.hR o.dst res)))
  | none=>match qT U T a1 Ψ s o with
   | some pr=>r1 (rY (aT U s.ax) o) pr.bU (M.bind pr.m λy=>k (pr.st y))
   | none=>M.fail
def zy{β:Type}(U:dj)(T:Nat->af)(a1:Nat->Option aJ)(Ψ:Nat->Option eK)(ops:Array Oper):List Nat->ay->(ay->M β)->M β
 | [],s,k=>k s
 | i::bO,s,k=>match ops[i]? with
  | some o=>F1 U T a1 Ψ ops o s λs'=>zy U T a1 Ψ ops bO s' k
  | none=>M.fail
def Sw{β:Type}(U:dj)(T:Nat->af)(a1:Nat->Option aJ)(Ψ:Nat->Option eK)(ops:Array Oper)(s:ay)(k:ay->M β):M β:=
 match FZ ops.toList ops.size [] with
 | true=>M.aeK ((qU ops.toList ops.size []).map λl=>zy U T a1 Ψ ops l s k)
 | false=>M.fail
def zz{β:Type}(U:dj)(T:Nat->af)(a1:Nat->Option aJ)(Ψ:Nat->Option eK)(ops:Array Oper)(s:ay)(k:ay->M β):M β:=
 match w3 U T a1 ops ops.toList s with
 | some (l,s')=>match zo ops.toList l with
  | true=>Cv (l.flatMap et.cs) (k s')
  | false=>M.fail
 | none=>match w3 U T a1 ops (ops.toList.take (lE ops.toList)) s with
  | some (l,s')=>match zo (ops.toList.take (lE ops.toList)) l&&Ck ops.toList with
   | true=>Cv (l.flatMap et.cs) (l7 U T a1 Ψ ops (ops.toList.drop (lE ops.toList)) [] s' k)
   | false=>M.fail
  | none=>Sw U T a1 Ψ ops s k
def k2(ops:List Oper):List Oper:=
 match ops with
 | []=>[]
 | o::l=>o::l.map λp=>{ p with after:=p.after.push ⟨0,.phase⟩ }
def K9(ops:Array Oper):Bool:=
 match ops.toList with
 | []=>false
 | o::l=>(match o.op with | .move _=>true | _=>false)&&(o.guard.isNone&&(o.after.isEmpty&&(Region.noSelect ops&&l.all λp=>(hU p).contains 0||o.apart ops p)))
inductive ca where
 | eo
 | seq (a b:ca)
 | join (sh:dm) (a b:ca)
 | cond (a b:ca)
 | block (a:ca)
 | loop (sh:dm) (a:ca)
 | scope (a:ca)
 | range (sh rin rout:dm) (a b:ca)
 | nE (a b:ca)
 | split (i off n:Nat) (a:ca)
 | num (i n:Nat) (a:ca)
 | nz (i:Nat) (a:ca)
 | F2 (b:Nat) (a:ca)
 | F3
def ca.dL:ca->Bool
 | .eo=>true
 | .seq a b=>a.dL&&b.dL
 | .join _ a b=>a.dL&&b.dL
 | .cond a b=>a.dL&&b.dL
 | .block a=>a.dL
 | .loop _ a=>a.dL
 | .scope a=>a.dL
 | .range ..=>false
 | .nE a b=>a.dL&&b.dL
 | .split _ _ _ a=>a.dL
 | .num _ _ a=>a.dL
 | .nz _ a=>a.dL
 | .F2 _ a=>a.dL
 | .F3=>false
def ca.ob:ca->Bool
 | .nE ..=>true
 | .eo=>true
 | _=>false
inductive cQ where
 | normal
 | exit (id:Nat)
 | ret
def cQ.o6:cQ->Exit
 | .normal=>.normal
 | .exit id=>.exit id
 | .ret=>.ret
open M (aa)
def Sx{β:Type}(k:cQ->ay->M β)(f:ay->M β)(e:cQ)(s:ay):M β:=
 match e with
 | .normal=>f s
 | .exit id=>k (.exit id) s
 | .ret=>k .ret s
def xg{A β:Type}(k:cQ->ay->M β)(f:ay->M (aa A β))(e:cQ)(s:ay):M (aa A β):=
 match e with
 | .normal=>f s
 | .exit id=>M.bind (k (.exit id) s) λr=>M.pure (.done r)
 | .ret=>M.bind (k .ret s) λr=>M.pure (.done r)
def Sy{β:Type}(id:Nat)(k:cQ->ay->M β)(e:cQ)(s:ay):M β:=
 match e with
 | .normal=>k .normal s
 | .exit F4=>if F4=id then k .normal s else k (.exit F4) s
 | .ret=>k .ret s
def aa.bm{A β:Type}(f:A->M β)(st:aa A β):M β:=
 match st with
 | .next x=>f x
 | .done r=>M.pure r
def Sz{β:Type}(v:aD)(m n:M β):M β:=
 match v with
 | .val .bool t=>if t=true then m else n
 | .hi g (.val .bool t)=>M.ae (g=true) (if t=true then m else n)
 | _=>M.fail
def pY(s:ay)(i off:Nat):Option (Int×(Nat->ay)):=
 match s.ax i with
 | .loc b _ o=>match (s.ad b).body with
  | .cells t f=>match f (o+off) with
   | .val (.int tG) x=>some (x,λj=>⟨s.ax,λaZ=>if aZ=b then ⟨(s.ad b).gen,.cells t λq=>if q=o+off then .val (.int tG) (j:Int) else f q⟩ else s.ad aZ⟩)
   | _=>none
  | _=>none
 | _=>none
theorem aeL{s:ay}{i off:Nat}{x:Int}{f:Nat->ay}(h:pY s i off=some (x,f))(h0:0<=x):f x.toNat=s:=by
 unfold pY at h;split at h
 ·rename_i b g o hs;split at h
  ·rename_i t im ab;split at h
   ·rename_i tG dn hx;simp only[Option.some.injEq,Prod.mk.injEq]at h;obtain⟨rfl,rfl⟩:=h;have e0:((dn.toNat:Nat):Int)=dn:=by omega
    have e1:(λq=>if q=o+off then aD.val (.int tG) (show (af.int tG).ah from ((dn.toNat:Nat):Int)) else im q)=im:=by
     grind
    have e2:(λaZ=>if aZ=b then (⟨(s.ad b).gen,.cells t im⟩:bu) else s.ad aZ)=s.ad:=by
     funext q;split
     ·rename_i e;rw[e,<-ab]
     ·rfl
    simp_all
   grind
  grind
 grind
def qV(s:ay)(i:Nat):Option (Int×(Nat->ay)):=
 match s.ax i with
 | .val (.int tG) x=>some (x,λn=>⟨λj=>if j=i then .val (.int tG) (n:Int) else s.ax j,s.ad⟩)
 | _=>none
theorem aeM{s:ay}{i n:Nat}{x:Int}{f:Nat->ay}(h:qV s i=some (x,f))(h0:x=(n:Int)):f n=s:=by
 unfold qV at h;split at h
 ·rename_i tG dn hs;simp only[Option.some.injEq,Prod.mk.injEq]at h;obtain⟨rfl,rfl⟩:=h;have e1:(λj=>if j=i then aD.val (.int tG) (show (af.int tG).ah from (n:Int)) else s.ax j)=s.ax:=by
   grind
  simp_all
 grind
def K_(s:ay)(i:Nat):Option ay:=
 match s.ax i with
 | .n0 b g n off=>match (s.ad b).body,off with
  | .a8 (.st (.slice e)) xs,0=>if g=(s.ad b).gen then some ⟨λj=>if j=i then .iI b g n else s.ax j,λaZ=>if aZ=b then ⟨g,.fQ (.st (.slice e)) xs n (.val (.slice e) (xs.getD n []))⟩ else s.ad aZ⟩ else none
  | _,_=>none
 | _=>none
def K'(s:ay)(b:Nat):Option ay:=
 match (s.ad b).body with
 | .fQ (.st (.slice e)) xs n v=>match (dd (.slice e) v).run s.ad with
  | some (y,fl)=>if fl.contains b then none else some ((s.cc fl).b' b ⟨(s.ad b).gen,.a8 (.st (.slice e)) (xs.set n y)⟩)
  | none=>none
 | _=>none
def jA{A aj:Type}(body:A->aj->M (cQ×A)):List aj->A->M (cQ×A)
 | [],A=>M.pure (.normal,A)
 | x::xs,A=>M.bind (body A x) λp=>match p.1 with
  | .normal=>jA body xs p.2
  | .exit id=>M.pure (.exit id,p.2)
  | .ret=>M.pure (.ret,p.2)
def zA(aI:af)(x:aI.ah):List Tmp->Nat->(Nat->aD)->Nat->aD
 | [],_,f=>f
 | p::ps,i,f=>zA aI x ps (i+1) (λj=>if j=p then ki aI x i else f j)
def xh(s:ay)(aI:af)(x:aI.ah)(ps:List Tmp):ay:=⟨λi=>if i=TRS then s.ax TRS else zA aI x ps 0 s.ax i,s.ad⟩
def vb(rin rout:dm):IOC:=⟨rin,rout,[],0,λ_=>M.fail⟩
def tH{τ:Type}(sh rin rout:dm)(aI:af)(ps:List Tmp)(A:sh.ah)(x:aI.ah)(run:ay->M (τ×rout.ah)):M (τ×sh.ah):=
 match rin.zt (qS (vb rin rout) (xh (sh.st A) aI x ps)) (xh (sh.st A) aI x ps) with
 | some (aF,fl)=>match Cr (vb rin rout) (qS (vb rin rout) (xh (sh.st A) aI x ps)) ((sh.st A).cc fl) (r0 ((sh.st A).cc fl) 0 (qS (vb rin rout) (xh (sh.st A) aI x ps)) rin.oa rout.bp 0) 0 0 with
  | true=>M.bind (run (rin.st aF)) λp=>sh.mJ (xb ((sh.st A).cc fl) (vb rin rout) (qS (vb rin rout) (xh (sh.st A) aI x ps)) (r0 ((sh.st A).cc fl) 0 (qS (vb rin rout) (xh (sh.st A) aI x ps)) rin.oa rout.bp 0) p.2) λiv=>M.pure (p.1,iv)
  | false=>M.fail
 | none=>M.fail
def nF(sh rout:dm)(aI:af)(ps:List Tmp)(nt:Nat):Bool:=
 rout.bF.isEmpty&&!sh.bF.any (λp=>p.1 == TRS)&&decide (aI≠.cz)&&decide (ps.length=jU aI)&&ps.all λp=>decide (p<nt)
def F5{β:Type}(f:ay->M β)(e:cQ)(s:ay):M β:=
 match e with
 | .normal=>f s
 | .exit _=>M.fail
 | .ret=>M.fail
def r4{β:Type}(n:M β)(x:Nat->M β)(r:M β)(e:cQ):M β:=
 match e with
 | .normal=>n
 | .exit id=>x id
 | .ret=>r
def La{β:Type}(k:cQ->ay->M β)(e:cQ)(s:ay):M β:=r4 (k .normal s) (λid=>k (.exit id) s) (k .ret s) e
theorem SA{β:Type}(k:cQ->ay->M β)(e:cQ)(s:ay):La k e s=k e s:=by cases e<;>rfl
def eh(U:dj)(T:Nat->af)(a1:Nat->Option aJ)(Ψ:Nat->Option eK):ca->{β:Type}->Code->ay->(cQ->ay->M β)->M β
 | .seq a b,_,c,s,k=>match c with
  | .seq x y=>eh U T a1 Ψ a x s (Sx k λs'=>eh U T a1 Ψ b y s' k)
  | _=>M.fail
 | .join sh a b,β,c,s,k=>match c with
  | .seq x y=>M.bind (eh U T a1 Ψ a (β:=aa sh.ah β) x s (xg k λs'=>sh.mJ s' λA=>M.pure (.next A))) (aa.bm λA=>eh U T a1 Ψ b y (sh.st A) k)
  | _=>M.fail
 | .cond a b,_,c,s,k=>match c with
  | .cond c x y=>Sz (aT U s.ax c) (eh U T a1 Ψ a x s k) (eh U T a1 Ψ b y s k)
  | _=>M.fail
 | .block a,_,c,s,k=>match c with
  | .block id c=>eh U T a1 Ψ a c s (Sy id k)
  | _=>M.fail
 | .loop sh a,β,c,s,k=>match c with
  | .loop c=>sh.mJ s λA=>M.loop (λA=>eh U T a1 Ψ a (β:=aa sh.ah β) c (sh.st A) (xg k λs'=>sh.mJ s' λiv=>M.pure (.next iv))) A
  | _=>M.fail
 | .nE a b,_,c,s,k=>match c with
  | .loop x=>match b.ob with
   | true=>eh U T a1 Ψ a x s (Sx k λs'=>eh U T a1 Ψ b (.loop x) s' k)
   | false=>M.fail
  | _=>M.fail
 | .scope a,_,c,s,k=>match c with
  | .scope c=>eh U T a1 Ψ a c s k
  | _=>M.fail
 | .num i n a,_,c,s,k=>match qV s i with
  | some (x,f)=>M.ae (x=(n:Int)) (eh U T a1 Ψ a c (f n) k)
  | none=>M.fail
 | .nz i a,_,c,s,k=>match K_ s i with
  | some s'=>eh U T a1 Ψ a c s' k
  | none=>M.fail
 | .F2 b a,_,c,s,k=>match K' s b with
  | some s'=>eh U T a1 Ψ a c s' k
  | none=>M.fail
 | .split i off n a,_,c,s,k=>match pY s i off with
  | some (x,f)=>M.ae (0<=x/\x<(n:Int)) (FX n x λj=>eh U T a1 Ψ a c (f j) k)
  | none=>M.fail
 | .range sh rin rout a b,_,c,s,k=>match c with
  | .rangeFunc g ps assign body=>match aT U s.ax g with
   | .rI qW n eA=>match Ψ qW with
    | some (.b8 ic)=>match (iK ic.ts ((List.range n).map eA)).run s.ad with
     | some (x,fl)=>match nF sh rout ic.aI ps.toList ev&&(a.dL&&b.dL) with
      | true=>sh.mJ (s.cc fl) λA=>M.ae (ic.pre x) (M.bind (jA (λA y=>tH sh rin rout ic.aI ps.toList A y λeg=>
       eh U T a1 Ψ a (β:=cQ×rout.ah) assign eg (F5 λds=>eh U T a1 Ψ b body ds λe ei=>rout.mJ ei λτ=>M.pure (e,τ))) (ic.seq x) A) λp=>La k p.1 (sh.st p.2))
      | false=>M.fail
     | none=>M.fail
    | _=>M.fail
   | .val (.b8 aI) S=>match nF sh rout aI ps.toList ev&&(a.dL&&b.dL) with
    | true=>sh.mJ s λA=>M.bind (M.any S) λL=>M.bind (jA (λA y=>tH sh rin rout aI ps.toList A y λeg=>
     eh U T a1 Ψ a (β:=cQ×rout.ah) assign eg (F5 λds=>eh U T a1 Ψ b body ds λe ei=>rout.mJ ei λτ=>M.pure (e,τ))) L A) λp=>La k p.1 (sh.st p.2)
    | false=>M.fail
   | _=>M.fail
  | _=>M.fail
 | .F3,_,c,s,k=>match c with
  | .region _ ops draw=>match draw&&K9 ops with
   | true=>zz U T (FM a1 Ψ) Ψ (k2 ops.toList).toArray s (k .normal)
   | false=>M.fail
  | _=>M.fail
 | .eo,_,c,s,k=>match c with
  | .region _ ops draw=>match draw with
   | true=>zz U T (FM a1 Ψ) Ψ ops s (k .normal)
   | false=>l7 U T a1 Ψ ops ops.toList [] s (k .normal)
  | .skip=>k .normal s
  | .label _=>k .normal s
  | .exit id=>k (.exit id) s
  | .ret=>k .ret s
  | _=>M.fail
def k3(nt:Nat):Code->Bool
 | .region _ ops _=>ops.toList.all λo=>k0 o nt
 | .seq a b=>k3 nt a&&k3 nt b
 | .cond _ a b=>k3 nt a&&k3 nt b
 | .block _ a=>k3 nt a
 | .loop a=>k3 nt a
 | .scope a=>k3 nt a
 | .rangeFunc _ ps a b=>ps.toList.all (λp=>decide (p<nt))&&(k3 nt a&&k3 nt b)
 | .skip=>true
 | .label _=>true
 | .exit _=>true
 | .ret=>true
 | _=>false
end Go.Fer
