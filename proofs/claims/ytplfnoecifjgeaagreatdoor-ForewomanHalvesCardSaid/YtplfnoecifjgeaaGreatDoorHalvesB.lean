/- Part 2 of the proof of Halves: shallow programs of Go functions, and what they compute. No condition. -/
import Derived.Test.YtplfnoecifjgeaaGreatDoorHalvesA
import Derived.Laws.BytesString
noncomputable section
set_option linter.unusedVariables false
set_option linter.unusedSimpArgs false
namespace Go.Fer
open Go.RowKit
theorem BO{p:Addr}(h:p.spot=none)(n:Nat):p.add n=⟨p.block,p.off+n,none⟩:=by
 obtain⟨b,o,sp⟩:=p;simp only at h;subst h;exact uD b o n
theorem JP{e:ad}{xs:List e.ag}{i:Int}(h1:0<=i)(h2:i<(xs.length:Int)):kr e xs i=xs[i.toNat]'(by omega):=by
 unfold kr;grind
section
variable {C:bP} {T:Nat->ad} {aY:Nat->Option aJ} {o:Oper} {s:ay} {res:dW}
theorem JQ{P:Program}{w:World}{e:ad}{ty:TypeId}(h:bO P (.slice e) ty){p:Addr}(hp:p.spot=none){n cap:Nat}{k:IntKind}{i:Int}(h1:0<=i)(h2:i<(n:Int)) :
  (Instr.indexAt ty (.slice (some p) n cap) (.int k i)).run P w=.ok (.pointer (some ⟨p.block,p.off+i.toNat*e.size,none⟩)) w:=by
 obtain⟨j,aB,iK,_⟩:=h.sl;simp[Instr.indexAt,asIntOf,dc aB,h1,h2,iK.size,BO hp]
theorem acM(hT:dv C.P T){ty:TypeId}{x i:Operand}(a1:∀ i,o.dst=some i->i<C.nt)(af:o.op=.indexAddr ty x i)(h:(be C.aI T aY (aS C.aI s.au) o).run s.ab=some res):cj C o s res:=by
 simp only[be,af]at h;split at h
 ·rename_i e0 k n aF E;have cS:=hT.bR aF (by simp);simp only[bx,ao.eG,Option.bind_eq_some_iff,ao.bw,Option.some.injEq]at h;obtain⟨⟨c,v⟩,gM,rfl⟩:=h;refine cj.pure (by grind) a1 λa w κ F G aX hc=>?_;have hx:bh C.P s.ab κ F w (use (aS C.aI s.au x)).2 (a.eval x):=cq G x rfl aX.1;have h2:=nZ (cq G i rfl aX.2) E;have y0:∀ (xs:List e0.ag),br C.P (.slice e0) F w [a.eval x] xs->0<=n/\n<(xs.length:Int)->∃ r,(execOp a.eval o).run C.P w=.ok (.value r) w/\bh C.P s.ab κ F w (.dx e0 (kr e0 xs n)) r:=by
   intro xs hA ax;obtain⟨a',cap,e1,m1,m2,m3,m4⟩:=hA;have e1:=(List.cons.inj e1).1;cases a' with
   | none=>grind
   | some p=>
    obtain⟨dF,dI,js⟩:=m4 p rfl (by omega);obtain⟨a7,d1,d2⟩:=js n.toNat (by omega);refine⟨_,by simp[execOp,af,e1,h2.1,JQ cS dI ax.1 ax.2],⟨p.block,p.off+n.toNat*e0.size,none⟩,a7,rfl,d1,?_⟩;rw[JP ax.1 ax.2];exact d2
  unfold QP at gM;split at gM
  ·rename_i e xs eK;simp only[ao.bw]at gM;split at gM
   ·rename_i he;subst he;simp only[Option.some.injEq,Prod.mk.injEq]at gM;obtain⟨rfl,rfl⟩:=gM;rw[eK]at hx;exact y0 xs ((dw rfl).1 hx).2 hc
   grind
  ·rename_i b g eK;rw[eK]at hx;simp only[ao.eF,ao.bw]at gM;split at gM
   ·rename_i az;have aL:=G.bl b;unfold cf at aL;split at gM
    ·rename_i e xs bC;split at gM
     ·rename_i he;subst he;simp only[Option.some.injEq,Prod.mk.injEq]at gM;obtain⟨rfl,rfl⟩:=gM;have hv:=hx.2 az.symm (by rw[bC];rfl);rw[bC]at hv aL;have uK:(κ b).eI=false:=by
       cases ax:(κ b).eI with
       | false=>rfl
       | true=>rw[aL.1 ax]at hc;grind
      simp only[bk.slice,uK,Bool.false_eq_true,if_false,bA.len]at hv;refine⟨_,by simp[execOp,af,hv,h2.1,JQ cS (p:=⟨(κ b).ab,(κ b).off,none⟩) rfl hc.1 hc.2];rfl,⟨hx.1.1,rfl⟩,λ_ _=>?_⟩;rw[bC];exact⟨by simp only[bA.len];omega,uK,rfl⟩
     grind
    ·rename_i e xs bC;split at gM
     ·rename_i he;subst he;simp only[Option.some.injEq,Prod.mk.injEq]at gM;obtain⟨rfl,rfl⟩:=gM;have hv:=hx.2 az.symm (by rw[bC];rfl);rw[bC]at hv aL;simp only[bA.len]at hv;refine y0 xs ?_ hc;rw[hv];exact aL
     grind
    grind
   grind
  ·rename_i b g lo E eK;rw[eK]at hx;simp only[ao.eF,ao.bw]at gM;split at gM
   ·rename_i az;have aL:=G.bl b;unfold cf at aL;split at gM
    ·rename_i e xs bC;split at gM
     ·rename_i he;subst he;simp only[Option.some.injEq,Prod.mk.injEq]at gM;obtain⟨rfl,rfl⟩:=gM;obtain⟨⟨aM,aO⟩,bz⟩:=hx.2 az.symm (by rw[bC];rfl);rw[bC]at aO bz aL;simp only[bA.len,bA.eE]at aO bz;rcases bz with⟨ax,_⟩ | ⟨ax,lX,hv,o1,f_⟩
      ·rw[aL.1 ax]at aO;grind
      ·obtain⟨cs,hB,c1,c2,c3,c4,c5⟩:=aL.2 ax;refine⟨_,by simp[execOp,af,hv,h2.1,JQ cS (p:=⟨(κ b).ab,lX,none⟩) rfl hc.1 hc.2];rfl,⟨hx.1.1,rfl⟩,λ_ _=>?_⟩;rw[bC];refine⟨by simp only[bA.len];omega,ax,?_⟩;rw[f_ (by omega)];simp only[bA.eE,Nat.add_mul];grind
     grind
    ·rename_i e xs bC;split at gM
     ·rename_i he;subst he;simp only[Option.some.injEq,Prod.mk.injEq]at gM;obtain⟨rfl,rfl⟩:=gM;obtain⟨⟨aM,aO⟩,bz⟩:=hx.2 az.symm (by rw[bC];rfl);rw[bC]at aO bz aL;simp only[bA.len,bA.eE]at aO bz;have hlen:((xs.take E).drop lo).length=E - lo:=by grind
      obtain⟨r,bY,cm⟩:=y0 ((xs.take E).drop lo) (EK aL aM aO bz) (by omega);refine⟨r,bY,?_⟩;have e1:kr e ((xs.take E).drop lo) n=kr e xs ((lo:Int)+n):=by
       rw[JP hc.1 (by omega),JP (by omega) (by omega)];grind
      grind
     grind
    grind
   grind
  ·simp_all
  ·cases gM
 ·rename_i m e0 k n aF E;split at h
  ·rename_i c7 aR xs eK;split at h
   ·rename_i he;obtain⟨rfl,rfl⟩:=he;simp only[bx,ao.bw,Option.some.injEq]at h;subst h;refine cj.pure (by grind) a1 λa w κ F G aX hc=>?_;have hx:bh C.P s.ab κ F w (use (aS C.aI s.au x)).2 (a.eval x):=cq G x rfl aX.1;rw[eK]at hx;have h2:=nZ (cq G i rfl aX.2) E;obtain⟨j,aB,qC,_⟩:=(hT.bR aF (by simp)).a6;obtain⟨p,a7,hv,cy,nq⟩:=hx;obtain⟨c1,c2,c3,rfl,e2,e3⟩:=JD nq (i:=n.toNat) (by omega);refine⟨.pointer (some ⟨p.block,p.off+n.toNat*aR.size,none⟩),?_,⟨p.block,p.off+n.toNat*aR.size,none⟩,c2,rfl,⟨cy.1,rfl,λq bd=>?_⟩,e3⟩
    ·simp[execOp,af,Instr.indexAt,hv,h2.1,asIntOf,dc aB,hc.1,hc.2,qC.size,BO cy.2.1,Instr.sureAddr]
    ·have:=cy.2.2 (c1.length+q) (by grind);grind
   ·cases h
  ·rename_i b g off eK;simp only[ao.eF,ao.bw]at h;split at h
   ·rename_i a8;simp only[Bool.and_eq_true,decide_eq_true_eq]at a8;simp only[Option.some.injEq]at h;subst h;refine cj.pure (by grind) a1 λa w κ F G aX hc=>?_;have h1:bh C.P s.ab κ F w (use (aS C.aI s.au x)).2 (a.eval x):=cq G x rfl aX.1;rw[eK]at h1;have h2:=nZ (cq G i rfl aX.2) E;have h3:=h1.2 a8.1.symm a8.2;obtain⟨j,aB,qC,_⟩:=(hT.bR aF (by simp)).a6;exact⟨_,by simp[execOp,af,Instr.indexAt,h3,h2.1,asIntOf,dc aB,hc.1,hc.2,qC.size,BO (p:=⟨(κ b).ab,off,none⟩) rfl,Instr.sureAddr],⟨h1.1.1,rfl⟩,λ_ _=>rfl⟩
   grind
  ·cases h
 ·cases h
theorem BP{a:Act}{w:World}{κ:Nat->bk}{F:Nat->Prop}(G:a_ C s a w κ F){x:Option Operand}{p:Prop}{n:Option Int}(h:kM (aS C.aI s.au) x=some (p,n))(hp:p) :
  (x=none/\n=none)\/∃ y k m,x=some y/\n=some m/\a.eval y=.int k m:=by
 cases x with
 | none=>simp only[kM,Option.some.injEq,Prod.mk.injEq]at h;grind
 | some y=>
  simp only[kM]at h;split at h
  ·rename_i q k m hu;simp only[Option.some.injEq,Prod.mk.injEq]at h;obtain⟨rfl,rfl⟩:=h;exact .inr ⟨y,k,m,rfl,rfl,(gx.1 (cq G y hu hp)).1⟩
  grind
theorem Rh{P:Program}{w:World}{isS:Bool}{len cap:Nat}{lo E:Option Value}{l h:Option Int}(ah:(lo=none/\l=none)\/∃ k m,lo=some (.int k m)/\l=some m)(cy:(E=none/\h=none)\/∃ k m,E=some (.int k m)/\h=some m)
  (h1:0<=cV l) (h2:cV l<=fe len h) (h3:fe len h<=(cap:Int)) (_h4:len<=cap):(Instr.sliceBounds isS len cap lo E none).run P w=.ok ((cV l).toNat,(fe len h).toNat,cap) w:=by
 rcases ah with⟨rfl,rfl⟩ | ⟨k,m,rfl,rfl⟩<;>rcases cy with⟨rfl,rfl⟩ | ⟨k',c7,rfl,rfl⟩<;>simp only[cV,fe]at h1 h2 h3 ⊢
 ·rfl
 ·have:0<=c7/\c7<=(cap:Int):=by omega
  simp[Instr.sliceBounds,Instr.sliceBound,asIntOf,this]
 ·have:0<=m/\m<=(len:Int):=by omega
  simp[Instr.sliceBounds,Instr.sliceBound,asIntOf,this]
 ·have e1:0<=c7/\c7<=(cap:Int):=by omega
  have e2:0<=m/\m<=c7:=by omega
  have e3:max c7 0=c7:=by omega
  simp[Instr.sliceBounds,Instr.sliceBound,asIntOf,e1,e2,e3]
theorem acN{l h:Option Int}{n m:Nat}(Ri:n<=m):Bu l h n m<=m:=by
 unfold Bu;grind
theorem acO(hT:dv C.P T){ty:TypeId}{x:Operand}{lo E:Option Operand}(a1:∀ i,o.dst=some i->i<C.nt)(af:o.op=.slice ty x lo E none)(h:(be C.aI T aY (aS C.aI s.au) o).run s.ab=some res):cj C o s res:=by
 simp only[be,af,Option.isSome_none,Bool.false_eq_true,if_false,EN]at h;split at h
 ·rename_i ol l qx ls rI JR;have ar:∀ c,o.op≠.defer c:=by grind
  have ry:∀ (a:Act) (w:World) κ F,a_ C s a w κ F->ol->qx->((lo.map a.eval=none/\l=none)\/∃ k m,lo.map a.eval=some (.int k m)/\l=some m)/\((E.map a.eval=none/\ls=none)\/∃ k m,E.map a.eval=some (.int k m)/\ls=some m):=by
   intro a w κ F G BQ BR;constructor
   ·rcases BP G rI BQ with⟨rfl,rfl⟩ | ⟨y,k,m,rfl,rfl,e⟩
    ·exact .inl ⟨rfl,rfl⟩
    ·exact .inr ⟨k,m,by simp[e],rfl⟩
   ·rcases BP G JR BR with⟨rfl,rfl⟩ | ⟨y,k,m,rfl,rfl,e⟩
    ·exact .inl ⟨rfl,rfl⟩
    ·exact .inr ⟨k,m,by simp[e],rfl⟩
  split at h
  ·rename_i e0 aF;have cS:=hT.bR aF (by simp);obtain⟨j,aB,iK,n2⟩:=cS.sl;simp only[ao.eG,Option.bind_eq_some_iff]at h;obtain⟨⟨c,v⟩,fy,h⟩:=h;simp only[bx,ao.bw,Option.some.injEq]at h;subst h;have runs:∀ (a:Act) (w:World) κ F,a_ C s a w κ F->ol->qx->∀ (q:Option Addr) (n cap:Nat),a.eval x=.slice q n cap->n<=cap->0<=cV l/\cV l<=fe n ls/\fe n ls<=(cap:Int)->
     (execOp a.eval o).run C.P w=.ok (.value (.slice (if cap=(cV l).toNat then q else q.map (·.add ((cV l).toNat*e0.size))) ((fe n ls).toNat - (cV l).toNat) (cap - (cV l).toNat))) w:=by
    intro a w κ F G BQ BR q n cap hv ax hc;obtain⟨dr,eC⟩:=ry a w κ F G BQ BR;have:=Rh (P:=C.P) (w:=w) (isS:=true) dr eC hc.1 hc.2.1 hc.2.2 ax;simp[execOp,af,hv,Instr.sliceAt,Instr.slice,dc aB,this,iK.size]
   unfold QQ at fy;split at fy
   ·rename_i e xs eK;simp only[ao.bw]at fy;split at fy
    ·rename_i he;subst he;simp only[Option.some.injEq,Prod.mk.injEq]at fy;obtain⟨rfl,rfl⟩:=fy;refine cj.pure ar a1 λa w κ F G aX hc=>?_;have hx:bh C.P s.ab κ F w (use (aS C.aI s.au x)).2 (a.eval x):=cq G x rfl aX.1;rw[eK]at hx;obtain⟨_,a',cap,e1,m1,m2,m3,m4⟩:=(dw rfl).1 hx;have e1:=(List.cons.inj e1).1;refine⟨_,runs a w κ F G aX.2.1 aX.2.2 a' xs.length cap e1 m1 ⟨hc.1,hc.2.1,by omega⟩,(dw rfl).2 ⟨rfl,?_⟩⟩;have hlen:((xs.take (fe xs.length ls).toNat).drop (cV l).toNat).length=(fe xs.length ls).toNat - (cV l).toNat:=by
      simp;omega
     refine⟨_,_,by rw[hlen],by omega,by omega,?_,λp hp uy=>?_⟩
     ·intro ax;split at ax
      ·omega
      ·cases a' with
       | none=>have:=m3 rfl;omega
       | some q=>cases ax
     ·cases a' with
      | none=>split at hp<;>cases hp
      | some q=>
       obtain⟨dF,dI,js⟩:=m4 q rfl (by omega);have bd:∃ d,p=⟨q.block,q.off+d,none⟩/\(d=(cV l).toNat*e.size\/cap=(cV l).toNat):=by
        split at hp
        ·omega
        ·simp only[Option.map_some,Option.some.injEq]at hp;rw[BO dI]at hp;grind
       obtain⟨d,rfl,wv⟩:=bd;refine⟨dF,rfl,λi E=>?_⟩;rw[hlen]at E;obtain⟨a7,d1,d2⟩:=js ((cV l).toNat+i) (by omega);rcases wv with rfl | wJ
       ·refine⟨a7,⟨d1.1,rfl,λk an=>?_⟩,?_⟩
        ·have:=d1.2.2 k an;rw[Nat.add_mul]at this;rw[show q.off+(cV l).toNat*e.size+i*e.size=q.off+((cV l).toNat*e.size+i*e.size) from by omega];exact this
        ·have e2:((xs.take (fe xs.length ls).toNat).drop (cV l).toNat)[i]'(by rw[hlen];exact E)=xs[(cV l).toNat+i]'(by omega):=by simp
         rw[e2];exact d2
       ·omega
    grind
   ·rename_i eK;simp only[ao.bw,Option.some.injEq,Prod.mk.injEq]at fy;obtain⟨rfl,rfl⟩:=fy;refine cj.pure ar a1 λa w κ F G aX hc=>?_;have hx:bh C.P s.ab κ F w (use (aS C.aI s.au x)).2 (a.eval x):=cq G x rfl aX.1;rw[eK]at hx;simp only[bh]at hx;have ju:0<=cV l/\cV l<=fe 0 ls/\fe 0 ls<=((0:Nat):Int):=hc;have cE:=runs a w κ F G aX.2.1 aX.2.2 none 0 0 hx (Nat.le_refl _) ju;have h0:(fe 0 ls).toNat=0:=by omega
    rw[h0]at cE;refine⟨_,cE,?_⟩;simp only[bh];simp
   ·rename_i b g eK;simp only[ao.eF,ao.bw]at fy;split at fy
    ·rename_i a8;simp only[Bool.and_eq_true,decide_eq_true_eq,beq_iff_eq]at a8;obtain⟨⟨az,eL⟩,BG⟩:=a8;simp only[Option.some.injEq,Prod.mk.injEq]at fy;obtain⟨rfl,rfl⟩:=fy;refine cj.pure ar a1 λa w κ F G aX hc=>?_;have hx:bh C.P s.ab κ F w (use (aS C.aI s.au x)).2 (a.eval x):=cq G x rfl aX.1;rw[eK]at hx;have hv:=hx.2 az.symm eL;obtain⟨dF,dI⟩:=yV G eL;cases ax:(κ b).eI with
     | true=>
      have h0:=dF ax;simp only[bk.slice,ax,if_true]at hv;rw[h0]at hc;have cE:=runs a w κ F G aX.2.1 aX.2.2 none 0 0 hv (Nat.le_refl _) hc;refine⟨_,cE,⟨hx.1.1,by rfl⟩,λ_ _=>⟨by grind,.inl ⟨ax,?_⟩⟩⟩;grind
     | false=>
      have wJ:=JE G eL ax;simp only[bk.slice,ax,Bool.false_eq_true,if_false]at hv;have cE:=runs a w κ F G aX.2.1 aX.2.2 _ _ _ hv wJ ⟨hc.1,hc.2.1,by omega⟩;refine⟨_,cE,⟨hx.1.1,by rfl⟩,λ_ _=>⟨by omega,.inr ⟨ax,?_⟩⟩⟩;rw[<-BG];by_cases lk:(κ b).cap=(cV l).toNat
      ·grind
      ·rw[if_neg lk];simp only[Option.map_some,uD];simp
    grind
   ·rename_i b g eS h0 eK;simp only[ao.eF,ao.bw]at fy;split at fy
    ·rename_i a8;simp only[Bool.and_eq_true,decide_eq_true_eq,beq_iff_eq]at a8;obtain⟨⟨az,eL⟩,BG⟩:=a8;simp only[Option.some.injEq,Prod.mk.injEq]at fy;obtain⟨rfl,rfl⟩:=fy;refine cj.pure ar a1 λa w κ F G aX hc=>?_;have hx:bh C.P s.ab κ F w (use (aS C.aI s.au x)).2 (a.eval x):=cq G x rfl aX.1;rw[eK]at hx;obtain⟨⟨aM,aO⟩,bz⟩:=hx.2 az.symm eL;obtain⟨dF,dI⟩:=yV G eL;have rJ:Bu l ls (h0 - eS) ((s.ab b).body.len - eS)<=(s.ab b).body.len - eS:=acN (by omega);revert hc rJ;generalize Bu l ls (h0 - eS) ((s.ab b).body.len - eS)=lim;intro hc rJ;rcases bz with⟨ax,hv⟩ | ⟨ax,lX,hv,o1,f_⟩
     ·have JS:=dF ax;have e0:h0 - eS=0:=by omega
      have elim:lim=0:=by omega
      rw[e0,elim]at hc;grind
     ·have wJ:=JE G eL ax;have cE:=runs a w κ F G aX.2.1 aX.2.2 _ _ _ hv (by omega) ⟨hc.1,hc.2.1,by omega⟩;refine⟨_,cE,⟨hx.1.1,by rfl⟩,λ_ _=>⟨by omega,.inr ⟨ax,?_⟩⟩⟩;rw[<-BG];rw[<-BG]at cE;have e1:(fe (h0 - eS) ls).toNat - (cV l).toNat=eS+(fe (h0 - eS) ls).toNat - (eS+(cV l).toNat):=by omega
      have e2:(κ b).cap - eS - (cV l).toNat=(κ b).cap - (eS+(cV l).toNat):=by omega
      rw[e1,e2];have e3:(eS+(cV l).toNat)*(s.ab b).body.eE=eS*(s.ab b).body.eE+(cV l).toNat*(s.ab b).body.eE:=Nat.add_mul _ _ _;by_cases lk:(κ b).cap - eS=(cV l).toNat
      ·rw[if_pos lk];exact⟨_,rfl,by omega,λh=>by omega⟩
      ·rw[if_neg lk];simp only[Option.map_some,uD];exact⟨_,rfl,by omega,λh=>by omega⟩
    grind
   ·cases fy
  ·rename_i aF;have cS:=(hT.bR aF (by simp)).str;split at h
   ·rename_i c v fy;simp only[bx,ao.bw,Option.some.injEq]at h;subst h;unfold QR at fy;split at fy
    ·rename_i xs eK;simp only[Option.some.injEq,Prod.mk.injEq]at fy;obtain⟨rfl,rfl⟩:=fy;refine cj.pure ar a1 λa w κ F G aX hc=>?_;have hx:bh C.P s.ab κ F w (use (aS C.aI s.au x)).2 (a.eval x):=cq G x rfl aX.1;rw[eK]at hx;obtain⟨hv,b1⟩:=lO.1 hx;obtain⟨dr,eC⟩:=ry a w κ F G aX.2.1 aX.2.2;have hs:ByteArray.size ⟨xs.toArray⟩=xs.length:=by rfl
     have:=Rh (P:=C.P) (w:=w) (isS:=false) (len:=xs.length) (cap:=xs.length) dr eC hc.1 hc.2.1 hc.2.2 (Nat.le_refl _);refine⟨.string ⟨((xs.take (fe xs.length ls).toNat).drop (cV l).toNat).toArray⟩,?_,lO.2 ⟨rfl,by grind⟩⟩;simp only[execOp,af,hv,Instr.sliceAt,Instr.slice,Sem.run_bind,dc cS,Result.andThen_ok,Option.map_none,Option.isSome_none,Bool.false_eq_true,if_false,hs,this,Sem.run_pure];have he:ByteArray.extract ⟨xs.toArray⟩ (cV l).toNat (fe xs.length ls).toNat=⟨((xs.take (fe xs.length ls).toNat).drop (cV l).toNat).toArray⟩:=by
      apply ByteArray.ext;rw[ByteArray.data_extract];grind
     rw[he]
    grind
   ·cases h
  ·cases h
 ·cases h
end
end Go.Fer
namespace Go.Fer
open Go.RowKit
def fT(P:Program)(e:ad)(F:Nat->Prop)(w:World)(all:List Value)(xs:List e.ag):Prop:=
 all.length=xs.length*e.size/\∀ i (h:i<xs.length),br P e F w ((all.drop (i*e.size)).take e.size) xs[i]
theorem fT.append{P:Program}{e:ad}{F:Nat->Prop}{w:World}{l m:List Value}{xs ys:List e.ag}(h:fT P e F w l xs)(k:fT P e F w m ys):fT P e F w (l++m) (xs++ys):=by
 refine⟨by simp[h.1,k.1,Nat.add_mul],λi E=>?_⟩;by_cases hx:i<xs.length
 ·have e1:(xs++ys)[i]=xs[i]:=List.getElem_append_left hx;rw[e1];have hle:(i+1)*e.size<=xs.length*e.size:=Nat.mul_le_mul_right _ (by omega);rw[Nat.add_mul,Nat.one_mul]at hle;have:((l++m).drop (i*e.size)).take e.size=(l.drop (i*e.size)).take e.size:=by
   rw[List.drop_append_of_le_length (by rw[h.1];omega),List.take_append_of_le_length (by simp[h.1];omega)]
  rw[this];exact h.2 i hx
 ·have dn:i - xs.length<ys.length:=by grind
  have e1:(xs++ys)[i]=ys[i - xs.length]:=List.getElem_append_right (by omega);rw[e1];have aj:i*e.size=xs.length*e.size+(i - xs.length)*e.size:=by rw[<-Nat.add_mul];grind
  have:(l++m).drop (i*e.size)=m.drop ((i - xs.length)*e.size):=by
   rw[aj,<-h.1,List.drop_append,List.drop_of_length_le (by omega)];simp
  rw[this];exact k.2 _ dn
theorem fT.BS{P:Program}{e:ad}{F:Nat->Prop}{w:World}{all pre post:List Value}{cs:Array Value}{xs:List e.ag}(h:fT P e F w all xs)(hc:cs.toList=pre++(all++post)):lb P e F w cs pre.length xs:=by
 intro i E;have hle:(i+1)*e.size<=xs.length*e.size:=Nat.mul_le_mul_right _ (by omega);rw[Nat.add_mul,Nat.one_mul]at hle;refine⟨_,λj aB=>?_,h.2 i E⟩;have fx:j<e.size:=by grind
 rw[<-Array.getElem?_toList,hc,List.getElem?_append_right (by omega),List.getElem?_append_left (by grind)];grind
theorem E6{P:Program}{e:ad}{F:Nat->Prop}{w:World}:∀ {xs:List e.ag} {p:Addr},(0<xs.length->p.spot=none)->(∀ i (h:i<xs.length),∃ a7,kc w ⟨p.block,p.off+i*e.size,none⟩ a7/\br P e F w a7 xs[i])->
  ∃ all,fT P e F w all xs/\kc w p all
 | [],p,hp,_=>⟨[],⟨by simp,λi E=>by grind⟩,λh=>by grind,λj aB=>by grind⟩
 | x::xs,p,hp,h=>by
  obtain⟨a7,d1,d2⟩:=h 0 (by simp);have uJ:=ht e d2;obtain⟨all,bT,a2⟩:=E6 (P:=P) (F:=F) (w:=w) (xs:=xs) (p:=⟨p.block,p.off+e.size,none⟩) (λ_=>rfl) (λi E=>by
   obtain⟨Rg,aM,aO⟩:=h (i+1) (by grind);grind)
  refine⟨a7++all,?_,λ_=>hp (by simp),λj aB=>?_⟩
  ·have h1:fT P e F w a7 [x]:=⟨by grind,λi E=>by
    have:i=0:=by grind
    subst this;grind⟩
   exact h1.append bT
  ·rcases Nat.lt_or_ge j a7.length with h1 | h1
   ·rw[List.getElem_append_left h1];have:=d1.2 j h1;grind
   ·rw[List.getElem_append_right h1];have:=a2.2 (j - a7.length) (by grind);grind
section
variable {C:bP} {T:Nat->ad} {aY:Nat->Option aJ} {o:Oper} {s:ay} {res:dW}
theorem rK{a:Act}{w:World}{κ:Nat->bk}{F:Nat->Prop}(G:a_ C s a w κ F){e:ad}{av:aC}{v:Value}{ys:List e.ag}{l:List Nat}(h:(da (.slice e) av).run s.ab=some (ys,l))(hv:bh C.P s.ab κ F w av v) :
  ∃ q cap,v=.slice q ys.length cap/\((q=none/\ys=[]/\cap=0)\/∃ p all,q=some p/\fT C.P e F w all ys/\kc w p all):=by
 have y0:∀ {xs:List e.ag},br C.P (.slice e) F w [v] xs->∃ q cap,v=.slice q xs.length cap/\((q=none/\xs=[]/\cap=0)\/∃ p all,q=some p/\fT C.P e F w all xs/\kc w p all):=by
  intro xs hx;obtain⟨q,cap,e1,m1,m2,m3,m4⟩:=hx;refine⟨q,cap,(List.cons.inj e1).1,?_⟩;cases q with
  | none=>
   simp_all
  | some p=>
   obtain⟨all,bT,a2⟩:=E6 (P:=C.P) (F:=F) (w:=w) (xs:=xs) (p:=p) (λh=>(m4 p rfl (by omega)).2.1) (λi E=>let ⟨a7,d1,d2⟩:=(m4 p rfl (by omega)).2.2 i E;⟨a7,d1.Jw,d2⟩);grind
 cases av with
 | val cA y=>
  simp only[da,ao.bw,Option.map_eq_some_iff,Prod.mk.injEq]at h;obtain⟨z,a8,rfl,_⟩:=h;exact y0 (((dw rfl).1 (EJ a8 hv)).2)
 | cQ=>
  simp only[da,j8,ad.d_,if_true,dy,ao.bw,Option.some.injEq,Prod.mk.injEq]at h;obtain⟨rfl,_⟩:=h;simp only[bh]at hv;grind
 | own b g=>
  simp only[da,j8,ad.d_,if_true,dy,ao.eF,ao.bw]at h;split at h
  ·rename_i az;have aL:=G.bl b;unfold cf at aL;split at h
   ·rename_i aR xs bC;simp only[Option.map_eq_some_iff,Prod.mk.injEq]at h;obtain⟨z,a8,rfl,_⟩:=h;obtain⟨qD,rfl⟩:=kq a8;cases qD;have s8:=hv.2 az.symm (by rw[bC];rfl);rw[bC]at s8 aL;simp only[bA.len]at s8;cases ax:(κ b).eI with
    | true=>
     have hA:=aL.1 ax;subst hA;simp only[bk.slice,ax,if_true]at s8;grind
    | false=>
     obtain⟨cs,hB,c1,c2,c3,c4,c5⟩:=aL.2 ax;simp only[bk.slice,ax,Bool.false_eq_true,if_false]at s8;obtain⟨all,bT,a2⟩:=E6 (P:=C.P) (F:=F) (w:=w) (xs:=xs) (p:=⟨(κ b).ab,(κ b).off,none⟩) (λ_=>rfl) (λi E=>by
      obtain⟨a7,d1,d2⟩:=c5 i E;exact⟨a7,⟨λ_=>rfl,λj aB=>by rw[uF c1];grind⟩,d2⟩)
     grind
   ·rename_i aR xs bC;simp only[Option.map_eq_some_iff,Prod.mk.injEq]at h;obtain⟨z,a8,rfl,_⟩:=h;obtain⟨qD,rfl⟩:=kq a8;cases qD;have s8:=hv.2 az.symm (by rw[bC];rfl);rw[bC]at s8 aL;simp only[bA.len]at s8;simp only[jl]at aL;grind
   grind
  grind
 | sub b g lo E=>
  simp only[da,j8,ad.d_,if_true,dy,ao.eF,ao.bw]at h;split at h
  ·rename_i az;have aL:=G.bl b;unfold cf at aL;split at h
   ·rename_i aR xs bC;simp only[Option.map_eq_some_iff,Prod.mk.injEq]at h;obtain⟨z,a8,rfl,_⟩:=h;obtain⟨qD,rfl⟩:=kq a8;cases qD;obtain⟨⟨aM,aO⟩,bz⟩:=hv.2 az.symm (by rw[bC];rfl);rw[bC]at aO bz aL;simp only[bA.len,bA.eE]at aO bz;have hlen:((xs.take E).drop lo).length=E - lo:=by grind
    rcases bz with⟨ax,s8⟩ | ⟨ax,lX,s8,o1,f_⟩
    ·have hA:=aL.1 ax;grind
    ·obtain⟨cs,hB,c1,c2,c3,c4,c5⟩:=aL.2 ax;obtain⟨all,bT,a2⟩:=E6 (P:=C.P) (F:=F) (w:=w) (xs:=(xs.take E).drop lo) (p:=⟨(κ b).ab,lX,none⟩) (λ_=>rfl) (λi dn=>by
      rw[hlen]at dn;obtain⟨a7,d1,d2⟩:=c5 (lo+i) (by omega);refine⟨a7,⟨λ_=>rfl,λj aB=>?_⟩,?_⟩
      ·rw[uF c1,<-d1 j aB];grind
      grind)
     grind
   ·rename_i aR xs bC;simp only[Option.map_eq_some_iff,Prod.mk.injEq]at h;obtain⟨z,a8,rfl,_⟩:=h;obtain⟨qD,rfl⟩:=kq a8;cases qD;obtain⟨⟨aM,aO⟩,bz⟩:=hv.2 az.symm (by rw[bC];rfl);rw[bC]at aO bz aL;exact y0 (EK aL aM aO bz)
   grind
  grind
 | dx cA y=>simp[da,j8,ad.d_,dy,ao.none]at h
 | jk u=>simp[da,j8,ad.d_,dy,Bq]at h
 | _=>simp[da,j8,ad.d_,dy,ao.none]at h
theorem y1{P:Program}{w:World}{e:ad}{q:Option Addr}{n cap:Nat}{xs:List e.ag}{F:Nat->Prop}(ax:n=xs.length)(h:(q=none/\xs=[]/\cap=0)\/∃ p all,q=some p/\fT P e F w all xs/\kc w p all) :
  ∃ all,(Builtin.firstCells e.size n (.slice q n cap)).run P w=.ok all.toArray w/\fT P e F w all xs:=by
 subst ax;rcases h with⟨rfl,rfl,rfl⟩ | ⟨p,all,rfl,bT,a2⟩
 ·exact⟨[],by rfl,by simp[fT]⟩
 ·refine⟨all,?_,bT⟩;simp only[Builtin.firstCells];rw[<-bT.1];exact EV a2
theorem acP(n:Nat):∀ (k c:Nat),Builtin.growBy n k c<=max c (2*n+768):=by
 intro k;induction k with
 | zero=>intro c;simp only[Builtin.growBy];omega
 | succ k aG=>
  intro c;simp only[Builtin.growBy];grind
theorem acQ{E7 cap:Nat}(h:cap<E7):Builtin.nextslicecap E7 cap<=2*E7+768:=by
 unfold Builtin.nextslicecap;split
 ·omega
 ·split
  ·omega
  ·have:=acP E7 4 cap;omega
theorem acR{z:Array Value}{n k:Nat}(h:z.size=k):(Builtin.zeroCells z n).size=n*k:=by simp[Builtin.zeroCells,h]
theorem acS{P:Program}{w:World}{e:ad}{ty mo:TypeId}{F:Nat->Prop}(h:bO P (.slice e) ty)(cX:bO P (.slice e) mo\/∃ aR,bO P (.slice aR) mo){q q':Option Addr}{cap cap':Nat}{xs ys:List e.ag}
  (hx:(q=none/\xs=[]/\cap=0)\/∃ p all,q=some p/\fT P e F w all xs/\kc w p all) (aK:(q'=none/\ys=[]/\cap'=0)\/∃ p all,q'=some p/\fT P e F w all ys/\kc w p all)
  (hc:cap<xs.length+ys.length) (ah:bX (xs.length+ys.length)) (rt:TypeId) :
  ∃ jv qE cs,(Builtin.append_ #[ty,mo] rt #[.slice q xs.length cap,.slice q' ys.length cap']).run P w=.ok (.slice (some ⟨w.heap.size,0,none⟩) (xs.length+ys.length) qE) (w.drew.alloc (.cells cs jv))/\
   qE<2 ^ 63/\xs.length+ys.length<=qE/\cs.size=qE*e.size/\lb P e F w cs 0 (xs++ys):=by
 obtain⟨jv,aB,iK,n2⟩:=h.sl;obtain⟨jT,fx⟩:∃ jT,P.underlying mo=some (.slice jT):=by
  rcases cX with cX | ⟨aR,cX⟩
  ·obtain⟨jT,k,_⟩:=cX.sl;grind
  ·obtain⟨jT,k,_⟩:=cX.sl;grind
 obtain⟨i,z,i1,i2,i3,i4,i5,i6⟩:=j_ iK.j9;have a8:=(BK e (P:=P) i5).2;have acT:∀ t:Nat,xs.length+ys.length<=xs.length+ys.length+t % (2 ^ 63 - (xs.length+ys.length))/\xs.length+ys.length+t % (2 ^ 63 - (xs.length+ys.length))<2 ^ 63:=by
  intro t;unfold bX at ah;have:t % (2 ^ 63 - (xs.length+ys.length))<2 ^ 63 - (xs.length+ys.length):=Nat.mod_lt _ (by omega);omega
 generalize JT:xs.length+ys.length+(w.tape w.drawn (.appendCap (xs.length+ys.length) cap jv)) % (2 ^ 63 - (xs.length+ys.length))=qE;have JU:=acT (w.tape w.drawn (.appendCap (xs.length+ys.length) cap jv));rw[JT]at JU;have Rj:∀ {p:Addr} {all:List Value},kc w p all->kc w.drew p all:=λh=>h;have Rk:∀ {all:List Value} {zs:List e.ag},fT P e F w all zs->fT P e F w.drew all zs:=λh=>⟨h.1,λi E=>eP e (F:=F) (F':=F) (w:=w) (w':=w.drew) (λ_ G=>G) ⟨Nat.le_refl _,λ_ _=>rfl⟩ (h.2 i E)⟩
 have np:(q=none/\xs=[]/\cap=0)\/∃ p all,q=some p/\fT P e F w.drew all xs/\kc w.drew p all:=hx.imp id λ⟨p,all,a,b,c⟩=>⟨p,all,a,Rk b,Rj c⟩
 have BT:(q'=none/\ys=[]/\cap'=0)\/∃ p all,q'=some p/\fT P e F w.drew all ys/\kc w.drew p all:=aK.imp id λ⟨p,all,a,b,c⟩=>⟨p,all,a,Rk b,Rj c⟩
 obtain⟨uL,o1,f_⟩:=y1 (P:=P) (w:=w.drew) (cap:=cap) rfl np;obtain⟨dU,dF,dI⟩:=y1 (P:=P) (w:=w.drew) (cap:=cap') rfl BT;refine⟨jv,qE,uL.toArray++dU.toArray++Builtin.zeroCells z.cells (qE - (xs.length+ys.length)),?_,JU.2,JU.1,?_,?_⟩
 ·have aa:=acQ hc;have pQ:Builtin.nextslicecap (xs.length+ys.length) cap*i.bytes<=281474976710656:=by
   unfold bX at ah;calc Builtin.nextslicecap (xs.length+ys.length) cap*i.bytes<=(2*4294967296+768)*1024:=Nat.mul_le_mul (by omega) i3
    _<=281474976710656:=by decide
  have y2:¬((xs.length+ys.length:Nat):Int) > IntKind.i64.max:=by
   unfold bX at ah;have:IntKind.i64.max=9223372036854775807:=by decide
   omega
  have acU:¬Builtin.nextslicecap (xs.length+ys.length) cap*i.bytes > 2 ^ 48:=by
   omega
  have Rl:(Question.appendCap (xs.length+ys.length) cap jv).cut (w.tape w.drawn (.appendCap (xs.length+ys.length) cap jv))=qE:=by
   rw[<-JT];rfl
  have acV:(Question.appendCap (xs.length+ys.length) cap jv).forced=false:=rfl;simp only[Builtin.append_,List.getElem?_toArray,List.getElem?_cons_zero,List.getElem?_cons_succ,Sem.run_bind,dc aB,dc fx,Result.andThen_ok,rD i1,i2,Sem.run_pure,Builtin.lenOf,Bool.false_eq_true,if_false,if_neg (show ¬xs.length+ys.length<=cap by omega),y2,false_and,ET i1,acU,run_choose,acV,Rl,run_askRoom,Bool.not_false,if_true,World.drew_eq,o1,dF,qz i1 i4];rfl
 ·have h1:=f_.1;have h2:=dI.1;simp only[Array.size_append,List.size_toArray,acR a8,h1,h2];rw[<-Nat.add_mul,<-Nat.add_mul];grind
 ·have iW:=f_.append dI;have acW:fT P e F w (uL++dU) (xs++ys):=⟨iW.1,λi E=>eP e (F:=F) (F':=F) (w:=w.drew) (w':=w) (λ_ G=>G) ⟨Nat.le_refl _,λ_ _=>rfl⟩ (iW.2 i E)⟩
  exact acW.BS (pre:=[]) (post:=(Builtin.zeroCells z.cells (qE - (xs.length+ys.length))).toList) (by simp)
end
end Go.Fer
namespace Go.Fer
open Go.RowKit
section
variable {C:bP} {T:Nat->ad} {aY:Nat->Option aJ} {o:Oper} {s:ay} {res:dW}
theorem a_.BU{a:Act}{w w':World}{κ:Nat->bk}{F:Nat->Prop}(h:a_ C s a w κ F){b g:Nat}{e:ad}{zs:List e.ag}{k:bk}(az:(s.ab b).gen<g)(kQ:k.eI=true\/k.ab=w.heap.size)(bU:w.heap.size<=w'.heap.size)
  (nu:∀ r,r<w.heap.size->w'.heap[r]?=w.heap[r]?) (b1:k.eI=false->k.ab<w'.heap.size) (hc:cL w w')
  (bC:∀ H κ',jl C.P H κ' F w' k (.a6 e zs)):a_ C (s.b_ b ⟨g,.a6 e zs⟩) a w' (λi=>if i=b then k else κ i) F:=by
 have ah:eZ s.ab κ (λi=>if i=b then (⟨g,.a6 e zs⟩:bt) else s.ab i) (λi=>if i=b then k else κ i):=yE az λaZ cY=>by grind
 have he:cD F w w':=⟨bU,λr G=>nu r (h.cK r G)⟩
 refine h.move (H':=λi=>if i=b then (⟨g,.a6 e zs⟩:bt) else s.ab i) ah (λ_ G=>G) (λ_ G=>.inl G) bU (λr G _=>nu r G) hc (λ_=>?_) ?_ ?_ (λr G=>Nat.lt_of_lt_of_le (h.cK r G) bU) (yF (.inr ⟨rfl,rfl⟩) λaZ cY=>by grind)
 ·intro i;by_cases E:i=b
  ·subst E;simp only[cf,if_true];grind
  ·exact cf.kL (h.bl i) ah (λ_ G=>G) he (by grind) (by grind) λaf=>nu _ (h.own i af).1
 ·intro i E;by_cases eh:i=b
  ·subst eh;simp only[if_true,bA.bI,Bool.not_eq_true']at E ⊢;have an:=kQ.resolve_left (by grind);refine⟨b1 E,λaq=>?_,.inr (by omega)⟩;have:=h.cK _ aq;omega
  ·simp only[if_neg eh]at E ⊢;have:=h.own i E;grind
 ·intro i j E aB aR;by_cases eh:i=b<;>by_cases lQ:j=b
  ·omega
  ·simp only[if_pos eh,if_neg lQ,bA.bI,Bool.not_eq_true']at E aB aR;have an:=kQ.resolve_left (by grind);have:=(h.own j aB).1;omega
  ·simp only[if_neg eh,if_pos lQ,bA.bI,Bool.not_eq_true']at E aB aR;have an:=kQ.resolve_left (by grind);have:=(h.own i E).1;omega
  ·simp only[if_neg eh,if_neg lQ]at E aB aR;exact h.inj i j E aB aR
theorem acX(s:ay)(b:Nat)(x y:bt):(s.b_ b x).b_ b y=s.b_ b y:=by
 unfold ay.b_;grind
theorem a_.acY{a:Act}{w:World}{κ:Nat->bk}{F:Nat->Prop}(h:a_ C s a w κ F){b:Nat}{e:ad}{xs:List e.ag}(aa:(s.ab b).body=.a6 e xs){lo E:Nat}(h1:lo<=E)(h2:E<=xs.length){v:Value}(hs:EI (κ b) e.size lo E v) :
  ∃ κ',a_ C (s.b_ b ⟨(s.ab b).gen+1,.a6 e ((xs.take E).drop lo)⟩) a w κ' F/\v=(κ' b).slice ((xs.take E).drop lo).length:=by
 have hlen:((xs.take E).drop lo).length=E - lo:=by grind
 have fS:∀ κ':Nat->bk,(∀ aZ,aZ≠b->κ' aZ=κ aZ)->eZ s.ab κ (λi=>if i=b then (⟨(s.ab b).gen+1,.a6 e ((xs.take E).drop lo)⟩:bt) else s.ab i) κ':=
  λκ' Bo=>yE (Nat.lt_succ_self _) Bo
 have aL:=h.bl b;unfold cf at aL;rw[aa]at aL;rcases hs with⟨ax,rfl⟩ | ⟨ax,o,rfl,o1,f_⟩
 ·have hA:=aL.1 ax;subst hA;refine⟨κ,?_,by simp[bk.slice,ax]⟩;refine h.move (H':=λi=>if i=b then (⟨(s.ab b).gen+1,.a6 e ((([]:List e.ag).take E).drop lo)⟩:bt) else s.ab i) (fS κ λ_ _=>rfl) (λ_ G=>G) (λ_ G=>.inl G) (Nat.le_refl _) (λ_ _ _=>rfl) (cL.refl _) (λ_=>?_) ?_ ?_ h.cK (yF (.inr ⟨rfl,rfl⟩) λ_ _=>rfl)
  ·intro i;by_cases E:i=b
   ·subst E;simp only[cf,if_true];exact⟨λ_=>by simp,λh=>by grind⟩
   ·exact cf.kL (h.bl i) (fS κ λ_ _=>rfl) (λ_ G=>G) (cD.refl _ _) (by grind) rfl λ_=>rfl
  ·intro i E;by_cases eh:i=b
   ·subst eh;simp[bA.bI,ax]at E
   ·simp only[if_neg eh]at E;exact⟨(h.own i E).1,(h.own i E).2.1,.inl ⟨i,E,rfl⟩⟩
  ·intro i j E aB aR;by_cases eh:i=b
   ·subst eh;simp[bA.bI,ax]at E
   ·by_cases lQ:j=b
    ·subst lQ;simp[bA.bI,ax]at aB
    ·simp only[if_neg eh,if_neg lQ]at E aB;exact h.inj i j E aB aR
 ·obtain⟨cs,hB,c1,c2,c3,c4,c5⟩:=aL.2 ax;let k':bk:=⟨(κ b).ab,o,(κ b).cap - lo,false⟩
  let κ':Nat->bk:=λi=>if i=b then k' else κ i
  have BV:∀ aZ,aZ≠b->κ' aZ=κ aZ:=λaZ h=>if_neg h;have y3:κ' b=k':=if_pos rfl;have fP:=h.own b (by rw[aa];simp[bA.bI,ax]);refine⟨κ',?_,by rw[y3,hlen];rfl⟩;refine h.move (H':=λi=>if i=b then (⟨(s.ab b).gen+1,.a6 e ((xs.take E).drop lo)⟩:bt) else s.ab i) (fS κ' BV) (λ_ G=>G) (λ_ G=>.inl G) (Nat.le_refl _) (λ_ _ _=>rfl) (cL.refl _) (λ_=>?_) ?_ ?_ h.cK (yF (.inr ⟨rfl,rfl⟩) BV)
  ·intro i;by_cases dn:i=b
   ·subst dn;simp only[cf,if_true,y3];have hmul:lo*e.size<=(κ i).cap*e.size:=Nat.mul_le_mul_right _ (by omega);refine⟨λh=>(by cases h),λ_=>⟨cs,hB,c1,?_,by grind,by grind,λj aB=>?_⟩⟩
    ·simp only[k'];rw[Nat.sub_mul];omega
    ·rw[hlen]at aB;obtain⟨a7,d1,d2⟩:=c5 (lo+j) (by omega);grind
   ·exact cf.kL (h.bl i) (fS κ' BV) (λ_ G=>G) (cD.refl _ _) (by grind) (BV i dn) λ_=>rfl
  ·intro i dn;by_cases eh:i=b
   ·subst eh;rw[y3];exact⟨fP.1,fP.2.1,.inl ⟨i,by rw[aa];simp[bA.bI,ax],rfl⟩⟩
   ·simp only[if_neg eh]at dn;rw[BV i eh]at dn ⊢;exact⟨(h.own i dn).1,(h.own i dn).2.1,.inl ⟨i,dn,rfl⟩⟩
  ·intro i j dn aB aR;have Rm:∀ i,(κ' i).ab=(κ i).ab:=λi=>by
    grind
   have bQ:∀ i,((if i=b then (⟨(s.ab b).gen+1,.a6 e ((xs.take E).drop lo)⟩:bt) else s.ab i).body.bI (κ' i)=true)->(s.ab i).body.bI (κ i)=true:=λi E=>by
    by_cases eh:i=b
    ·subst eh;rw[aa];simp[bA.bI,ax]
    grind
   rw[Rm,Rm]at aR;exact h.inj i j (bQ i dn) (bQ j aB) aR
theorem lb.later{P:Program}{e:ad}{F:Nat->Prop}{w w':World}{cs:Array Value}{off:Nat}{xs:List e.ag}(h:lb P e F w cs off xs)(he:cD F w w'):lb P e F w' cs off xs:=h.mono (λ_ G=>G) he
theorem acZ(hT:dv C.P T){args:Array Operand}{cR:Array TypeId}(a1:∀ i,o.dst=some i->i<C.nt)(af:o.op=.call { callee:=.builtin .append,args:=args,argTypes:=cR })(h:(Bw T (aS C.aI s.au) o.dst args.toList cR.toList).run s.ab=some res):cj C o s res:=by
 obtain⟨args⟩:=args;obtain⟨cR⟩:=cR;have ar:∀ c,o.op≠.defer c:=by grind
 simp only[Bw]at h;split at h
 ·rename_i x y t u;split at h
  ·rename_i e e2 aF hu;have cS:=hT.bR aF (by simp);have uH:=hT.bR hu (by simp);obtain⟨jv,aB,iK,n2⟩:=cS.sl;obtain⟨ac0,fx,_⟩:=uH.sl;obtain⟨inf,z,i1,i2,i3,i4,i5,i6⟩:=j_ iK.j9;have mq:∀ (a:Act) (w w':World) v,(Builtin.append_ #[t,u] o.type #[a.eval x,a.eval y]).run C.P w=.ok v w'->(execOp a.eval o).run C.P w=.ok (.value v) w':=by
    intro a w w' v hv;refine wG af ?_;simp[builtin,hv]
   have main:∀ (s:ay) (a:Act) (w:World) (κ:Nat->bk) (F:Nat->Prop) (Q:Exit->Act->World->Prop) (b g:Nat) (xs ys:List e.ag),a_ C s a w κ F->
     (∃ q cap,a.eval y=.slice q ys.length cap/\((q=none/\ys=[]/\cap=0)\/∃ p all,q=some p/\fT C.P e F w all ys/\kc w p all))->
     (s.ab b).gen<g->(∃ q cap,a.eval x=.slice q xs.length cap/\((q=none/\xs=[]/\cap=0)\/∃ p all,q=some p/\fT C.P e F w all xs/\kc w p all))->
     (∀ q cap,a.eval x=.slice q xs.length cap->q≠none->xs.length+ys.length<=cap->(s.ab b).body=.a6 e xs/\(κ b).eI=false/\q=some ⟨(κ b).ab,(κ b).off,none⟩/\cap=(κ b).cap)->bX (xs.length+ys.length)->
     o.wpIn (du C.r) 0 C.P a w (λa' w'=>b7 C ((s.b_ b ⟨g,.a6 e (xs++ys)⟩).set o.dst (.own b g)) a' w') Q:=by
    intro s a w κ F Q b g xs ys G nv JV rL ac1 hlen;obtain⟨q,cap,rL,JW⟩:=rL;obtain⟨q',cap',s9,nv⟩:=nv;have JX:∀ (κ':Nat->bk) (v:Value) (w':World),a_ C (s.b_ b ⟨g,.a6 e (xs++ys)⟩) a w' κ' F->v=(κ' b).slice (xs++ys).length->b7 C ((s.b_ b ⟨g,.a6 e (xs++ys)⟩).set o.dst (.own b g)) (a.put o.dst v) w':=by
     intro κ' v w' aW hv;refine⟨κ',F,a_.set aW a1 ⟨⟨by simp[ay.b_],?_⟩,λ_ _=>?_⟩⟩
     ·rw[hv];unfold bk.slice;split<;>rfl
     ·rw[hv];simp[ay.b_,bA.len]
    by_cases wK:xs.length+ys.length<=cap
    ·cases bd:q with
     | none=>
      subst bd;obtain⟨ac2,uy⟩:xs=[]/\cap=0:=by
       grind
      subst ac2;subst uy;have JY:ys=[]:=by grind
      subst JY;obtain⟨dU,dF,dI⟩:=y1 (P:=C.P) (w:=w) (cap:=cap') rfl nv;have cE:(Builtin.append_ #[t,u] o.type #[a.eval x,a.eval y]).run C.P w=.ok (.slice none 0 0) w:=by
       rw[rL,s9];simp only[List.length_nil]at dF ⊢;simp[Builtin.append_,dc aB,dc fx,rD i1,Builtin.lenOf];rw[i2,dF];simp
      refine gW ar (mq a w w _ cE) (JX _ _ _ (G.BU (k:=⟨0,0,0,true⟩) JV (.inl rfl) (Nat.le_refl _) (λ_ _=>rfl) (λh=>by cases h) (cL.refl _) λH κ'=>⟨λ_=>rfl,λh=>by cases h⟩) ?_);simp[bk.slice]
     | some E8=>
      obtain⟨aa,uK,hp,wJ⟩:=ac1 q cap rL (by grind) wK;rw[bd]at hp;have hp:=Option.some.inj hp;subst hp;subst wJ;have aL:=G.bl b;unfold cf at aL;rw[aa]at aL;obtain⟨cs,hB,c1,c2,c3,c4,c5⟩:=aL.2 uK;obtain⟨dU,dF,dI⟩:=y1 (P:=C.P) (w:=w) (cap:=cap') rfl nv;have oS:=dI.1;have ns:∀ v∈dU,v.oneCell'=true:=by
       intro v hv;obtain⟨j,aB,rfl⟩:=List.mem_iff_getElem.1 hv;have kP:0<e.size:=Nat.pos_of_ne_zero n2;have hdiv:j / e.size<ys.length:=(Nat.div_lt_iff_lt_mul kP).2 (by omega);have nq:=dI.2 (j / e.size) hdiv;have ig:=yI (P:=C.P) (H:=λ_=>⟨0,.fb⟩) (κ:=λ_=>⟨0,0,0,true⟩) e nq;have y4:=Nat.mod_lt j kP;have ac3:j / e.size*e.size+j % e.size=j:=Nat.div_add_mod' j e.size;have BW:((dU.drop (j / e.size*e.size)).take e.size).length=e.size:=ht e nq;have:=(ig.kr (j % e.size) (by rw[ig.len,BW];omega)).2;grind
      have ac4:(κ b).off+xs.length*e.size+0+dU.length<=cs.size:=by
       rw[oS];have:(xs.length+ys.length)*e.size<=(κ b).cap*e.size:=Nat.mul_le_mul_right _ wK;grind
      obtain⟨w',cN,bY,cm,dQ,ln,lp,lU⟩:=uG (P:=C.P) dU ((κ b).off+xs.length*e.size) 0 w cs c1 ac4 ns;have cE:(Builtin.append_ #[t,u] o.type #[a.eval x,a.eval y]).run C.P w=.ok (.slice (some ⟨(κ b).ab,(κ b).off,none⟩) (xs.length+ys.length) (κ b).cap) w':=by
       rw[rL,s9,bd];simp only[Builtin.append_,List.getElem?_toArray,List.getElem?_cons_zero,List.getElem?_cons_succ,Sem.run_bind,dc aB,dc fx,Result.andThen_ok,rD i1,i2,Sem.run_pure,Builtin.lenOf,Bool.false_eq_true,if_false,if_pos wK,Bool.not_false,if_true,dF,uD];simp only[bY,Result.andThen_ok]
      have fS:eZ s.ab κ (λi=>if i=b then (⟨g,.a6 e (xs++ys)⟩:bt) else s.ab i) κ:=yE JV λ_ _=>rfl;refine gW ar (mq a w w' _ cE) (JX κ _ _ (G.oL (b:=b) (by rw[aa];simp[bA.bI,uK]) (by simp[bA.bI,uK]) fS (λh=>by cases h) (λh=>by cases h) ln lp lU λH mu b1 he=>?_) (by simp[bk.slice,uK]));refine⟨λh=>(by grind),λ_=>?_⟩;have E4:cN.size=cs.size:=by
       rw[<-Array.length_toList,dQ];grind
      refine⟨cN,hB,cm,by omega,by grind,c4,λi E=>?_⟩;simp only[Nat.add_zero]at dQ;have gj:(cs.toList.take ((κ b).off+xs.length*e.size)).length=(κ b).off+xs.length*e.size:=by grind
      by_cases Rn:i<xs.length
      ·obtain⟨a7,d1,d2⟩:=c5 i Rn;have e1:(xs++ys)[i]=xs[i]:=List.getElem_append_left Rn;rw[e1];refine⟨a7,λk an=>?_,eP e (λ_ G=>G) he d2⟩;have Ro:=ht e d2;have hle:(i+1)*e.size<=xs.length*e.size:=Nat.mul_le_mul_right _ (by omega);rw[Nat.add_mul]at hle;rw[<-Array.getElem?_toList,dQ,List.getElem?_append_left (by omega),List.getElem?_take,if_pos (by omega)];grind
      ·have dn:i - xs.length<ys.length:=by grind
       have e1:(xs++ys)[i]=ys[i - xs.length]:=List.getElem_append_right (by omega);rw[e1];have BX:=dI.BS (pre:=cs.toList.take ((κ b).off+xs.length*e.size)) (post:=cs.toList.drop ((κ b).off+xs.length*e.size+dU.length)) dQ;obtain⟨a7,d1,d2⟩:=BX (i - xs.length) dn;refine⟨a7,λk an=>?_,eP e (λ_ G=>G) he d2⟩;have:=d1 k an;rw[gj]at this;rw[<-this];congr 1;have:i*e.size=xs.length*e.size+(i - xs.length)*e.size:=by rw[<-Nat.add_mul];grind
       omega
    ·obtain⟨ac5,qE,cs,bY,cm,dQ,ln,lp⟩:=acS (P:=C.P) (w:=w) (F:=F) (cap:=cap) (cap':=cap') cS (.inr ⟨e2,uH⟩) JW nv (by omega) hlen o.type;rw[<-rL,<-s9]at bY;refine gW ar (mq a w _ _ bY) (JX _ _ _ (G.BU (k:=⟨w.heap.size,0,qE,false⟩) JV (.inr rfl) (by simp) (λr G=>?_) (λ_=>by simp) ⟨rfl,rfl,rfl⟩ λH κ'=>⟨λh=>(by cases h),λ_=>⟨cs,ac5,?_,by grind,by grind,cm,?_⟩⟩) ?_)
     ·exact oK w.drew _ G
     ·exact pJ w.drew _
     ·exact lp.later ⟨by simp,λr aW=>oK w.drew _ (G.cK r aW)⟩
     ·simp[bk.slice]
   simp only[Jt]at h;split at h
   ·rename_i b g eK;simp only[ao.eF]at h;split at h
    ·rename_i aR xs bC;split at h
     ·rename_i qF;subst qF;simp only[ao.eG,Option.bind_eq_some_iff,ao.bw,Option.some.injEq]at h;obtain⟨⟨ys,l⟩,jS,rfl⟩:=h;have az:(s.ab b).gen=g/\(s.ab b).body=.a6 aR xs:=by
       grind
      intro a w κ F Q G aX hc;have hx:bh C.P s.ab κ F w (use (aS C.aI s.au x)).2 (a.eval x):=cq G x rfl aX.1;have np:=hx;rw[eK]at np;have hv:=np.2 az.1.symm (by rw[az.2];rfl);rw[az.2]at hv;simp only[bA.len]at hv;have hA:(da (.slice aR) (use (aS C.aI s.au x)).2).run s.ab=some (xs,[b]):=by
       rw[eK];simp[da,j8,ad.d_,dy,az.1,az.2,eu]
      refine main s a w κ F Q b (g+1) xs ys G (rK G jS (cq G y rfl aX.2)) (by omega) (rK G hA hx) (λq cap bd JZ _=>?_) hc;rw[hv]at bd;cases ax:(κ b).eI with
      | true=>
       simp only[bk.slice,ax,if_true,Value.slice.injEq]at bd;grind
      | false=>
       simp only[bk.slice,ax,Bool.false_eq_true,if_false,Value.slice.injEq]at bd;grind
     ·cases h
    ·cases h
   ·rename_i b g lo E eK;simp only[ao.eF]at h;split at h
    ·rename_i aR xs bC;split at h
     ·rename_i qF;subst qF;simp only[ao.eG,Option.bind_eq_some_iff,ao.bw,Option.some.injEq]at h;obtain⟨⟨ys,l⟩,jS,rfl⟩:=h;have az:(s.ab b).gen=g/\(s.ab b).body=.a6 aR xs:=by
       grind
      intro a w κ F Q G aX hc;have hx:bh C.P s.ab κ F w (use (aS C.aI s.au x)).2 (a.eval x):=cq G x rfl aX.1;rw[eK]at hx;obtain⟨⟨aM,aO⟩,bz⟩:=hx.2 az.1.symm (by rw[az.2];rfl);rw[az.2]at aO bz;simp only[bA.len,bA.eE]at aO bz;obtain⟨κ',aW,hv⟩:=G.acY az.2 aM aO bz;have nv:=rK G jS (cq G y rfl aX.2);have Rp:(s.b_ b ⟨(s.ab b).gen+1,.a6 aR ((xs.take E).drop lo)⟩).ab b=⟨(s.ab b).gen+1,.a6 aR ((xs.take E).drop lo)⟩:=by simp[ay.b_]
      have hA:(da (.slice aR) (.own b (g+1))).run (s.b_ b ⟨(s.ab b).gen+1,.a6 aR ((xs.take E).drop lo)⟩).ab=some ((xs.take E).drop lo,[b]):=by
       simp[da,j8,ad.d_,dy,ay.b_,az.1,eu]
      have JW:bh C.P (s.b_ b ⟨(s.ab b).gen+1,.a6 aR ((xs.take E).drop lo)⟩).ab κ' F w (.own b (g+1)) (a.eval x):=by
       refine⟨⟨by grind,hx.1.2⟩,λ_ _=>?_⟩;rw[Rp];exact hv
      have:=main (s.b_ b ⟨(s.ab b).gen+1,.a6 aR ((xs.take E).drop lo)⟩) a w κ' F Q b (g+2) ((xs.take E).drop lo) ys aW nv (by grind) (rK aW hA JW) (λq cap bd JZ _=>?_) hc
      ·rw[acX]at this;exact this
      ·rw[hv]at bd;cases ax:(κ' b).eI with
       | true=>
        simp only[bk.slice,ax,if_true,Value.slice.injEq]at bd;grind
       | false=>
        simp only[bk.slice,ax,Bool.false_eq_true,if_false,Value.slice.injEq]at bd;grind
     ·cases h
    ·cases h
   ·rename_i eK;simp only[ao.eG,Option.bind_eq_some_iff]at h;obtain⟨⟨ys,l⟩,jS,h⟩:=h;obtain⟨b,aa,an⟩:=qB h;simp only[Option.some.injEq]at an;subst an;intro a w κ F Q G aX hc;have hx:bh C.P s.ab κ F w (use (aS C.aI s.au x)).2 (a.eval x):=cq G x rfl aX.1;rw[eK]at hx;simp only[bh]at hx;have:=main s a w κ F Q b ((s.ab b).gen+1) [] ys G (rK G jS (cq G y rfl aX.2)) (Nat.lt_succ_self _) ⟨none,0,hx,.inl ⟨rfl,rfl,rfl⟩⟩ (λq cap bd JZ _=>by grind) (by grind);exact this
   ·rename_i aR xs eK;split at h
    ·rename_i qF;subst qF;simp only[ao.eG,Option.bind_eq_some_iff]at h;obtain⟨⟨ys,l⟩,jS,h⟩:=h;obtain⟨b,aa,an⟩:=qB h;simp only[Option.some.injEq]at an;subst an;intro a w κ F Q G aX hc;have hx:bh C.P s.ab κ F w (use (aS C.aI s.au x)).2 (a.eval x):=cq G x rfl aX.1;rw[eK]at hx;obtain⟨JM,BI,E5⟩:=hx;have hA:(da (.slice aR) (.val (.slice aR) xs)).run s.ab=some (xs,[]):=by
      simp[da,eu]
     exact main s a w κ F Q b ((s.ab b).gen+1) xs ys G (rK G jS (cq G y rfl aX.2)) (Nat.lt_succ_self _) (rK G hA JM) (λq cap bd JZ wK=>by
      grind) hc.2
    ·cases h
   ·cases h
  ·cases h
 ·cases h
theorem ac6{P:Program}{F:Nat->Prop}{w:World}{all:List Value}{ys:z1'}(h:fT P (.int .u8) F w all ys):all=ys.map (Value.int .u8):=by
 obtain⟨h1,h2⟩:=h;have h1:all.length=ys.length:=h1.trans (Nat.mul_one _);apply List.ext_getElem (by simpa using h1);intro i E dn;have db:i<ys.length:=by omega
 obtain⟨e,_⟩:=h2 i db;have hs:ad.size (.int .u8)=1:=rfl;rw[hs,Nat.mul_one,List.drop_eq_getElem_cons E]at e;have:=(List.cons.inj e).1;rw[this];simp
theorem Rq:∀ (ys:z1') (s:ByteArray),ys.foldl (λr n=>r.push (UInt8.ofNat n.toNat)) s=⟨s.data++(uC ys).toArray⟩
 | [],s=>by simp[uC]
 | y::ys,s=>by
  rw[List.foldl_cons,Rq ys];refine congrArg ByteArray.mk ?_;apply Array.ext';simp[uC,ByteArray.push]
theorem ac7(ys:z1'):ys.foldl (λr n=>r.push (UInt8.ofNat n.toNat)) ByteArray.empty=⟨(uC ys).toArray⟩:=by
 rw[Rq];refine congrArg ByteArray.mk ?_;apply Array.ext';simp[ByteArray.empty,ByteArray.emptyWithCapacity];rfl
theorem ac8(hT:dv C.P T){J0 J1:TypeId}{x:Operand}(a1:∀ i,o.dst=some i->i<C.nt)(af:o.op=.convert J0 J1 x)(h:(be C.aI T aY (aS C.aI s.au) o).run s.ab=some res):cj C o s res:=by
 simp only[be,af]at h;split at h
 ·rename_i aM k aO n t1 t2 hx;simp only[bx,ao.bw,Option.some.injEq]at h;subst h;refine cj.pure (by grind) a1 λa w κ F G aX _=>?_;have h1:=nZ (cq G x rfl aX) hx;have e1:=(hT.bR t1 (by simp)).int;have e2:=(hT.bR t2 (by simp)).int;refine⟨.int k (k.wrap n),?_,gx.2 ⟨rfl,pM _ _⟩⟩;simp[execOp,af,convert,dc e1,dc e2,h1.1,Conv.intToInt]
 ·rename_i t1 t2;simp only[ao.eG,Option.bind_eq_some_iff,bx,ao.bw,Option.some.injEq]at h;obtain⟨⟨ys,l⟩,jS,rfl⟩:=h;refine cj.pure (by grind) a1 λa w κ F G aX _=>?_;have hu:=cq G x rfl aX;obtain⟨q,cap,hv,nv⟩:=rK G jS hu;have b1:ys.length<2 ^ 63:=by
   have h1:=lS (F':=λ_=>True) G.bl (λ_ _=>trivial) jS (λ_ _ _=>trivial) hu;obtain⟨_,h2⟩:=(dw rfl).1 h1;obtain⟨q',cap',e1,m1,m2,_⟩:=h2;have e2:=(List.cons.inj (e1.symm.trans rfl)).1;omega
  obtain⟨jv,aB,iK,_⟩:=(hT.bR t1 (by simp)).sl;have e1:=iK.int;have e2:=(hT.bR t2 (by simp)).str;refine⟨.string ⟨(uC ys).toArray⟩,?_,lO.2 ⟨rfl,by simpa [uC]using b1⟩⟩;have hc:(convert J0 J1 (a.eval x)).run C.P w=.ok (.string ⟨(uC ys).toArray⟩) w:=by
   rw[hv,run_convert_bytes_string w J0 J1 jv q ys.length cap aB e1 e2];rcases nv with⟨rfl,rfl,rfl⟩ | ⟨p,all,rfl,aU,n3⟩
   ·rfl
   ·have fj:all=ys.map (Value.int .u8):=ac6 aU;have ah:=EV (P:=C.P) n3;rw[fj,List.length_map]at ah;rw[run_bytesToString w p ys.length cap ys ah];refine congrArg (λs=>Result.ok (Value.string s) w) ?_;exact ac7 ys
  simp[execOp,af,hc]
 ·cases h
end
end Go.Fer
namespace Go.Fer
open Go.RowKit
theorem hK.yH{P:Program}{k:FuncId}{ts tr:ad}{sh Rr:ts.ag->M tr.ag}(h:hK P k ts tr sh)(hs:∀ x,M.le (sh x) (Rr x)):hK P k ts tr Rr where
 enter:=h.enter
 iD:=λF w args x ba fQ aU qG=>by
  obtain⟨h1,h2⟩:=hs x qG;exact (h.iD F w args x ba fQ aU h1).mono λe w' ⟨v,y,e1,e2,e3⟩=>⟨v,y,e1,h2 y e2,e3⟩
def aJ.sh(c:aJ)(x:c.ts.ag):M c.tr.ag:=M.dt (c.pre x) (c.g x)
def ac9(P:Program)(k:FuncId)(ts:ad)(x:ts.ag)(e:ad)(ys:List e.ag):Prop:=
 ∀ (F:Nat->Prop) (w:World) (args:List Value),(∀ r,F r->r<w.heap.size)->nj P F w->eY P ts F w args x->Calls P k args.toArray w λz w'=>∃ (b:bk) (F':Nat->Prop),z=.returned (b.slice ys.length)/\(∀ r,F r->F' r)/\(∀ r,F' r->F r\/(w.heap.size<=r/\r<w'.heap.size))/\
  (b.eI=true->ys=[])/\(b.eI=false->(w.heap.size<=b.ab/\b.ab<w'.heap.size/\¬F' b.ab)/\∃ cs T,w'.heap[b.ab]?=some (.cells cs T (0,0))/\b.off+b.cap*e.size<=cs.size/\ys.length<=b.cap/\b.cap<2 ^ 63/\lb P e F' w' cs b.off ys)/\Below w.heap.size w w'
def BY(P:Program)(k:FuncId)(c:aJ):Prop:=(∀ args w,(callFunc k args).run P w=.ok (.enter k args) w)/\∀ x,c.pre x->∀ y,By c.tr (c.g x)=some y->ac9 P k c.ts x y.1 y.2
def iX(P:Program)(aY:Nat->Option aJ):Prop:=∀ k c,aY k=some c->(nm c.tr=false->hK P k c.ts c.tr c.sh)/\(nm c.tr=true->BY P k c)
theorem ac_{t:ad}{y:t.ag}{z:(e:ad)×List e.ag}(h:By t y=some z):nm t=true:=by
 unfold By at h;unfold nm;split at h<;>simp_all
theorem ac'{t:ad}{y:t.ag}(h:By t y=none):nm t=false:=by
 cases hc:nm t with
 | false=>rfl
 | true=>
  unfold nm at hc;split at hc
  ·cases h
  ·cases hc
theorem jU{t:ad}(aF:t.fZ=true)(avs:List aC):iG t avs=(match avs with | [v]=>da t v | _=>.none:ao (Option (t.ag×List Nat))):=by
 cases t<;>first
  | (cases aF;done)
  | (rcases avs with _ | ⟨v,_ | ⟨u,aA⟩⟩<;>rfl)
theorem uM{P:Program}{H:Nat->bt}{κ:Nat->bk}{F F':Nat->Prop}{w:World}(aL:∀ b,cf P H κ F w b)(ba:∀ r,F r->F' r):∀ (t:ad) {avs:List aC} {aA:List Value} {x:t.ag} {l:List Nat},(iG t avs).run H=some (x,l)->
  iF H κ F' l->avs.length=aA.length->(∀ i (h:i<avs.length) (cX:i<aA.length),bh P H κ F w avs[i] aA[i])->eY P t F' w aA x:=by
 have fZ:∀ (t:ad),t.fZ=true->∀ {avs:List aC} {aA:List Value} {x:t.ag} {l:List Nat},(match avs with | [v]=>da t v | _=>.none:ao (Option (t.ag×List Nat))).run H=some (x,l)->
   iF H κ F' l->avs.length=aA.length->(∀ i (h:i<avs.length) (cX:i<aA.length),bh P H κ F w avs[i] aA[i])->eY P t F' w aA x:=by
  intro t aF avs aA x l h ah hlen fj;split at h
  ·rename_i v;match aA,hlen with
   | [u],_=>
    refine (ru aF).2 ⟨u,rfl,lS aL ba h ah ?_⟩;exact fj 0 (by simp) (by simp)
  ·cases h
 intro t;induction t with
 | aw a b fa eg=>
  intro avs aA x l h ah hlen fj;match avs,aA,hlen with
  | [],_,_=>simp[iG,ao.none]at h
  | v::avs,u::aA,hlen=>
   simp only[iG,ao.eG,Option.bind_eq_some_iff,ao.bw,Option.some.injEq,Prod.mk.injEq]at h;obtain⟨⟨y,m⟩,h1,⟨z,c7⟩,h2,rfl,rfl⟩:=h;refine Bk.2 ⟨lS aL ba h1 ah.left (fj 0 (by simp) (by simp)),?_⟩;exact eg h2 ah.right (by grind) λi E dn=>by
    have:=fj (i+1) (by grind) (by grind);grind
 | cx=>
  intro avs aA x l h ah hlen fj;match avs,aA,hlen with
  | [],[],_=>exact⟨rfl,rfl⟩
  | _::_,_,_=>simp[iG,ao.none]at h
 | bool=>intro avs aA x l h;rw[jU rfl]at h;exact fZ _ rfl h
 | int k=>intro avs aA x l h;rw[jU rfl]at h;exact fZ (.int k) rfl h
 | str=>intro avs aA x l h;rw[jU rfl]at h;exact fZ _ rfl h
 | st t _=>intro avs aA x l h;rw[jU rfl]at h;exact fZ (.st t) rfl h
 | slice e _=>intro avs aA x l h;rw[jU rfl]at h;exact fZ (.slice e) rfl h
 | array n e _=>intro avs aA x l h;rw[jU rfl]at h;exact fZ (.array n e) rfl h
 | bp e _=>intro avs aA x l h;rw[jU rfl]at h;exact fZ (.bp e) rfl h
 | map k v _ _=>intro avs aA x l h;rw[jU rfl]at h;exact fZ (.map k v) rfl h
 | fn a b _ _=>intro avs aA x l h;rw[jU rfl]at h;exact fZ (.fn a b) rfl h
 | b6 a _=>intro avs aA x l h;rw[jU rfl]at h;exact fZ (.b6 a) rfl h
 | dM=>intro avs aA x l h;rw[jU rfl]at h;exact fZ .dM rfl h
theorem pR{H:Nat->bt}:∀ (t:ad) {avs:List aC} {x:t.ag} {l:List Nat},(iG t avs).run H=some (x,l)->gi H l:=by
 have fZ:∀ (t:ad),t.fZ=true->∀ {avs:List aC} {x:t.ag} {l:List Nat},(match avs with | [v]=>da t v | _=>.none:ao (Option (t.ag×List Nat))).run H=some (x,l)->gi H l:=by
  intro t _ avs x l h;split at h
  ·exact mr h
  ·cases h
 intro t;induction t with
 | aw a b fa eg=>
  intro avs x l h;match avs with
  | []=>simp[iG,ao.none]at h
  | v::avs=>
   simp only[iG,ao.eG,Option.bind_eq_some_iff,ao.bw,Option.some.injEq,Prod.mk.injEq]at h;obtain⟨⟨y,m⟩,h1,⟨z,c7⟩,h2,rfl,rfl⟩:=h;exact (mr h1).append (eg h2)
 | cx=>
  intro avs x l h;match avs with
  | []=>
   simp only[iG,ao.bw,Option.some.injEq,Prod.mk.injEq]at h;rw[<-h.2];exact .nil H
  | _::_=>simp[iG,ao.none]at h
 | bool=>intro avs x l h;rw[jU rfl]at h;exact fZ _ rfl h
 | int k=>intro avs x l h;rw[jU rfl]at h;exact fZ (.int k) rfl h
 | str=>intro avs x l h;rw[jU rfl]at h;exact fZ _ rfl h
 | st t _=>intro avs x l h;rw[jU rfl]at h;exact fZ (.st t) rfl h
 | slice e _=>intro avs x l h;rw[jU rfl]at h;exact fZ (.slice e) rfl h
 | array n e _=>intro avs x l h;rw[jU rfl]at h;exact fZ (.array n e) rfl h
 | bp e _=>intro avs x l h;rw[jU rfl]at h;exact fZ (.bp e) rfl h
 | map k v _ _=>intro avs x l h;rw[jU rfl]at h;exact fZ (.map k v) rfl h
 | fn a b _ _=>intro avs x l h;rw[jU rfl]at h;exact fZ (.fn a b) rfl h
 | b6 a _=>intro avs x l h;rw[jU rfl]at h;exact fZ (.b6 a) rfl h
 | dM=>intro avs x l h;rw[jU rfl]at h;exact fZ .dM rfl h
theorem ada{H:Nat->bt}{e:ad}{ps:List (Nat×aC)}:∀ (n i:Nat) {xs:List e.ag} {l:List Nat},(sX e ps i n).run H=some (xs,l)->gi H l:=by
 intro n;induction n with
 | zero=>intro i xs l h;cases h;exact .nil H
 | succ n aG=>
  intro i xs l h;simp only[sX,ao.eG,Option.bind_eq_some_iff,ao.bw,Option.some.injEq,Prod.mk.injEq]at h;obtain⟨⟨x,m⟩,h1,⟨ys,c7⟩,h2,rfl,rfl⟩:=h;refine gi.append ?_ (aG (i+1) h2);split at h1
  ·exact mr h1
  ·simp only[ao.bw,Option.some.injEq,Prod.mk.injEq]at h1;rw[<-h1.2];exact .nil H
theorem Rs{P:Program}{F F':Nat->Prop}{w w':World}{t:ad}{aA:List Value}{x:t.ag}(aF:t.pure=true)(h:eY P t F w aA x):eY P t F' w' aA x:=⟨h.1,abW t aF h.2⟩
theorem s_{P:Program}{H:Nat->bt}{κ:Nat->bk}{F:Nat->Prop}{w:World}:∀ (t:ad) {aA:List Value} {y:t.ag},eY P t F w aA y->t≠.cx->aA.length=jP t/\∀ i,i<jP t->bh P H κ F w (j' t y i) (aA.getD i Go.undef):=by
 intro t;induction t with
 | aw a b _ eg=>
  intro aA y h _;obtain⟨v,us,rfl,h1,h2⟩:=EF h;by_cases aa:b=.cx
  ·subst aa;have:us=[]:=h2.1;subst this;refine⟨rfl,λi E=>?_⟩;cases i with
   | zero=>exact h1
   | succ i=>simp only[jP]at E;omega
  ·obtain⟨aM,aO⟩:=eg h2 aa;refine⟨by simp[jP,aM],λi E=>?_⟩;cases i with
   | zero=>exact h1
   | succ i=>
    have:=aO i (by simp only[jP]at E;omega);simpa [j']using this
 | cx=>simp
 | _=>
  intro aA y h _;obtain⟨v,rfl,h1⟩:=(ru rfl).1 h;refine⟨rfl,λi E=>?_⟩;simp only[jP]at E;have:i=0:=by omega
  subst this;exact h1
theorem BZ{P:Program}{H:Nat->bt}{κ:Nat->bk}{F:Nat->Prop}{w:World}{t:ad}{v:Value}{y:t.ag}(h:sR P t F w v y):bh P H κ F w (qw t y) v:=by
 have pH:=@s_ P H κ F w;obtain⟨aA,h1,h2⟩:=h;cases t with
 | aw a b=>
  simp only[yA]at h1;obtain⟨aM,aO⟩:=pH (.aw a b) h2 (by simp);exact⟨aA,h1,aM,aO⟩
 | cx=>exact h1.1
 | _=>
  obtain⟨u,rfl,hu⟩:=(ru rfl).1 h2;have:v=u:=by simpa [yA,eq_comm]using h1
  rw[this];exact hu
section
variable {C:bP} {T:Nat->ad} {aY:Nat->Option aJ} {o:Oper} {s:ay} {res:dW}
theorem a_.grow{a:Act}{w w':World}{κ:Nat->bk}{F:Nat->Prop}(h:a_ C s a w κ F)(aa:Below w.heap.size w w'):a_ C s a w' κ (uv F w w'):=by
 have he:cD F w w':=⟨aa.size,λr G=>aa.block r (h.cK r G)⟩
 refine h.move (H':=s.ab) (eZ.refl _ _) (λ_ G=>.inl G) (λr G=>G.imp id λG=>.inr G.1) aa.size (λr G _=>aa.block r G) ⟨aa.os,aa.tape,aa.output⟩ (λ_=>?_) ?_ h.inj ?_ (λ_ _ h=>⟨rfl,h⟩)
 ·intro b;exact cf.kL (h.bl b) (eZ.refl _ _) (λ_ G=>.inl G) he rfl rfl λaf=>aa.block _ (h.own b af).1
 ·intro b af;have:=h.own b af;refine⟨Nat.lt_of_lt_of_le this.1 aa.size,λaq=>?_,.inl ⟨b,af,rfl⟩⟩;rcases aq with aq | ⟨aq,_⟩
  ·exact this.2.1 aq
  ·omega
 ·intro r G;rcases G with G | ⟨_,G⟩
  ·exact Nat.lt_of_lt_of_le (h.cK r G) aa.size
  omega
theorem B0{r:Option Nat}{P:Program}{o:Oper}{a:Act}{w:World}{K:Act->World->Prop}{Q:Exit->Act->World->Prop}{f:FuncId}{args:Array Value}{R:Ending->World->Prop}(ar:∀ c,o.op≠.defer c)
  (h:(execOp a.eval o).run P w=.ok (.enter f args) w) (hc:Calls P f args w R) (an:∀ e w',R e w'->∃ v,e=.returned v/\K (a.put o.dst v) w'):o.wpIn (du r) 0 P a w K Q:=by
 refine⟨λ_ _=>trivial,?_⟩;rw[yR ar,h];refine⟨λhs=>(by cases hs),?_⟩;have h1:CallsIn Fence.wide 0 P f args w R:=callsIn_wide.2 hc;have h2:CallsIn (du r) 0 P f args w R:=by
  cases r with
  | none=>exact h1
  | some l=>exact CallsIn.inRound l h1
 refine h2.mono λe w' he=>?_;grind
theorem Rt{a:Act}{w:World}{κ:Nat->bk}{F:Nat->Prop}{ts:ad}(G:a_ C s a w κ F){args:Array Operand}(aX:jr (args.toList.map (aS C.aI s.au))){x:ts.ag}{l:List Nat}
  (hx:(iG ts ((args.toList.map (aS C.aI s.au)).map λv=>(use v).2)).run s.ab=some (x,l)):∃ F',(∀ r,F r->F' r)/\a_ C (s.ca l) a w κ F'/\eY C.P ts F' w (args.toList.map a.eval) x:=by
 obtain⟨args⟩:=args;obtain⟨F',f1,aW,f2⟩:=a_.kO (pR ts hx) G;refine⟨F',f1,aW,uM G.bl f1 ts hx f2 (by simp) λi E dn=>?_⟩;simp only[List.getElem_map];have db:i<args.length:=by grind
 have h1:=rE aX i (by grind);have e1:(args.map (aS C.aI s.au)).getD i .undef=aS C.aI s.au args[i]:=by grind
 rw[show (List.map (aS C.aI s.au) (⟨args⟩:Array Operand).toList)=args.map (aS C.aI s.au) from rfl,e1]at h1;exact oN (jR G args[i]) h1
theorem Ru{a:Act}{w:World}{κ:Nat->bk}{F:Nat->Prop}{Q:Exit->Act->World->Prop}{K:Act->World->Prop}{k:FuncId}{ts tr:ad}{sh:ts.ag->M tr.ag}(G:a_ C s a w κ F)(aq:hK C.P k ts tr sh)
  (a1:∀ i,o.dst=some i->i<C.nt) {args:Array Operand} {cR:Array TypeId} (af:o.op=.call { callee:=.value (.func k),args:=args,argTypes:=cR }) (aX:jr (args.toList.map (aS C.aI s.au))) {x:ts.ag} {l:List Nat}
  (hx:(iG ts ((args.toList.map (aS C.aI s.au)).map λv=>(use v).2)).run s.ab=some (x,l)) (hs:(sh x).b4)
  (an:∀ y w',(sh x).bB y->∀ v,b7 C ((if tr.pure then s else s.ca l).set o.dst (qw tr y)) (a.put o.dst v) w'->K (a.put o.dst v) w'):o.wpIn (du C.r) 0 C.P a w K Q:=by
 have ar:∀ c,o.op≠.defer c:=by grind
 obtain⟨args⟩:=args;have cE:(execOp a.eval o).run C.P w=.ok (.enter k (args.map a.eval).toArray) w:=by
  simp only[execOp,af,Sem.run_bind,resolve,Act.eval,Deferred.ofValue,Sem.run_pure,Result.andThen_ok,invoke];have:=aq.enter (args.map a.eval).toArray w;grind
 obtain⟨F',f1,aW,dz⟩:=Rt G aX hx;refine B0 ar cE (aq.iD F' w _ x aW.cK aW.ie dz hs) λe w' ⟨v,y,he,aK,fR,aa⟩=>⟨v,he,an y w' aK v ?_⟩
 by_cases hp:tr.pure=true
 ·rw[if_pos hp];have az:=G.grow aa;refine⟨κ,_,az.set a1 (BZ ?_)⟩;obtain⟨aA,c8,q2⟩:=fR;exact⟨aA,c8,Rs hp q2⟩
 ·rw[if_neg hp];have az:=aW.grow aa;exact⟨κ,_,az.set a1 (BZ fR)⟩
theorem a_.hh{a:Act}{w w':World}{κ:Nat->bk}{F F':Nat->Prop}(h:a_ C s a w κ F){b g:Nat}{e:ad}{ys:List e.ag}{k:bk}(Bp:b<eo)(az:(s.ab b).gen<g)(aa:Below w.heap.size w w')
  (ba:∀ r,F r->F' r) (sQ:∀ r,F' r->F r\/(w.heap.size<=r/\r<w'.heap.size)) (h1:k.eI=true->ys=[])
  (h2:k.eI=false->(w.heap.size<=k.ab/\k.ab<w'.heap.size/\¬F' k.ab)/\∃ cs T,w'.heap[k.ab]?=some (.cells cs T (0,0))/\k.off+k.cap*e.size<=cs.size/\ys.length<=k.cap/\k.cap<2 ^ 63/\lb C.P e F' w' cs k.off ys) :
  a_ C (s.b_ b ⟨g,.a6 e ys⟩) a w' (λi=>if i=b then k else κ i) F':=by
 have ah:eZ s.ab κ (λi=>if i=b then ⟨g,.a6 e ys⟩ else s.ab i) (λi=>if i=b then k else κ i):=yE az λaZ cY=>by grind
 refine h.move (H':=λi=>if i=b then ⟨g,.a6 e ys⟩ else s.ab i) ah ba (λr G=>(sQ r G).imp id λh=>.inr h.1) aa.size (λr G _=>aa.block r G) ⟨aa.os,aa.tape,aa.output⟩ (λhe=>?_) ?_ ?_ ?_ (yF (.inl Bp) λaZ cY=>by grind)
 ·intro i;by_cases E:i=b
  ·subst E;simp only[cf,if_true];exact⟨h1,λax=>(h2 ax).2⟩
  ·refine cf.kL (h.bl i) ah ba he (by grind) (by grind) λaf=>?_;exact aa.block _ (h.own i af).1
 ·intro i E;by_cases eh:i=b
  ·subst eh;simp only[if_true,bA.bI,Bool.not_eq_true']at E ⊢;obtain⟨⟨aM,aO,bz⟩,_⟩:=h2 E;exact⟨aO,bz,.inr aM⟩
  ·simp only[if_neg eh]at E ⊢;have:=h.own i E;refine⟨Nat.lt_of_lt_of_le this.1 aa.size,λaq=>?_,.inl ⟨i,E,rfl⟩⟩;rcases sQ _ aq with aq | aq
   ·exact this.2.1 aq
   ·omega
 ·intro i j E aB aR;by_cases eh:i=b<;>by_cases lQ:j=b
  ·omega
  ·simp only[if_pos eh,if_neg lQ,bA.bI,Bool.not_eq_true']at E aB aR;have:=(h.own j aB).1;have:=(h2 E).1.1;omega
  ·simp only[if_neg eh,if_pos lQ,bA.bI,Bool.not_eq_true']at E aB aR;have:=(h.own i E).1;have:=(h2 aB).1.1;omega
  ·simp only[if_neg eh,if_neg lQ]at E aB aR;exact h.inj i j E aB aR
 ·intro r G;rcases sQ r G with cX | cX
  ·exact Nat.lt_of_lt_of_le (h.cK r cX) aa.size
  ·exact cX.2
theorem adb(cb:iX C.P aY){k:FuncId}{args:Array Operand}{cR:Array TypeId}(a1:∀ i,o.dst=some i->i<C.nt)(af:o.op=.call { callee:=.value (.func k),args:=args,argTypes:=cR })(h:(be C.aI T aY (aS C.aI s.au) o).run s.ab=some res):cj C o s res:=by
 simp only[be,af,mn,EP]at h;split at h
 ·rename_i c hc;simp only[ao.eG,Option.bind_eq_some_iff]at h;obtain⟨⟨x,l⟩,hx,h⟩:=h;split at h
  ·rename_i y aK;simp only[ao.run_bind]at h;obtain⟨d,ar,h⟩:=qB h;split at h
   ·cases h
   rename_i ta;cases h;have ta:d ∉ l:=by simpa using ta
   have J2:=a1 d ar;intro a w κ F Q G aX gj;obtain⟨aM,aO⟩:=(cb k c hc).2 (ac_ aK);obtain⟨F',f1,aW,dz⟩:=Rt G aX hx;have cE:(execOp a.eval o).run C.P w=.ok (.enter k (args.map a.eval)) w:=by
    simp only[execOp,af,Sem.run_bind,resolve,Act.eval,Deferred.ofValue,Sem.run_pure,Result.andThen_ok,invoke];have:=aM (args.map a.eval) w;grind
   have iY:=aO x gj y aK F' w _ aW.cK aW.ie dz;rw[show (args.toList.map a.eval).toArray=args.map a.eval from by rw[<-Array.toList_map,Array.toArray_toList]]at iY;refine B0 (by grind) cE iY λz w' ⟨b,dJ,a8,g1,dP,g3,g4,g5⟩=>⟨_,a8,?_⟩
   have y5:(s.ca l).ab d=s.ab d:=by simp[ay.ca,ta]
   have iW:=aW.hh (b:=d) (g:=(s.ab d).gen+1) (e:=y.1) (ys:=y.2) (k:=b) (Nat.lt_of_lt_of_le J2 G.fO) (by rw[y5];omega) g5 g1 dP g3 g4;refine⟨λi=>if i=d then b else κ i,dJ,?_⟩;simp only[ay.hO];rw[BJ,s4];refine iW.set a1 ⟨⟨by simp[ay.b_],by unfold bk.slice;split<;>rfl⟩,λ_ _=>by simp[ay.b_,bA.len]⟩
  rename_i aK;simp only[ao.run_bind,ao.bw,Option.some.injEq]at h;subst h;intro a w κ F Q G aX gj;refine Ru G ((cb k c hc).1 (ac' aK)) a1 af aX hx gj λy w' aK v jV=>?_;have aK:y=c.g x:=aK;subst aK;have e:∀ (r:ao (List (Nat×bt))),r=(if c.tr.pure then .ret [] else jq l)->s.fG (r.run s.ab)=(if c.tr.pure then s else s.ca l):=by
   intro r G;subst G;split
   ·rfl
   ·exact s4 s l
  simp only[ay.hO];grind
 ·cases h
theorem Rv{P:Program}{H:Nat->bt}{κ:Nat->bk}{F F':Nat->Prop}{w:World}(aL:∀ b,cf P H κ F w b)(ba:∀ r,F r->F' r){e:ad}{zero:List Value}(a8:br P e F' w zero e.cM){ps:List (Nat×aC)}{qs:List (Nat×Value)}(hlen:ps.length=qs.length)
  (fj:∀ i (h:i<ps.length) (cX:i<qs.length),ps[i].1=qs[i].1/\bh P H κ F w ps[i].2 qs[i].2):∀ (n i:Nat) {xs:List e.ag} {l:List Nat},(sX e ps i n).run H=some (xs,l)->
  iF H κ F' l->xs.length=n/\∀ j (h:j<xs.length),∃ a7,br P e F' w a7 xs[j]/\(match qs.find? (λp=>p.1 == i+j) with | some q=>a7=q.2.cells.toList | none=>a7=zero):=by
 have find:∀ (ps:List (Nat×aC)) (qs:List (Nat×Value)),ps.length=qs.length->(∀ i (h:i<ps.length) (cX:i<qs.length),ps[i].1=qs[i].1/\bh P H κ F w ps[i].2 qs[i].2)->∀ i,(ps.find? (λp=>p.1 == i)=none/\qs.find? (λp=>p.1 == i)=none)\/∃ p q,ps.find? (λp=>p.1 == i)=some p/\qs.find? (λp=>p.1 == i)=some q/\bh P H κ F w p.2 q.2:=by
  intro ps;induction ps with
  | nil=>grind
  | cons p ps aG=>
   intro qs ah h i;cases qs with
   | nil=>grind
   | cons q qs=>
    have h0:=h 0 (by simp) (by simp);simp only[List.getElem_cons_zero]at h0;by_cases hp:p.1=i
    ·grind
    ·have bd:q.1≠i:=by omega
     have:=aG qs (by grind) (λj aB fx=>by have:=h (j+1) (by grind) (by grind);grind) i;grind
 intro n;induction n with
 | zero=>intro i xs l h _;cases h;simp
 | succ n aG=>
  intro i xs l h ah;simp only[sX,ao.eG,Option.bind_eq_some_iff,ao.bw,Option.some.injEq,Prod.mk.injEq]at h;obtain⟨⟨x,m⟩,h1,⟨ys,c7⟩,h2,rfl,rfl⟩:=h;obtain⟨aM,aO⟩:=aG (i+1) h2 ah.right;refine⟨by grind,λj aB=>?_⟩;cases j with
  | zero=>
   rcases find ps qs hlen fj i with⟨f1,f2⟩ | ⟨p,q,f1,f2,f3⟩
   ·rw[f1]at h1;simp only[ao.bw,Option.some.injEq,Prod.mk.injEq]at h1;grind
   ·rw[f1]at h1;refine⟨q.2.cells.toList,(lS aL ba h1 ah.left f3).2,?_⟩;grind
  | succ j=>
   obtain⟨a7,d1,d2⟩:=aO j (by grind);grind
end
end Go.Fer
namespace Go.Fer
open Go.RowKit
def rM(d:Nat)(em:Bool)(xs:Array Value):List Field->Sem Unit
 | []=>pure ()
 | f::ev=>
  if f.name ≠ "_" then do
   let a <-part f.type xs f.offset
   Instr.checkKey em d f.type a
   rM d em xs ev
  else rM d em xs ev
theorem ade{P:Program}(w:World)(em:Bool)(d:Nat)(t:TypeId)(xs:Array Value)(aF:P.underlying t=some (.struct (P.fieldsOf t))) :
  (Instr.checkKey em (d+1) t (.agg xs)).run P w=(rM d em xs (P.fieldsOf t).toList).run P w:=by
 simp only[Instr.checkKey,Sem.run_bind,dc aF,Result.andThen_ok];rw[<-Array.forIn_toList];generalize (P.fieldsOf t).toList=ev;clear aF;induction ev generalizing w with
 | nil=>rfl
 | cons f ev aG=>
  simp only[List.forIn_cons,rM,Sem.run_bind,Sem.run_ite];split
  ·generalize (part f.type xs f.offset).run P w=bY;cases bY with
   | ok a b2=>
    simp only[Result.andThen_ok];generalize (Instr.checkKey em d f.type a).run P b2=cm;cases cm with
    | ok b cF=>
     simp_all
    | halt x cF=>rfl
   | halt x b2=>rfl
  simp_all
theorem B1{P:Program}{F:Nat->Prop}{w:World}{em:Bool}:∀ (t:ad) (d:Nat),t.ks=true->t.jQ<=d->
  (∀ {id:TypeId} {v:Value} {x:t.ag},bO P t id->dN P t F w v x->(Instr.checkKey em d id v).run P w=.ok () w)/\
  (∀ {l:List Field} {off:Nat} {xs:Array Value} {p c q:List Value} {x:t.ag},cg P t (.inr (l,off))=true->xs.toList=p++(c++q)->p.length=off->br P t F w c x->
   (rM d em xs l).run P w=.ok () w):=by
 intro t;induction t with
 | bool=>
  intro d _ ar;refine⟨λ{id v x} h h1=>?_,λh=>by simp[cg]at h⟩;rw[eQ.1 h1];obtain⟨d,rfl⟩:∃ e,d=e+1:=⟨d - 1,by simp only[ad.jQ]at ar;omega⟩
  unfold bO at h;simp only[cg,Bool.and_eq_true]at h;obtain⟨_,h⟩:=h;split at h
  ·rename_i hu;simp[Instr.checkKey,dc hu]
  grind
 | int k=>
  intro d _ ar;refine⟨λ{id v x} h h1=>?_,λh=>by simp[cg]at h⟩;rw[(gx.1 h1).1];obtain⟨d,rfl⟩:∃ e,d=e+1:=⟨d - 1,by simp only[ad.jQ]at ar;omega⟩
  simp[Instr.checkKey,dc (bO.int h)]
 | str=>
  intro d _ ar;refine⟨λ{id v x} h h1=>?_,λh=>by simp[cg]at h⟩;rw[(lO.1 h1).1];obtain⟨d,rfl⟩:∃ e,d=e+1:=⟨d - 1,by simp only[ad.jQ]at ar;omega⟩
  simp[Instr.checkKey,dc (bO.str h)]
 | cx=>intro d h;cases h
 | slice e _=>intro d h;cases h
 | array n e _=>intro d h;cases h
 | bp e _=>intro d h;cases h
 | map k v _ _=>intro d h;cases h
 | fn a b _ _=>intro d h;cases h
 | b6 a _=>intro d h;cases h
 | dM=>intro d h;cases h
 | aw a b fa eg=>
  intro d hc ar;simp only[ad.ks,Bool.and_eq_true]at hc;simp only[ad.jQ]at ar;have ia:=fa d hc.1 (by omega);have oI:=eg d hc.2 (by omega);refine⟨λh=>by unfold bO at h;simp[cg]at h,?_⟩;intro l off xs p c q x h hx hp oP;simp only[br]at oP;obtain⟨c1,c2,rfl,aM,aO⟩:=oP;have eD:=ht a aM;have step : ∀ (f : Field) (bZ : List Field), f.offset = off -> bO P a f.type -> f.name ≠ "_" -> (rM d em xs (f :: bZ)).run P w = (rM d em xs bZ).run P w := by
   intro f bZ af aq ax;obtain⟨v,bY,cm⟩:=qA (cs:=xs) (p:=p) (c:=c1) (q:=c2++q) aq (by grind) aM;simp only[rM,ax,ne_eq,not_false_eq_true,if_true,Sem.run_bind];rw[af,<-hp,bY,Result.andThen_ok,ia.1 aq cm,Result.andThen_ok]
  match l,h with
  | [],h=>rfl
  | [f],h=>simp only[cg,Bool.false_eq_true]at h
  | [f,g],h=>
   simp only[cg,Bool.and_eq_true,beq_iff_eq,bne_iff_ne,ne_eq]at h;obtain⟨⟨⟨⟨h1,h2⟩,h3⟩,aQ⟩,⟨⟨⟨bu,cW⟩,fK⟩,iS⟩⟩:=h;rw[step f [g] h1 h2 aQ];obtain⟨v,bY,cm⟩:=qA (cs:=xs) (p:=p++c1) (c:=c2) (q:=q) cW (by grind) aO;have e1:(p++c1).length=g.offset:=by grind
   rw[e1]at bY;simp only[rM,iS,ne_eq,not_false_eq_true,if_true,Sem.run_bind,bY,Result.andThen_ok,oI.1 cW cm,Sem.run_pure]
  | f::g::i::l,h=>
   simp only[cg,Bool.and_eq_true,beq_iff_eq,bne_iff_ne,ne_eq]at h;obtain⟨⟨⟨⟨h1,h2⟩,h3⟩,aQ⟩,bu⟩:=h;rw[step f _ h1 h2 aQ,oI.2 bu (p:=p++c1) (c:=c2) (q:=q) (by grind) (by grind) aO]
 | st t aG=>
  intro d hc ar;simp only[ad.jQ]at ar;obtain⟨d,rfl⟩:∃ e,d=e+1:=⟨d - 1,by omega⟩
  refine⟨λ{id v x} h h1=>?_,λh=>by simp[cg]at h⟩;have i:=aG d hc (by omega);obtain⟨e1,e2,e3,e4⟩:=h.BC;obtain⟨⟨xs,rfl,hA⟩,oP⟩:=h1;simp only[Value.cells,br]at oP;rw[ade w em d id xs e4];rcases e3 with e3 | ⟨f,e3,dD,kK,sZ⟩ | ⟨rfl,e3⟩
  ·exact i.2 e3 (p:=[]) (c:=xs.toList) (q:=[]) (by simp) rfl oP
  ·rw[e3];obtain⟨v,bY,cm⟩:=qA (cs:=xs) (p:=[]) (c:=xs.toList) (q:=[]) kK (by simp) oP;simp only[List.length_nil]at bY;simp only[rM,sZ,ne_eq,not_false_eq_true,if_true,Sem.run_bind,dD,bY,Result.andThen_ok,i.1 kK cm,Sem.run_pure]
  ·cases hc
theorem J3:∀ (t:ad),t.ks=true->∀ (x y:t.ag),gh t x y=true<->x=y:=by
 intro t;induction t with
 | bool=>intro _ x y;simp[gh]
 | int k=>intro _ x y;simp[gh]
 | str=>intro _ x y;simp[gh]
 | st t aG=>intro h x y;exact aG h x y
 | aw a b fa eg=>
  intro h x y;simp only[ad.ks,Bool.and_eq_true]at h;simp only[gh,Bool.and_eq_true,fa h.1,eg h.2];grind
 | _=>intro h;cases h
def y6{k:ad}{β:Type}(x:k.ag)(es:List MapEntry)(xs:List (k.ag×β))(i:Nat)(r:Option (Nat×Value)):Prop:=
 (r=none/\∀ p∈xs,gh k x p.1=false)\/∃ j e p,es[j]?=some e/\xs[j]?=some p/\gh k x p.1=true/\(∀ jT q,jT<j->xs[jT]?=some q->gh k x q.1=false)/\r=some (i+j,e.val)
theorem y6.next{k:ad}{β:Type}{x:k.ag}{e:MapEntry}{es:List MapEntry}{p:k.ag×β}{xs:List (k.ag×β)}{i:Nat}{r:Option (Nat×Value)}(h:y6 x es xs (i+1) r)(hp:gh k x p.1=false):y6 x (e::es) (p::xs) i r:=by
 rcases h with⟨h1,h2⟩ | ⟨j,aR,p',h1,h2,h3,aQ,bu⟩
 ·exact .inl ⟨h1,λq bd=>by
   grind⟩
 ·refine .inr ⟨j+1,aR,p',by grind,by grind,h3,λjT q fx bd=>?_,by grind⟩;grind
theorem Rw{P:Program}{F:Nat->Prop}{w:World}{k:ad}{β:Type}(hc:k.ks=true)(ax:k.jQ<=10000){kR:TypeId}(an:bO P k kR){tb:Value}{x:k.ag}(hx:dN P k F w tb x):∀ (es:List MapEntry) (xs:List (k.ag×β)) (i:Nat),es.length=xs.length->(∀ (j:Nat) (e:MapEntry) (p:k.ag×β),es[j]?=some e->xs[j]?=some p->dN P k F w e.key p.1)->∃ r,(Instr.findAsking kR tb es i).run P w=.ok r w/\y6 x es xs i r
 | [],[],i,_,_=>⟨none,rfl,.inl ⟨rfl,λp hp=>by cases hp⟩⟩
 | e::es,p::xs,i,ah,h=>by
  have h0:=h 0 e p rfl rfl;have he:=(Jz k 10000 hc ax).1 an hx h0;obtain⟨r,bY,cm⟩:=Rw (β:=β) hc ax an hx es xs (i+1) (by grind) λj aR p' h1 h2=>h (j+1) aR p' (by grind) (by grind);cases bd:gh k x p.1 with
  | true=>
   refine⟨some (i,e.val),by simp[Instr.findAsking,Op.equal,Op.maxDepth,he,bd],.inr ⟨0,e,p,rfl,rfl,bd,λjT q fx=>by omega,rfl⟩⟩
  | false=>exact⟨r,by simp[Instr.findAsking,Op.equal,Op.maxDepth,he,bd,bY],cm.next bd⟩
theorem Rx{P:Program}{F:Nat->Prop}{w:World}{k:ad}{kR:TypeId}(an:bO P k kR){d:TypeDesc}(ar:P.underlying kR=some d){u v:Value}{x y:k.ag}(hu:dN P k F w u x)(hv:dN P k F w v y){b:Bool}(h:Instr.sameNow d u v=some b):b=gh k x y:=by
 cases k with
 | bool=>
  rw[eQ.1 hu,eQ.1 hv]at h;cases d<;>simp only[Instr.sameNow,Option.some.injEq,reduceCtorEq]at h;rw[<-h];rfl
 | int k=>
  rw[(gx.1 hu).1,(gx.1 hv).1]at h;cases d<;>simp only[Instr.sameNow,if_true,Option.some.injEq,reduceCtorEq]at h;rw[<-h];rfl
 | str=>
  rw[(lO.1 hu).1,(lO.1 hv).1]at h;cases d<;>simp only[Instr.sameNow,Option.some.injEq,reduceCtorEq]at h;rw[<-h,beq_toListBytes,ByteArray.toList_eq,ByteArray.toList_eq];simp only[gh];grind
 | st t=>
  obtain⟨⟨us,rfl,_⟩,_⟩:=hu;cases d<;>cases v<;>simp[Instr.sameNow]at h
 | array n t=>
  obtain⟨⟨us,rfl,_⟩,_⟩:=hu;cases d<;>cases v<;>simp[Instr.sameNow]at h
 | cx=>exact hu.1.elim
 | aw a b=>exact hu.1.elim
 | slice e=>
  obtain⟨_,a,cap,e1,_⟩:=(dw rfl).1 hu;obtain rfl:=(List.cons.inj e1).1;cases d<;>simp[Instr.sameNow]at h
 | bp e=>
  obtain⟨_,hx⟩:=(dw rfl).1 hu;rcases hx with⟨e1,_⟩ | ⟨p,y,a7,e1,_⟩<;>(obtain rfl:=(List.cons.inj e1).1;cases d<;>simp[Instr.sameNow]at h)
 | map k' hL=>
  obtain⟨_,hx⟩:=(dw rfl).1 hu;rcases hx with⟨e1,_⟩ | ⟨r,es,clk,e1,_⟩<;>(obtain rfl:=(List.cons.inj e1).1;cases d<;>simp[Instr.sameNow]at h)
 | fn a b=>
  obtain⟨i,z,h1,h2,h3,aQ,bu,cW⟩:=j_ an.j9;unfold bO at an;simp only[cg,Bool.and_eq_true,ar]at an;cases d<;>simp[Instr.sameNow]at an h
 | b6 a=>
  obtain⟨i,z,h1,h2,h3,aQ,bu,cW⟩:=j_ an.j9;unfold bO at an;simp only[cg,Bool.and_eq_true,ar]at an;cases d<;>simp[Instr.sameNow]at an h
 | dM=>
  obtain⟨i,z,h1,h2,h3,aQ,bu,cW⟩:=j_ an.j9;unfold bO at an;simp only[cg,Bool.and_eq_true,ar]at an;cases d<;>simp[Instr.sameNow]at an h
theorem Ry{P:Program}{F:Nat->Prop}{w:World}{k:ad}{β:Type}{kR:TypeId}(an:bO P k kR){d:TypeDesc}(ar:P.underlying kR=some d){tb:Value}{x:k.ag}(hx:dN P k F w tb x):∀ (es:List MapEntry) (xs:List (k.ag×β)) (i:Nat) {r:Option (Nat×Value)},es.length=xs.length->(∀ (j:Nat) (e:MapEntry) (p:k.ag×β),es[j]?=some e->xs[j]?=some p->dN P k F w e.key p.1)->Instr.findNow d tb es i=some r->y6 x es xs i r
 | [],[],i,r,_,_,h=>by cases h;exact .inl ⟨rfl,λp hp=>by cases hp⟩
 | e::es,p::xs,i,r,ah,h,aq=>by
  have h0:=h 0 e p rfl rfl;simp only[Instr.findNow]at aq;split at aq
  ·rename_i hs;have:=Rx an ar hx h0 hs;cases aq;exact .inr ⟨0,e,p,rfl,rfl,this.symm,λjT q fx=>by omega,rfl⟩
  ·rename_i hs;have:=Rx an ar hx h0 hs;exact (Ry an ar hx es xs (i+1) (by grind) (λj aR p' h1 h2=>h (j+1) aR p' (by grind) (by grind)) aq).next this.symm
  grind
theorem bO.adf{P:Program}{t:ad}{id:TypeId}(h:bO P t id)(hc:t.ks=true):∃ d,P.underlying id=some d:=by
 cases t with
 | bool=>
  unfold bO at h;simp only[cg,Bool.and_eq_true]at h;grind
 | int k=>exact⟨_,bO.int h⟩
 | str=>exact⟨_,bO.str h⟩
 | st t=>exact⟨_,h.BC.2.2.2⟩
 | aw a b=>unfold bO at h;simp[cg]at h
 | _=>cases hc
theorem wL{P:Program}{F:Nat->Prop}{w:World}{k:ad}{β:Type}(hc:sY k=true){kR:TypeId}(an:bO P k kR){tb:Value}{x:k.ag}(hx:dN P k F w tb x){es:List MapEntry}{xs:List (k.ag×β)}
  (ah:es.length=xs.length) (h:∀ (j:Nat) (e:MapEntry) (p:k.ag×β),es[j]?=some e->xs[j]?=some p->dN P k F w e.key p.1):∃ r,(Instr.findKey kR tb es).run P w=.ok r w/\y6 x es xs 0 r:=by
 simp only[sY,Bool.and_eq_true,decide_eq_true_eq]at hc;obtain⟨d,ar⟩:=an.adf hc.1;simp only[Instr.findKey,Sem.run_bind,dc ar,Result.andThen_ok];cases ax:Instr.findNow d tb es 0 with
 | some r=>exact⟨r,rfl,Ry an ar hx es xs 0 ah h ax⟩
 | none=>exact Rw hc.1 (by omega) an hx es xs 0 ah h
theorem Rz{k v:ad}{es:List (k.ag×v.ag)}{x:k.ag}:∀ {j:Nat} {p:k.ag×v.ag},es[j]?=some p->gh k x p.1=true->(∀ jT q,jT<j->es[jT]?=some q->gh k x q.1=false)->yM es x=some p.2/\∀ y,lh es x y=es.set j (p.1,y):=by
 induction es with
 | nil=>simp
 | cons q es aG=>
  intro j p h1 h2 h3;cases j with
  | zero=>
   simp at h1;subst h1;exact⟨by simp[yM,h2],λy=>by simp[lh,h2]⟩
  | succ j=>
   have h0:=h3 0 q (by omega) rfl;obtain⟨aM,aO⟩:=aG (j:=j) (p:=p) (by grind) h2 λjT q' fx s7=>h3 (jT+1) q' (by omega) (by grind);exact⟨by simpa [yM,List.find?_cons,h0]using aM,λy=>by simp[lh,h0,aO y]⟩
theorem RA{k v:ad}{es:List (k.ag×v.ag)}{x:k.ag}(h:∀ p∈es,gh k x p.1=false):yM es x=none/\∀ y,lh es x y=es++[(x,y)]:=by
 induction es with
 | nil=>exact⟨rfl,λ_=>rfl⟩
 | cons q es aG=>
  have h0:=h q (by simp);obtain⟨aM,aO⟩:=aG λp hp=>h p (by grind);exact⟨by simpa [yM,List.find?_cons,h0]using aM,λy=>by simp[lh,h0,aO y]⟩
section
variable {C:bP} {T:Nat->ad} {aY:Nat->Option aJ} {o:Oper} {s:ay} {res:dW}
theorem adg{P:Program}{F:Nat->Prop}{w:World}{v:ad}{z:Value}(hv:v.d_=true\/v.isAgg=true)(i5:jO v z.cells.toList=some [])(i6:(∃ cs,z=.agg cs)<->v.isAgg=true):dN P v F w z v.cM:=by
 obtain⟨c,e,n1,z2⟩:=uA (P:=P) (H:=λ_=>⟨0,.fb⟩) (κ:=λ_=>⟨0,0,0,true⟩) (F:=F) (w:=w) v i5;rw[List.append_nil]at e;refine⟨?_,by grind⟩;have ah:=ht v n1;rcases hv with hv | hv
 ·obtain⟨u,rfl,hu⟩:=Bl hv n1;have E3:∀ cs,z≠.agg cs:=λcs a8=>by
   have:=i6.1 ⟨cs,a8⟩;cases v<;>simp[ad.d_,ad.isAgg]at hv this
  have a8:z.cells=#[z]:=by
   cases z<;>first | rfl | grind
  cases v<;>simp only[ad.d_,Bool.false_eq_true]at hv<;>exact a8
 ·obtain⟨cs,rfl⟩:=i6.2 hv;have aR:cs.toList=c:=e;cases v<;>simp only[ad.isAgg,Bool.false_eq_true]at hv
  ·exact⟨cs,rfl,by rw[<-Array.length_toList,aR,ah];rfl⟩
  ·exact⟨cs,rfl,by rw[<-Array.length_toList,aR,ah];rfl⟩
def J4(P:Program)(k v:ad)(F:Nat->Prop)(w:World)(ms:List MapEntry)(xs:List (k.ag×v.ag)):Prop:=
 ms.length=xs.length/\∀ (j:Nat) (e:MapEntry) (p:k.ag×v.ag),ms[j]?=some e->xs[j]?=some p->dN P k F w e.key p.1/\dN P v F w e.val p.2
theorem uw.es{P:Program}{k v:ad}{F:Nat->Prop}{w:World}{ms:Array MapEntry}{clk:Nat}{xs:List (k.ag×v.ag)}(h:uw P k v F w ms clk xs):J4 P k v F w ms.toList xs:=by
 obtain⟨h1,h2,h3,aQ⟩:=h;refine⟨by omega,λj e p he hp=>?_⟩;obtain⟨aB,rfl⟩:=List.getElem?_eq_some_iff.1 hp;obtain⟨fx,rfl⟩:=List.getElem?_eq_some_iff.1 he;obtain⟨a,b,c,d,_⟩:=h3 j aB (by omega);exact⟨⟨a,by grind⟩,c,by grind⟩
theorem adh{a:Act}{w:World}{κ:Nat->bk}{F:Nat->Prop}(G:a_ C s a w κ F){k v:ad}{av:aC}{u:Value}{xs:List (k.ag×v.ag)}(h:(Bz k v av).run s.ab=some xs)(hu:bh C.P s.ab κ F w av u) :
  (u=.map none/\xs=[])\/∃ r ms clk,u=.map (some r)/\w.heap[r]?=some (.map ms clk)/\J4 C.P k v F w ms.toList xs:=by
 have ca:∀ {xs:List (k.ag×v.ag)},br C.P (.map k v) F w [u] xs->(u=.map none/\xs=[])\/∃ r ms clk,u=.map (some r)/\w.heap[r]?=some (.map ms clk)/\J4 C.P k v F w ms.toList xs:=by
  intro xs hx;rcases hx with⟨e1,e2⟩ | ⟨r,ms,clk,e1,h1,h2,h3,aQ,bu,cW⟩
  ·grind
  ·exact .inr ⟨r,ms,clk,(List.cons.inj e1).1,h2,uw.es ⟨h3,aQ,bu,cW⟩⟩
 cases av with
 | val t es=>
  simp only[Bz,ao.bw]at h;exact ca ((dw rfl).1 (EJ h hu)).2
 | jk x=>
  simp only[bh]at hu;subst hu;have hx:u=.map none/\xs=[]:=by
   unfold Bz at h;split at h
   ·grind
   ·simp_all
   ·grind
   ·cases h
  grind
 | fk b g=>
  simp only[Bz,ao.eF,ao.bw]at h;split at h
  ·rename_i az;have aL:=G.bl b;unfold cf at aL;split at h
   ·rename_i k' hL es aa;obtain⟨e,rfl⟩:=kq h;cases e;rw[aa]at aL;obtain⟨ms,clk,h1,h2⟩:=aL;exact .inr ⟨_,ms,clk,hu.2 az.symm (by rw[aa];rfl),h1,h2.es⟩
   ·rename_i k' hL es aa;obtain⟨e,rfl⟩:=kq h;cases e;rw[aa]at aL;have:=hu.2 az.symm (by rw[aa];rfl);simp only[jl]at aL;grind
   grind
  grind
 | _=>cases h
theorem adi{ty:TypeId}{r:Option Operand}(a1:∀ i,o.dst=some i->i<C.nt)(af:o.op=.makeMap ty r)(h:(be C.aI T aY (aS C.aI s.au) o).run s.ab=some res):cj C o s res:=by
 simp only[be,af]at h;split at h
 ·cases h
 ·rename_i RB;have RB:r=none:=by simp_all
  subst RB;split at h
  ·rename_i k v aF;obtain⟨b,ar,an⟩:=qB h;simp only[Option.some.injEq]at an;subst an;intro a w κ F Q G _ _;have cE:(execOp a.eval o).run C.P w=.ok (.value (.map (some w.heap.size))) (w.alloc (.map #[] 0)):=by
    simp[execOp,af,Instr.makeMap]
   have h1:=G.alloc (b:=b) (x:=⟨(s.ab b).gen+1,.mp k v []⟩) (G.gz (a1 b ar)) (Nat.lt_succ_self _) (o:=.map #[] 0) (k:=⟨w.heap.size,0,0,false⟩) rfl λH κ' _ _ _=>
    ⟨#[],0,pJ _ _,rfl,by simp,λi E=>by simp,λi j E=>by simp⟩
   refine gW (by grind) cE ⟨_,F,a_.set (s:=s.b_ b _) h1 a1 ⟨⟨by simp[ay.b_],rfl⟩,λ_ _=>by simp⟩⟩
  ·cases h
theorem adj(hT:dv C.P T){ty:TypeId}{m x:Operand}{ok:Bool}(a1:∀ i,o.dst=some i->i<C.nt)(af:o.op=.lookup ty m x ok)(h:(be C.aI T aY (aS C.aI s.au) o).run s.ab=some res):cj C o s res:=by
 simp only[be,af,yN]at h;split at h
 ·rename_i k v aF;split at h
  ·rename_i hc;simp only[Bool.and_eq_true,Bool.or_eq_true]at hc;obtain⟨i,j,E,mv,gM⟩:=(hT.bR aF (by simp)).mp;simp only[ao.eG,Option.bind_eq_some_iff,bx,ao.bw,Option.some.injEq]at h;obtain⟨es,oQ,⟨y,l⟩,aK,rfl⟩:=h;refine cj.pure (by grind) a1 λa w κ F G aX _=>?_;have aj:=cq G m rfl aX.1;have hx:=BF G aK (cq G x rfl aX.2);obtain⟨inf,z,i1,i2,i3,i4,i5,i6⟩:=j_ gM.j9;have hzero:dN C.P v F w z v.cM:=adg hc.2 i5 i6;have fin:∀ (u:Value) (q:Option v.ag),dN C.P v F w u (q.getD v.cM)->bh C.P s.ab κ F w (QT v q ok) (if ok=true then .tuple #[u,.bool q.isSome] else u):=by
    intro u q h3;cases ok with
    | true=>
     refine⟨[u,.bool q.isSome],rfl,rfl,λi E=>?_⟩;match i,E with
     | 0,_=>exact h3
     | 1,_=>exact eQ.2 rfl
    | false=>exact h3
   have lP:sY k=true:=hc.1;have eU:k.ks=true/\k.jQ<=100:=by simpa [sY]using lP
   rcases adh G oQ aj with⟨hu,ax⟩ | ⟨r,ms,clk,hu,hw,jW⟩
   ·subst ax;have dE:=(B1 (em:=true) k 10000 eU.1 (by omega)).1 mv hx;obtain⟨f,f1,f2⟩:=wL (β:=v.ag) (xs:=[]) (es:=[]) lP mv hx rfl (λj e p h=>by cases h);rcases f2 with⟨rfl,_⟩ | ⟨j,e,p,h1,_⟩
    ·refine⟨_,?_,fin z none hzero⟩;simp only[execOp,af,hu,Instr.lookup,Sem.run_bind,dc E,Result.andThen_ok,Sem.run_pure];simp only[show (#[]:Array MapEntry).isEmpty=true from rfl,dE,Result.andThen_ok,f1];cases ok<;>simp[qz i1 i4]
    grind
   ·have dE:=(B1 (em:=ms.isEmpty) k 10000 eU.1 (by omega)).1 mv hx;obtain⟨f,f1,f2⟩:=wL (β:=v.ag) (xs:=es) (es:=ms.toList) lP mv hx jW.1 (λj e p h1 h2=>by
     have:=(jW.2 j e p h1 h2).1;exact⟨this.1,eP k (λ_ _=>trivial) (cD.refl F w) this.2⟩)
    have ew:(getObj r).run C.P w=.ok (.map ms clk) w:=by simp[getObj,Sem.run,hw]
    rcases f2 with⟨rfl,dX⟩ | ⟨j,e,p,h1,h2,h3,aQ,rfl⟩
    ·refine⟨_,?_,by rw[(RA dX).1];exact fin z none hzero⟩;simp only[execOp,af,hu,Instr.lookup,Sem.run_bind,dc E,Result.andThen_ok,Sem.run_pure,ew,dE,f1,qz i1 i4];rfl
    ·refine⟨_,?_,by rw[(Rz h2 h3 aQ).1];exact fin e.val (some p.2) (jW.2 j e p h1 h2).2⟩;simp only[execOp,af,hu,Instr.lookup,Sem.run_bind,dc E,Result.andThen_ok,Sem.run_pure,ew,dE,f1];rfl
  ·cases h
 ·cases h
theorem J5(P:Program)(w:World)(uL dU:Value):∃ k' w',(Instr.keyThatStays uL dU).run P w=.ok k' w'/\(k'=dU\/k'=uL)/\(w'=w\/w'=w.drew):=by
 unfold Instr.keyThatStays;split
 ·exact⟨dU,w,rfl,.inl rfl,.inl rfl⟩
 ·have aq : (Question.extern "map.whichKeyStays" 2).forced = false := rfl;simp only[Sem.run_bind,run_choose,aq,Bool.false_eq_true,if_false,Result.andThen_ok];split
  ·exact⟨dU,_,rfl,.inl rfl,.inr rfl⟩
  ·exact⟨uL,_,rfl,.inr rfl,.inr rfl⟩
theorem rN{P:Program}{w:World}{r:Nat}{es:Array MapEntry}{clk:Nat}(h:w.heap[r]?=some (.map es clk))(o:Obj):(setObj r o).run P w=.ok () { w with heap:=w.heap.setIfInBounds r o }:=by
 simp[setObj,Sem.run,h]
theorem J6(hT:dv C.P T){ty:TypeId}{m x y:Operand}(J2:o.dst=none)(af:o.op=.mapUpdate ty m x y\/o.op=.insert ty m x y)(h:(be C.aI T aY (aS C.aI s.au) o).run s.ab=some res):cj C o s res:=by
 have ar:∀ c,o.op≠.defer c:=by grind
 have ku:∀ aD,be C.aI T aY aD o=qy T aD ty m x y:=λaD=>by rcases af with af | af<;>simp only[be,af]
 have hex:∀ aD w,(execOp aD o).run C.P w=(do Instr.mapUpdate ty (aD m) (aD x) (aD y);pure .skip:Sem Next).run C.P w:=λaD w=>by rcases af with af | af<;>simp only[execOp,af]
 rw[ku]at h;simp only[qy]at h;split at h
 ·rename_i k v aF;obtain⟨kR,y7,E,mv,gM⟩:=(hT.bR aF (by simp)).mp;split at h
  ·rename_i hc;split at h
   ·rename_i b g tc;simp only[ao.eG,Option.bind_eq_some_iff,ao.run_bind,ao.eF,ao.bw]at h;obtain⟨⟨dk,nX⟩,hx,⟨mw,nY⟩,aK,h⟩:=h;split at h
    ·rename_i az;obtain⟨az,pO⟩:=az;have pO:b ∉ nX++nY:=by
      grind
     split at h
     ·rename_i k' hL es aa;simp only[Option.map_eq_some_iff]at h;obtain⟨RC,oQ,rfl⟩:=h;obtain⟨e,rfl⟩:=kq oQ;cases e;intro a w κ F Q G aX _;obtain⟨F',f1,aW,f2⟩:=a_.kO ((mr hx).append (mr aK)) G;have aj:bh C.P s.ab κ F w (use (aS C.aI s.au m)).2 (a.eval m):=cq G m rfl aX.1;rw[tc]at aj;have kv:=aj.2 az.symm (by rw[aa];rfl);have td:=lS G.bl f1 hx f2.left (cq G x rfl aX.2.1);have E9:=lS G.bl f1 aK f2.right (cq G y rfl aX.2.2);have oT:(s.ca (nX++nY)).ab b=s.ab b:=by simp only[ay.ca];grind
      have aL:=aW.bl b;unfold cf at aL;rw[oT,aa]at aL;obtain⟨ms,clk,hw,tf⟩:=aL;have eU:k.ks=true/\k.jQ<=100:=by simpa [sY]using hc
      have dE:=(B1 (em:=false) k 10000 eU.1 (by omega)).1 mv td;have jW:=tf.es;obtain⟨f,c8,q2⟩:=wL (β:=v.ag) (xs:=es) (es:=ms.toList) hc mv td jW.1 (λj e p h1 h2=>(jW.2 j e p h1 h2).1);have ew:(getObj (κ b).ab).run C.P w=.ok (.map ms clk) w:=by simp[getObj,Sem.run,hw]
      have oR:s.fG ((jq (nX++nY)).run s.ab++[(b,⟨(s.ab b).gen,.mp k v (lh es dk mw)⟩)])=(s.ca (nX++nY)).b_ b ⟨(s.ab b).gen,.mp k v (lh es dk mw)⟩:=by
       rw[BJ,s4]
      have fS:eZ (s.ca (nX++nY)).ab κ (λi=>if i=b then (⟨(s.ab b).gen,.mp k v (lh es dk mw)⟩:bt) else (s.ca (nX++nY)).ab i) κ:=
       qv (by rw[oT]) (λh=>by cases h) (λh=>by cases h) (λ_=>by rw[oT,aa];rfl) (λh=>by cases h)
      obtain⟨gV,J7,E_,RD⟩:=tf;have done:∀ (b2:World) (E':Array MapEntry) (Fa:Nat),(b2=w\/b2=w.drew)->
        (execOp a.eval o).run C.P w=.ok .skip { b2 with heap:=b2.heap.setIfInBounds (κ b).ab (.map E' Fa) }->
        (∀ {w'},cD F' w w'->uw C.P k v F' w' E' Fa (lh es dk mw))->
        o.wpIn (du C.r) 0 C.P a w (λa' w'=>b7 C (s.hO o.dst ⟨(use (aS C.aI s.au m)).1/\(use (aS C.aI s.au x)).1/\(use (aS C.aI s.au y)).1,True,.undef,(jq (nX++nY)).run s.ab++[(b,⟨(s.ab b).gen,.mp k v (lh es dk mw)⟩)]⟩) a' w') Q:=by
       intro b2 E' Fa lu cE adk;have cy:b2.heap=w.heap:=by rcases lu with rfl | rfl<;>rfl
       have iJ:cL w b2:=by rcases lu with rfl | rfl<;>exact⟨rfl,rfl,rfl⟩
       refine EW ar cE ⟨κ,F',?_⟩;simp only[ay.hO];rw[oR,J2];refine aW.oL (b:=b) (x:=⟨(s.ab b).gen,.mp k v (lh es dk mw)⟩) (by rw[oT,aa];rfl) rfl fS (λh=>by cases h) (λ_=>by rw[oT,aa];rfl) (λr J8=>?_) (by grind) ⟨iJ.os,iJ.tape,iJ.output⟩ λH _ _ he=>?_
       ·grind
       ·have b1:(κ b).ab<w.heap.size:=(Array.getElem?_eq_some_iff.1 hw).1;exact⟨E',Fa,by grind,adk he⟩
      rcases q2 with⟨rfl,dX⟩ | ⟨j,e,p,h1,h2,h3,aQ,rfl⟩
      ·refine done w (ms.push { key:=a.eval x,val:=a.eval y,born:=clk }) (clk+1) (.inl rfl) ?_ λ{w'} he=>?_
       ·rw[hex];simp only[kv,Instr.mapUpdate,Sem.run_bind,dc E,Result.andThen_ok,ew,dE,c8,rN hw,Sem.run_pure]
       ·rw[(RA dX).2];refine⟨by grind,?_,λi E dn=>?_,λi j E aB e=>?_⟩
        ·rw[List.map_append,List.nodup_append];refine⟨J7,by simp,λq bd q' s7=>?_⟩;obtain⟨p,hp,rfl⟩:=List.mem_map.1 bd;simp only[List.map_cons,List.map_nil,List.mem_singleton]at s7;subst s7;intro e;have:=dX p hp;rw[e,(J3 k eU.1 _ _).2 rfl]at this;grind
        ·by_cases pS:i<es.length
         ·obtain⟨aM,aO,bz,f',oV⟩:=E_ i pS (by omega);have e1:(es++[(dk,mw)])[i]=es[i]:=List.getElem_append_left pS;have e2:(ms.push { key:=a.eval x,val:=a.eval y,born:=clk })[i]=ms[i]'(by omega):=Array.getElem_push_lt (by omega);rw[e1,e2];exact⟨aM,eP k (λ_ h=>h) he aO,bz,eP v (λ_ h=>h) he f',by omega⟩
         ·have adl:i=es.length:=by grind
          subst adl;have e1:(es++[(dk,mw)])[es.length]=(dk,mw):=by simp
          have e2:(ms.push { key:=a.eval x,val:=a.eval y,born:=clk })[es.length]={ key:=a.eval x,val:=a.eval y,born:=clk }:=by
           grind
          rw[e1,e2];exact⟨td.1,eP k (λ_ h=>h) he td.2,E9.1,eP v (λ_ h=>h) he E9.2,by simp⟩
        ·have born:∀ i (h:i<(ms.push { key:=a.eval x,val:=a.eval y,born:=clk }).size),(∃ cX:i<ms.size,(ms.push { key:=a.eval x,val:=a.eval y,born:=clk })[i]=ms[i])\/(i=ms.size/\((ms.push { key:=a.eval x,val:=a.eval y,born:=clk })[i]).born=clk):=by
          grind
         grind
      ·have aB:j<es.length:=(List.getElem?_eq_some_iff.1 h2).1;have wM:j<ms.size:=by omega
       have J9:ms[j]=e:=by
        grind
       have mx:es[j]=p:=(List.getElem?_eq_some_iff.1 h2).2;have adm:dk=p.1:=(J3 k eU.1 _ _).1 h3;obtain⟨iZ,b2,bY,cm,dQ⟩:=J5 C.P w e.key (a.eval x);have lu:b2.heap[(κ b).ab]?=some (.map ms clk):=by rcases dQ with rfl | rfl<;>exact hw
       refine done b2 (ms.modify j λe=>{ e with key:=iZ,val:=a.eval y }) clk dQ ?_ λ{w'} he=>?_
       ·rw[hex];rw[Nat.zero_add]at c8;simp only[kv,Instr.mapUpdate,Sem.run_bind,dc E,Result.andThen_ok,ew,dE,c8];have nu:((ms[j]?).map (·.key)).getD (a.eval x)=e.key:=by
         grind
        rw[nu,bY];simp only[Result.andThen_ok,rN lu,Sem.run_pure]
       ·rw[(Rz h2 h3 aQ).2];refine⟨by grind,?_,λi E dn=>?_,λi jT E fx aR=>?_⟩
        ·have:(es.set j (p.1,mw)).map (·.1)=es.map (·.1):=by
          apply List.ext_getElem?;grind
         grind
        ·have pS:i<es.length:=by grind
         have J_:i<ms.size:=by omega
         obtain⟨aM,aO,bz,f',oV⟩:=E_ i pS J_;by_cases y8:j=i
         ·subst y8;have e1:(es.set j (p.1,mw))[j]=(p.1,mw):=by simp
          have e2:(ms.modify j λe=>{ e with key:=iZ,val:=a.eval y })[j]={ key:=iZ,val:=a.eval y,born:=ms[j].born }:=by grind
          rw[e1,e2];have uE:dN C.P k F' w iZ p.1:=by
           rcases cm with rfl | rfl
           ·grind
           ·rw[<-J9,<-mx];exact⟨aM,aO⟩
          exact⟨uE.1,eP k (λ_ h=>h) he uE.2,E9.1,eP v (λ_ h=>h) he E9.2,oV⟩
         ·have e1:(es.set j (p.1,mw))[i]=es[i]:=by grind
          have e2:(ms.modify j λe=>{ e with key:=iZ,val:=a.eval y })[i]=ms[i]:=by grind
          rw[e1,e2];exact⟨aM,eP k (λ_ h=>h) he aO,bz,eP v (λ_ h=>h) he f',oV⟩
        grind
     grind
    grind
   ·cases h
  ·cases h
 ·cases h
end
end Go.Fer
namespace Go.Fer
open Go.RowKit
section
variable {C:bP} {T:Nat->ad} {aY:Nat->Option aJ} {o:Oper} {s:ay} {res:dW}
theorem RE{P:Program}{F:Nat->Prop}{w:World}{e:ad}{z:Value}(bu:jO e z.cells.toList=some [])(n:Nat) :
  fT P e F w ((Array.range (n*e.size)).map (λi=>z.cells[i % z.cells.size]!)).toList (List.replicate n e.cM):=by
 obtain⟨c,ec,n1,z2⟩:=uA (P:=P) (H:=λ_=>⟨0,.fb⟩) (κ:=λ_=>⟨0,0,0,true⟩) (F:=F) (w:=w) e bu;rw[List.append_nil]at ec;have ti:z.cells.size=e.size:=by rw[<-Array.length_toList,ec];exact ht e n1
 refine⟨by simp,λi E=>?_⟩;have dn:i<n:=by grind
 have hle:(i+1)*e.size<=n*e.size:=Nat.mul_le_mul_right _ (by omega);rw[Nat.add_mul]at hle;have:((((Array.range (n*e.size)).map (λi=>z.cells[i % z.cells.size]!)).toList.drop (i*e.size)).take e.size)=z.cells.toList:=by
  apply List.ext_getElem?;intro j;simp only[List.getElem?_take,List.getElem?_drop];split
  ·rename_i aB;have fx:j<z.cells.size:=by omega
   rw[Array.getElem?_toList,Array.getElem?_toList];have y4:(i*e.size+j) % z.cells.size=j:=by rw[ti,Nat.add_comm,Nat.add_mul_mod_self_right,Nat.mod_eq_of_lt aB]
   grind
  grind
 grind
theorem adn{n:Int}(h0:0<=n)(h1:n<=4294967296):IntKind.i64.wrap n=n:=by
 simp only[IntKind.wrap,IntKind.signed,IntKind.bits];grind
theorem ado(hT:dv C.P T){ty:TypeId}{l c:Operand}(a1:∀ i,o.dst=some i->i<C.nt)(af:o.op=.makeSlice ty l c)(h:(be C.aI T aY (aS C.aI s.au) o).run s.ab=some res):cj C o s res:=by
 simp only[be,af,ER]at h;split at h
 ·rename_i e aF;split at h
  ·rename_i n m ah aj;have cS:=hT.bR aF (by simp);obtain⟨jv,aB,iK,n2⟩:=cS.sl;obtain⟨inf,z,i1,i2,i3,i4,i5,i6⟩:=j_ iK.j9;obtain⟨b,ar,an⟩:=qB h;simp only[Option.some.injEq]at an;subst an;intro a w κ F Q G aX hc;have adp:=nZ (cq G l rfl aX.1) ah;have iJ:=nZ (cq G c rfl aX.2) aj;obtain⟨c0,rfl,c1⟩:0<=n/\n=m/\bX n.toNat:=hc;unfold bX at c1;obtain⟨k,rfl⟩:∃ k:Nat,n=k:=⟨n.toNat,by omega⟩
   simp only[Int.toNat_natCast]at c1;have hw:IntKind.i64.wrap (k:Int)=k:=adn (by omega) (by omega);let cs:Array Value:=(Array.range (k*e.size)).map (λi=>z.cells[i % z.cells.size]!);have iW:fT C.P e F w cs.toList (List.replicate k e.cM):=RE i5 k;have awe:inf.bytes*k<=2 ^ 47:=by
    calc inf.bytes*k<=1024*4294967296:=Nat.mul_le_mul i3 (by omega)
     _<=2 ^ 47:=by decide
   have cE:(execOp a.eval o).run C.P w=.ok (.value (.slice (some ⟨w.heap.size,0,none⟩) k k)) (w.alloc (.cells cs jv)):=by
    have adq:¬((inf.bytes:Int)*(k:Int) > 2 ^ 48):=by
     omega
    have my:¬((k:Int)<0):=by omega
    have wK:¬(k*inf.bytes > roomBytes):=by
     have:roomBytes=2 ^ 47:=rfl;grind
    have uE:¬((k:Int) > (k:Int)):=by omega
    simp only[execOp,af,Instr.makeSlice,adp.1,iJ.1,Sem.run_bind,dc aB,Result.andThen_ok,asInt,asIntOf,Sem.run_pure,ET i1,hw,adq,my,uE,decide_false,Bool.or_false,Bool.false_or,Bool.false_eq_true,if_false,run_askRoom,Int.toNat_natCast,rD i1,i2];by_cases rO:k*e.size=0
    ·have adr:cs=#[]:=Array.eq_empty_of_size_eq_zero (by grind);rw[adr];have ads:(Array.map (λ_:Nat=>(default:Value)) (Array.range 0))=#[]:=by simp
     simp[rO,newRow];rw[ads]
    ·simp[rO,qz i1 i4,newRow,cs]
   have h3:=G.BU (b:=b) (g:=(s.ab b).gen+1) (zs:=List.replicate k e.cM) (k:=⟨w.heap.size,0,k,false⟩) (w':=w.alloc (.cells cs jv)) (Nat.lt_succ_self _) (.inr rfl) (by simp) (λr G=>oK w _ G) (λ_=>by simp) ⟨rfl,rfl,rfl⟩
    (λH κ'=>⟨λh=>(by cases h),λ_=>⟨cs,jv,pJ w _,by grind,by simp,by grind,(iW.BS (pre:=[]) (post:=[]) (by simp)).later (cD.alloc G.cK _)⟩⟩)
   refine gW (by grind) cE ⟨_,F,a_.set (s:=s.b_ b _) h3 a1 ⟨⟨by simp[ay.b_],rfl⟩,λ_ _=>by simp[ay.b_,bk.slice,bA.len]⟩⟩
  ·cases h
 ·cases h
theorem fT.take{P:Program}{e:ad}{F:Nat->Prop}{w:World}{all:List Value}{xs:List e.ag}(h:fT P e F w all xs){n:Nat}(ax:n<=xs.length):fT P e F w (all.take (n*e.size)) (xs.take n):=by
 have hle:n*e.size<=xs.length*e.size:=Nat.mul_le_mul_right _ ax;refine⟨by simp only[List.length_take,h.1];simp,λi E=>?_⟩;have dn:i<n:=by grind
 have adt:(i+1)*e.size<=n*e.size:=Nat.mul_le_mul_right _ (by omega);rw[Nat.add_mul]at adt;have:((all.take (n*e.size)).drop (i*e.size)).take e.size=(all.drop (i*e.size)).take e.size:=by
  rw[List.drop_take,List.take_take,Nat.min_eq_left (by omega)]
 rw[this];simpa using h.2 i (by omega)
theorem RF{P:Program}{w:World}{e:ad}{q:Option Addr}{n cap:Nat}{xs:List e.ag}{F:Nat->Prop}(ax:n<=xs.length)(h:(q=none/\xs=[]/\cap=0)\/∃ p all,q=some p/\fT P e F w all xs/\kc w p all) :
  ∃ all,(Builtin.firstCells e.size n (.slice q xs.length cap)).run P w=.ok all.toArray w/\fT P e F w all (xs.take n):=by
 rcases h with⟨rfl,rfl,rfl⟩ | ⟨p,all,rfl,bT,a2⟩
 ·exact⟨[],by rfl,by simp[fT]⟩
 ·have hle:n*e.size<=xs.length*e.size:=Nat.mul_le_mul_right _ ax;refine⟨all.take (n*e.size),?_,bT.take ax⟩;simp only[Builtin.firstCells];have ah:(all.take (n*e.size)).length=n*e.size:=by simp only[List.length_take,bT.1];omega
  have G:kc w p (all.take (n*e.size)):=⟨λh0=>a2.1 (by grind),λj aB=>by
   have fx:j<all.length:=by grind
   rw[List.getElem_take];exact a2.2 j fx⟩
  have:=EV (P:=P) G;grind
theorem lb.fL{P:Program}{e:ad}{F:Nat->Prop}{w w':World}{cs cN:Array Value}{off lo:Nat}{xs zs:List e.ag}{dU:List Value}(h:lb P e F w cs off xs)(he:cD F w w')(ax:fT P e F w dU zs)(ah:lo+zs.length<=xs.length)
  (oO:off+xs.length*e.size<=cs.size) (hc:cN.toList=cs.toList.take (off+lo*e.size)++(dU++cs.toList.drop (off+lo*e.size+dU.length))):lb P e F w' cN off (Go.Fer.fL xs lo zs):=by
 have hlen:(Go.Fer.fL xs lo zs).length=xs.length:=by simp[Go.Fer.fL];omega
 have adu:(lo+zs.length)*e.size<=xs.length*e.size:=Nat.mul_le_mul_right _ ah;rw[Nat.add_mul]at adu;have oS:=ax.1;have gj:(cs.toList.take (off+lo*e.size)).length=off+lo*e.size:=by grind
 intro i E;rw[hlen]at E;have adv:i<lo\/(lo<=i/\i<lo+zs.length)\/lo+zs.length<=i:=by omega
 rcases adv with h1 | ⟨h1,h2⟩ | h1
 ·obtain⟨a7,d1,d2⟩:=h i E;have Ro:=ht e d2;have e1:(Go.Fer.fL xs lo zs)[i]'(by omega)=xs[i]:=by
   simp only[Go.Fer.fL,List.append_assoc];grind
  rw[e1];refine⟨a7,λj aB=>?_,eP e (λ_ h=>h) he d2⟩;have hle:(i+1)*e.size<=lo*e.size:=Nat.mul_le_mul_right _ (by omega);rw[Nat.add_mul]at hle;rw[<-Array.getElem?_toList,hc,List.getElem?_append_left (by omega),List.getElem?_take,if_pos (by omega),Array.getElem?_toList];grind
 ·have BX:=ax.BS (pre:=cs.toList.take (off+lo*e.size)) (post:=cs.toList.drop (off+lo*e.size+dU.length)) hc;obtain⟨a7,d1,d2⟩:=BX (i - lo) (by omega);have e1:(Go.Fer.fL xs lo zs)[i]'(by omega)=zs[i - lo]'(by omega):=by
   simp only[Go.Fer.fL,List.append_assoc];grind
  rw[e1];refine⟨a7,λj aB=>?_,eP e (λ_ h=>h) he d2⟩;have:=d1 j aB;rw[gj]at this;rw[<-this];congr 1;have:i*e.size=lo*e.size+(i - lo)*e.size:=by rw[<-Nat.add_mul];grind
  omega
 ·obtain⟨a7,d1,d2⟩:=h i E;have Ro:=ht e d2;have e1:(Go.Fer.fL xs lo zs)[i]'(by omega)=xs[i]:=by
   simp only[Go.Fer.fL,List.append_assoc];have fS:(xs.take lo).length=lo:=by grind
   rw[List.getElem_append_right (by omega),List.getElem_append_right (by omega)];grind
  rw[e1];refine⟨a7,λj aB=>?_,eP e (λ_ h=>h) he d2⟩;have Fb:(lo+zs.length)*e.size<=i*e.size:=Nat.mul_le_mul_right _ h1;rw[Nat.add_mul]at Fb;rw[<-Array.getElem?_toList,hc,List.getElem?_append_right (by omega),List.getElem?_append_right (by omega),List.getElem?_drop,gj];grind
theorem fT.one{P:Program}{e:ad}{F:Nat->Prop}{w:World}{dU:List Value}{ys:List e.ag}(h:fT P e F w dU ys)(kP:0<e.size):∀ v∈dU,v.oneCell'=true:=by
 intro v hv;obtain⟨j,aB,rfl⟩:=List.mem_iff_getElem.1 hv;have hdiv:j / e.size<ys.length:=(Nat.div_lt_iff_lt_mul kP).2 (by rw[<-h.1];exact aB);have nq:=h.2 (j / e.size) hdiv;have ig:=yI (P:=P) (H:=λ_=>⟨0,.fb⟩) (κ:=λ_=>⟨0,0,0,true⟩) e nq;have y4:=Nat.mod_lt j kP;have ac3:j / e.size*e.size+j % e.size=j:=Nat.div_add_mod' j e.size;have BW:((dU.drop (j / e.size*e.size)).take e.size).length=e.size:=ht e nq;have:=(ig.kr (j % e.size) (by rw[ig.len,BW];omega)).2;grind
theorem adw(hT:dv C.P T){args:Array Operand}{cR:Array TypeId}(a1:∀ i,o.dst=some i->i<C.nt)(af:o.op=.call { callee:=.builtin .copy,args:=args,argTypes:=cR })(h:(be C.aI T aY (aS C.aI s.au) o).run s.ab=some res):cj C o s res:=by
 obtain⟨args⟩:=args;obtain⟨cR⟩:=cR;have ar:∀ c,o.op≠.defer c:=by grind
 simp only[be,af,mn,ES]at h;split at h
 ·rename_i x y t u;split at h
  ·rename_i e e2 aF hu;have cS:=hT.bR aF (by simp);obtain⟨jv,aB,iK,n2⟩:=cS.sl;obtain⟨inf,z,i1,i2,i3,i4,i5,i6⟩:=j_ iK.j9;have kP:0<e.size:=Nat.pos_of_ne_zero n2;split at h
   ·rename_i b g lo E B2;simp only[ao.eG,Option.bind_eq_some_iff,ao.eF,ao.bw]at h;obtain⟨⟨ys,l⟩,jS,h⟩:=h;split at h
    ·rename_i az;split at h
     ·rename_i aR xs aa;split at h
      ·rename_i qF;subst qF;simp only[Option.some.injEq]at h;subst h;intro a w κ F Q G aX _;obtain⟨q',cap',s9,nv⟩:=rK G jS (cq G y rfl aX.2);have hx:bh C.P s.ab κ F w (use (aS C.aI s.au x)).2 (a.eval x):=cq G x rfl aX.1;have aL:=G.bl b;unfold cf at aL;rw[aa]at aL;have place:lo<=E.getD xs.length/\E.getD xs.length<=xs.length/\(((κ b).eI=true/\∃ cap,a.eval x=.slice none 0 cap)\/((κ b).eI=false/\∃ lX cap,a.eval x=.slice (some ⟨(κ b).ab,lX,none⟩) (E.getD xs.length - lo) cap/\(lo<E.getD xs.length->lX=(κ b).off+lo*aR.size))):=by
        split at B2
        ·rename_i aZ g' eK;simp only[Option.some.injEq,Prod.mk.injEq]at B2;obtain⟨rfl,rfl,rfl,rfl⟩:=B2;rw[eK]at hx;have hv:=hx.2 az.symm (by rw[aa];rfl);rw[aa]at hv;simp only[bA.len]at hv;refine⟨Nat.zero_le _,Nat.le_refl _,?_⟩;cases ax:(κ aZ).eI with
         | true=>exact .inl ⟨rfl,0,by simpa [bk.slice,ax]using hv⟩
         | false=>exact .inr ⟨rfl,(κ aZ).off,(κ aZ).cap,by simpa [bk.slice,ax]using hv,λ_=>by simp⟩
        ·rename_i aZ g' awf dn eK;simp only[Option.some.injEq,Prod.mk.injEq]at B2;obtain⟨rfl,rfl,rfl,rfl⟩:=B2;rw[eK]at hx;obtain⟨⟨aM,aO⟩,bz⟩:=hx.2 az.symm (by rw[aa];rfl);rw[aa]at aO bz;simp only[bA.len,bA.eE]at aO bz;refine⟨aM,aO,?_⟩;rcases bz with⟨ax,hv⟩ | ⟨ax,lX,hv,o1,f_⟩
         ·grind
         ·obtain⟨cs,hB,c1,c2,c3,c4,c5⟩:=aL.2 ax;grind
        grind
       obtain⟨jt,pP,lW⟩:=place;have RG:∀ m:Nat,m<=ys.length->m<=xs.length->fw .i64 (m:Int):=by
        intro m _ aj;have:=yV G (b:=b) (by rw[aa];rfl);rw[aa]at this;simp only[bA.len]at this;exact BH (by omega)
       generalize RH:E.getD xs.length=cy at *
       have Ri:Nat.min ys.length (cy - lo)=min (cy - lo) ys.length:=Nat.min_comm _ _;have adx:(ys.take (cy - lo)).length=min (cy - lo) ys.length:=by simp
       have y9:(fL xs lo (ys.take (cy - lo))).length=xs.length:=by simp[fL];omega
       have fS:eZ s.ab κ (λi=>if i=b then (⟨(s.ab b).gen,.a6 aR (fL xs lo (ys.take (cy - lo)))⟩:bt) else s.ab i) κ:=
        qv rfl (λh=>by cases h) (λ_=>by rw[aa];exact⟨rfl,y9,rfl⟩) (λh=>by cases h) (λh=>by cases h)
       have mq:∀ (w':World) v,(Builtin.copy_ #[t,u] o.type #[a.eval x,a.eval y]).run C.P w=.ok v w'->(execOp a.eval o).run C.P w=.ok (.value v) w':=by
        intro w' v hv;refine wG af ?_;simp[builtin,hv]
       rcases lW with⟨ax,cap,rL⟩ | ⟨ax,lX,cap,rL,ady⟩
       ·have hA:=aL.1 ax;subst hA;have adz:cy=0:=by grind
        subst adz;have J':lo=0:=by omega
        subst J';obtain⟨dU,dF,dI⟩:=RF (P:=C.P) (w:=w) (n:=0) (Nat.zero_le _) nv;have cE:(Builtin.copy_ #[t,u] o.type #[a.eval x,a.eval y]).run C.P w=.ok (.int .i64 ((0:Nat):Int)) w:=by
         simp only[Builtin.copy_,List.getElem?_toArray,List.getElem?_cons_zero,List.getElem?_cons_succ,Sem.run_bind,dc aB,Result.andThen_ok,rL,s9,Builtin.lenOf,Sem.run_pure,rD i1,i2,Nat.min_zero];rw[dF];rfl
        refine gW ar (mq w _ cE) ⟨κ,F,a_.set (s:=s.b_ b _) ?_ a1 (gx.2 ⟨by simp,RG _ (by simp) (by simp)⟩)⟩;have e0:fL ([]:List aR.ag) 0 (ys.take (0 - 0))=[]:=by rfl
        have es:s.b_ b ⟨(s.ab b).gen,.a6 aR (fL ([]:List aR.ag) 0 (ys.take (0 - 0)))⟩=s:=by
         rw[e0];unfold ay.b_;have:(λi=>if i=b then (⟨(s.ab b).gen,.a6 aR []⟩:bt) else s.ab i)=s.ab:=by
          funext i;by_cases E:i=b
          ·subst E;simp only[if_true];rw[<-aa]
          grind
         rw[this]
        grind
       ·obtain⟨cs,hB,c1,c2,c3,c4,c5⟩:=aL.2 ax;have BL:min (cy - lo) ys.length<=ys.length:=Nat.min_le_right _ _;obtain⟨dU,dF,dI⟩:=RF (P:=C.P) (w:=w) BL nv;have kt:ys.take (min (cy - lo) ys.length)=ys.take (cy - lo):=by
         simp
        rw[kt]at dI;have oS:=dI.1;rw[adx]at oS;have ns:=dI.one kP;have RI:xs.length*aR.size<=(κ b).cap*aR.size:=Nat.mul_le_mul_right _ c3;have B3:(lo+min (cy - lo) ys.length)*aR.size<=xs.length*aR.size:=Nat.mul_le_mul_right _ (by omega);rw[Nat.add_mul]at B3;obtain⟨w',cN,bY,cm,dQ,ln,lp,lU⟩:∃ w' cN,(storeCells ⟨(κ b).ab,lX,none⟩ dU).run C.P w=.ok () w'/\w'.heap[(κ b).ab]?=some (.cells cN hB (0,0))/\cN.toList=cs.toList.take ((κ b).off+lo*aR.size)++(dU++cs.toList.drop ((κ b).off+lo*aR.size+dU.length))/\
          (∀ r,r≠(κ b).ab->w'.heap[r]?=w.heap[r]?)/\w'.heap.size=w.heap.size/\cL w w':=by
         by_cases b1:lo<cy
         ·rw[ady b1];obtain⟨w',cN,bY,cm,dQ,ln,lp,lU⟩:=uG (P:=C.P) dU ((κ b).off+lo*aR.size) 0 w cs c1 (by omega) ns;grind
         ·have h0:min (cy - lo) ys.length=0:=by omega
          rw[h0,Nat.zero_mul]at oS;have:dU=[]:=List.eq_nil_of_length_eq_zero oS;subst this;exact⟨w,cs,by rfl,c1,by simp,λ_ _=>rfl,rfl,cL.refl w⟩
        have cE:(Builtin.copy_ #[t,u] o.type #[a.eval x,a.eval y]).run C.P w=.ok (.int .i64 ((min (cy - lo) ys.length:Nat):Int)) w':=by
         simp only[Builtin.copy_,List.getElem?_toArray,List.getElem?_cons_zero,List.getElem?_cons_succ,Sem.run_bind,dc aB,Result.andThen_ok,rL,s9,Builtin.lenOf,Sem.run_pure,rD i1,i2];rw[Ri,dF];simp only[Result.andThen_ok,bY];rfl
        refine gW ar (mq w' _ cE) ⟨κ,F,a_.set (s:=s.b_ b _) ?_ a1 (gx.2 ⟨rfl,RG _ (by omega) (by omega)⟩)⟩;refine G.oL (b:=b) (by rw[aa];simp[bA.bI,ax]) (by simp[bA.bI,ax]) fS (λh=>by cases h) (λh=>by cases h) ln lp lU λH mu b1 he=>?_;refine⟨λh=>(by grind),λ_=>⟨cN,hB,cm,?_,by omega,c4,?_⟩⟩
        ·have:cN.size=cs.size:=by
          rw[<-Array.length_toList,dQ];simp only[List.length_append,List.length_take,List.length_drop,Array.length_toList];omega
         omega
        ·exact c5.fL he dI (by omega) (by omega) dQ
      grind
     grind
    grind
   ·cases h
  ·cases h
 ·cases h
theorem RJ(af:(be C.aI T aY (aS C.aI s.au) o).run s.ab=some ⟨True,False,.undef,[]⟩)(h:(be C.aI T aY (aS C.aI s.au) o).run s.ab=some res):cj C o s res:=by
 rw[af]at h;cases h;intro a w κ F Q _ _ hc;grind
end
end Go.Fer
namespace Go.Fer
open Go.RowKit
section
variable {C:bP} {T:Nat->ad} {aY:Nat->Option aJ} {o:Oper} {s:ay} {res:dW}
theorem adA{P:Program}{w:World}{len cap:Nat}{lo:Option Value}{l:Option Int}{k k':IntKind}{h m:Int}(ah:(lo=none/\l=none)\/∃ k m,lo=some (.int k m)/\l=some m)
  (h1:0<=cV l) (h2:cV l<=h) (h3:h<=m) (aQ:m<=(cap:Int)):(Instr.sliceBounds true len cap lo (some (.int k h)) (some (.int k' m))).run P w=.ok ((cV l).toNat,h.toNat,m.toNat) w:=by
 rcases ah with⟨rfl,rfl⟩ | ⟨k,n,rfl,rfl⟩<;>simp only[cV]at h1 h2 ⊢
 ·have e1:0<=m/\m<=(cap:Int):=by omega
  have e2:0<=h/\h<=m:=by omega
  have e3:max m 0=m:=by omega
  simp[Instr.sliceBounds,Instr.sliceBound,asIntOf,e1,e2,e3]
 ·have e1:0<=m/\m<=(cap:Int):=by omega
  have e2:0<=h/\h<=m:=by omega
  have e3:max m 0=m:=by omega
  have e4:0<=n/\n<=h:=by omega
  have dD:max h 0=h:=by omega
  simp[Instr.sliceBounds,Instr.sliceBound,asIntOf,e1,e2,e3,e4,dD]
theorem adB(hT:dv C.P T){ty:TypeId}{x:Operand}{lo E:Option Operand}{oM:Operand}(a1:∀ i,o.dst=some i->i<C.nt)(af:o.op=.slice ty x lo E (some oM))(h:(be C.aI T aY (aS C.aI s.au) o).run s.ab=some res):cj C o s res:=by
 simp only[be,af,Option.isSome_some,if_true,EO]at h;split at h
 ·rename_i ol l qx cy uB m rI JR adC;have ar:∀ c,o.op≠.defer c:=by grind
  split at h
  ·rename_i e0 aF;have cS:=hT.bR aF (by simp);obtain⟨j,aB,iK,n2⟩:=cS.sl;simp only[ao.eG,Option.bind_eq_some_iff]at h;obtain⟨⟨c,v⟩,fy,h⟩:=h;simp only[bx,ao.bw,Option.some.injEq]at h;subst h;have runs:∀ (a:Act) (w:World) κ F,a_ C s a w κ F->ol->qx->uB->∀ (q:Option Addr) (n cap:Nat),a.eval x=.slice q n cap->0<=cV l->cV l<=cy->cy<=m->m<=(cap:Int)->
     (execOp a.eval o).run C.P w=.ok (.value (.slice (if m.toNat=(cV l).toNat then q else q.map (·.add ((cV l).toNat*e0.size))) (cy.toNat - (cV l).toNat) (m.toNat - (cV l).toNat))) w:=by
    intro a w κ F G BQ BR adD q n cap hv c1 c2 c3 c4;have dr:(lo.map a.eval=none/\l=none)\/∃ k m,lo.map a.eval=some (.int k m)/\l=some m:=by
     rcases BP G rI BQ with⟨rfl,rfl⟩ | ⟨y,k,m,rfl,rfl,e⟩
     ·exact .inl ⟨rfl,rfl⟩
     ·exact .inr ⟨k,m,by simp[e],rfl⟩
    obtain⟨awg,aO,m2,rfl,e2,e3⟩:∃ y k n,E=some y/\cy=n/\a.eval y=.int k n:=by
     rcases BP G JR BR with⟨_,h⟩ | ⟨y,k,m,rfl,h,e⟩
     ·cases h
     ·exact⟨y,k,m,rfl,Option.some.inj h,e⟩
    obtain⟨bz,e4⟩:∃ k,a.eval oM=.int k m:=by
     rcases BP G adC adD with⟨h,_⟩ | ⟨y,k,m,h1,h2,e⟩
     ·cases h
     ·cases h1;cases h2;exact⟨k,e⟩
    subst e2;have:=adA (P:=C.P) (w:=w) (len:=n) (k:=aO) (k':=bz) dr c1 c2 c3 c4;simp[execOp,af,hv,Instr.sliceAt,Instr.slice,dc aB,e3,e4,this,iK.size]
   unfold QS at fy;split at fy
   ·rename_i e xs eK;simp only[ao.bw]at fy;split at fy
    ·rename_i he;subst he;simp only[Option.some.injEq,Prod.mk.injEq]at fy;obtain⟨rfl,rfl⟩:=fy;refine cj.pure ar a1 λa w κ F G aX hc=>?_;have hx:bh C.P s.ab κ F w (use (aS C.aI s.au x)).2 (a.eval x):=cq G x rfl aX.1;rw[eK]at hx;obtain⟨_,a',cap,e1,m1,m2,m3,m4⟩:=(dw rfl).1 hx;have e1:=(List.cons.inj e1).1;simp only[fe]at hc;obtain⟨c1,c2,c3,c4⟩:=hc;subst c3;have hlen:((xs.take cy.toNat).drop (cV l).toNat).length=cy.toNat - (cV l).toNat:=by
      grind
     have awh:(xs.length:Int)<=cap:=by omega
     refine⟨_,runs a w κ F G aX.2.1 aX.2.2.1 aX.2.2.2 a' xs.length cap e1 c1 c2 (Int.le_refl _) (by omega),(dw rfl).2 ⟨rfl,?_⟩,_,by rw[hlen]⟩;refine⟨_,_,by rw[hlen],by omega,by omega,?_,λp hp uy=>?_⟩
     ·intro ax;split at ax
      ·omega
      ·cases a' with
       | none=>grind
       | some q=>cases ax
     ·cases a' with
      | none=>grind
      | some q=>
       obtain⟨dF,dI,js⟩:=m4 q rfl (by omega);have bd:p=⟨q.block,q.off+(cV l).toNat*e.size,none⟩:=by
        split at hp
        ·omega
        ·simp only[Option.map_some,Option.some.injEq]at hp;rw[BO dI]at hp;grind
       subst bd;refine⟨dF,rfl,λi E=>?_⟩;rw[hlen]at E;obtain⟨a7,d1,d2⟩:=js ((cV l).toNat+i) (by omega);grind
    grind
   ·rename_i eK;simp only[ao.bw,Option.some.injEq,Prod.mk.injEq]at fy;obtain⟨rfl,rfl⟩:=fy;refine cj.pure ar a1 λa w κ F G aX hc=>?_;have hx:bh C.P s.ab κ F w (use (aS C.aI s.au x)).2 (a.eval x):=cq G x rfl aX.1;rw[eK]at hx;simp only[bh]at hx;simp only[fe]at hc;obtain⟨c1,c2,c3⟩:=hc;have cE:=runs a w κ F G aX.2.1 aX.2.2.1 aX.2.2.2 none 0 0 hx (by omega) (by omega) (by omega) (by omega);have h0:cy.toNat=0:=by omega
    have h1:m.toNat=0:=by omega
    have h2:(cV l).toNat=0:=by omega
    rw[h0,h1,h2]at cE;simp only[if_true,Nat.sub_zero]at cE;exact⟨_,cE,(dw rfl).2 ⟨rfl,none,0,rfl,Nat.le_refl _,by decide,λ_=>rfl,λp hp=>by simp⟩,none,rfl⟩
   ·rename_i b g eK;simp only[ao.eF,ao.bw]at fy;split at fy
    ·rename_i a8;simp only[Bool.and_eq_true,decide_eq_true_eq]at a8;obtain⟨az,eL⟩:=a8;simp only[Option.some.injEq,Prod.mk.injEq]at fy;obtain⟨rfl,rfl⟩:=fy;refine cj.pure ar a1 λa w κ F G aX hc=>?_;have hx:bh C.P s.ab κ F w (use (aS C.aI s.au x)).2 (a.eval x):=cq G x rfl aX.1;rw[eK]at hx;have hv:=hx.2 az.symm eL;obtain⟨dF,dI⟩:=yV G eL;simp only[fe]at hc;obtain⟨c1,c2,c3,c4⟩:=hc;cases ax:(κ b).eI with
     | true=>
      have h0:=dF ax;simp only[bk.slice,ax,if_true]at hv;exact⟨_,runs a w κ F G aX.2.1 aX.2.2.1 aX.2.2.2 none 0 0 hv c1 c2 c3 (by omega),trivial⟩
     | false=>
      have wJ:=JE G eL ax;simp only[bk.slice,ax,Bool.false_eq_true,if_false]at hv;exact⟨_,runs a w κ F G aX.2.1 aX.2.2.1 aX.2.2.2 _ _ _ hv c1 c2 c3 (by omega),trivial⟩
    grind
   ·cases fy
  ·cases h
 ·cases h
theorem adE{b:Nat}{e:ad}(aa:(s.ab b).body=.a6 e []):s.b_ b ⟨(s.ab b).gen,.a6 e []⟩=s:=by
 unfold ay.b_;have:(λi=>if i=b then (⟨(s.ab b).gen,.a6 e []⟩:bt) else s.ab i)=s.ab:=by
  funext i;by_cases E:i=b
  ·subst E;simp only[if_true];rw[<-aa]
  grind
 rw[this]
theorem adF(hT:dv C.P T){args:Array Operand}{cR:Array TypeId}(a1:∀ i,o.dst=some i->i<C.nt)(af:o.op=.call { callee:=.builtin .append,args:=args,argTypes:=cR }){b g lo E:Nat}(hs:wz (aS C.aI s.au) args.toList=some (b,g,lo,E))
  (h:(BA T (aS C.aI s.au) args.toList cR.toList b g lo E).run s.ab=some res):cj C o s res:=by
 obtain⟨args⟩:=args;obtain⟨cR⟩:=cR;have ar:∀ c,o.op≠.defer c:=by grind
 simp only[BA]at h;split at h
 ·rename_i x y t u;have eK:(use (aS C.aI s.au x)).2=.sub b g lo E:=by
   simp only[wz]at hs;grind
  split at h
  ·rename_i e e2 aF hu;have cS:=hT.bR aF (by simp);have uH:=hT.bR hu (by simp);obtain⟨jv,aB,iK,n2⟩:=cS.sl;obtain⟨ac0,fx,_⟩:=uH.sl;obtain⟨inf,z,i1,i2,i3,i4,i5,i6⟩:=j_ iK.j9;have kP:0<e.size:=Nat.pos_of_ne_zero n2;simp only[ao.eG,Option.bind_eq_some_iff,ao.eF,ao.bw]at h;obtain⟨⟨ys,l⟩,jS,h⟩:=h;split at h
   ·rename_i az;split at h
    ·rename_i aR xs aa;split at h
     ·rename_i qF;subst qF;simp only[Option.some.injEq]at h;subst h;intro a w κ F Q G aX hc;change E+ys.length<=xs.length at hc;obtain⟨q',cap',s9,nv⟩:=rK G jS (cq G y rfl aX.2);have hx:bh C.P s.ab κ F w (use (aS C.aI s.au x)).2 (a.eval x):=cq G x rfl aX.1;rw[eK]at hx;have aL:=G.bl b;unfold cf at aL;rw[aa]at aL;obtain⟨⟨aM,aO⟩,bz⟩:=hx.2 az.symm (by rw[aa];rfl);rw[aa]at aO bz;simp only[bA.len,bA.eE]at aO bz;have mq:∀ (w':World) v,(Builtin.append_ #[t,u] o.type #[a.eval x,a.eval y]).run C.P w=.ok v w'->(execOp a.eval o).run C.P w=.ok (.value v) w':=by
       intro w' v hv;refine wG af ?_;simp[builtin,hv]
      have y9:(fL xs E ys).length=xs.length:=by simp[fL];omega
      have fS:eZ s.ab κ (λi=>if i=b then (⟨(s.ab b).gen,.a6 aR (fL xs E ys)⟩:bt) else s.ab i) κ:=
       qv rfl (λh=>by cases h) (λ_=>by rw[aa];exact⟨rfl,y9,rfl⟩) (λh=>by cases h) (λh=>by cases h)
      rcases bz with⟨ax,hv⟩ | ⟨ax,lX,hv,o1,f_⟩
      ·have hA:=aL.1 ax;subst hA;have n5:E=0:=by grind
       subst n5;have J':lo=0:=by omega
       subst J';have JY:ys=[]:=by grind
       subst JY;obtain⟨dU,dF,dI⟩:=y1 (P:=C.P) (w:=w) (cap:=cap') rfl nv;have cE:(Builtin.append_ #[t,u] o.type #[a.eval x,a.eval y]).run C.P w=.ok (.slice none 0 0) w:=by
        rw[hv,s9];simp only[List.length_nil]at dF ⊢;simp[Builtin.append_,dc aB,dc fx,rD i1,Builtin.lenOf];simp_all
       have e0:fL ([]:List aR.ag) 0 []=[]:=by rfl
       refine gW ar (mq w _ cE) ⟨κ,F,a_.set (s:=s.b_ b _) ?_ a1 ⟨⟨by simp[ay.b_,az],rfl⟩,λ_ _=>⟨by simp,.inl ⟨ax,rfl⟩⟩⟩⟩;rw[e0,adE aa];exact G
      ·obtain⟨cs,hB,c1,c2,c3,c4,c5⟩:=aL.2 ax;obtain⟨dU,dF,dI⟩:=y1 (P:=C.P) (w:=w) (cap:=cap') rfl nv;have oS:=dI.1;have ns:=dI.one kP;have RI:xs.length*aR.size<=(κ b).cap*aR.size:=Nat.mul_le_mul_right _ c3;have B3:(E+ys.length)*aR.size<=xs.length*aR.size:=Nat.mul_le_mul_right _ hc;rw[Nat.add_mul]at B3;obtain⟨w',cN,bY,cm,dQ,ln,lp,lU⟩:∃ w' cN,(storeCells ⟨(κ b).ab,lX+(E - lo)*aR.size,none⟩ dU).run C.P w=.ok () w'/\w'.heap[(κ b).ab]?=some (.cells cN hB (0,0))/\cN.toList=cs.toList.take ((κ b).off+E*aR.size)++(dU++cs.toList.drop ((κ b).off+E*aR.size+dU.length))/\
         (∀ r,r≠(κ b).ab->w'.heap[r]?=w.heap[r]?)/\w'.heap.size=w.heap.size/\cL w w':=by
        by_cases b1:lo<(κ b).cap
        ·have y_:lX+(E - lo)*aR.size=(κ b).off+E*aR.size:=by
          rw[f_ b1,Nat.add_assoc,<-Nat.add_mul];grind
         rw[y_];obtain⟨w',cN,bY,cm,dQ,ln,lp,lU⟩:=uG (P:=C.P) dU ((κ b).off+E*aR.size) 0 w cs c1 (by omega) ns;grind
        ·have h0:ys.length=0:=by omega
         rw[h0,Nat.zero_mul]at oS;have:dU=[]:=List.eq_nil_of_length_eq_zero oS;subst this;exact⟨w,cs,by rfl,c1,by simp,λ_ _=>rfl,rfl,cL.refl w⟩
       have wK:E - lo+ys.length<=(κ b).cap - lo:=by omega
       have cE:(Builtin.append_ #[t,u] o.type #[a.eval x,a.eval y]).run C.P w=.ok (.slice (some ⟨(κ b).ab,lX,none⟩) (E - lo+ys.length) ((κ b).cap - lo)) w':=by
        rw[hv,s9];simp only[Builtin.append_,List.getElem?_toArray,List.getElem?_cons_zero,List.getElem?_cons_succ,Sem.run_bind,dc aB,dc fx,Result.andThen_ok,rD i1,i2,Sem.run_pure,Builtin.lenOf,Bool.false_eq_true,if_false,if_pos wK,Bool.not_false,if_true,dF,uD];simp_all
       refine gW ar (mq w' _ cE) ⟨κ,F,a_.set (s:=s.b_ b _) ?_ a1 ⟨⟨by simp[ay.b_,az],rfl⟩,λ_ _=>⟨by simp only[ay.b_,if_true,bA.len,y9];omega,.inr ⟨ax,lX,?_,?_,?_⟩⟩⟩⟩
       ·refine G.oL (b:=b) (by rw[aa];simp[bA.bI,ax]) (by simp[bA.bI,ax]) fS (λh=>by cases h) (λh=>by cases h) ln lp lU λH mu b1 he=>?_;refine⟨λh=>(by grind),λ_=>⟨cN,hB,cm,?_,by omega,c4,?_⟩⟩
        ·have:cN.size=cs.size:=by
          rw[<-Array.length_toList,dQ];grind
         omega
        ·exact c5.fL he dI hc (by omega) dQ
       ·grind
       ·simp only[ay.b_,if_true,bA.eE];exact o1
       ·simp only[ay.b_,if_true,bA.eE];exact f_
     grind
    grind
   grind
  ·cases h
 ·cases h
theorem adG(hT:dv C.P T){args:Array Operand}{cR:Array TypeId}(a1:∀ i,o.dst=some i->i<C.nt)(af:o.op=.call { callee:=.builtin .clear,args:=args,argTypes:=cR })
  (h:(BB T (aS C.aI s.au) args.toList cR.toList).run s.ab=some res):cj C o s res:=by
 obtain⟨args⟩:=args;obtain⟨cR⟩:=cR;have ar:∀ c,o.op≠.defer c:=by grind
 simp only[BB]at h;split at h
 ·rename_i x t;split at h
  ·rename_i e aF;have cS:=hT.bR aF (by simp);obtain⟨jv,aB,iK,n2⟩:=cS.sl;obtain⟨inf,z,i1,i2,i3,i4,i5,i6⟩:=j_ iK.j9;have kP:0<e.size:=Nat.pos_of_ne_zero n2;split at h
   ·rename_i b g lo E eK;simp only[ao.eF,ao.bw]at h;split at h
    ·rename_i az;split at h
     ·rename_i aR xs aa;split at h
      ·rename_i qF;subst qF;simp only[Option.some.injEq]at h;subst h;intro a w κ F Q G aX _;have hx:bh C.P s.ab κ F w (use (aS C.aI s.au x)).2 (a.eval x):=cq G x rfl aX;rw[eK]at hx;have aL:=G.bl b;unfold cf at aL;rw[aa]at aL;obtain⟨⟨aM,aO⟩,bz⟩:=hx.2 az.symm (by rw[aa];rfl);rw[aa]at aO bz;simp only[bA.len,bA.eE]at aO bz;have mq:∀ (w':World) v,(Builtin.clear_ #[t] o.type #[a.eval x]).run C.P w=.ok v w'->(execOp a.eval o).run C.P w=.ok (.value v) w':=by
        intro w' v hv;refine wG af ?_;simp[builtin,hv]
       have tj:(List.replicate (E - lo) aR.cM).length=E - lo:=by simp
       have y9:(fL xs lo (List.replicate (E - lo) aR.cM)).length=xs.length:=by simp[fL];omega
       have fS:eZ s.ab κ (λi=>if i=b then (⟨(s.ab b).gen,.a6 aR (fL xs lo (List.replicate (E - lo) aR.cM))⟩:bt) else s.ab i) κ:=
        qv rfl (λh=>by cases h) (λ_=>by rw[aa];exact⟨rfl,y9,rfl⟩) (λh=>by cases h) (λh=>by cases h)
       have nothing:E - lo=0->fL xs lo (List.replicate (E - lo) aR.cM)=xs:=λh0=>by rw[h0];simp[fL]
       have hg:E - lo=0->s.b_ b ⟨(s.ab b).gen,.a6 aR (fL xs lo (List.replicate (E - lo) aR.cM))⟩=s:=λh0=>by
        rw[nothing h0];unfold ay.b_;have:(λi=>if i=b then (⟨(s.ab b).gen,.a6 aR xs⟩:bt) else s.ab i)=s.ab:=by
         funext i;by_cases E:i=b
         ·subst E;simp only[if_true];rw[<-aa]
         grind
        rw[this]
       rcases bz with⟨ax,hv⟩ | ⟨ax,lX,hv,o1,f_⟩
       ·have hA:=aL.1 ax;subst hA;have n5:E - lo=0:=by grind
        have cE:(Builtin.clear_ #[t] o.type #[a.eval x]).run C.P w=.ok (.tuple #[]) w:=by
         rw[hv];simp[Builtin.clear_,dc aB]
        refine gW ar (mq w _ cE) ⟨κ,F,a_.set (s:=s.b_ b _) ?_ a1 trivial⟩;grind
       ·obtain⟨cs,hB,c1,c2,c3,c4,c5⟩:=aL.2 ax;by_cases h0:E - lo=0
        ·have cE:(Builtin.clear_ #[t] o.type #[a.eval x]).run C.P w=.ok (.tuple #[]) w:=by
          rw[hv,h0];simp[Builtin.clear_,dc aB]
         refine gW ar (mq w _ cE) ⟨κ,F,a_.set (s:=s.b_ b _) ?_ a1 trivial⟩;grind
        ·obtain⟨n,pT⟩:∃ n,E - lo=n+1:=⟨E - lo - 1,by omega⟩
         have iW:fT C.P aR F w ((Array.range ((E - lo)*aR.size)).map (λi=>z.cells[i % z.cells.size]!)).toList (List.replicate (E - lo) aR.cM):=RE i5 _;have ti:z.cells.size=aR.size:=by
          obtain⟨c,ec,n1,z2⟩:=uA (P:=C.P) (H:=λ_=>⟨0,.fb⟩) (κ:=λ_=>⟨0,0,0,true⟩) (F:=F) (w:=w) aR i5;rw[List.append_nil]at ec;rw[<-Array.length_toList,ec];exact ht aR n1
         have oS:=iW.1;rw[tj]at oS;have ns:=iW.one kP;revert iW oS ns;generalize kQ:((Array.range ((E - lo)*aR.size)).map (λi=>z.cells[i % z.cells.size]!)).toList=dU;intro iW oS ns;have RI:xs.length*aR.size<=(κ b).cap*aR.size:=Nat.mul_le_mul_right _ c3;have B3:(lo+(E - lo))*aR.size<=xs.length*aR.size:=Nat.mul_le_mul_right _ (by omega);rw[Nat.add_mul]at B3;have y_:lX=(κ b).off+lo*aR.size:=f_ (by omega);obtain⟨w',cN,bY,cm,dQ,ln,lp,lU⟩:=uG (P:=C.P) dU ((κ b).off+lo*aR.size) 0 w cs c1 (by omega) ns;have cE:(Builtin.clear_ #[t] o.type #[a.eval x]).run C.P w=.ok (.tuple #[]) w':=by
          rw[hv,y_];have a8:(Builtin.zeroCells z.cells (E - lo)).toList=dU:=by rw[<-kQ,<-ti];rfl
          simp only[Builtin.clear_,List.getElem?_toArray,List.getElem?_cons_zero,Sem.run_bind,dc aB,Result.andThen_ok,qz i1 i4,pT];simp_all
         refine gW ar (mq w' _ cE) ⟨κ,F,a_.set (s:=s.b_ b _) ?_ a1 trivial⟩;refine G.oL (b:=b) (by rw[aa];simp[bA.bI,ax]) (by simp[bA.bI,ax]) fS (λh=>by cases h) (λh=>by cases h) ln lp lU λH mu b1 he=>?_;refine⟨λh=>(by grind),λ_=>⟨cN,hB,cm,?_,by omega,c4,?_⟩⟩
         ·have:cN.size=cs.size:=by
           rw[<-Array.length_toList,dQ];grind
          omega
         ·exact c5.fL he iW (by omega) (by omega) (by omega)
      grind
     grind
    grind
   ·cases h
  ·cases h
 ·cases h
end
end Go.Fer
namespace Go.Fer
open Go.RowKit
section
variable {C:bP} {T:Nat->ad} {aY:Nat->Option aJ} {o:Oper} {s:ay} {res:dW}
theorem Ka{place:Nat->Option (Nat×Nat)}{size:Nat}(hp:∀ i,place i=some (i*size,size)):∀ (qs:List (Nat×Value)) (cs:Array Value),(∀ q∈qs,q.2.cells.size=size/\q.1*size+size<=cs.size)->(qs.map (·.1)).Nodup->
  ∃ cN,Instr.fill place cs qs=some cN/\cN.size=cs.size/\∀ i,i*size+size<=cs.size->(cN.toList.drop (i*size)).take size=(match qs.find? (λp=>p.1 == i) with | some q=>q.2.cells.toList | none=>(cs.toList.drop (i*size)).take size)
 | [],cs,_,_=>⟨cs,rfl,rfl,λi _=>rfl⟩
 | (k,v)::qs,cs,h,ax=>by
  obtain⟨h1,h2⟩:=h (k,v) (by simp);simp only at h1 h2;have E2:=E0 v.cells.toList 0 (k*size) cs (by grind);have e:(v.cells.zipIdx.foldl (λ(cs:Array Value) (p:Value×Nat)=>cs.setIfInBounds (k*size+p.2) p.1) cs)=((v.cells.toList.zipIdx 0).foldl (λ(cs:Array Value) (p:Value×Nat)=>cs.setIfInBounds (k*size+p.2) p.1) cs):=by
   rw[<-Array.foldl_toList];simp
  generalize awi:(v.cells.zipIdx.foldl (λ(cs:Array Value) (p:Value×Nat)=>cs.setIfInBounds (k*size+p.2) p.1) cs)=Fc at *
  have RL:Fc.toList=cs.toList.take (k*size)++(v.cells.toList++cs.toList.drop (k*size+size)):=by
   grind
  have bU:Fc.size=cs.size:=by
   rw[<-Array.length_toList,RL];grind
  have B4:(qs.map (·.1)).Nodup/\k ∉ qs.map (·.1):=by
   grind
  obtain⟨cN,aM,aO,bz⟩:=Ka hp qs Fc (λq bd=>by grind) B4.1;refine⟨cN,?_,by omega,λi E=>?_⟩
  ·simp only[Instr.fill,hp];grind
  ·rw[bz i (by omega)];by_cases mv:k=i
   ·grind
   ·have:((k,v)::qs).find? (λp=>p.1 == i)=qs.find? (λp=>p.1 == i):=by grind
    rw[this];have iW:(Fc.toList.drop (i*size)).take size=(cs.toList.drop (i*size)).take size:=by
     apply List.ext_getElem?;intro j;simp only[List.getElem?_take,List.getElem?_drop];split
     ·rename_i aB;rw[RL];have kt:(List.take (k*size) cs.toList).length=k*size:=by grind
      have wI:v.cells.toList.length=size:=by omega
      rcases Nat.lt_or_ge i k with h3 | h3
      ·have:(i+1)*size<=k*size:=Nat.mul_le_mul_right _ (by omega);grind
      ·have:(k+1)*size<=i*size:=Nat.mul_le_mul_right _ (by omega);rw[Nat.add_mul]at this;rw[List.getElem?_append_right (by omega),kt,List.getElem?_append_right (by omega),List.getElem?_drop];congr 1;omega
     ·rfl
    grind
theorem adH(hT:dv C.P T){ty n:Nat}{ps:Array (Nat×Operand)}(a1:∀ i,o.dst=some i->i<C.nt)(af:o.op=.buildSlice ty n ps)(h:(be C.aI T aY (aS C.aI s.au) o).run s.ab=some res):cj C o s res:=by
 obtain⟨ps⟩:=ps;have ar:∀ c,o.op≠.defer c:=by grind
 simp only[be,af]at h;split at h
 ·rename_i e aF;have cS:=hT.bR aF (by simp);obtain⟨jv,aB,iK,n2⟩:=cS.sl;obtain⟨inf,z,i1,i2,i3,i4,i5,i6⟩:=j_ iK.j9;simp only[ao.eG,Option.bind_eq_some_iff,ao.run_bind]at h;obtain⟨⟨xs,fl⟩,hA,h⟩:=h;obtain⟨b,awj,an⟩:=qB h;split at an
  ·rename_i Fe;obtain⟨awk,RM⟩:=Fe;simp only[Bool.and_eq_true,Bool.not_eq_true',decide_eq_true_eq]at RM;obtain⟨⟨fz,ta⟩,Kb⟩:=RM;have pO:b ∉ fl:=by grind
   simp only[Option.some.injEq]at an;subst an;intro a w κ F Q G aX _;obtain⟨F',f1,aW,f2⟩:=a_.kO (ada n 0 hA) G;obtain⟨adI,Ff,n1,z2⟩:=uA (P:=C.P) (H:=s.ab) (κ:=κ) (F:=F') (w:=w) e i5;rw[List.append_nil]at Ff;have Kc:=JJ G ps aX;have jX:=Rv G.bl f1 n1 (ps:=ih (ps.map λp=>(p.1,aS C.aI s.au p.2))) (qs:=ps.map λp=>(p.1,a.eval p.2)) (by simp[ih]) Kc n 0 hA f2;have ti:=(BK e (P:=C.P) i5).2;have Kd:∀ p∈ps,p.1<n:=by
    intro p hp;have:=List.all_eq_true.1 Kb (p.1,(use (aS C.aI s.au p.2)).2) (by simp only[ih,List.map_map,List.mem_map];grind);grind
   have Ke:((ps.map λp=>(p.1,a.eval p.2)).map (·.1)).Nodup:=by
    have:(ih (ps.map λp=>(p.1,aS C.aI s.au p.2))).map (·.1)=(ps.map λp=>(p.1,a.eval p.2)).map (·.1):=by simp[ih]
    grind
   have RN:∀ q∈ps.map (λp=>(p.1,a.eval p.2)),q.2.cells.size=e.size/\q.1*e.size+e.size<=n*e.size:=by
    intro q bd;obtain⟨p,hp,rfl⟩:=List.mem_map.1 bd;have b1:=Kd p hp;refine⟨?_,by
     have:(p.1+1)*e.size<=n*e.size:=Nat.mul_le_mul_right _ (by omega);grind⟩
    obtain⟨a7,d1,d2⟩:=jX.2 p.1 (by omega);rw[Nat.zero_add]at d2;have uN:(ps.map λp=>(p.1,a.eval p.2)).find? (λr=>r.1 == p.1)=some (p.1,a.eval p.2):=by
     have adJ:∀ (l:List (Nat×Value)),(l.map (·.1)).Nodup->∀ q∈l,l.find? (λr=>r.1 == q.1)=some q:=by
      intro l;induction l with
      | nil=>simp
      | cons c l aG=>
       grind
     grind
    rw[uN]at d2;have:=ht e d1;grind
   have Kf:z.cells.size≠0:=by omega
   let base:Array Value:=(Array.range (n*e.size)).map (λi=>z.cells[i % z.cells.size]!);have awl:base.size=n*e.size:=by grind
   obtain⟨cN,aM,aO,bz⟩:=Ka (place:=λi=>some (i*e.size,e.size)) (λi=>rfl) (ps.map λp=>(p.1,a.eval p.2)) base (by grind) Ke;have awm:∀ i,i<n->(base.toList.drop (i*e.size)).take e.size=z.cells.toList:=by
    intro i E;have hle:(i+1)*e.size<=n*e.size:=Nat.mul_le_mul_right _ (by omega);rw[Nat.add_mul]at hle;apply List.ext_getElem?;intro j;simp only[List.getElem?_take,List.getElem?_drop];split
    ·rename_i aB;have fx:j<z.cells.size:=by omega
     rw[Array.getElem?_toList,Array.getElem?_toList];have y4:(i*e.size+j) % z.cells.size=j:=by rw[ti,Nat.add_comm,Nat.add_mul_mod_self_right,Nat.mod_eq_of_lt aB]
     grind
    grind
   have adK:fT C.P e F' w cN.toList xs:=by
    refine⟨by grind,λi E=>?_⟩;have dn:i<n:=by omega
    have hle:(i+1)*e.size<=n*e.size:=Nat.mul_le_mul_right _ (by omega);grind
   have cE:(execOp a.eval o).run C.P w=.ok (.value (.slice (some ⟨w.heap.size,0,none⟩) n n)) (w.alloc (.cells cN jv)):=by
    have adL:¬n*e.size > 2 ^ 24:=by omega
    simp only[execOp,af,Instr.buildSlice,Sem.run_bind,dc aB,Result.andThen_ok,rD i1,i2,adL,if_false];by_cases rO:n*e.size=0
    ·have y':base=#[]:=Array.eq_empty_of_size_eq_zero (by omega);rw[y']at aM;simp only[rO,if_true,Sem.run_bind,Sem.run_pure,Result.andThen_ok];rw[show ((Array.range 0).map (λi=>(#[]:Array Value)[i % (#[]:Array Value).size]!))=#[] from by simp];simp only[List.map_toArray]at aM ⊢;rw[show Instr.fill (λi=>some (i*e.size,e.size)) #[] (ps.map λx=>(x.1,a.eval x.2))=some cN from aM];rfl
    ·simp only[rO,if_false,Sem.run_bind,qz i1 i4,Result.andThen_ok,Sem.run_pure];simp only[List.map_toArray];rw[show Instr.fill (λi=>some (i*e.size,e.size)) ((Array.range (n*e.size)).map (λi=>z.cells[i % z.cells.size]!)) (ps.map λx=>(x.1,a.eval x.2))=some cN from aM];rfl
   have oR:s.fG ((jq fl).run s.ab++[(b,⟨(s.ab b).gen+1,.a6 e xs⟩)])=(s.ca fl).b_ b ⟨(s.ab b).gen+1,.a6 e xs⟩:=by
    rw[BJ,s4]
   have oT:(s.ca fl).ab b=s.ab b:=by simp[ay.ca,pO]
   have h3:=aW.BU (b:=b) (g:=(s.ab b).gen+1) (zs:=xs) (k:=⟨w.heap.size,0,n,false⟩) (w':=w.alloc (.cells cN jv)) (by grind) (.inr rfl) (by simp) (λr G=>oK w _ G) (λ_=>by simp) ⟨rfl,rfl,rfl⟩
    (λH κ'=>⟨λh=>(by cases h),λ_=>⟨cN,jv,pJ w _,by grind,by grind,by
     have:n<=n*e.size:=Nat.le_mul_of_pos_right _ (Nat.pos_of_ne_zero n2);grind,(adK.BS (pre:=[]) (post:=[]) (by simp)).later (cD.alloc aW.cK _)⟩⟩)
   refine gW ar cE ?_;simp only[ay.hO];rw[oR];exact⟨_,F',a_.set h3 a1 ⟨⟨by simp[ay.b_],rfl⟩,λ_ _=>by simp[ay.b_,bk.slice,bA.len,jX.1]⟩⟩
  grind
 ·cases h
theorem RO(nw:Nat):∀ (m:Nat) (l:List Value),l.length=m*nw->((List.range m).map λi=>(l.drop (i*nw)).take nw).flatten=l
 | 0,l,h=>by
  have:l=[]:=List.eq_nil_of_length_eq_zero (by omega);simp[this]
 | m+1,l,h=>by
  rw[Nat.add_mul]at h;have aG:=RO nw m (l.take (m*nw)) (by grind);rw[List.range_succ,List.map_append,List.flatten_append];have e:((List.range m).map λi=>(l.drop (i*nw)).take nw)=((List.range m).map λi=>((l.take (m*nw)).drop (i*nw)).take nw):=by
   refine List.map_congr_left λi E=>?_;have hle:(i+1)*nw<=m*nw:=Nat.mul_le_mul_right _ (by have:=List.mem_range.1 E;omega);rw[Nat.add_mul]at hle;rw[List.drop_take,List.take_take,Nat.min_eq_left (by omega)]
  rw[e,aG];have:(l.drop (m*nw)).take nw=l.drop (m*nw):=List.take_of_length_le (by grind);simp[this]
theorem adM(hT:dv C.P T){ty m:Nat}{e:ad}{ps:Array (Nat×Operand)}(a1:∀ i,o.dst=some i->i<C.nt)(af:o.op=.build ty ps)(aF:T ty=.array m e)
  (h:((sX e (ih (ps.toList.map λp=>(p.1,aS C.aI s.au p.2))) 0 m).cu λ(xs,fl)=>if (fl.isEmpty&&decide ((ih (ps.toList.map λp=>(p.1,aS C.aI s.au p.2))).map (·.1)).Nodup&&(ih (ps.toList.map λp=>(p.1,aS C.aI s.au p.2))).all (λp=>decide (p.1<m)))=true then bx (rB (ps.toList.map λp=>(p.1,aS C.aI s.au p.2))) True (.val (.array m e) xs) else .none).run s.ab=some res):cj C o s res:=by
 obtain⟨ps⟩:=ps;simp only[ao.eG,Option.bind_eq_some_iff]at h;obtain⟨⟨xs,fl⟩,hA,h⟩:=h;have cS:=hT.bR aF (by simp);obtain⟨jv,aB,iK,n2⟩:=cS.a6;obtain⟨i,z,h1,h2,h3,aQ,bu,cW⟩:=j_ cS.j9;split at h
 ·rename_i hc;simp only[Bool.and_eq_true,decide_eq_true_eq,List.isEmpty_iff,List.all_eq_true]at hc;obtain⟨⟨rfl,ta⟩,Kb⟩:=hc;simp only[bx,ao.bw,Option.some.injEq]at h;subst h;refine cj.pure (by grind) a1 λa w κ F G aX _=>?_;obtain⟨adI,Ff,n1,z2⟩:=uA (P:=C.P) (H:=s.ab) (κ:=κ) (F:=F) (w:=w) (.array m e) bu;rw[List.append_nil]at Ff;have ti:=(BK (.array m e) (P:=C.P) bu).2;have awn:z.cells.size=m*e.size:=ti;have Kc:=JJ G ps aX;have jX:=λ(zero:List Value) (a8:br C.P e F w zero e.cM)=>Rv G.bl (λ_ h=>h) a8 (ps:=ih (ps.map λp=>(p.1,aS C.aI s.au p.2))) (qs:=ps.map λp=>(p.1,a.eval p.2)) (by simp[ih]) Kc m 0 hA (λ_ h=>by cases h);have Kd:∀ p∈ps,p.1<m:=by
   intro p hp;exact Kb (p.1,(use (aS C.aI s.au p.2)).2) (by simp only[ih,List.map_map,List.mem_map];grind)
  have Ke:((ps.map λp=>(p.1,a.eval p.2)).map (·.1)).Nodup:=by
   have:(ih (ps.map λp=>(p.1,aS C.aI s.au p.2))).map (·.1)=(ps.map λp=>(p.1,a.eval p.2)).map (·.1):=by simp[ih]
   grind
  have iW:∀ i,i<m->br C.P e F w ((z.cells.toList.drop (i*e.size)).take e.size) e.cM:=by
   intro i E;have adN:br C.P (.array m e) F w z.cells.toList (ad.array m e).cM:=by rw[Ff];exact n1
   obtain⟨p,c,q,aM,aO,bz⟩:=JD adN E;have ah:=ht e bz;have:(ad.cM (.array m e)).getD i e.cM=e.cM:=by
    show (List.replicate m e.cM).getD i e.cM=e.cM;grind
   rw[this]at bz;have:(z.cells.toList.drop (i*e.size)).take e.size=c:=by
    rw[aM,<-aO];simp[ah]
   rw[this];exact bz
  have RP:xs.length=m:=by
   rcases Nat.eq_zero_or_pos m with h0 | h0
   ·subst h0;simp only[sX,ao.bw,Option.some.injEq,Prod.mk.injEq]at hA;rw[<-hA.1];rfl
   ·exact (jX _ (iW 0 h0)).1
  have RN:∀ q∈ps.map (λp=>(p.1,a.eval p.2)),q.2.cells.size=e.size/\q.1*e.size+e.size<=z.cells.size:=by
   intro q bd;obtain⟨p,hp,rfl⟩:=List.mem_map.1 bd;have b1:=Kd p hp;refine⟨?_,by
    have:(p.1+1)*e.size<=m*e.size:=Nat.mul_le_mul_right _ (by omega);grind⟩
   obtain⟨a7,d1,d2⟩:=(jX _ (iW p.1 b1)).2 p.1 (by omega);rw[Nat.zero_add]at d2;have uN:(ps.map λp=>(p.1,a.eval p.2)).find? (λr=>r.1 == p.1)=some (p.1,a.eval p.2):=by
    have adJ:∀ (l:List (Nat×Value)),(l.map (·.1)).Nodup->∀ q∈l,l.find? (λr=>r.1 == q.1)=some q:=by
     intro l;induction l with
     | nil=>simp
     | cons c l aG=>
      grind
    grind
   rw[uN]at d2;have:=ht e d1;grind
  obtain⟨cN,aM,aO,bz⟩:=Ka (place:=λi=>some (i*e.size,e.size)) (λi=>rfl) (ps.map λp=>(p.1,a.eval p.2)) z.cells RN Ke;refine⟨.agg cN,?_,⟨cN,rfl,by omega⟩,?_⟩
  ·simp only[execOp,af,Instr.build,Sem.run_bind,qz h1 aQ,Result.andThen_ok,dc aB,iK.size];simp_all
  ·refine⟨(List.range m).map λi=>(cN.toList.drop (i*e.size)).take e.size,(RO e.size m cN.toList (by grind)).symm,by simp,RP,λi E dn=>?_⟩;simp only[List.getElem_map,List.getElem_range];have J_:i<m:=by omega
   have hle:(i+1)*e.size<=m*e.size:=Nat.mul_le_mul_right _ (by omega);rw[Nat.add_mul]at hle;obtain⟨a7,d1,d2⟩:=(jX _ (iW i J_)).2 i E;rw[Nat.zero_add]at d2;have:=bz i (by omega);have:(cN.toList.drop (i*e.size)).take e.size=a7:=by
    rw[this];split at d2<;>simp_all
   rw[this];exact d1
 ·cases h
theorem eY.mono{P:Program}{t:ad}{F F':Nat->Prop}{w w':World}{aA:List Value}{x:t.ag}(h:eY P t F w aA x)(ba:∀ r,F r->F' r)(he:cD F w w'):eY P t F' w' aA x:=⟨h.1,eP t ba he h.2⟩
theorem adO{k:FuncId}{cC:List Operand}(a1:∀ i,o.dst=some i->i<C.nt)(af:o.op=.makeFunc (.func k) #[] ⟨cC⟩){v:EH}(hv:C.aI.sT k=some v)
  (h:((iG (fM (v.cs.map .bp)) ((cC.map (aS C.aI s.au)).map λv=>(use v).2)).cu λ(y,fl)=>(jq fl).bind λwl=>.ret (some ⟨jr (cC.map (aS C.aI s.au)),True,.val (.fn (fM v.as) v.tr) (λx=>v.sh (EG v.as (v.cs.map .bp) x y)),wl⟩):ao (Option dW)).run s.ab=some res):cj C o s res:=by
 simp only[ao.eG,Option.bind_eq_some_iff,ao.run_bind,ao.bw,Option.some.injEq]at h;obtain⟨⟨y,l⟩,aK,rfl⟩:=h;intro a w κ F Q G aX _;obtain⟨F',f1,aW,f2⟩:=a_.kO (pR _ aK) G;have dz:eY C.P (fM (v.cs.map .bp)) F' w (cC.map a.eval) y:=by
  refine uM G.bl f1 _ aK f2 (by simp) λi E dn=>?_;simp only[List.getElem_map];have db:i<cC.length:=by grind
  have h1:=rE aX i (by grind);have e1:(cC.map (aS C.aI s.au)).getD i .undef=aS C.aI s.au cC[i]:=by grind
  rw[e1]at h1;exact oN (jR G cC[i]) h1
 obtain⟨hs,wN⟩:=G.jn.sT k v hv;have cE:(execOp a.eval o).run C.P w=.ok (.value (.func (.func k) #[] (cC.map a.eval).toArray)) w:=by simp[execOp,af,Instr.makeFunc]
 refine gW (by grind) cE ⟨κ,F',?_⟩;simp only[ay.hO];rw[s4];refine a_.set aW a1 ((dw rfl).2 ⟨rfl,_,rfl,⟨rfl,rfl⟩,λdJ cF za wO tk wP args x h1 h2 h3=>⟨k,_,rfl,wN.enter,?_⟩⟩);have aB:=QD v.as (v.cs.map .bp) hs (P:=C.P) (F:=dJ) (w:=cF) ⟨h1,h2⟩ (dz.mono za wO);have:=wN.iD dJ cF _ _ tk wP aB h3;have e:(args++cC.map a.eval).toArray=args.toArray++(cC.map a.eval).toArray:=by simp
 rw[e]at this;exact this.mono λe sP ⟨v,y,e1,e2,⟨aA,e3,e4,dD⟩,kK⟩=>⟨v,y,aA,e1,e2,e3,e4,dD,kK⟩
theorem adP{k:FuncId}{cC:List Operand}(a1:∀ i,o.dst=some i->i<C.nt)(af:o.op=.makeFunc (.func k) #[] ⟨cC⟩){v:wj}(hv:C.aI.wm k=some v)
  (h:((iG (fM (v.cs.map .bp)) ((cC.map (aS C.aI s.au)).map λv=>(use v).2)).cu λ(y,fl)=>(jq fl).bind λwl=>.ret (some ⟨jr (cC.map (aS C.aI s.au)),True,.val (.b6 v.aH) (v.S y),wl⟩):ao (Option dW)).run s.ab=some res):cj C o s res:=by
 simp only[ao.eG,Option.bind_eq_some_iff,ao.run_bind,ao.bw,Option.some.injEq]at h;obtain⟨⟨y,l⟩,aK,rfl⟩:=h;intro a w κ F Q G aX _;obtain⟨F',f1,aW,f2⟩:=a_.kO (pR _ aK) G;have dz:eY C.P (fM (v.cs.map .bp)) F' w (cC.map a.eval) y:=by
  refine uM G.bl f1 _ aK f2 (by simp) λi E dn=>?_;simp only[List.getElem_map];have db:i<cC.length:=by grind
  have h1:=rE aX i (by grind);have e1:(cC.map (aS C.aI s.au)).getD i .undef=aS C.aI s.au cC[i]:=by grind
  rw[e1]at h1;exact oN (jR G cC[i]) h1
 have wN:=G.jn.wm k v hv;have cE:(execOp a.eval o).run C.P w=.ok (.value (.func (.func k) #[] (cC.map a.eval).toArray)) w:=by simp[execOp,af,Instr.makeFunc]
 refine gW (by grind) cE ⟨κ,F',?_⟩;simp only[ay.hO];rw[s4];refine a_.set aW a1 ((dw rfl).2 ⟨rfl,_,rfl,⟨rfl,rfl⟩,λdJ cF za wO tk wP dX=>⟨k,_,rfl,wN.enter,λl I Y il i_ eb=>?_⟩⟩);exact wN.iD dJ cF _ _ tk wP (dz.mono za wO) dX l I Y il i_ eb
theorem adQ{k:FuncId}{cC:Array Operand}(a1:∀ i,o.dst=some i->i<C.nt)(af:o.op=.makeFunc (.func k) #[] cC)(h:(be C.aI T aY (aS C.aI s.au) o).run s.ab=some res):cj C o s res:=by
 obtain⟨cC⟩:=cC;simp only[be,af,Array.isEmpty_empty,if_true]at h;split at h;case h_1 v hv=>exact adO a1 af hv h
 split at h;case h_1 v hv=>exact adP a1 af hv h
 simp only[bx,ao.bw,Option.some.injEq]at h;subst h;refine cj.pure (by grind) a1 λa w κ F G aX _=>?_;refine⟨.func (.func k) #[] (cC.map a.eval).toArray,by simp[execOp,af,Instr.makeFunc],cC.map a.eval,rfl,by simp,λi E=>?_⟩;have dn:i<cC.length:=by grind
 have h1:(use ((cC.map (aS C.aI s.au)).getD i .undef)).1:=rE aX i (by omega);have e1:(cC.map (aS C.aI s.au)).getD i .undef=aS C.aI s.au cC[i]:=by grind
 rw[e1]at h1;have h2:=oN (jR G cC[i]) h1;have e2:(cC.map a.eval).getD i Go.undef=a.eval cC[i]:=by grind
 have e3:gL ((cC.map (aS C.aI s.au)).map λv=>(use v).2) i=(use (aS C.aI s.au cC[i])).2:=by simp[gL,List.getD_eq_getElem?_getD,dn]
 grind
theorem adR{k:FuncId}{first cC:Array Operand}(a1:∀ i,o.dst=some i->i<C.nt)(af:o.op=.makeFunc (.func k) first cC)(aq:first.isEmpty=false)(h:(be C.aI T aY (aS C.aI s.au) o).run s.ab=some res):cj C o s res:=by
 obtain⟨first⟩:=first
 simp only[be,af,aq,Bool.false_eq_true,if_false]at h;split at h
 ·rename_i hc;have hc:cC=#[]:=by grind
  subst hc;simp only[bx,ao.bw,Option.some.injEq]at h;subst h;refine cj.pure (by grind) a1 λa w κ F G aX _=>?_;refine⟨.func (.func k) (first.map a.eval).toArray #[],by simp[execOp,af,Instr.makeFunc],first.map a.eval,rfl,by simp,λi E=>?_⟩;have dn:i<first.length:=by omega
  have h1:(use ((first.map (aS C.aI s.au)).getD i .undef)).1:=rE aX i (by grind);have e1:(first.map (aS C.aI s.au)).getD i .undef=aS C.aI s.au first[i]:=by grind
  rw[e1]at h1;have h2:=oN (jR G first[i]) h1;have e2:(first.map a.eval).getD i Go.undef=a.eval first[i]:=by grind
  have e3:gL ((first.map (aS C.aI s.au)).map λv=>(use v).2) i=(use (aS C.aI s.au first[i])).2:=by simp[gL,List.getD_eq_getElem?_getD,dn]
  grind
 ·cases h
def kS(o:Oper)(nt:Nat):Bool:=
 (match o.dst with | some d=>decide (d<nt) | none=>true)&&(match o.op with | .store _ _ _=>o.dst.isNone | .mapUpdate _ _ _ _=>o.dst.isNone | .insert _ _ _ _=>o.dst.isNone | _=>true)
theorem wQ(hT:dv C.P T)(cb:iX C.P aY)(ar:kS o C.nt=true)(h:(be C.aI T aY (aS C.aI s.au) o).run s.ab=some res):cj C o s res:=by
 simp only[kS,Bool.and_eq_true]at ar;have a1:∀ i,o.dst=some i->i<C.nt:=λi E=>by
  grind
 cases af:o.op with
 | move x=>exact ab' a1 af h
 | assign x=>exact aca a1 af h
 | pick c a b=>exact acb a1 af h
 | binOp op t x y cA=>exact ack hT a1 af h
 | unOp op t x=>exact acd a1 af h
 | extract t i=>exact ace a1 af h
 | nilCheck x=>exact acf a1 af h
 | fieldAddr t x f=>exact acg hT a1 af h
 | field t x f=>exact ach hT a1 af h
 | load t x=>exact acm hT a1 af h
 | store t x y=>
  have:=ar.2;rw[af]at this;exact acG hT (by grind) af h
 | alloc t=>
  by_cases aF:T t=.cx
  ·simp only[be,af,aF]at h;obtain⟨_,_,an⟩:=qB h;grind
  ·exact acx hT a1 af h aF
 | box t x=>exact acz a1 af h
 | build t ps=>
  by_cases E3:∀ m e,T t≠.array m e
  ·exact acE hT a1 af E3 h
  ·obtain⟨m,e,aF⟩:∃ m e,T t=.array m e:=by grind
   refine adM hT a1 af aF ?_;simpa only [be,af,aF]using h
 | buildSlice t n ps=>exact adH hT a1 af h
 | indexAddr t x i=>exact acM hT a1 af h
 | index t x i=>exact aco hT a1 af h
 | convert a b x=>exact ac8 hT a1 af h
 | makeFunc fn first cC=>
  cases fn with
  | func k=>
   by_cases aq:first=#[]
   ·subst aq;exact adQ a1 af h
   ·exact adR a1 af (by grind) h
  | _=>simp[be,af,ao.none]at h
 | makeMap t r=>exact adi a1 af h
 | lookup t m x ok=>exact adj hT a1 af h
 | mapUpdate t m x y=>
  have:=ar.2;rw[af]at this;exact J6 hT (by grind) (.inl af) h
 | insert t m x y=>
  have:=ar.2;rw[af]at this;exact J6 hT (by grind) (.inr af) h
 | makeSlice t l c=>exact ado hT a1 af h
 | makeInterface t x=>exact RJ (by simp[be,af,bx]) h
 | panic x=>exact RJ (by simp[be,af,bx]) h
 | slice t x lo E oM=>
  cases oM with
  | none=>exact acO hT a1 af h
  | some m=>exact adB hT a1 af h
 | call c=>
  obtain⟨callee,args,cR⟩:=c;cases callee with
  | value f=>
   cases f with
   | func k=>exact adb cb a1 af h
   | _=>simp[be,af,mn,ao.none]at h
  | invoke r m=>simp[be,af,mn,ao.none]at h
  | builtin b=>
   cases b with
   | len=>exact acu hT a1 af h
   | append=>
    cases hs:wz (aS C.aI s.au) args.toList with
    | none=>exact acZ hT a1 af (by simpa [be,af,mn,hs]using h)
    | some p=>exact adF hT a1 af hs (by simpa [be,af,mn,hs]using h)
   | clear=>exact adG hT a1 af (by simpa [be,af,mn]using h)
   | copy=>exact adw hT a1 af h
   | min=>exact Q8 (.inl ⟨rfl,rfl⟩) a1 af (by simpa [be,af,mn]using h)
   | max=>exact Q8 (.inr ⟨rfl,rfl⟩) a1 af (by simpa [be,af,mn]using h)
   | cap=>exact acv hT a1 af (by simpa [be,af,mn]using h)
   | _=>simp[be,af,mn,ao.none]at h
 | _=>simp[be,af,ao.none]at h
end
end Go.Fer
namespace Go.Fer
open Go.RowKit
def ao.cz{ai:Type}(p:ai->Prop):ao ai->Prop
 | .ret a=>p a
 | .et _ k=>∀ x,(k x).cz p
theorem Kg{aD:Operand->aC}{k:IntKind}:∀ (l:List Operand) {bQ:Prop} {hN:z1'},(∀ x∈l,(use (aD x)).1)->mm aD k l=some (bQ,hN)->bQ
 | [],_,_,_,h=>by cases h
 | [x],bQ,hN,hu,h=>by
  simp only[mm]at h;split at h
  ·split at h
   ·cases h;exact hu x (by simp)
   ·cases h
  ·cases h
 | x::y::l,bQ,hN,hu,h=>by
  simp only[mm]at h;split at h
  ·rename_i ah;split at h
   ·cases h;exact⟨hu x (by simp),Kg (y::l) (λz a8=>hu z (List.mem_cons_of_mem _ a8)) ah⟩
   ·cases h
  ·cases h
theorem ao.cz.run{ai:Type}{p:ai->Prop}{m:ao ai}(h:m.cz p)(H:Nat->bt):p (m.run H):=by
 induction m with
 | ret a=>exact h
 | et b k aG=>exact aG _ (h _)
theorem ao.cz.bind{ai β:Type}{p:β->Prop}{m:ao ai}{f:ai->ao β}(h:∀ a,(f a).cz p):(m.bind f).cz p:=by
 induction m with
 | ret a=>exact h a
 | et b k aG=>exact λx=>aG x
def kT{ai:Type}(p:ai->Prop)(x:Option ai):Prop:=∀ a,x=some a->p a
theorem ao.cz.cu{ai β:Type}{p:β->Prop}{m:ao (Option ai)}{f:ai->ao (Option β)}(h:∀ a,(f a).cz (kT p)):(m.cu f).cz (kT p):=by
 refine ao.cz.bind λa=>?_;cases a with
 | none=>intro a h;cases h
 | some a=>grind
theorem ao.cz.RQ{ai β:Type}{q:ai->Prop}{p:β->Prop}{m:ao (Option ai)}{f:ai->ao (Option β)}(aj:m.cz (kT q))(h:∀ a,q a->(f a).cz (kT p)):(m.cu f).cz (kT p):=by
 unfold ao.cu;induction m with
 | ret a=>
  cases a with
  | none=>intro b aa;cases aa
  | some a=>exact h a (aj a rfl)
 | et b k aG=>exact λx=>aG x (aj x)
theorem ao.cz.bF{ai:Type}{p:ai->Prop}:(ao.none:ao (Option ai)).cz (kT p):=by intro a h;cases h
theorem ao.cz.mz{ai:Type}{p:ai->Prop}{a:ai}(h:p a):(ao.ret (some a)).cz (kT p):=by intro b aa;grind
theorem ao.cz.nil{ai:Type}{p:ai->Prop}:(ao.ret (Option.none:Option ai)).cz (kT p):=by intro b aa;cases aa
theorem ao.cz.bx{p:dW->Prop}{bQ c:Prop}{v:aC}(h:p ⟨bQ,c,v,[]⟩):(bx bQ c v).cz (kT p):=ao.cz.mz h
theorem ao.cz.hM{p:dW->Prop}{d:Option Nat}{k:Nat->Nat->Option dW}(h:∀ b g,kT p (k b g)):(hM d k).cz (kT p):=by
 unfold Go.Fer.hM;split
 ·exact .bF
 ·exact λx=>h _ _
def aC.zb:aC->Bool
 | .hb _ _=>true
 | _=>false
theorem Fg{a:aC}(h:a.zb=false):(use a).1:=by
 cases a<;>first | trivial | cases h
def rP(aD:Operand->aC)(o:Oper):Bool:=o.op.operands.toList.all λx=>!(aD x).zb
def aC.adS:aC->Bool
 | .fk _ _=>false
 | .val (.map _ _) _=>false
 | _=>true
def Fh(aD:Operand->aC)(b:Builtin)(args:List Operand):Bool:=
 match b with
 | .len=>match args with
  | [x]=>(use (aD x)).2.adS
  | _=>false
 | .min=>true
 | .max=>true
 | _=>false
def aC.RR:aC->Bool
 | .iE ..=>true
 | _=>false
def mA(aD:Operand->aC)(o:Oper):Bool:=
 match o.op with
 | .move _ | .assign _ | .pick .. | .unOp .. | .extract .. | .fieldAddr .. | .field .. | .alloc .. | .box .. | .build .. | .buildSlice .. | .convert .. | .makeFunc .. | .makeMap .. | .lookup .. | .mapUpdate .. | .insert ..=>true
 | .load _ x=>!(use (aD x)).2.RR
 | .store _ x _=>!(use (aD x)).2.RR
 | .binOp op _ x _ _=>match op with
  | .quo | .rem | .shl | .shr=>false
  | .add=>(use (aD x)).2.lT.isSome
  | _=>true
 | .call c=>match c.callee with
  | .builtin b=>Fh aD b c.args.toList
  | _=>false
 | _=>false
theorem adT{op:BinOp}{k:IntKind}{a b:Int}{c:Prop}{v:aC}(h:yJ op k a b=some (c,v))(h1:op≠.quo)(h2:op≠.rem):c:=by
 cases op<;>simp only[yJ,Option.some.injEq,Prod.mk.injEq,reduceCtorEq]at h<;>first | (obtain⟨rfl,_⟩:=h;trivial) | contradiction
theorem adU{op:BinOp}{a b:List UInt8}{c:Prop}{v:aC}(h:Bt op a b=some (c,v))(h1:op≠.add):c:=by
 cases op<;>simp only[Bt,Option.some.injEq,Prod.mk.injEq,reduceCtorEq]at h<;>first | (obtain⟨rfl,_⟩:=h;trivial) | contradiction
theorem adV{op:BinOp}{t:ad}{x y:aC}:(yK op t x y).cz (kT λr=>r.1):=by
 unfold yK;refine ao.cz.cu λe=>?_;cases op<;>first | exact .mz trivial | exact .nil
section
variable {U:dd} {T:Nat->ad} {aY:Nat->Option aJ} {aD:Operand->aC} {o:Oper}
theorem adW{op:BinOp}{ty:TypeId}{x y:Operand}{t:TypeId}(af:o.op=.binOp op ty x y t)(hc:mA aD o=true):(be U T aY aD o).cz (kT λr=>r.c):=by
 unfold be;rw[af];simp only;simp only[mA,af]at hc;split
 ·rename_i k a k' b h1 h2;split
  ·cases hc
  ·cases hc
  ·split
   ·split
    ·rename_i c v E;refine .bx (adT E ?_ ?_)<;>(grind)
    ·exact .bF
   ·exact .bF
 ·rename_i oW;split
  ·rename_i a b h1 h2;split
   ·rename_i c v E;refine .bx (adU E ?_);intro e;subst e;simp only at hc;generalize (use (aD x)).2=z at hc h1;cases z<;>try (cases h1;done)
    rename_i t d;cases t<;>first | (cases h1;done) | (cases hc;done)
   ·exact .bF
  ·exact ao.cz.RQ adV λr G=>.bx G
theorem Kh{p:dW->Prop}{ty:TypeId}{m x y:Operand}(h:∀ wl,p ⟨(use (aD m)).1/\(use (aD x)).1/\(use (aD y)).1,True,.undef,wl⟩):(qy T aD ty m x y).cz (kT p):=by
 unfold qy;split
 ·simp only;split
  ·split
   ·refine ao.cz.cu λ_=>ao.cz.cu λ_=>ao.cz.bind λ_=>λz=>?_;intro r G;split at G
    ·split at G
     ·simp only[Option.map_eq_some_iff]at G;grind
     grind
    grind
   ·exact .bF
  ·exact .bF
 ·exact .bF
theorem RS{ty:TypeId}{m x y:Operand}:(qy T aD ty m x y).cz (kT λr=>r.c):=Kh λ_=>trivial
theorem zc(hc:mA aD o=true):(be U T aY aD o).cz (kT λr=>r.c):=by
 cases af:o.op with
 | binOp op ty x y t=>exact adW af hc
 | move x=>unfold be;rw[af];exact .bx trivial
 | assign x=>
  unfold be;rw[af];simp only;split
  ·exact .hM λb g=>λr G=>by grind
  ·exact .bx trivial
 | pick c a b=>
  unfold be;rw[af];simp only;split
  ·split
   ·split
    ·exact .bx trivial
    ·exact .bF
   ·split
    ·exact .bx trivial
    ·exact .bF
   ·exact .bF
  ·exact .bF
 | unOp op t x=>
  unfold be;rw[af];simp only;split
  ·exact .bx trivial
  ·exact .bx trivial
  ·exact .bF
 | extract x i=>
  unfold be;rw[af];simp only;split
  ·split
   ·exact .bx trivial
   ·exact .bF
  ·exact .bF
 | fieldAddr ty x f=>
  unfold be;rw[af];simp only;repeat' first | exact .bF | exact .bx trivial | split
  all_goals first
   | (intro z;intro r G;grind)
 | field ty x f=>
  unfold be;rw[af];simp only;repeat' first | exact .bF | exact .bx trivial | split
 | load ty x=>
  simp only[mA,af]at hc;unfold be;rw[af];simp only;split
  ·rename_i hx;rw[hx]at hc;cases hc
  ·exact ao.cz.cu λ_=>.bx trivial
 | store ty x y=>
  simp only[mA,af]at hc;unfold be;rw[af];simp only;split
  ·rename_i hx;rw[hx]at hc;cases hc
  ·exact ao.cz.cu λ_=>.mz trivial
 | alloc ty=>
  unfold be;rw[af];simp only;exact .hM λb g=>λr G=>by grind
 | box ty x=>
  unfold be;rw[af];simp only;split
  ·exact .hM λb g=>λr G=>by grind
  ·exact .bF
 | build ty ps=>
  unfold be;rw[af];simp only;repeat' first | exact .bF | exact .bx trivial | refine ao.cz.cu λ_=>?_ | split
 | buildSlice ty n ps=>
  unfold be;rw[af];simp only;split
  ·refine ao.cz.cu λ_=>ao.cz.bind λ_=>.hM λb g=>λr G=>by grind
  ·exact .bF
 | convert a b x=>
  unfold be;rw[af];simp only;repeat' first | exact .bF | exact .bx trivial | exact ao.cz.cu λ_=>.bx trivial | split
 | makeFunc fn first cC=>
  unfold be;rw[af];simp only;split
  ·split
   ·split
    ·exact ao.cz.cu λ_=>ao.cz.bind λ_=>.mz trivial
    ·split
     ·exact ao.cz.cu λ_=>ao.cz.bind λ_=>.mz trivial
     ·exact .bx trivial
   ·split
    ·exact .bx trivial
    ·exact .bF
  ·exact .bF
 | makeMap ty r=>
  unfold be;rw[af];simp only;split
  ·exact .bF
  ·split
   ·exact .hM λb g=>λr G=>by grind
   ·exact .bF
 | lookup ty m x ok=>
  unfold be;rw[af];simp only;unfold yN;split
  ·simp only;split
   ·exact ao.cz.cu λ_=>ao.cz.cu λ_=>.bx trivial
   ·exact .bF
  ·exact .bF
 | mapUpdate ty m x y=>
  unfold be;rw[af];exact RS
 | insert ty m x y=>
  unfold be;rw[af];exact RS
 | call c=>
  obtain⟨callee,args,cR⟩:=c;simp only[mA,af]at hc;unfold be;rw[af];simp only;unfold mn;cases callee with
  | builtin b=>
   simp only at hc ⊢;cases b with
   | len=>
    simp only[Bv];split
    ·rename_i x t e1 e2;simp only[Fh,e1]at hc;generalize use (aD x)=u at hc;obtain⟨cc,dA⟩:=u;simp only at hc ⊢;refine ao.cz.RQ (q:=λr:Prop×Int=>r.1) ?_ λr G=>.bx G;generalize T t=ty;cases ty<;>simp only[EL]<;>first | exact .bF | skip
     ·cases dA<;>first | exact .bF | skip
      ·rename_i cA d;cases cA<;>first | exact .bF | exact .mz trivial
     ·cases dA<;>first | exact .bF | exact .mz trivial | skip
      ·rename_i cA d;cases cA<;>first | exact .bF | exact .mz trivial
      ·intro z r G;grind
      ·intro z r G;grind
     ·cases dA<;>first | exact .bF | (cases hc;done) | skip
      ·rename_i cA d;cases cA<;>first | exact .bF | cases hc
    ·exact .bF
   | min=>
    simp only[rC];repeat' first | exact .bx trivial | exact .bF | split
   | max=>
    simp only[rC];repeat' first | exact .bx trivial | exact .bF | split
   | _=>simp[Fh]at hc
  | _=>cases hc
 | _=>simp[mA,af]at hc
theorem B5:∀ {l:List aC},(∀ v∈l,(use v).1)->jr l
 | [],_=>trivial
 | v::l,h=>by
  have h1:=h v (by simp);have h2:=B5 (l:=l) λu hu=>h u (by grind);cases v<;>first | exact h2 | exact⟨h1,h2⟩
theorem Ki:∀ {l:List (Nat×aC)},(∀ v∈l,(use v.2).1)->rB l
 | [],_=>trivial
 | (i,v)::l,h=>by
  have h1:=h (i,v) (by simp);have h2:=Ki (l:=l) λu hu=>h u (by grind);cases v<;>first | exact h2 | exact⟨h1,h2⟩
theorem B6{x:Option Operand}{p:Prop}{n:Option Int}(h:kM aD x=some (p,n))(hx:∀ y,x=some y->(use (aD y)).1):p:=by
 unfold kM at h;grind
def qH(aD:Operand->aC)(o:Oper):Prop:=∀ x∈o.op.operands.toList,(use (aD x)).1
theorem Kj{aD:Operand->aC}{o:Oper}(h:rP aD o=true):qH aD o:=λx hx=>Fg (by simpa using List.all_eq_true.1 h x hx)
theorem qH.use{aD:Operand->aC}{o:Oper}(h:qH aD o){x:Operand}(hx:x∈o.op.operands.toList){bQ:Prop}{v:aC}(hu:use (aD x)=(bQ,v)):bQ:=by
 have:=h x hx;grind
theorem RT(ff:qH aD o):(be U T aY aD o).cz (kT λr=>r.bQ):=by
 unfold qH at ff;have aq:∀ x∈o.op.operands.toList,(use (aD x)).1:=ff;have hu:∀ x∈o.op.operands.toList,∀ {bQ:Prop} {v:aC},use (aD x)=(bQ,v)->bQ:=λx hx bQ v h=>qH.use ff hx h;cases af:o.op with
 | move x=>unfold be;rw[af];exact .bx trivial
 | assign x=>
  unfold be;rw[af];simp only;split
  ·exact .hM λb g=>λr G=>by grind
  ·exact .bx trivial
 | pick c a b=>
  rw[af]at hu;unfold be;rw[af];simp only;split
  ·rename_i oc iI lv;have h1:=hu c (by simp[Op.operands]) lv;split
   ·split
    ·rename_i yO av aU;exact .bx ⟨h1,λ_=>hu a (by simp[Op.operands]) aU⟩
    ·exact .bF
   ·split
    ·rename_i yO av aU;exact .bx ⟨h1,λ_=>hu b (by simp[Op.operands]) aU⟩
    ·exact .bF
   ·exact .bF
  ·exact .bF
 | binOp op ty x y t=>
  rw[af]at ff;have h:=And.intro (ff x (by simp[Op.operands])) (ff y (by simp[Op.operands]));unfold be;rw[af];simp only;split
  ·split
   ·split
    ·exact .bx h
    ·exact .bF
   ·split
    ·exact .bx h
    ·exact .bF
   ·split
    ·split
     ·exact .bx h
     ·exact .bF
    ·exact .bF
  ·split
   ·split
    ·exact .bx h
    ·exact .bF
   ·exact ao.cz.cu λ_=>.bx h
 | unOp op t x=>
  rw[af]at hu;unfold be;rw[af];simp only;split
  ·rename_i hx;exact .bx (hu x (by simp[Op.operands]) hx)
  ·rename_i hx;exact .bx (hu x (by simp[Op.operands]) hx)
  ·exact .bF
 | extract x i=>
  rw[af]at hu;unfold be;rw[af];simp only;split
  ·rename_i hx;split
   ·exact .bx (hu x (by simp[Op.operands]) hx)
   ·exact .bF
  ·exact .bF
 | nilCheck x=>
  rw[af]at hu;unfold be;rw[af];simp only;split
  ·rename_i hx;intro z r G;split at G<;>cases G;exact hu x (by simp[Op.operands]) hx
  ·rename_i hx;exact .bx (hu x (by simp[Op.operands]) hx)
  ·rename_i hx;exact .bx (hu x (by simp[Op.operands]) hx)
  ·rename_i hx;intro z r G;split at G<;>cases G;exact hu x (by simp[Op.operands]) hx
  ·exact .bF
 | fieldAddr ty x f=>
  rw[af]at hu;unfold be;rw[af];simp only;split
  ·split
   ·split
    ·rename_i hx;intro z r G;split at G<;>cases G;exact hu x (by simp[Op.operands]) hx
    ·rename_i hx;intro z r G;split at G<;>cases G;exact hu x (by simp[Op.operands]) hx
    ·rename_i hx;intro z r G;split at G<;>cases G;exact hu x (by simp[Op.operands]) hx
    ·rename_i hx;split
     ·split
      ·exact .bx (hu x (by simp[Op.operands]) hx)
      ·exact .bF
     ·exact .bF
    ·exact .bF
   ·exact .bF
  ·exact .bF
 | field ty x f=>
  rw[af]at hu;unfold be;rw[af];simp only;split
  ·split
   ·rename_i hx;split
    ·split
     ·exact .bx (hu x (by simp[Op.operands]) hx)
     ·exact .bF
    ·exact .bF
   ·exact .bF
  ·exact .bF
 | load ty x=>
  rw[af]at hu;unfold be;rw[af];simp only;split
  ·rename_i hx;have h:=hu x (by simp[Op.operands]) hx;intro z r G;repeat' split at G
   all_goals first | (cases G;exact h) | cases G
  ·rename_i hx;exact ao.cz.cu λ_=>.bx (hu x (by simp[Op.operands]) hx)
 | store ty x y=>
  rw[af]at hu ff;unfold be;rw[af];simp only;split
  ·rename_i hx;have h:=hu x (by simp[Op.operands]) hx;have cX:=ff y (by simp[Op.operands]);unfold Jv;split
   ·intro z r G;repeat' split at G
    all_goals first | (cases G;exact⟨h,cX⟩) | cases G
   ·exact .bF
  ·rename_i hx;exact ao.cz.cu λ_=>.mz ⟨hu x (by simp[Op.operands]) hx,ff y (by simp[Op.operands])⟩
 | alloc ty=>
  unfold be;rw[af];simp only;exact .hM λb g=>λr G=>by grind
 | box ty x=>
  rw[af]at ff;unfold be;rw[af];simp only;split
  ·exact .hM λb g=>λr G=>by split at G<;>cases G;exact ff x (by simp[Op.operands])
  ·exact .bF
 | build ty ps=>
  rw[af]at aq;have h:rB (ps.toList.map λp=>(p.1,aD p.2)):=Ki λv hv=>by
   simp only[List.mem_map]at hv;obtain⟨p,hp,rfl⟩:=hv;exact aq p.2 (by simp only[Op.operands,List.mem_map];grind)
  unfold be;rw[af];simp only;repeat' first | exact .bF | exact .bx h | refine ao.cz.cu λ_=>?_ | split
 | buildSlice ty n ps=>
  rw[af]at aq;have h:rB (ps.toList.map λp=>(p.1,aD p.2)):=Ki λv hv=>by
   simp only[List.mem_map]at hv;obtain⟨p,hp,rfl⟩:=hv;exact aq p.2 (by simp only[Op.operands,List.mem_map];grind)
  unfold be;rw[af];simp only;split
  ·refine ao.cz.cu λ_=>ao.cz.bind λ_=>.hM λb g=>λr G=>by grind
  ·exact .bF
 | indexAddr ty x i=>
  rw[af]at ff;have h:=And.intro (ff x (by simp[Op.operands])) (ff i (by simp[Op.operands]));unfold be;rw[af];simp only;split
  ·exact ao.cz.cu λ_=>.bx h
  ·split
   ·split
    ·exact .bx h
    ·exact .bF
   ·intro z r G;grind
   ·exact .bF
  ·exact .bF
 | index ty x i=>
  rw[af]at ff;have h:=And.intro (ff x (by simp[Op.operands])) (ff i (by simp[Op.operands]));unfold be;rw[af];simp only;split
  ·exact .bx h
  ·split
   ·split
    ·exact .bx h
    ·exact .bF
   ·split
    ·exact .bx h
    ·exact .bF
   ·exact .bF
  ·exact .bF
 | convert a b x=>
  rw[af]at ff;unfold be;rw[af];simp only;split
  ·exact .bx (ff x (by simp[Op.operands]))
  ·exact ao.cz.cu λ_=>.bx (ff x (by simp[Op.operands]))
  ·exact .bF
 | makeFunc fn first cC=>
  rw[af]at aq;have h:jr (cC.toList.map aD):=B5 λv hv=>by
   simp only[List.mem_map]at hv;obtain⟨p,hp,rfl⟩:=hv;exact aq p (by simp[Op.operands];simp_all)
  have h2:jr (first.toList.map aD):=B5 λv hv=>by
   simp only[List.mem_map]at hv;obtain⟨p,hp,rfl⟩:=hv;exact aq p (by simp[Op.operands];simp_all)
  unfold be;rw[af];simp only;split
  ·split
   ·split
    ·exact ao.cz.cu λ_=>ao.cz.bind λ_=>.mz h
    ·split
     ·exact ao.cz.cu λ_=>ao.cz.bind λ_=>.mz h
     ·exact .bx h
   ·split
    ·exact .bx h2
    ·exact .bF
  ·exact .bF
 | slice ty x lo E oM=>
  rw[af]at aq ff;unfold be;rw[af];simp only;split
  ·unfold EO;simp only;split
   ·rename_i ol l qx h uB m ah cy aj;have aX:=And.intro (ff x (by simp[Op.operands])) (And.intro (B6 ah λy aK=>aq y (by subst aK;simp[Op.operands])) (And.intro (B6 cy λy aK=>aq y (by subst aK;simp[Op.operands])) (B6 aj λy aK=>aq y (by subst aK;simp[Op.operands]))));split
    ·exact ao.cz.cu λ_=>.mz aX
    ·exact .bF
   ·exact .bF
  ·unfold EN;simp only;split
   ·rename_i ol l qx h ah cy;have aX:=And.intro (ff x (by simp[Op.operands])) (And.intro (B6 ah λy aK=>aq y (by subst aK;simp[Op.operands])) (B6 cy λy aK=>aq y (by subst aK;simp[Op.operands])));split
    ·exact ao.cz.cu λ_=>.mz aX
    ·split
     ·exact .bx aX
     ·exact .bF
    ·exact .bF
   ·exact .bF
 | call c=>
  rw[af]at aq ff;obtain⟨callee,args,cR⟩:=c;have dz:∀ x∈args.toList,(use (aD x)).1:=λx hx=>aq x (by simp[Op.operands,Call.operands];simp_all);have oX:∀ x∈args.toList,(use (aD x)).1:=dz;have fj:jr (args.toList.map aD):=B5 λv hv=>by
   grind
  unfold be;rw[af];simp only;unfold mn;simp only;split
  ·split
   ·unfold Bv;split
    ·rename_i x t e1 e2;exact ao.cz.cu λ_=>.bx (oX x (by grind))
    ·exact .bF
   ·split
    ·unfold BA;split
     ·rename_i x y t u e1 e2;have h:=And.intro (oX x (by grind)) (oX y (by grind));split
      ·simp only;refine ao.cz.cu λ_=>λz=>?_;intro r G;grind
      ·exact .bF
     ·exact .bF
    unfold Bw;split
    ·rename_i x y t u e1 e2;have h:=And.intro (oX x (by grind)) (oX y (by grind));split
     ·simp only;unfold Jt;split
      ·intro z;dsimp only;split
       ·split
        ·exact ao.cz.cu λ_=>.mz h
        ·exact .bF
       ·exact .bF
      ·intro z;dsimp only;split
       ·split
        ·exact ao.cz.cu λ_=>.mz h
        ·exact .bF
       ·exact .bF
      ·exact ao.cz.cu λ_=>.hM λb g=>λr G=>by grind
      ·split
       ·exact ao.cz.cu λ_=>.hM λb g=>λr G=>by grind
       ·exact .bF
      ·exact .bF
     ·exact .bF
    ·exact .bF
   ·unfold BB;split
    ·rename_i x t e1 e2;have h:=oX x (by grind);split
     ·simp only;split
      ·intro z;intro r G;grind
      ·exact .bF
     ·exact .bF
    ·exact .bF
   ·unfold ES;split
    ·rename_i x y t u e1 e2;have h:=And.intro (oX x (by grind)) (oX y (by grind));split
     ·simp only;split
      ·refine ao.cz.cu λ_=>λz=>?_;intro r G;grind
      ·exact .bF
     ·exact .bF
    ·exact .bF
   ·unfold rC;split
    ·rename_i x y l e1;split
     ·split
      ·rename_i ah;exact .bx ⟨oX x (by grind),Kg (y::l) (λp hp=>oX p (by rw[e1];exact List.mem_cons_of_mem _ hp)) ah⟩
      ·exact .bF
     ·exact .bF
    ·exact .bF
   ·unfold rC;split
    ·rename_i x y l e1;split
     ·split
      ·rename_i ah;exact .bx ⟨oX x (by grind),Kg (y::l) (λp hp=>oX p (by rw[e1];exact List.mem_cons_of_mem _ hp)) ah⟩
      ·exact .bF
     ·exact .bF
    ·exact .bF
   ·unfold Bx;split
    ·rename_i x t e1 e2;have h:=oX x (by grind);split
     ·rename_i e3;exact .bx (by grind)
     ·exact .bF
    ·exact .bF
   ·exact .bF
  ·split
   ·unfold EP;simp only;split
    ·refine ao.cz.cu λ_=>?_;split
     ·refine ao.cz.bind λ_=>.hM λb g=>λr G=>?_;split at G
      ·cases G
      ·cases G;exact fj
     ·exact ao.cz.bind λ_=>.mz fj
    ·exact .bF
   ·exact .bF
  ·exact .bF
 | makeMap ty r=>
  unfold be;rw[af];simp only;split
  ·exact .bF
  ·split
   ·exact .hM λb g=>λr G=>by grind
   ·exact .bF
 | lookup ty m x ok=>
  rw[af]at ff;have h:=And.intro (ff m (by simp[Op.operands])) (ff x (by simp[Op.operands]));unfold be;rw[af];simp only;unfold yN;split
  ·simp only;split
   ·exact ao.cz.cu λ_=>ao.cz.cu λ_=>.bx h
   ·exact .bF
  ·exact .bF
 | mapUpdate ty m x y=>
  rw[af]at ff;unfold be;rw[af];exact Kh λ_=>⟨ff m (by simp[Op.operands]),ff x (by simp[Op.operands]),ff y (by simp[Op.operands])⟩
 | insert ty m x y=>
  rw[af]at ff;unfold be;rw[af];exact Kh λ_=>⟨ff m (by simp[Op.operands]),ff x (by simp[Op.operands]),ff y (by simp[Op.operands])⟩
 | makeSlice ty l c=>
  rw[af]at ff;have h:=And.intro (ff l (by simp[Op.operands])) (ff c (by simp[Op.operands]));unfold be;rw[af];simp only;unfold ER;split
  ·simp only;split
   ·exact .hM λb g=>λr G=>by grind
   ·exact .bF
  ·exact .bF
 | makeInterface t x=>unfold be;rw[af];exact .bx trivial
 | panic x=>unfold be;rw[af];exact .bx trivial
 | _=>unfold be;rw[af];exact .bF
theorem RU(hc:rP aD o=true):(be U T aY aD o).cz (kT λr=>r.bQ):=RT (Kj hc)
end
end Go.Fer
namespace Go.Fer
open Go.RowKit
theorem Kk{aD i':Operand->aC}{k:IntKind}:∀ (l:List Operand),(∀ x∈l,aD x=i' x)->mm aD k l=mm i' k l
 | [],_=>rfl
 | [x],h=>by simp only[mm,h x (by simp)]
 | x::y::l,h=>by simp only[mm,h x (by simp),Kk (y::l) λz a8=>h z (List.mem_cons_of_mem _ a8)]
section
variable {U:dd} {T:Nat->ad} {aY:Nat->Option aJ} {aD i':Operand->aC} {o:Oper}
theorem Kl{x:Option Operand}(h:∀ y,x=some y->aD y=i' y):kM aD x=kM i' x:=by
 cases x with
 | none=>rfl
 | some y=>have:=h y rfl;unfold kM;grind
theorem adX(h:∀ x∈o.op.operands.toList,aD x=i' x):be U T aY aD o=be U T aY i' o:=by
 cases af:o.op with
 | move x=>rw[af]at h;have h1:=h x (by simp[Op.operands]);unfold be;simp_all
 | assign x=>rw[af]at h;have h1:=h x (by simp[Op.operands]);unfold be;simp_all
 | pick c a b=>
  rw[af]at h;have h1:=h c (by simp[Op.operands]);have h2:=h a (by simp[Op.operands]);have h3:=h b (by simp[Op.operands]);unfold be;simp_all
 | binOp op ty x y t=>
  rw[af]at h;have h1:=h x (by simp[Op.operands]);have h2:=h y (by simp[Op.operands]);unfold be;simp_all
 | unOp op t x=>rw[af]at h;have h1:=h x (by simp[Op.operands]);unfold be;simp_all
 | extract x i=>rw[af]at h;have h1:=h x (by simp[Op.operands]);unfold be;simp_all
 | nilCheck x=>rw[af]at h;have h1:=h x (by simp[Op.operands]);unfold be;simp_all
 | fieldAddr ty x f=>rw[af]at h;have h1:=h x (by simp[Op.operands]);unfold be;simp_all
 | field ty x f=>rw[af]at h;have h1:=h x (by simp[Op.operands]);unfold be;simp_all
 | load ty x=>rw[af]at h;have h1:=h x (by simp[Op.operands]);unfold be;simp_all
 | store ty x y=>
  rw[af]at h;have h1:=h x (by simp[Op.operands]);have h2:=h y (by simp[Op.operands]);unfold be;simp_all
 | alloc ty=>unfold be;rw[af]
 | box ty x=>rw[af]at h;have h1:=h x (by simp[Op.operands]);unfold be;simp_all
 | build ty ps=>
  rw[af]at h;have h1:ps.toList.map (λp=>(p.1,aD p.2))=ps.toList.map (λp=>(p.1,i' p.2)):=List.map_congr_left λp hp=>by rw[h p.2 (by simp only[Op.operands,List.mem_map];grind)]
  unfold be;rw[af];simp only[h1]
 | buildSlice ty n ps=>
  rw[af]at h;have h1:ps.toList.map (λp=>(p.1,aD p.2))=ps.toList.map (λp=>(p.1,i' p.2)):=List.map_congr_left λp hp=>by rw[h p.2 (by simp only[Op.operands,List.mem_map];grind)]
  unfold be;rw[af];simp only[h1]
 | indexAddr ty x i=>
  rw[af]at h;have h1:=h x (by simp[Op.operands]);have h2:=h i (by simp[Op.operands]);unfold be;simp_all
 | index ty x i=>
  rw[af]at h;have h1:=h x (by simp[Op.operands]);have h2:=h i (by simp[Op.operands]);unfold be;simp_all
 | convert a b x=>rw[af]at h;have h1:=h x (by simp[Op.operands]);unfold be;simp_all
 | makeFunc fn first cC=>
  rw[af]at h;have h1:cC.toList.map aD=cC.toList.map i':=List.map_congr_left λp hp=>h p (by simp[Op.operands];simp_all);have h2:first.toList.map aD=first.toList.map i':=List.map_congr_left λp hp=>h p (by simp[Op.operands];simp_all)
  unfold be;rw[af];simp only[h1,h2]
 | lookup ty m x ok=>
  rw[af]at h;have h1:=h m (by simp[Op.operands]);have h2:=h x (by simp[Op.operands]);unfold be;rw[af];simp only[yN,h1,h2]
 | mapUpdate ty m x y=>
  rw[af]at h;have h1:=h m (by simp[Op.operands]);have h2:=h x (by simp[Op.operands]);have h3:=h y (by simp[Op.operands]);unfold be;rw[af];simp only[qy,h1,h2,h3]
 | insert ty m x y=>
  rw[af]at h;have h1:=h m (by simp[Op.operands]);have h2:=h x (by simp[Op.operands]);have h3:=h y (by simp[Op.operands]);unfold be;rw[af];simp only[qy,h1,h2,h3]
 | makeSlice ty l c=>
  rw[af]at h;have h1:=h l (by simp[Op.operands]);have h2:=h c (by simp[Op.operands]);unfold be;rw[af];simp only[ER,h1,h2]
 | slice ty x lo E oM=>
  rw[af]at h;have h1:=h x (by simp[Op.operands]);have h2:kM aD lo=kM i' lo:=Kl λy aK=>h y (by subst aK;simp[Op.operands]);have h3:kM aD E=kM i' E:=Kl λy aK=>h y (by subst aK;simp[Op.operands]);have aQ:kM aD oM=kM i' oM:=Kl λy aK=>h y (by subst aK;simp[Op.operands]);unfold be;rw[af];simp only[EN,EO,h1,h2,h3,aQ]
 | call c=>
  rw[af]at h;obtain⟨callee,args,cR⟩:=c;have dz:∀ x∈args.toList,aD x=i' x:=λx hx=>h x (by simp[Op.operands,Call.operands];simp_all);have ah:args.toList.map aD=args.toList.map i':=List.map_congr_left dz;unfold be;rw[af];simp only;unfold mn;simp only;split
  ·split
   ·unfold Bv;grind
   ·have qI:wz aD args.toList=wz i' args.toList:=by
     unfold wz;grind
    rw[qI];split
    ·unfold BA;split
     ·rename_i x y t u e1 e2;rw[dz x (by simp[e1]),dz y (by simp[e1])]
     ·rfl
    ·unfold Bw;grind
   ·unfold BB;split
    ·rename_i x t e1 e2;rw[dz x (by simp[e1])]
    ·rfl
   ·unfold ES;split
    ·rename_i x y t u e1 e2;rw[dz x (by grind),dz y (by grind)]
    ·rfl
   ·unfold rC;split
    ·rename_i x y l e1;have ah:∀ k,mm aD k (y::l)=mm i' k (y::l):=λk=>Kk (y::l) λp hp=>dz p (by rw[e1];exact List.mem_cons_of_mem _ hp);simp only[dz x (by simp[e1]),ah]
    ·rfl
   ·unfold rC;split
    ·rename_i x y l e1;have ah:∀ k,mm aD k (y::l)=mm i' k (y::l):=λk=>Kk (y::l) λp hp=>dz p (by rw[e1];exact List.mem_cons_of_mem _ hp);simp only[dz x (by simp[e1]),ah]
    ·rfl
   ·unfold Bx;grind
   ·rfl
  ·split
   ·unfold EP;simp only[ah]
   ·rfl
  ·rfl
 | _=>unfold be;rw[af]
end
end Go.Fer
namespace Go.Fer
open Go.RowKit
def Fi(want b:Bool):Bool:=match want with | true=>b | false=>!b
def kd(s:Nat->aC)(ops:Array Oper):Option (Nat×Bool)->Option (Option Bool)
 | none=>some none
 | some (j,want)=>match ops[j]? with
  | some o=>match o.dst with
   | some d=>match s d with
    | .val .bool b=>some (some (Fi want b))
    | .hb g (.val .bool b)=>some (some (g&&Fi want b))
    | _=>none
   | none=>none
  | none=>none
def Fj(ops:Array Oper):Option (Nat×Bool)->List Nat
 | none=>[]
 | some (j,_)=>match ops[j]? with
  | some o=>o.dst.toList
  | none=>[]
def adY(l:List Operand):List Nat:=l.filterMap fun | .tmp t=>some t | _=>none
def B7(ops:Array Oper)(o:Oper):List Nat:=Fj ops o.guard++adY o.op.operands.toList
structure ej where
 cs:List Prop
 dst:Option Nat
 eJ:aC
 hf:List (Nat×bt)
 ke:List Nat
 tl:List Nat
def ej.hP(r:ej)(s:ay):ay:=(s.fG r.hf).set r.dst r.eJ
def ej.nx(r:ej):List Nat:=r.dst.toList
def ej.mB(r:ej):List Nat:=r.hf.map (·.1)
def B8(c8 q2:Bool)(bQ c:Prop):List Prop:=(match c8 with | true=>[] | false=>[bQ])++(match q2 with | true=>[] | false=>[c])
def uO(U:dd)(T:Nat->ad)(aY:Nat->Option aJ)(ops:Array Oper)(s:ay)(o:Oper):Option ej:=
 match kd s.au ops o.guard with
 | none=>none
 | some g=>match (be U T aY (aS U s.au) o).run s.ab with
  | none=>none
  | some res=>match g with
   | none=>some ⟨B8 (rP (aS U s.au) o) (mA (aS U s.au) o) res.bQ res.c,o.dst,res.eJ,res.hf,B7 ops o,(be U T aY (aS U s.au) o).looks s.ab⟩
   | some b=>match res.hf with
    | []=>some ⟨B8 (rP (aS U s.au) o&&(mA (aS U s.au) o&&!res.eJ.zb)) true (b=true->res.bQ/\(res.c/\(use res.eJ).1)) True,o.dst,.hb b (use res.eJ).2,[],B7 ops o,(be U T aY (aS U s.au) o).looks s.ab⟩
    | _=>none
def wR(U:dd)(T:Nat->ad)(aY:Nat->Option aJ)(ops:Array Oper):List Oper->ay->Option (List ej×ay)
 | [],s=>some ([],s)
 | o::os,s=>match uO U T aY ops s o with
  | none=>none
  | some r=>match wR U T aY ops os (r.hP s) with
   | none=>none
   | some (l,s')=>some (r::l,s')
def B9(a b:List Nat):Bool:=a.all λx=>!b.contains x
def ej.apart(a b:ej):Bool:=B9 a.nx (b.ke++b.nx)&&B9 a.ke b.nx&&B9 a.mB (b.tl++b.mB)&&B9 a.tl b.mB
def hQ(o:Oper):List Nat:=o.after.toList.filterMap λe=>if Region.binds .any e then some e.on else none
def B_(acc:List Nat):List Nat->List Nat
 | []=>acc
 | x::l=>match acc.contains x with | true=>B_ acc l | false=>B_ (x::acc) l
theorem Km{x:Nat}:∀ {l acc:List Nat},x∈B_ acc l->x∈acc\/x∈l
 | [],acc,h=>.inl h
 | y::l,acc,h=>by
  unfold B_ at h;split at h
  ·exact (Km h).imp_right (List.mem_cons_of_mem _)
  ·rcases Km h with h | h
   ·rcases List.mem_cons.1 h with h | h
    ·exact .inr (h ▸ List.mem_cons_self)
    ·exact .inl h
   ·exact .inr (List.mem_cons_of_mem _ h)
def zd(acc:List (List Nat))(o:Oper):List (List Nat):=acc++[B_ [] ((hQ o).flatMap λj=>j::acc.getD j [])]
def h4(ops:List Oper):List (List Nat):=ops.foldl zd []
def adZ(cl:List (List Nat))(l:List ej):Bool:=
 (List.range l.length).all λj=>(List.range j).all λi=>match l[i]?,l[j]? with
  | some a,some b=>(cl.getD j []).contains i||a.apart b
  | _,_=>false
def B'(ops:List Oper):Bool:=(List.range ops.length).all λj=>match ops[j]? with
 | some o=>(hQ o).all λi=>decide (i<j)
 | none=>false
def ze(ops:List Oper)(l:List ej):Bool:=B' ops&&adZ (h4 ops) l
def wS(R:List Nat)(s s':ay):Prop:=∀ t∈R,s.au t=s'.au t
def wT(B:List Nat)(s s':ay):Prop:=∀ b∈B,s.ab b=s'.ab b
theorem Fk{a b:List Nat}(h:B9 a b=true){x:Nat}(hx:x∈a):x ∉ b:=by
 have:=List.all_eq_true.1 h x hx;grind
theorem zf(s:ay):∀ (l:List (Nat×bt)),(s.fG l).au=s.au:=by
 intro l;induction l generalizing s with
 | nil=>rfl
 | cons p l aG=>simp only[ay.fG];rw[aG];rfl
theorem Kn{b:Nat}:∀ (l:List (Nat×bt)) (s:ay),b ∉ l.map (·.1)->(s.fG l).ab b=s.ab b:=by
 intro l;induction l with
 | nil=>intro s _;rfl
 | cons p l aG=>
  intro s h;simp only[List.map_cons,List.mem_cons,not_or]at h;simp only[ay.fG];rw[aG _ h.2];simp[ay.b_,h.1]
theorem Ko{b:Nat}:∀ (l:List (Nat×bt)) (s s':ay),b∈l.map (·.1)->(s.fG l).ab b=(s'.fG l).ab b:=by
 intro l;induction l with
 | nil=>simp
 | cons p l aG=>
  intro s s' h;simp only[ay.fG];by_cases aa:b∈l.map (·.1)
  ·grind
  ·rw[Kn l _ aa,Kn l _ aa];have:b=p.1:=by grind
   simp[ay.b_,this]
theorem ad0(s:ay)(d:Option Nat)(v:aC):(s.set d v).ab=s.ab:=by cases d<;>rfl
theorem Fl(r:ej)(s:ay)(t:Nat):(r.hP s).au t=if t∈r.nx then r.eJ else s.au t:=by
 unfold ej.hP ej.nx;cases h:r.dst with
 | none=>simp[ay.set,zf]
 | some d=>simp[ay.set,zf,eq_comm]
theorem wU(r:ej)(s:ay)(b:Nat):(r.hP s).ab b=(s.fG r.hf).ab b:=by unfold ej.hP;rw[ad0]
theorem RV{r:ej}{s:ay}{t:Nat}(h:t ∉ r.nx):(r.hP s).au t=s.au t:=by rw[Fl,if_neg h]
theorem tm{r:ej}{s:ay}{b:Nat}(h:b ∉ r.mB):(r.hP s).ab b=s.ab b:=by rw[wU];exact Kn _ _ h
theorem ay.ext'{s s':ay}(h1:∀ t,s.au t=s'.au t)(h2:∀ b,s.ab b=s'.ab b):s=s':=by
 obtain⟨a,b⟩:=s;obtain⟨a',aZ⟩:=s';rw[show a=a' from funext h1,show b=aZ from funext h2]
theorem ad1{a b:ej}(h1:∀ t∈a.nx,t ∉ b.nx)(h2:∀ x∈a.mB,x ∉ b.mB)(s:ay):a.hP (b.hP s)=b.hP (a.hP s):=by
 apply ay.ext'
 ·intro t;simp only[Fl];grind
 ·intro x;by_cases aU:x∈a.mB
  ·have aa:=h2 x aU;rw[tm aa,wU,wU];exact Ko _ _ _ aU
  ·rw[tm aU];by_cases aa:x∈b.mB
   ·rw[wU,wU];exact Ko _ _ _ aa
   ·rw[tm aa,tm aa,tm aU]
def jw(l:List ej)(s:ay):ay:=l.foldl (λs r=>r.hP s) s
theorem ad2{R B:List Nat}:∀ (l:List ej) (s:ay),(∀ r∈l,(∀ t∈R,t ∉ r.nx)/\∀ b∈B,b ∉ r.mB)->wS R (jw l s) s/\wT B (jw l s) s:=by
 intro l;induction l with
 | nil=>intro s _;exact⟨λ_ _=>rfl,λ_ _=>rfl⟩
 | cons r l aG=>
  intro s h;obtain⟨h1,h2⟩:=aG (r.hP s) λpG aW=>h pG (List.mem_cons_of_mem _ aW);have G:=h r (List.mem_cons_self);exact⟨λt aF=>(h1 t aF).trans (RV (G.1 t aF)),λb aa=>(h2 b aa).trans (tm (G.2 b aa))⟩
theorem ad3{R B:List Nat}{r:ej}{s s':ay}(h1:wS R s s')(h2:wT B s s'):wS R (r.hP s) (r.hP s')/\wT B (r.hP s) (r.hP s'):=by
 refine⟨λt aF=>?_,λb aa=>?_⟩
 ·rw[Fl,Fl];split
  ·rfl
  ·exact h1 t aF
 ·by_cases hw:b∈r.mB
  ·rw[wU,wU];exact Ko _ _ _ hw
  ·rw[tm hw,tm hw];exact h2 b aa
theorem ad4{R B:List Nat}(p:Nat×ej->Bool):∀ (l:List (Nat×ej)) (s s':ay),wS R s s'->wT B s s'->(∀ r∈l,p r=false->(∀ t∈R,t ∉ r.2.nx)/\∀ b∈B,b ∉ r.2.mB)->
  wS R (jw ((l.filter p).map (·.2)) s) (jw (l.map (·.2)) s')/\wT B (jw ((l.filter p).map (·.2)) s) (jw (l.map (·.2)) s'):=by
 intro l;induction l with
 | nil=>intro s s' h1 h2 _;exact⟨h1,h2⟩
 | cons r l aG=>
  intro s s' h1 h2 h;have ah:=λpG aW=>h pG (List.mem_cons_of_mem _ aW);cases hp:p r with
  | true=>
   rw[List.filter_cons_of_pos hp];obtain⟨aM,aO⟩:=ad3 (r:=r.2) h1 h2;exact aG _ _ aM aO ah
  | false=>
   rw[List.filter_cons_of_neg (by grind)];have G:=h r (List.mem_cons_self) hp;exact aG _ _ (λt aF=>(h1 t aF).trans (RV (G.1 t aF)).symm) (λb aa=>(h2 b aa).trans (tm (G.2 b aa)).symm) ah
theorem ad5{r:ej}:∀ (l:List ej) (s:ay),(∀ x∈l,(∀ t∈r.nx,t ∉ x.nx)/\∀ b∈r.mB,b ∉ x.mB)->jw l (r.hP s)=r.hP (jw l s):=by
 intro l;induction l with
 | nil=>intro s _;rfl
 | cons x l aG=>
  intro s h;have hx:=h x (List.mem_cons_self);show jw l (x.hP (r.hP s))=r.hP (jw l (x.hP s));rw[<-ad1 hx.1 hx.2 s];grind
def im:Nat->List ej->List (Nat×ej)
 | _,[]=>[]
 | n,r::l=>(n,r)::im (n+1) l
theorem RW:∀ (l m:List ej) (n:Nat),im n (l++m)=im n l++im (n+l.length) m
 | [],m,n=>by rfl
 | r::l,m,n=>by simp only[List.cons_append,im,RW l m (n+1),List.length_cons];grind
theorem Ca:∀ (l:List ej) (n:Nat),(im n l).map (·.2)=l
 | [],_=>rfl
 | r::l,n=>by simp only[im,List.map_cons,Ca l (n+1)]
theorem zg:∀ {l:List ej} {n j:Nat} {x:ej},(j,x)∈im n l->n<=j/\l[j - n]?=some x
 | r::l,n,j,x,h=>by
  simp only[im,List.mem_cons,Prod.mk.injEq]at h;rcases h with⟨rfl,rfl⟩ | h
  ·simp
  ·obtain⟨h1,h2⟩:=zg h;grind
 | [],_,_,_,h=>by cases h
def ja(l:List ej)(s:ay)(f:Nat->Bool):ay:=jw (((im 0 l).filter λp=>f p.1).map (·.2)) s
theorem RX(l m:List ej)(s:ay):jw (l++m) s=jw m (jw l s):=by simp[jw]
theorem Kp{a b:ej}(h:a.apart b=true):(∀ t∈a.nx,t ∉ b.ke/\t ∉ b.nx)/\(∀ t∈a.ke,t ∉ b.nx)/\(∀ x∈a.mB,x ∉ b.tl/\x ∉ b.mB)/\∀ x∈a.tl,x ∉ b.mB:=by
 simp only[ej.apart,Bool.and_eq_true]at h;obtain⟨⟨⟨h1,h2⟩,h3⟩,aQ⟩:=h;refine⟨λt aF=>?_,λt aF=>Fk h2 aF,λx hx=>?_,λx hx=>Fk aQ hx⟩
 ·have:=Fk h1 aF;grind
 ·have:=Fk h3 hx;grind
theorem RY{l:List ej}{s:ay}{f:Nat->Bool}{i:Nat}{r:ej}(E:l[i]?=some r)(aq:f i=false)
  (gj:∀ j x,j<i->l[j]?=some x->f j=false->x.apart r=true) (tn:∀ j x,i<j->l[j]?=some x->f j=true->r.apart x=true) :
  wS r.ke (ja l s f) (jw (l.take i) s)/\wT r.tl (ja l s f) (jw (l.take i) s)/\ja l s (λj=>if j=i then true else f j)=r.hP (ja l s f):=by
 obtain⟨b1,ew⟩:=List.getElem?_eq_some_iff.1 E;have hlen:(l.take i).length=i:=by grind
 have RZ:im 0 l=im 0 (l.take i)++(i,r)::im (i+1) (l.drop (i+1)):=by
  have h1:l=l.take i++r::l.drop (i+1):=by
   have:=List.take_append_drop i l;rw[List.drop_eq_getElem_cons b1,ew]at this;grind
  have h2:=RW (l.take i) (r::l.drop (i+1)) 0;rw[<-h1,hlen]at h2;simpa [im]using h2
 have ad6:∀ p∈im 0 (l.take i),p.1<i/\l[p.1]?=some p.2:=by
  rintro⟨j,x⟩ hp;obtain⟨_,h2⟩:=zg hp;grind
 have awo:∀ p∈im (i+1) (l.drop (i+1)),i<p.1/\l[p.1]?=some p.2:=by
  rintro⟨j,x⟩ hp;obtain⟨h1,h2⟩:=zg hp;grind
 have R0:∀ x∈((im (i+1) (l.drop (i+1))).filter λp=>f p.1).map (·.2),r.apart x=true:=by
  grind
 have h5:ja l s f=jw (((im (i+1) (l.drop (i+1))).filter λp=>f p.1).map (·.2)) (jw (((im 0 (l.take i)).filter λp=>f p.1).map (·.2)) s):=by
  unfold ja;rw[RZ,List.filter_append,List.filter_cons_of_neg (by grind),List.map_append,RX]
 have qI:=ad2 (R:=r.ke) (B:=r.tl) (((im (i+1) (l.drop (i+1))).filter λp=>f p.1).map (·.2)) (jw (((im 0 (l.take i)).filter λp=>f p.1).map (·.2)) s)
  (λx hx=>by
   have:=Kp (R0 x hx);grind)
 have qJ:=ad4 (R:=r.ke) (B:=r.tl) (λp=>f p.1) (im 0 (l.take i)) s s (λ_ _=>rfl) (λ_ _=>rfl) (λp hp ad7=>by
  obtain⟨h1,h2⟩:=ad6 p hp;have:=Kp (gj p.1 p.2 h1 h2 ad7);grind)
 rw[Ca]at qJ;refine⟨λt aF=>by rw[h5];exact (qI.1 t aF).trans (qJ.1 t aF),λb aa=>by rw[h5];exact (qI.2 b aa).trans (qJ.2 b aa),?_⟩;rw[h5];unfold ja;have e1:(im 0 (l.take i)).filter (λp=>if p.1=i then true else f p.1)=(im 0 (l.take i)).filter λp=>f p.1:=by
  apply List.filter_congr;grind
 have e2:(im (i+1) (l.drop (i+1))).filter (λp=>if p.1=i then true else f p.1)=(im (i+1) (l.drop (i+1))).filter λp=>f p.1:=by
  apply List.filter_congr;grind
 rw[RZ,List.filter_append,List.filter_cons_of_pos (by simp),e1,e2,List.map_append,RX];show jw _ (r.hP _)=_;refine ad5 _ _ λx hx=>?_;have:=Kp (R0 x hx);grind
theorem wV{p:Nat->Prop}:∀ (ops:List Oper) (acc:List (List Nat)),(∀ j i,i∈acc.getD j []->p j->p i)->(∀ j o,ops[j]?=some o->∀ i∈hQ o,p (acc.length+j)->p i)->
  ∀ j i,i∈(ops.foldl zd acc).getD j []->p j->p i:=by
 intro ops;induction ops with
 | nil=>simp
 | cons o ops aG=>
  intro acc h ar;refine aG (zd acc o) (λj i E aB=>?_) λj hz jY i E aB=>ar (j+1) hz (by grind) i E (by
   have:(zd acc o).length=acc.length+1:=by simp[zd]
   grind)
  unfold zd at E;rw[List.getD_eq_getElem?_getD,List.getElem?_append]at E;split at E
  ·grind
  ·rename_i b1;by_cases e:j=acc.length
   ·subst e;simp only[Nat.sub_self,List.getElem?_cons_zero,Option.getD_some]at E;have E:=(Km E).resolve_left (by simp);simp only[List.mem_flatMap,List.mem_cons]at E;obtain⟨k,an,E⟩:=E;have uP:=ar 0 o (by simp) k an (by omega);grind
   grind
theorem R1{U:dd}{T:Nat->ad}{aY:Nat->Option aJ}{ops:Array Oper}:∀ (os:List Oper) (s:ay) {l:List ej} {s':ay},wR U T aY ops os s=some (l,s')->
  l.length=os.length/\s'=jw l s/\∀ i o,os[i]?=some o->∃ r,l[i]?=some r/\uO U T aY ops (jw (l.take i) s) o=some r:=by
 intro os;induction os with
 | nil=>intro s l s' h;cases h;exact⟨rfl,rfl,λi o h=>by cases h⟩
 | cons o os aG=>
  intro s l s' h;simp only[wR]at h;split at h
  ·cases h
  ·rename_i r G;split at h
   ·cases h
   ·rename_i l' awp ah;cases h;obtain⟨h1,h2,h3⟩:=aG _ ah;refine⟨by grind,h2,λi hz jY=>?_⟩;cases i with
    | zero=>
     simp only[List.getElem?_cons_zero,Option.some.injEq]at jY;subst jY;exact⟨r,by simp,G⟩
    | succ i=>
     obtain⟨pG,aM,aO⟩:=h3 i hz (by grind);exact⟨pG,by grind,aO⟩
theorem Kq{ops:Array Oper}{f ij:Nat->aC}{g:Option (Nat×Bool)}(h:∀ t∈Fj ops g,f t=ij t):kd f ops g=kd ij ops g:=by
 unfold kd;cases g with
 | none=>rfl
 | some p=>
  obtain⟨j,want⟩:=p;simp only;cases aB:ops[j]? with
  | none=>rfl
  | some o=>
   simp only;cases ar:o.dst with
   | none=>rfl
   | some d=>
    simp only;rw[h d (by simp[Fj,aB,ar])]
theorem R2{U:dd}{T:Nat->ad}{aY:Nat->Option aJ}{ops:Array Oper}{s s':ay}{o:Oper}{r:ej}(h:uO U T aY ops s o=some r)(h1:wS r.ke s' s)(h2:wT r.tl s' s):uO U T aY ops s' o=some r:=by
 have R3:r.ke=B7 ops o/\r.tl=(be U T aY (aS U s.au) o).looks s.ab:=by
  unfold uO at h;grind
 rw[R3.1]at h1;rw[R3.2]at h2;have ku:∀ x∈o.op.operands.toList,aS U s'.au x=aS U s.au x:=by
  intro x hx;cases x with
  | tmp t=>
   refine h1 t ?_;simp only[B7,List.mem_append];exact .inr (List.mem_filterMap.2 ⟨.tmp t,hx,rfl⟩)
  | _=>rfl
 have e1:kd s'.au ops o.guard=kd s.au ops o.guard:=Kq λt aF=>h1 t (by simp[B7,aF]);have e2:be U T aY (aS U s'.au) o=be U T aY (aS U s.au) o:=adX ku;have e3:=ao.QE (H:=s.ab) (H':=s'.ab) (be U T aY (aS U s.au) o) h2;have e4:rP (aS U s'.au) o=rP (aS U s.au) o:=by
  unfold rP;grind
 have dD:mA (aS U s'.au) o=mA (aS U s.au) o:=by
  unfold mA;cases af:o.op with
  | binOp op ty x y t=>
   rw[af]at ku;simp only;rw[ku x (by simp[Op.operands])]
  | load ty x=>rw[af]at ku;simp only;rw[ku x (by simp[Op.operands])]
  | store ty x y=>rw[af]at ku;simp only;rw[ku x (by simp[Op.operands])]
  | call c=>
   obtain⟨callee,args,cR⟩:=c;rw[af]at ku;cases callee with
   | builtin b=>
    have cy:∀ x∈args.toList,aS U s'.au x=aS U s.au x:=λx hx=>ku x (by simp[Op.operands,Call.operands];simp_all);simp only;unfold Fh;grind
   | _=>rfl
  | _=>rfl
 unfold uO at h ⊢;simp_all
universe u
def M.fail{β:Type}:M β:=⟨False,λ_=>False⟩
inductive bG where
 | undef
 | val (t:ad)
 | dx (t:ad)
 | loc (b off:Nat)
 | own (b:Nat)
 | sub (b:Nat)
 | fk (b:Nat)
 | jM (b:Nat)
 | cQ
 | ib (k:FuncId) (fA:z8')
 | tr (aH:ad)
 | gJ
 | hh (bs:List Nat)
 | iE (b:Nat)
 deriving DecidableEq
inductive bM where
 | cells (t:ad) (l:List bG)
 | a6 (e:ad)
 | hd (e:ad)
 | mp (k v:ad)
 | iT (k v:ad)
 | fH (t:ad)
 | gg (t:ad)
 | b6 (k v:ad)
 | fN (e:ad) (t:bG)
def bG.cons(t:bG)(R:Type):Type:=
 match t with
 | .val t=>t.ag×R
 | .dx t=>t.ag×R
 | .sub _=>(Nat×Nat)×R
 | .tr aH=>(Nat×(List aH.ag->Prop)×List aH.ag×Bool)×R
 | .gJ=>Nat×R
 | .iE _=>Nat×R
 | _=>R
def pU:List bG->Type->Type
 | [],R=>R
 | t::l,R=>t.cons (pU l R)
def bM.cons(t:bM)(R:Type):Type:=
 match t with
 | .cells _ l=>pU l R
 | .a6 e=>List e.ag×R
 | .hd e=>List e.ag×R
 | .mp k v=>List (k.ag×v.ag)×R
 | .iT k v=>List (k.ag×v.ag)×R
 | .fH t=>t.ag×R
 | .gg t=>t.ag×R
 | .b6 k v=>(Option (k.ag×v.ag)×List (k.ag×v.ag))×R
 | .fN e t=>(List e.ag×Nat)×t.cons R
def bM.Cb:bM->Bool
 | .cells _ _ | .a6 _ | .mp _ _ | .fH _ | .b6 _ _ | .fN _ _=>true
 | _=>false
def bM.Fm(t u:bM):Bool:=
 match t,u with
 | .cells _ _,.cells _ _ | .cells _ _,.fH _ | .fH _,.cells _ _ | .fH _,.fH _ | .gg _,.cells _ _ | .gg _,.fH _=>true
 | .mp _ _,.mp _ _ | .iT _ _,.mp _ _=>true
 | .a6 e,.a6 aR=>decide (e=aR)
 | .hd _,.a6 _=>true
 | _,_=>false
structure dh where
 bD:List (Nat×bG)
 bl:List (Nat×bM)
def oY:List (Nat×bM)->Type
 | []=>Unit
 | p::l=>p.2.cons (oY l)
def n6:List (Nat×bG)->Type->Type
 | [],R=>R
 | p::l,R=>p.2.cons (n6 l R)
def dh.ag(sh:dh):Type:=n6 sh.bD (oY sh.bl)
def uQ(g:Nat->Nat×Nat)(fA:z8'):Nat->aC:=gL (fA.map λp=>.loc (g p.1).1 (g p.1).2 p.2)
def uR(g:Nat->Nat×Nat)(bs:List Nat):Nat->aC:=gL (bs.map λb=>.own (g b).1 (g b).2)
def bG.av(g:Nat->Nat×Nat)(t:bG){R:Type}(x:t.cons R):aC×R:=
 match t,x with
 | .undef,x=>(.undef,x)
 | .val t,x=>(.val t x.1,x.2)
 | .dx t,x=>(.dx t x.1,x.2)
 | .loc b off,x=>(.loc (g b).1 (g b).2 off,x)
 | .own b,x=>(.own (g b).1 (g b).2,x)
 | .sub b,x=>(.sub (g b).1 (g b).2 x.1.1 x.1.2,x.2)
 | .fk b,x=>(.fk (g b).1 (g b).2,x)
 | .jM b,x=>(.jM (g b).1 (g b).2,x)
 | .cQ,x=>(.cQ,x)
 | .ib k fA,x=>(.ib k fA.length (uQ g fA),x)
 | .tr aH,x=>(.tr x.1.1 aH x.1.2.1 x.1.2.2.1 x.1.2.2.2,x.2)
 | .gJ,x=>(.gJ x.1,x.2)
 | .hh bs,x=>(.agg bs.length (uR g bs),x)
 | .iE b,x=>(.iE (g b).1 (g b).2 x.1,x.2)
def oZ(g:Nat->Nat×Nat):(l:List bG)->{R:Type}->pU l R->List aC×R
 | [],_,x=>([],x)
 | t::l,_,x=>let (a,y):=t.av g x;let (as,z):=oZ g l y;(a::as,z)
def bM.body(g:Nat->Nat×Nat)(t:bM){R:Type}(x:t.cons R):bA×R:=
 match t,x with
 | .cells t l,x=>let (as,y):=oZ g l x;(.cells t (gL as),y)
 | .a6 e,x=>(.a6 e x.1,x.2)
 | .hd e,x=>(.hd e x.1,x.2)
 | .mp k v,x=>(.mp k v x.1,x.2)
 | .iT k v,x=>(.iT k v x.1,x.2)
 | .fH t,x=>(.cells t (gL (nk t x.1)),x.2)
 | .gg t,x=>(.gg t x.1,x.2)
 | .b6 k v,x=>(.b6 k v x.1.1 x.1.2,x.2)
 | .fN e t,x=>let (a,y):=t.av g x.2;(.fN e x.1.1 x.1.2 a,y)
def dY(g:Nat->Nat×Nat):(l:List (Nat×bG))->{R:Type}->n6 l R->List (Nat×aC)×R
 | [],_,x=>([],x)
 | p::l,_,x=>let (a,y):=p.2.av g x;let (as,z):=dY g l y;((p.1,a)::as,z)
def gN(g:Nat->Nat×Nat):(l:List (Nat×bM))->oY l->List (Nat×bA)
 | [],_=>[]
 | p::l,x=>let (a,y):=p.2.body g x;(p.1,a)::gN g l y
def e5:List (Nat×aC)->Nat->aC
 | [],_=>.undef
 | p::l,i=>if i=p.1 then p.2 else e5 l i
def ek:List (Nat×bA)->Nat->bt
 | [],_=>⟨0,.fb⟩
 | p::l,i=>if i=p.1 then ⟨0,p.2⟩ else ek l i
def R4(ad8:List (Nat×aC))(bs:List (Nat×bA)):ay:=⟨e5 ad8,ek bs⟩
def cG(b:Nat):Nat×Nat:=(b,0)
def dh.st(sh:dh)(A:sh.ag):ay:=
 R4 (dY cG sh.bD A).1 (gN cG sh.bl (dY cG sh.bD A).2)
def wW(H:Nat->bt)(t:ad)(av:aC){R:Type}(r:Option (R×List Nat)):Option ((t.ag×R)×List Nat):=
 match (da t av).run H with
 | some (x,l)=>match r with
  | some (y,m)=>some ((x,y),l++m)
  | none=>none
 | none=>none
def Kr(t:ad)(av:aC){R:Type}(r:Option (R×List Nat)):Option ((t.ag×R)×List Nat):=
 match av with
 | .dx cA x=>match r with
  | some (y,m)=>if h:cA=t then some ((h ▸ x,y),m) else none
  | none=>none
 | _=>none
def Ks(H:Nat->bt)(b:Nat)(av:aC){R:Type}(r:Option (R×List Nat)):Option (((Nat×Nat)×R)×List Nat):=
 match r with
 | some (y,m)=>match av with
  | .own aZ g=>if (aZ == b&&g == (H b).gen&&(H b).body.eR)=true then some (((0,(H b).body.len),y),m) else none
  | .sub aZ g lo E=>if (aZ == b&&g == (H b).gen)=true then some (((lo,E),y),m) else none
  | _=>none
 | none=>none
def Kt(aH:ad)(av:aC){R:Type}(r:Option (R×List Nat)):Option (((Nat×(List aH.ag->Prop)×List aH.ag×Bool)×R)×List Nat):=
 match av with
 | .tr l kf L n st=>match r with
  | some (y,m)=>if h:kf=aH then some (((l,h ▸ L,h ▸ n,st),y),m) else none
  | none=>none
 | _=>none
def Ku(av:aC){R:Type}(r:Option (R×List Nat)):Option ((Nat×R)×List Nat):=
 match av with
 | .gJ l=>match r with
  | some (y,m)=>some ((l,y),m)
  | none=>none
 | _=>none
def Kv(H:Nat->bt)(b:Nat)(av:aC){R:Type}(r:Option (R×List Nat)):Option ((Nat×R)×List Nat):=
 match av with
 | .iE aZ g i=>match r with
  | some (y,m)=>if (aZ == b&&g == (H b).gen)=true then some ((i,y),m) else none
  | none=>none
 | _=>none
def Fo(H:Nat->bt)(b off:Nat)(av:aC):Bool:=
 match av with
 | .loc aZ g ad9=>aZ == b&&ad9 == off&&g == (H b).gen
 | _=>false
def Fp(H:Nat->bt)(b:Nat)(av:aC):Bool:=
 match av with
 | .own aZ g=>aZ == b&&g == (H b).gen
 | _=>false
def Kw(H:Nat->bt)(b:Nat)(av:aC):Bool:=
 match av with
 | .fk aZ g=>aZ == b&&g == (H b).gen
 | _=>false
def Kx(H:Nat->bt)(b:Nat)(av:aC):Bool:=
 match av with
 | .jM aZ g=>aZ == b&&g == (H b).gen
 | _=>false
def Ky(av:aC):Bool:=
 match av with
 | .cQ=>true
 | _=>false
def Kz(H:Nat->bt)(f:Nat->Nat)(k:FuncId)(fA:z8')(av:aC):Bool:=
 match av with
 | .ib k' n cC=>k' == k&&n == fA.length&&(List.range n).all λi=>match fA[i]? with
  | some p=>Fo H (f p.1) p.2 (cC i)
  | none=>false
 | _=>false
def KA(H:Nat->bt)(f:Nat->Nat)(bs:List Nat)(av:aC):Bool:=
 match av with
 | .agg n h=>n == bs.length&&(List.range n).all λi=>match bs[i]? with
  | some b=>Fp H (f b) (h i)
  | none=>false
 | _=>false
def uS{ai:Type}(b:Bool)(r:Option ai):Option ai:=match b with | true=>r | false=>none
def bG.iL(H:Nat->bt)(f:Nat->Nat)(t:bG)(av:aC){R:Type}(r:Option (R×List Nat)):Option (t.cons R×List Nat):=
 match t with
 | .undef=>r
 | .val t=>wW H t av r
 | .dx t=>Kr t av r
 | .loc b off=>uS (Fo H (f b) off av) r
 | .own b=>uS (Fp H (f b) av) r
 | .sub b=>Ks H (f b) av r
 | .fk b=>uS (Kw H (f b) av) r
 | .jM b=>uS (Kx H (f b) av) r
 | .cQ=>uS (Ky av) r
 | .ib k fA=>uS (Kz H f k fA av) r
 | .tr aH=>Kt aH av r
 | .gJ=>Ku av r
 | .hh bs=>uS (KA H f bs av) r
 | .iE b=>Kv H (f b) av r
def zh(H:Nat->bt)(f:Nat->Nat):(l:List bG)->(Nat->aC)->Nat->{R:Type}->Option (R×List Nat)->Option (pU l R×List Nat)
 | [],_,_,_,r=>r
 | t::l,c,i,_,r=>t.iL H f (c i) (zh H f l c (i+1) r)
def KB(H:Nat->bt)(f:Nat->Nat)(t:ad)(l:List bG)(b:bA){R:Type}(r:Option (R×List Nat)):Option (pU l R×List Nat):=
 match b with
 | .cells cA c=>if cA=t/\t.size=l.length then zh H f l c 0 r else none
 | _=>none
def KC(e:ad)(b:bA){R:Type}(r:Option (R×List Nat)):Option ((List e.ag×R)×List Nat):=
 match b with
 | .a6 aR xs=>match r with
  | some (y,m)=>if h:aR=e then some ((h ▸ xs,y),m) else none
  | none=>none
 | _=>none
def KD(k v:ad)(b:bA){R:Type}(r:Option (R×List Nat)):Option ((List (k.ag×v.ag)×R)×List Nat):=
 match b with
 | .mp k' hL es=>match r with
  | some (y,m)=>if h:k'=k/\hL=v then some ((h.1 ▸ h.2 ▸ es,y),m) else none
  | none=>none
 | _=>none
def KE(k v:ad)(b:bA){R:Type}(r:Option (R×List Nat)):Option (((Option (k.ag×v.ag)×List (k.ag×v.ag))×R)×List Nat):=
 match b with
 | .b6 k' hL c es=>match r with
  | some (y,m)=>if h:k'=k/\hL=v then some (((h.1 ▸ h.2 ▸ c,h.1 ▸ h.2 ▸ es),y),m) else none
  | none=>none
 | _=>none
def KF(H:Nat->bt)(f:Nat->Nat)(e:ad)(t:bG)(b:bA){R:Type}(r:Option (R×List Nat)):Option (((List e.ag×Nat)×t.cons R)×List Nat):=
 match b with
 | .fN aR xs i v=>match t.iL H f v r with
  | some (y,m)=>if h:aR=e then some (((h ▸ xs,i),y),m) else none
  | none=>none
 | _=>none
def KG(H:Nat->bt)(t:ad)(b:bA){R:Type}(r:Option (R×List Nat)):Option ((t.ag×R)×List Nat):=
 match b with
 | .cells cA f=>if cA=t then wW H t (.agg t.size f) r else none
 | _=>none
def KH(H:Nat->bt)(t:ad)(b:Nat){R:Type}(r:Option (R×List Nat)):Option ((t.ag×R)×List Nat):=
 match (da (.bp t) (.loc b (H b).gen 0)).run H with
 | some (some x,l)=>match r with
  | some (y,m)=>some ((x,y),l++m)
  | none=>none
 | _=>none
def bM.iL(H:Nat->bt)(f:Nat->Nat)(t:bM)(b:Nat){R:Type}(r:Option (R×List Nat)):Option (t.cons R×List Nat):=
 match t with
 | .cells t l=>KB H f t l (H b).body r
 | .a6 e=>KC e (H b).body r
 | .hd e=>wW H (.slice e) (.own b (H b).gen) r
 | .mp k v=>KD k v (H b).body r
 | .iT k v=>wW H (.map k v) (.fk b (H b).gen) r
 | .fH t=>KG H t (H b).body r
 | .gg t=>KH H t b r
 | .b6 k v=>KE k v (H b).body r
 | .fN e t=>KF H f e t (H b).body r
def wX(H:Nat->bt)(f:Nat->Nat):(l:List (Nat×bM))->Option (oY l×List Nat)
 | []=>some ((),[])
 | p::l=>p.2.iL H f (f p.1) (wX H f l)
def wY(H:Nat->bt)(f:Nat->Nat):(l:List (Nat×bG))->(Nat->aC)->{R:Type}->Option (R×List Nat)->Option (n6 l R×List Nat)
 | [],_,_,r=>r
 | p::l,c,_,r=>p.2.iL H f (c p.1) (wY H f l c r)
def dh.n7(sh:dh):List Nat:=sh.bl.filterMap λp=>if p.2.Cb then some p.1 else none
def dh.zi(sh:dh)(f:Nat->Nat)(s:ay):Option (sh.ag×List Nat):=
 match wY s.ab f sh.bD s.au (wX s.ab f sh.bl) with
 | some (A,fl)=>if sh.n7.all (λb=>!fl.contains (f b))=true then some (A,fl) else none
 | none=>none
def KI:List (Nat×bM)->Nat->Option bM
 | [],_=>none
 | p::l,b=>if b=p.1 then some p.2 else KI l b
def KJ(s:ay)(i b aZ g':Nat):ay:=
 match decide (aZ≠b/\g'=(s.ab aZ).gen),(s.ab aZ).body with
 | true,.a6 e xs=>⟨λj=>if j=i then .own b ((s.ab b).gen+1) else s.au j,λj=>if j=b then ⟨(s.ab b).gen+1,.a6 e xs⟩ else if j=aZ then ⟨(s.ab aZ).gen+1,.fb⟩ else s.ab j⟩
 | _,_=>s
def KK(bs:List (Nat×bM))(s:ay)(i b:Nat):ay:=
 match s.au i,KI bs b with
 | .cQ,some (.a6 e)=>⟨λj=>if j=i then .own b ((s.ab b).gen+1) else s.au j,(s.b_ b ⟨(s.ab b).gen+1,.a6 e []⟩).ab⟩
 | .own aZ g',some (.a6 _)=>KJ s i b aZ g'
 | _,_=>s
def KL(bs:List (Nat×bM))(s:ay)(c j b:Nat):ay:=
 match (s.ab c).body with
 | .cells t f=>match f j,(s.ab b).body,KI bs b with
  | .cQ,.fb,some (.a6 e)=>(s.b_ b ⟨(s.ab b).gen+1,.a6 e []⟩).b_ c ⟨(s.ab c).gen,.cells t λq=>if q=j then .own b ((s.ab b).gen+1) else f q⟩
  | _,_,_=>s
 | _=>s
def Fq(bs:List (Nat×bM)):List (Nat×bG)->ay->ay
 | [],s=>s
 | p::l,s=>Fq bs l (match p.2 with | .own b=>KK bs s p.1 b | _=>s)
def Fs(bs:List (Nat×bM))(c:Nat):List bG->Nat->ay->ay
 | [],_,s=>s
 | t::l,j,s=>Fs bs c l (j+1) (match t with | .own b=>KL bs s c j b | _=>s)
def Ft(bs:List (Nat×bM)):List (Nat×bM)->ay->ay
 | [],s=>s
 | p::l,s=>Ft bs l (match p.2 with | .cells _ ts=>Fs bs p.1 ts 0 s | _=>s)
def dh.Fu(sh:dh)(s:ay):ay:=Ft sh.bl sh.bl (Fq sh.bl sh.bD s)
def bM.R5:bM->Bool
 | .a6 _ | .hd _ | .fN _ _=>true
 | _=>false
def dh.Fv(sh:dh)(s:ay):Bool:=sh.bl.all λp=>!(decide (wu<=p.1)&&p.2.R5)||decide ((s.ab p.1).gen=0)
def dh.iL(sh:dh)(s:ay):Option (sh.ag):=
 match sh.Fv (sh.Fu s) with
 | true=>(sh.zi (λb=>b) (sh.Fu s)).map (·.1)
 | false=>none
def dh.mC{β:Type}(sh:dh)(s:ay)(k:sh.ag->M β):M β:=
 match sh.iL s with
 | some A=>k A
 | none=>M.fail
def bG.wZ(t:bG){R:Type}(r:R):t.cons R:=
 match t with
 | .val t=>(t.cM,r)
 | .dx t=>(t.cM,r)
 | .sub _=>((0,0),r)
 | .tr _=>((0,λ_=>False,[],false),r)
 | .gJ=>(0,r)
 | .iE _=>(0,r)
 | .undef | .loc _ _ | .own _ | .fk _ | .jM _ | .cQ | .ib _ _ | .hh _=>r
def R6:(l:List bG)->{R:Type}->R->pU l R
 | [],_,r=>r
 | t::l,_,r=>t.wZ (R6 l r)
def bM.wZ(t:bM){R:Type}(r:R):t.cons R:=
 match t with
 | .cells _ l=>R6 l r
 | .a6 _=>([],r)
 | .hd _=>([],r)
 | .mp _ _=>([],r)
 | .iT _ _=>([],r)
 | .fH t=>(t.cM,r)
 | .gg t=>(t.cM,r)
 | .b6 _ _=>((none,[]),r)
 | .fN _ t=>(([],0),t.wZ r)
def R7:(l:List (Nat×bM))->oY l
 | []=>()
 | p::l=>p.2.wZ (R7 l)
def R8:(l:List (Nat×bG))->{R:Type}->R->n6 l R
 | [],_,r=>r
 | p::l,_,r=>p.2.wZ (R8 l r)
def dh.wZ(sh:dh):sh.ag:=R8 sh.bD (R7 sh.bl)
structure SC where
 ts:ad
 tr:ad
 sh:ts.ag->M tr.ag
 dt:Bool
def aJ.c6(c:aJ):SC:=⟨c.ts,c.tr,c.sh,true⟩
def M.Cc{ai:Type}(m:M ai):Prop:=∀ x y,m.bB x->m.bB y->x=y
open Classical in
def M.val{ai:Type}(m:M ai)(d:ai):ai:=if h:∃ x,m.bB x then h.choose else d
def SC.fc(c:SC):aJ:=⟨c.ts,c.tr,λx=>(c.sh x).b4,λx=>(c.sh x).val c.tr.cM⟩
structure IOC where
 b3:dh
 bB:dh
 kg:z9'
 jZ:Nat
 sh:b3.ag->M bB.ag
structure ITC where
 ts:ad
 aH:ad
 pre:ts.ag->Prop
 seq:ts.ag->List aH.ag
inductive eH where
 | c6 (c:SC)
 | io (c:IOC)
 | b6 (c:ITC)
 | KM (c:SC)
 | Fw (c:IOC) (sh:Nat->c.b3.ag->M c.bB.ag) (ids:List Nat)
 | ow (c:aJ)
def Fx(aY:Nat->Option aJ)(Ψ:Nat->Option eH)(k:Nat):Option aJ:=
 match Ψ k with
 | some (.c6 c)=>match c.dt&&!nm c.tr with
  | true=>some c.fc
  | false=>none
 | some (.ow c)=>some c
 | some _=>none
 | none=>aY k
def KN(aY:Nat->Option aJ)(Ψ:Nat->Option eH)(k:Nat):Option SC:=
 match Ψ k with
 | some (.c6 c)=>some c
 | some _=>none
 | none=>(aY k).bind λc=>if nm c.tr=true then none else some c.c6
structure hC where
 ai:Type
 d:ai
 bQ:Prop
 m:M ai
 st:ai->ay
 Cd:Option (Bool->ai->ay)
def qK(s:ay)(o:Oper)(tr:ad)(fl:List Nat)(v:aC):ay:=(if tr.pure then s else s.ca fl).set o.dst v
def Ce(U:dd)(s:ay)(o:Oper)(args:List Operand)(c6:SC):Option hC:=
 match (iG c6.ts ((args.map (aS U s.au)).map λv=>(use v).2)).run s.ab with
 | some (x,fl)=>some ⟨c6.tr.ag,c6.tr.cM,jr (args.map (aS U s.au)),c6.sh x,λy=>qK s o c6.tr fl (qw c6.tr y),some λg y=>qK s o c6.tr fl (.hb g (qw c6.tr y))⟩
 | none=>none
def Fy(U:dd)(s:ay)(o:Oper)(args:List Operand)(c6:SC):Option hC:=
 match (iG c6.ts ((args.map (aS U s.au)).map λv=>(use v).2)).run s.ab with
 | some (x,_)=>some ⟨c6.tr.ag,c6.tr.cM,jr (args.map (aS U s.au)),c6.sh x,λy=>s.set o.dst (qw c6.tr y),none⟩
 | none=>none
def Cf(U:dd)(s:ay)(o:Oper)(t:Nat)(args:List Operand):Option hC:=
 match use (s.au t) with
 | (bQ,.val (.fn a b) f)=>match (iG a ((args.map (aS U s.au)).map λv=>(use v).2)).run s.ab with
  | some (x,fl)=>some ⟨b.ag,b.cM,bQ/\jr (args.map (aS U s.au)),f x,λy=>qK s o b fl (qw b y),some λg y=>qK s o b fl (.hb g (qw b y))⟩
  | none=>none
 | _=>none
def R9(t:bG)(av:aC):z8':=
 match t,av with
 | .loc aZ _,.loc b _ _=>[(aZ,b)]
 | .own aZ,.own b _=>[(aZ,b)]
 | .sub aZ,.own b _=>[(aZ,b)]
 | .sub aZ,.sub b _ _ _=>[(aZ,b)]
 | .fk aZ,.fk b _=>[(aZ,b)]
 | .jM aZ,.jM b _=>[(aZ,b)]
 | .ib _ fA,.ib _ _ cC=>(List.range fA.length).filterMap λi=>match fA[i]?,cC i with
  | some p,.loc b _ _=>some (p.1,b)
  | _,_=>none
 | _,_=>[]
def R_:List bG->(Nat->aC)->Nat->z8'
 | [],_,_=>[]
 | t::l,c,i=>R9 t (c i)++R_ l c (i+1)
def KO:z8'->Nat->Option Nat
 | [],_=>none
 | p::l,b=>if b=p.1 then some p.2 else KO l b
def R'(H:Nat->bt):List (Nat×bM)->z8'->z8'
 | [],m=>m
 | p::l,m=>R' H l (m++match p.2,KO m p.1 with
  | .cells _ ts,some b=>(match (H b).body with | .cells _ c=>R_ ts c 0 | _=>[])
  | _,_=>[])
def ad_(sh:dh)(s:ay):z8':=R' s.ab sh.bl (sh.bD.flatMap λp=>R9 p.2 (s.au p.1))
def rQ(s:ay)(avs:List aC):ay:=⟨λi=>if i=TRS then s.au TRS else if i<avs.length then avs.getD i .undef else .undef,s.ab⟩
def mD:Nat:=99999
def rR(s:ay)(d:Nat)(f:Nat->Nat)(ins:List Nat):List (Nat×bM)->Nat->z6'
 | [],_=>[]
 | p::l,j=>(if ins.contains p.1 then (p.1,(f p.1,match p.2 with
   | .cells _ _ | .fH _ | .mp _ _ | .gg _ | .iT _ _=>(s.ab (f p.1)).gen
   | .a6 _=>if wu<=p.1 then (s.ab (f p.1)).gen else (s.ab (f p.1)).gen+1
   | _=>(s.ab (f p.1)).gen+1)) else (p.1,(50000+10*d+j,(s.ab (50000+10*d+j)).gen+1)))::rR s d f ins l (j+1)
def hE:z6'->Nat->Nat×Nat
 | [],_=>(mD,0)
 | p::l,b=>if b=p.1 then p.2 else hE l b
def o0:z9'->(Nat->aC)->Nat->List aC
 | [],_,_=>[]
 | none::l,c,i=>c i::o0 l c (i+1)
 | some n::l,c,i=>.agg n (λj=>c (i+j))::o0 l c (i+n)
def KP(l:List aC):aC:=
 match l with
 | [v]=>v
 | l=>.pH l.length (gL l)
def w1(s:ay)(c:IOC)(f:Nat->Nat)(bV:z6')(τ:c.bB.ag):ay:=
 ⟨λi=>if i=TRS then (if c.bB.bD.any (λp=>p.1 == TRS) then e5 (dY (hE bV) c.bB.bD τ).1 TRS else if c.b3.bD.any (λp=>p.1 == TRS) then .undef else s.au TRS) else s.au i,λb=>match bV.find? (λp=>p.2.1 == b) with
  | some p=>⟨p.2.2,(ek (gN (hE bV) c.bB.bl (dY (hE bV) c.bB.bD τ).2) p.1).body⟩
  | none=>if (c.b3.n7.map f).contains b then ⟨(s.ab b).gen+1,.fb⟩ else s.ab b⟩
def ad'(s:ay)(o:Oper)(c:IOC)(f:Nat->Nat)(bV:z6')(τ:c.bB.ag):ay:=
 ay.set (w1 s c f bV τ) o.dst (KP (o0 c.kg (e5 (dY (hE bV) c.bB.bD τ).1) 0))
def Fz(l:List Nat):Bool:=decide l.Nodup
def Cg(c:IOC)(f:Nat->Nat)(dq:ay)(bV:z6')(d n:Nat):Bool:=
  decide (d < 4000) && decide (c.bB.bl.length <= 10) && Fz (c.b3.bl.map (·.1)) && Fz (c.b3.bl.map λp => f p.1) && Fz (bV.map (·.1)) && Fz (bV.map (·.2.1)) && (c.b3.bl.map (·.1)).all (λb => decide (eo <= b))
        &&!(bV.map (·.2.1)).contains mD&&(match (dq.ab mD).body with | .fb=>true | _=>false)&&c.bB.bl.all (λp=>c.b3.bl.all λq=>!(p.1 == q.1&&q.2.Cb)||p.2.Fm q.2)&&(decide (n=c.jZ)&&decide (n<=eo))
def qL(U:dd)(s:ay)(args:List Operand):List aC:=(args.map (aS U s.au)).map λv=>(use v).2
def qM(c:IOC)(ea:ay)(b:Nat):Nat:=(KO (ad_ c.b3 ea) b).getD mD
def w2(U:dd)(s:ay)(o:Oper)(args:List Operand)(c:IOC):Option hC:=
 match c.b3.zi (qM c (rQ s (qL U s args))) (rQ s (qL U s args)) with
 | some (A,fl)=>match Cg c (qM c (rQ s (qL U s args))) (s.ca fl) (rR (s.ca fl) (o.dst.getD 0) (qM c (rQ s (qL U s args))) c.b3.n7 c.bB.bl 0) (o.dst.getD 0) args.length with
  | true=>some ⟨c.bB.ag,c.bB.wZ,jr (args.map (aS U s.au)),c.sh A,λτ=>ad' (s.ca fl) o c (qM c (rQ s (qL U s args))) (rR (s.ca fl) (o.dst.getD 0) (qM c (rQ s (qL U s args))) c.b3.n7 c.bB.bl 0) τ,none⟩
  | false=>none
 | none=>none
def Sa:Nat:=999999
def Sb(c:IOC)(sh:Nat->c.b3.ag->M c.bB.ag)(ids:List Nat)(n:Option Nat):IOC:={ c with sh:=λA=>M.ae (∃ k∈ids,n=some k) (sh (n.getD 0) A) }
def FA(U:dd)(Ψ:Nat->Option eH)(s:ay)(o:Oper)(t:Nat)(args:List Operand):Option hC:=
 match s.au t with
 | .val .dM n=>match Ψ Sa with
  | some (.Fw c sh ids)=>w2 U s o args (Sb c sh ids n)
  | _=>none
 | _=>none
def FB(U:dd)(s:ay)(o:Oper)(t:Nat)(args:List Operand):Option hC:=
 match s.au t,s.au TRS with
 | .gJ l',.tr l aH L n st=>match (iG aH ((args.map (aS U s.au)).map λv=>(use v).2)).run s.ab with
  | some (x,fl)=>some ⟨Bool,false,jr (args.map (aS U s.au)),M.ae (l'=l/\st=false/\∃ T,L (n++x::T)) (M.any λ_=>True),λb=>ay.set ⟨λi=>if i=TRS then .tr l aH L (n++[x]) (!b) else s.au i,(s.ca fl).ab⟩ o.dst (.val .bool b),none⟩
  | none=>none
 | _,_=>none
def FC(U:dd)(T:Nat->ad)(s:ay)(o:Oper)(ty:TypeId)(x:Operand):Option hC:=
 match T ty,o.dst with
 | .map k v,some d=>match use (aS U s.au x) with
  | (bQ,av)=>match (da (.map k v) av).run s.ab with
   | some (es,fl)=>if fl.contains d then none else
    some ⟨Unit,(),bQ,M.pure (),λ_=>((s.ca fl).b_ d ⟨(s.ab d).gen+1,.b6 k v none es⟩).set o.dst (.jM d ((s.ab d).gen+1)),none⟩
   | none=>none
 | _,_=>none
def FD{ai:Type}(l:List ai):M (Option Nat):=⟨True,λx=>match x with | none=>l=[] | some i=>i<l.length⟩
def Sc(i:Option Nat):Nat:=match i with | none=>0 | some _=>2
def ny{ai:Type}(c:Option ai)(bZ:List ai)(i:Option Nat):Option ai:=match i with | none=>c | some i=>bZ[i]?
def Ch{ai:Type}(bZ:List ai)(i:Option Nat):List ai:=match i with | none=>bZ | some i=>bZ.eraseIdx i
def FE(U:dd)(s:ay)(o:Oper)(x:Operand)(str:Bool):Option hC:=
 match str,aS U s.au x with
 | false,.jM b g=>if (s.ab b).gen=g then (match (s.ab b).body with
  | .b6 k v c bZ=>some ⟨Option Nat,none,True,FD bZ,λi=>(s.b_ b ⟨g,.b6 k v (ny c bZ i) (Ch bZ i)⟩).set o.dst (.pH (Nat.succ (Sc i)) (gL [.val .bool i.isSome])),none⟩
  | _=>none) else none
 | _,_=>none
def FF(U:dd)(s:ay)(o:Oper)(x:Operand):Option hC:=
 match aS U s.au x with
 | .jM b g=>if (s.ab b).gen=g then (match (s.ab b).body with
  | .b6 k v c _=>some ⟨Unit,(),True,M.ae (c.isSome=true) (M.pure ()),λ_=>s.set o.dst (.pH 2 (gL [.val k ((c.map (·.1)).getD k.cM),.val v ((c.map (·.2)).getD v.cM)])),none⟩
  | _=>none) else none
 | _=>none
def Ci(U:dd)(T:Nat->ad)(s:ay)(o:Oper)(op:BinOp)(ty:TypeId)(x y:Operand):Option hC:=
 match T ty,aS U s.au y with
 | .slice e,.cQ=>match (da (.slice e) (use (aS U s.au x)).2).run s.ab with
  | some (xs,_)=>match op with
   | .eql=>some ⟨Bool,false,(use (aS U s.au x)).1,M.any λb=>b=true->xs=[],λb=>s.set o.dst (.val .bool b),none⟩
   | .neq=>some ⟨Bool,false,(use (aS U s.au x)).1,M.any λb=>b=true->xs=[],λb=>s.set o.dst (.val .bool (!b)),none⟩
   | _=>none
  | none=>none
 | _,_=>none
def qN(U:dd)(T:Nat->ad)(aY:Nat->Option aJ)(Ψ:Nat->Option eH)(s:ay)(o:Oper):Option hC:=
 match o.op with
 | .call c=>match c.callee with
  | .value f=>match f with
   | .func k=>match Ψ k with
    | some (.io c')=>w2 U s o c.args.toList c'
    | some (.KM c')=>Fy U s o c.args.toList c'
    | _=>match KN aY Ψ k with
     | some c6=>Ce U s o c.args.toList c6
     | none=>none
   | .tmp t=>match Cf U s o t c.args.toList with
    | some r=>some r
    | none=>match FA U Ψ s o t c.args.toList with
     | some r=>some r
     | none=>FB U s o t c.args.toList
   | _=>none
  | _=>none
 | .range ty x=>FC U T s o ty x
 | .next x str=>FE U s o x str
 | .entry x=>FF U s o x
 | .binOp op ty x y _=>Ci U T s o op ty x y
 | _=>none
def bS{ai:Type}(g:Bool)(m:M ai)(d:ai):M ai:=if g=true then m else M.pure d
def rS{β:Type}(b:Bool)(p:Prop)(m:M β):M β:=match b with | true=>m | false=>M.ae p m
def Cj(o:Oper)(eJ:aC)(l:List (Nat×bt)):Option (List (Nat×bt)×aC):=
 match l with
 | []=>some ([],eJ)
 | p::l'=>match o.op with
  | .makeFunc ..=>some (p::l',eJ)
  | .buildSlice _ n _=>match l',eJ,p.2.body with
   | [],.own aZ g',.a6 e xs=>if (aZ=p.1/\g'=p.2.gen)/\n≠0 then some ([(p.1,⟨p.2.gen,.fb⟩)],.val (.slice e) xs) else none
   | _,_,_=>none
  | _=>none
def Sd(hf:List (Nat×bt))(eJ:aC):aC:=
 match eJ with
 | .own b _=>match hf.find? (λp=>p.1 == b) with
  | some (_,⟨_,.a6 e xs⟩)=>.val (.slice e) xs
  | _=>eJ
 | _=>eJ
abbrev o2:=List (Nat×(Nat×Bool))
def rT(ops:Array Oper)(j d:Nat):Bool:=match ops[j]? with | some o=>(match o.dst with | some e=>e == d | none=>false) | none=>false
def aea(tg:o2)(t:Nat)(k:Nat×Bool):Bool:=tg.any λp=>p.1 == t&&(p.2.1 == k.1&&p.2.2 == k.2)
def w3(ops:Array Oper)(tg:o2)(o:Oper):o2:=
 match o.dst with
 | none=>tg
 | some d=>match o.guard with
  | some k=>if rT ops k.1 d=true then tg.filter λp=>p.1 != d&&!rT ops p.2.1 d else (d,k)::tg.filter λp=>p.1 != d&&!rT ops p.2.1 d
  | none=>tg.filter λp=>p.1 != d&&!rT ops p.2.1 d
def w4(aD:Operand->aC)(tg:o2)(gk:Option (Nat×Bool))(x:Operand):Bool:=
 !(aD x).zb||(match x,gk with | .tmp t,some k=>aea tg t k | _,_=>false)
def FG(ops:Array Oper)(tg:o2)(c x:Operand)(want:Bool):Bool:=
 match c,x with
 | .tmp c,.tmp t=>tg.any λp=>p.1 == t&&(rT ops p.2.1 c&&p.2.2 == want)
 | _,_=>false
def KQ(aD:Operand->aC)(tg:o2)(gk:Option (Nat×Bool))(o:Oper):Bool:=o.op.operands.toList.all (w4 aD tg gk)
def zj(aD:Operand->aC)(ops:Array Oper)(tg:o2)(gk:Option (Nat×Bool))(o:Oper):Bool:=
 match o.op with
 | .pick c a b=>w4 aD tg gk c&&((w4 aD tg gk a||FG ops tg c a true)&&(w4 aD tg gk b||FG ops tg c b false))
 | _=>KQ aD tg gk o
def KR(aD:Operand->aC)(tg:o2)(gk:Option (Nat×Bool))(o:Oper)(eJ:aC):Bool:=
 !eJ.zb||(match o.op with | .move x=>w4 aD tg gk x | _=>false)
def hR:Operand->Option Nat
 | .tmp t=>some t
 | _=>none
def zk(o f_ kx:Oper):Option (Oper×Nat×Nat):=
 match o.op with
 | .mapEntry ty m x=>match f_.op with
  | .extract e 1=>match kx.op with
   | .entryStore mo c7 aR y=>match o.dst,f_.dst,kx.dst with
    | some d1,some d2,none=>if hR e=some d1/\hR aR=some d2/\mo=ty/\(hR c7).isSome=true/\hR c7=hR m/\(hR y).isSome=true/\hR m≠some d1/\hR m≠some d2/\hR y≠some d1/\hR y≠some d2/\o.guard.isNone=true/\f_.guard.isNone=true/\kx.guard.isNone=true
     then some ({ kx with op:=.mapUpdate ty m x y },d1,d2) else none
    | _,_,_=>none
   | _=>none
  | _=>none
 | _=>none
def zl(o:Oper)(os:List Oper):Option (Oper×Nat×Nat):=
 match os with
 | f_::kx::_=>zk o f_ kx
 | _=>none
def FH{β:Type}:Nat->Int->(Nat->M β)->M β
 | 0,_,_=>M.fail
 | 1,_,k=>k 0
 | n+2,v,k=>if v=((n+1:Nat):Int) then k (n+1) else FH (n+1) v k
theorem Se{β:Type}{O:β->Prop}{k:Nat->M β}{v:Int}:∀ {n:Nat},M.b9 (FH n v k) O->0<=v->v<(n:Int)->M.b9 (k v.toNat) O
 | 0,h,_,_=>h.1.elim
 | 1,h,h0,h1=>by
  have:v.toNat=0:=by omega
  rw[this];exact h
 | n+2,h,h0,h1=>by
  unfold FH at h;split at h
  ·grind
  ·exact Se h h0 (by omega)
def lY{β:Type}(U:dd)(T:Nat->ad)(aY:Nat->Option aJ)(Ψ:Nat->Option eH)(ops:Array Oper):List Oper->o2->ay->(ay->M β)->M β
 | [],_,s,k=>k s
 | o::os,tg,s,k=>
  match zl o os with
  | some (oU,d1,d2)=>match os with
   | _::_::aeb=>match (be U T aY (aS U s.au) oU).run s.ab with
    | some res=>M.ae res.bQ (M.ae res.c (lY U T aY Ψ ops aeb [] (((s.hO none res).set (some d1) .undef).set (some d2) .undef) k))
    | none=>M.fail
   | _=>M.fail
  | none=>
  match kd s.au ops o.guard with
  | none=>M.fail
  | some none=>match (be U T aY (aS U s.au) o).run s.ab with
   | some res=>rS (zj (aS U s.au) ops tg none o) res.bQ (rS (mA (aS U s.au) o) res.c (lY U T aY Ψ ops os (w3 ops tg o) (s.hO o.dst res) k))
   | none=>match qN U T aY Ψ s o with
    | some pr=>rS (rP (aS U s.au) o) pr.bQ (M.bind pr.m λy=>lY U T aY Ψ ops os [] (pr.st y) k)
    | none=>M.fail
  | some (some g)=>match (be U T aY (aS U s.au) o).run s.ab with
   | some ⟨bQ,c,eJ,hf⟩=>match Cj o eJ hf with
    | some (w5,rU)=>rS (zj (aS U s.au) ops tg o.guard o&&(mA (aS U s.au) o&&KR (aS U s.au) tg o.guard o rU)) (g=true->bQ/\(c/\(use rU).1)) (lY U T aY Ψ ops os (w3 ops tg o) ((s.fG w5).set o.dst (.hb g (use rU).2)) k)
    | none=>if g=true then M.ae bQ (M.ae c (lY U T aY Ψ ops os [] (s.hO o.dst ⟨bQ,c,eJ,hf⟩) k)) else lY U T aY Ψ ops os [] (s.set o.dst (.hb false (Sd hf (use eJ).2))) k
   | none=>match qN U T aY Ψ s o with
    | some pr=>match pr.Cd with
     | some gs=>rS (KQ (aS U s.au) tg o.guard o) (g=true->pr.bQ) (M.bind (bS g pr.m pr.d) λy=>lY U T aY Ψ ops os (w3 ops tg o) (gs g y) k)
     | none=>if g=true then M.ae pr.bQ (M.bind pr.m λy=>lY U T aY Ψ ops os [] (pr.st y) k) else lY U T aY Ψ ops os [] (s.set o.dst (.hb false (use ((pr.st pr.d).au (o.dst.getD 0))).2)) k
    | none=>M.fail
def Ck{β:Type}:List Prop->M β->M β
 | [],m=>m
 | p::l,m=>M.ae p (Ck l m)
def zm(cl:List (List Nat)):Nat->Nat
 | 0=>0
 | n+1=>if (List.range n).all (λi=>(cl.getD n []).contains i)=true then zm cl n else n+1
def KS(ga h6 hi iq lx:Oper):Bool:=
 match ga.op,h6.op,hi.op with
 | .lookup ty m x false,.binOp .add _ (.tmp t) (.const (.int k c)) _,.mapEntry mo c7 dk=>match ga.dst,h6.dst,zk hi iq lx with
  | some dG,some fo,some (_,d1,d2)=>decide (t=dG/\mo=ty/\fw k c/\hR c7=hR m/\hR dk=hR x/\dG≠fo/\dG≠d1/\dG≠d2/\fo≠d1/\fo≠d2/\d1≠d2/\
    (hR m).isSome=true/\(hR x).isSome=true/\hR m≠some dG/\hR m≠some fo/\hR m≠some d1/\hR m≠some d2/\hR x≠some dG/\hR x≠some fo/\hR x≠some d1/\hR x≠some d2/\ga.guard.isNone=true/\h6.guard.isNone=true)
  | _,_,_=>false
 | _,_,_=>false
def FI(ops:List Oper):Bool:=
 match ops.drop (ops.length - 5) with
 | [ga,h6,hi,iq,lx]=>KS ga h6 hi iq lx&&(B' ops&&((List.range 5).all λq=>(List.range (ops.length - 5)).all λi=>((h4 ops).getD (ops.length - 5+q) []).contains i)&&
   ((h4 ops).getD (ops.length - 5+1) []).contains (ops.length - 5)&&((h4 ops).getD (ops.length - 5+3) []).contains (ops.length - 5+2)&&((List.range 4).all λq=>((h4 ops).getD (ops.length - 5+4) []).contains (ops.length - 5+q))&&
   (hQ hi).all (λi=>decide (i<ops.length - 5))&&(hQ iq).all (λi=>decide (i<ops.length - 5)||decide (i=ops.length - 5+2)))
 | _=>false
def ly(ops:List Oper):Nat:=if FI ops=true then ops.length - 5 else zm (h4 ops) ops.length
def M.aec{ai:Type}(l:List (M ai)):M ai:=⟨∀ m∈l,m.b4,λx=>∃ m∈l,m.bB x⟩
def uT(ops:List Oper)(done:List Nat):List Nat:=(List.range ops.length).filter λi=>!done.contains i&&match ops[i]? with | some o=>(hQ o).all λj=>done.contains j | none=>false
def qO(ops:List Oper):Nat->List Nat->List (List Nat)
 | 0,_=>[[]]
 | f+1,done=>match uT ops done with
  | []=>[[]]
  | l=>l.flatMap λi=>(qO ops f (i::done)).map (i::·)
def FJ(ops:List Oper):Nat->List Nat->Bool
 | 0,done=>(uT ops done).isEmpty
 | f+1,done=>(uT ops done).all λi=>FJ ops f (i::done)
def FK{β:Type}(U:dd)(T:Nat->ad)(aY:Nat->Option aJ)(Ψ:Nat->Option eH)(ops:Array Oper)(o:Oper)(s:ay)(k:ay->M β):M β:=
 match o.guard with
 | some _=>M.fail
 | none=>match (be U T aY (aS U s.au) o).run s.ab with
  | some res=>rS (zj (aS U s.au) ops [] none o) res.bQ (rS (mA (aS U s.au) o) res.c (k (s.hO o.dst res)))
  | none=>match qN U T aY Ψ s o with
   | some pr=>rS (rP (aS U s.au) o) pr.bQ (M.bind pr.m λy=>k (pr.st y))
   | none=>M.fail
def zn{β:Type}(U:dd)(T:Nat->ad)(aY:Nat->Option aJ)(Ψ:Nat->Option eH)(ops:Array Oper):List Nat->ay->(ay->M β)->M β
 | [],s,k=>k s
 | i::bR,s,k=>match ops[i]? with
  | some o=>FK U T aY Ψ ops o s λs'=>zn U T aY Ψ ops bR s' k
  | none=>M.fail
def Sf{β:Type}(U:dd)(T:Nat->ad)(aY:Nat->Option aJ)(Ψ:Nat->Option eH)(ops:Array Oper)(s:ay)(k:ay->M β):M β:=
 match FJ ops.toList ops.size [] with
 | true=>M.aec ((qO ops.toList ops.size []).map λl=>zn U T aY Ψ ops l s k)
 | false=>M.fail
def zo{β:Type}(U:dd)(T:Nat->ad)(aY:Nat->Option aJ)(Ψ:Nat->Option eH)(ops:Array Oper)(s:ay)(k:ay->M β):M β:=
 match wR U T aY ops ops.toList s with
 | some (l,s')=>match ze ops.toList l with
  | true=>Ck (l.flatMap ej.cs) (k s')
  | false=>M.fail
 | none=>match wR U T aY ops (ops.toList.take (ly ops.toList)) s with
  | some (l,s')=>match ze (ops.toList.take (ly ops.toList)) l&&B' ops.toList with
   | true=>Ck (l.flatMap ej.cs) (lY U T aY Ψ ops (ops.toList.drop (ly ops.toList)) [] s' k)
   | false=>M.fail
  | none=>Sf U T aY Ψ ops s k
def kU(ops:List Oper):List Oper:=
 match ops with
 | []=>[]
 | o::l=>o::l.map λp=>{ p with after:=p.after.push ⟨0,.phase⟩ }
def KT(ops:Array Oper):Bool:=
 match ops.toList with
 | []=>false
 | o::l=>(match o.op with | .move _=>true | _=>false)&&(o.guard.isNone&&(o.after.isEmpty&&(Region.noSelect ops&&l.all λp=>(hQ p).contains 0||o.apart ops p)))
inductive cd where
 | ei
 | seq (a b:cd)
 | join (sh:dh) (a b:cd)
 | cond (a b:cd)
 | block (a:cd)
 | loop (sh:dh) (a:cd)
 | scope (a:cd)
 | range (sh rin rout:dh) (a b:cd)
 | nz (a b:cd)
 | split (i off n:Nat) (a:cd)
 | num (i n:Nat) (a:cd)
 | nu (i:Nat) (a:cd)
 | FL (b:Nat) (a:cd)
 | FM
def cd.dH:cd->Bool
 | .ei=>true
 | .seq a b=>a.dH&&b.dH
 | .join _ a b=>a.dH&&b.dH
 | .cond a b=>a.dH&&b.dH
 | .block a=>a.dH
 | .loop _ a=>a.dH
 | .scope a=>a.dH
 | .range ..=>false
 | .nz a b=>a.dH&&b.dH
 | .split _ _ _ a=>a.dH
 | .num _ _ a=>a.dH
 | .nu _ a=>a.dH
 | .FL _ a=>a.dH
 | .FM=>false
def cd.n8:cd->Bool
 | .nz ..=>true
 | .ei=>true
 | _=>false
inductive cO where
 | normal
 | exit (id:Nat)
 | ret
def cO.o3:cO->Exit
 | .normal=>.normal
 | .exit id=>.exit id
 | .ret=>.ret
open M (V)
def Sg{β:Type}(k:cO->ay->M β)(f:ay->M β)(e:cO)(s:ay):M β:=
 match e with
 | .normal=>f s
 | .exit id=>k (.exit id) s
 | .ret=>k .ret s
def w6{A β:Type}(k:cO->ay->M β)(f:ay->M (V A β))(e:cO)(s:ay):M (V A β):=
 match e with
 | .normal=>f s
 | .exit id=>M.bind (k (.exit id) s) λr=>M.pure (.done r)
 | .ret=>M.bind (k .ret s) λr=>M.pure (.done r)
def Sh{β:Type}(id:Nat)(k:cO->ay->M β)(e:cO)(s:ay):M β:=
 match e with
 | .normal=>k .normal s
 | .exit FN=>if FN=id then k .normal s else k (.exit FN) s
 | .ret=>k .ret s
def V.bm{A β:Type}(f:A->M β)(st:V A β):M β:=
 match st with
 | .next x=>f x
 | .done r=>M.pure r
def Si{β:Type}(v:aC)(m n:M β):M β:=
 match v with
 | .val .bool t=>if t=true then m else n
 | .hb g (.val .bool t)=>M.ae (g=true) (if t=true then m else n)
 | _=>M.fail
def pV(s:ay)(i off:Nat):Option (Int×(Nat->ay)):=
 match s.au i with
 | .loc b _ o=>match (s.ab b).body with
  | .cells t f=>match f (o+off) with
   | .val (.int tp) x=>some (x,λj=>⟨s.au,λaZ=>if aZ=b then ⟨(s.ab b).gen,.cells t λq=>if q=o+off then .val (.int tp) (j:Int) else f q⟩ else s.ab aZ⟩)
   | _=>none
  | _=>none
 | _=>none
theorem aed{s:ay}{i off:Nat}{x:Int}{f:Nat->ay}(h:pV s i off=some (x,f))(h0:0<=x):f x.toNat=s:=by
 unfold pV at h;split at h
 ·rename_i b g o hs;split at h
  ·rename_i t ij aa;split at h
   ·rename_i tp dk hx;simp only[Option.some.injEq,Prod.mk.injEq]at h;obtain⟨rfl,rfl⟩:=h;have e0:((dk.toNat:Nat):Int)=dk:=by omega
    have e1:(λq=>if q=o+off then aC.val (.int tp) (show (ad.int tp).ag from ((dk.toNat:Nat):Int)) else ij q)=ij:=by
     grind
    have e2:(λaZ=>if aZ=b then (⟨(s.ab b).gen,.cells t ij⟩:bt) else s.ab aZ)=s.ab:=by
     funext q;split
     ·rename_i e;rw[e,<-aa]
     ·rfl
    simp_all
   grind
  grind
 grind
def qP(s:ay)(i:Nat):Option (Int×(Nat->ay)):=
 match s.au i with
 | .val (.int tp) x=>some (x,λn=>⟨λj=>if j=i then .val (.int tp) (n:Int) else s.au j,s.ab⟩)
 | _=>none
theorem aee{s:ay}{i n:Nat}{x:Int}{f:Nat->ay}(h:qP s i=some (x,f))(h0:x=(n:Int)):f n=s:=by
 unfold qP at h;split at h
 ·rename_i tp dk hs;simp only[Option.some.injEq,Prod.mk.injEq]at h;obtain⟨rfl,rfl⟩:=h;have e1:(λj=>if j=i then aC.val (.int tp) (show (ad.int tp).ag from (n:Int)) else s.au j)=s.au:=by
   grind
  simp_all
 grind
def KU(s:ay)(i:Nat):Option ay:=
 match s.au i with
 | .nV b g n off=>match (s.ab b).body,off with
  | .a6 (.st (.slice e)) xs,0=>if g=(s.ab b).gen then some ⟨λj=>if j=i then .iE b g n else s.au j,λaZ=>if aZ=b then ⟨g,.fN (.st (.slice e)) xs n (.val (.slice e) (xs.getD n []))⟩ else s.ab aZ⟩ else none
  | _,_=>none
 | _=>none
def KV(s:ay)(b:Nat):Option ay:=
 match (s.ab b).body with
 | .fN (.st (.slice e)) xs n v=>match (da (.slice e) v).run s.ab with
  | some (y,fl)=>if fl.contains b then none else some ((s.ca fl).b_ b ⟨(s.ab b).gen,.a6 (.st (.slice e)) (xs.set n y)⟩)
  | none=>none
 | _=>none
def jx{A ai:Type}(body:A->ai->M (cO×A)):List ai->A->M (cO×A)
 | [],A=>M.pure (.normal,A)
 | x::xs,A=>M.bind (body A x) λp=>match p.1 with
  | .normal=>jx body xs p.2
  | .exit id=>M.pure (.exit id,p.2)
  | .ret=>M.pure (.ret,p.2)
def zp(aH:ad)(x:aH.ag):List Tmp->Nat->(Nat->aC)->Nat->aC
 | [],_,f=>f
 | p::ps,i,f=>zp aH x ps (i+1) (λj=>if j=p then j' aH x i else f j)
def w7(s:ay)(aH:ad)(x:aH.ag)(ps:List Tmp):ay:=⟨λi=>if i=TRS then s.au TRS else zp aH x ps 0 s.au i,s.ab⟩
def uU(rin rout:dh):IOC:=⟨rin,rout,[],0,λ_=>M.fail⟩
def tq{τ:Type}(sh rin rout:dh)(aH:ad)(ps:List Tmp)(A:sh.ag)(x:aH.ag)(run:ay->M (τ×rout.ag)):M (τ×sh.ag):=
 match rin.zi (qM (uU rin rout) (w7 (sh.st A) aH x ps)) (w7 (sh.st A) aH x ps) with
 | some (aD,fl)=>match Cg (uU rin rout) (qM (uU rin rout) (w7 (sh.st A) aH x ps)) ((sh.st A).ca fl) (rR ((sh.st A).ca fl) 0 (qM (uU rin rout) (w7 (sh.st A) aH x ps)) rin.n7 rout.bl 0) 0 0 with
  | true=>M.bind (run (rin.st aD)) λp=>sh.mC (w1 ((sh.st A).ca fl) (uU rin rout) (qM (uU rin rout) (w7 (sh.st A) aH x ps)) (rR ((sh.st A).ca fl) 0 (qM (uU rin rout) (w7 (sh.st A) aH x ps)) rin.n7 rout.bl 0) p.2) λir=>M.pure (p.1,ir)
  | false=>M.fail
 | none=>M.fail
def nA(sh rout:dh)(aH:ad)(ps:List Tmp)(nt:Nat):Bool:=
 rout.bD.isEmpty&&!sh.bD.any (λp=>p.1 == TRS)&&decide (aH≠.cx)&&decide (ps.length=jP aH)&&ps.all λp=>decide (p<nt)
def FO{β:Type}(f:ay->M β)(e:cO)(s:ay):M β:=
 match e with
 | .normal=>f s
 | .exit _=>M.fail
 | .ret=>M.fail
def rV{β:Type}(n:M β)(x:Nat->M β)(r:M β)(e:cO):M β:=
 match e with
 | .normal=>n
 | .exit id=>x id
 | .ret=>r
def KW{β:Type}(k:cO->ay->M β)(e:cO)(s:ay):M β:=rV (k .normal s) (λid=>k (.exit id) s) (k .ret s) e
theorem Sj{β:Type}(k:cO->ay->M β)(e:cO)(s:ay):KW k e s=k e s:=by cases e<;>rfl
def ed(U:dd)(T:Nat->ad)(aY:Nat->Option aJ)(Ψ:Nat->Option eH):cd->{β:Type}->Code->ay->(cO->ay->M β)->M β
 | .seq a b,_,c,s,k=>match c with
  | .seq x y=>ed U T aY Ψ a x s (Sg k λs'=>ed U T aY Ψ b y s' k)
  | _=>M.fail
 | .join sh a b,β,c,s,k=>match c with
  | .seq x y=>M.bind (ed U T aY Ψ a (β:=V sh.ag β) x s (w6 k λs'=>sh.mC s' λA=>M.pure (.next A))) (V.bm λA=>ed U T aY Ψ b y (sh.st A) k)
  | _=>M.fail
 | .cond a b,_,c,s,k=>match c with
  | .cond c x y=>Si (aS U s.au c) (ed U T aY Ψ a x s k) (ed U T aY Ψ b y s k)
  | _=>M.fail
 | .block a,_,c,s,k=>match c with
  | .block id c=>ed U T aY Ψ a c s (Sh id k)
  | _=>M.fail
 | .loop sh a,β,c,s,k=>match c with
  | .loop c=>sh.mC s λA=>M.loop (λA=>ed U T aY Ψ a (β:=V sh.ag β) c (sh.st A) (w6 k λs'=>sh.mC s' λir=>M.pure (.next ir))) A
  | _=>M.fail
 | .nz a b,_,c,s,k=>match c with
  | .loop x=>match b.n8 with
   | true=>ed U T aY Ψ a x s (Sg k λs'=>ed U T aY Ψ b (.loop x) s' k)
   | false=>M.fail
  | _=>M.fail
 | .scope a,_,c,s,k=>match c with
  | .scope c=>ed U T aY Ψ a c s k
  | _=>M.fail
 | .num i n a,_,c,s,k=>match qP s i with
  | some (x,f)=>M.ae (x=(n:Int)) (ed U T aY Ψ a c (f n) k)
  | none=>M.fail
 | .nu i a,_,c,s,k=>match KU s i with
  | some s'=>ed U T aY Ψ a c s' k
  | none=>M.fail
 | .FL b a,_,c,s,k=>match KV s b with
  | some s'=>ed U T aY Ψ a c s' k
  | none=>M.fail
 | .split i off n a,_,c,s,k=>match pV s i off with
  | some (x,f)=>M.ae (0<=x/\x<(n:Int)) (FH n x λj=>ed U T aY Ψ a c (f j) k)
  | none=>M.fail
 | .range sh rin rout a b,_,c,s,k=>match c with
  | .rangeFunc g ps assign body=>match aS U s.au g with
   | .ry qQ n ev=>match Ψ qQ with
    | some (.b6 ic)=>match (iG ic.ts ((List.range n).map ev)).run s.ab with
     | some (x,fl)=>match nA sh rout ic.aH ps.toList eo&&(a.dH&&b.dH) with
      | true=>sh.mC (s.ca fl) λA=>M.ae (ic.pre x) (M.bind (jx (λA y=>tq sh rin rout ic.aH ps.toList A y λea=>
       ed U T aY Ψ a (β:=cO×rout.ag) assign ea (FO λdq=>ed U T aY Ψ b body dq λe ee=>rout.mC ee λτ=>M.pure (e,τ))) (ic.seq x) A) λp=>KW k p.1 (sh.st p.2))
      | false=>M.fail
     | none=>M.fail
    | _=>M.fail
   | .val (.b6 aH) S=>match nA sh rout aH ps.toList eo&&(a.dH&&b.dH) with
    | true=>sh.mC s λA=>M.bind (M.any S) λL=>M.bind (jx (λA y=>tq sh rin rout aH ps.toList A y λea=>
     ed U T aY Ψ a (β:=cO×rout.ag) assign ea (FO λdq=>ed U T aY Ψ b body dq λe ee=>rout.mC ee λτ=>M.pure (e,τ))) L A) λp=>KW k p.1 (sh.st p.2)
    | false=>M.fail
   | _=>M.fail
  | _=>M.fail
 | .FM,_,c,s,k=>match c with
  | .region _ ops draw=>match draw&&KT ops with
   | true=>zo U T (Fx aY Ψ) Ψ (kU ops.toList).toArray s (k .normal)
   | false=>M.fail
  | _=>M.fail
 | .ei,_,c,s,k=>match c with
  | .region _ ops draw=>match draw with
   | true=>zo U T (Fx aY Ψ) Ψ ops s (k .normal)
   | false=>lY U T aY Ψ ops ops.toList [] s (k .normal)
  | .skip=>k .normal s
  | .label _=>k .normal s
  | .exit id=>k (.exit id) s
  | .ret=>k .ret s
  | _=>M.fail
def kV(nt:Nat):Code->Bool
 | .region _ ops _=>ops.toList.all λo=>kS o nt
 | .seq a b=>kV nt a&&kV nt b
 | .cond _ a b=>kV nt a&&kV nt b
 | .block _ a=>kV nt a
 | .loop a=>kV nt a
 | .scope a=>kV nt a
 | .rangeFunc _ ps a b=>ps.toList.all (λp=>decide (p<nt))&&(kV nt a&&kV nt b)
 | .skip=>true
 | .label _=>true
 | .exit _=>true
 | .ret=>true
 | _=>false
end Go.Fer
