/- Part 2 of the proof of Replayed: shallow programs of Go functions, and what they compute. No condition. -/
import Derived.Test.YtplfnoecifjgeaaGreatDoorReplayedA
import Derived.Laws.BytesString
noncomputable section
set_option linter.unusedVariables false
set_option linter.unusedSimpArgs false
namespace Go.Fer
open Go.RowKit
theorem BS{p:Addr}(h:p.spot=none)(n:Nat):p.add n=⟨p.block,p.off+n,none⟩:=by
 obtain⟨b,o,sp⟩:=p;simp only at h;subst h;exact uJ b o n
theorem JY{e:ae}{xs:List e.ah}{i:Int}(h1:0<=i)(h2:i<(xs.length:Int)):ku e xs i=xs[i.toNat]'(by omega):=by
 unfold ku;grind
section
variable {C:bQ} {T:Nat->ae} {a1:Nat->Option aJ} {o:Oper} {s:ay} {res:dY}
theorem JZ{P:Program}{w:World}{e:ae}{ty:TypeId}(h:bP P (.slice e) ty){p:Addr}(hp:p.spot=none){n cap:Nat}{k:IntKind}{i:Int}(h1:0<=i)(h2:i<(n:Int)) :
  (Instr.indexAt ty (.slice (some p) n cap) (.int k i)).run P w=.ok (.pointer (some ⟨p.block,p.off+i.toNat*e.size,none⟩)) w:=by
 obtain⟨j,aC,iK,_⟩:=h.sl;simp[Instr.indexAt,asIntOf,df aC,h1,h2,iK.size,BS hp]
theorem acV(hT:dw C.P T){ty:TypeId}{x i:Operand}(a6:∀ i,o.dst=some i->i<C.nt)(ag:o.op=.indexAddr ty x i)(h:(bf C.aL T a1 (aT C.aL s.aw) o).run s.ad=some res):cm C o s res:=by
 simp only[bf,ag]at h;split at h
 ·rename_i e0 k n aH G;have cV:=hT.bS aH (by simp);simp only[bz,aq.eG,Option.bind_eq_some_iff,aq.bx,Option.some.injEq]at h;obtain⟨⟨c,v⟩,gO,rfl⟩:=h;refine cm.pure (by grind) a6 λa w κ F V aY hc=>?_;have hx:bk C.P s.ad κ F w (use (aT C.aL s.aw x)).2 (a.eval x):=ct V x rfl aY.1;have h2:=n0 (ct V i rfl aY.2) G;have y0:∀ (xs:List e0.ah),bt C.P (.slice e0) F w [a.eval x] xs->0<=n/\n<(xs.length:Int)->∃ r,(execOp a.eval o).run C.P w=.ok (.value r) w/\bk C.P s.ad κ F w (.dy e0 (ku e0 xs n)) r:=by
   intro xs hA aA;obtain⟨a',cap,e1,m1,m2,m3,m4⟩:=hA;have e1:=(List.cons.inj e1).1;cases a' with
   | none=>grind
   | some p=>
    obtain⟨dG,dJ,jt⟩:=m4 p rfl (by omega);obtain⟨a8,d1,d2⟩:=jt n.toNat (by omega);refine⟨_,by simp[execOp,ag,e1,h2.1,JZ cV dJ aA.1 aA.2],⟨p.block,p.off+n.toNat*e0.size,none⟩,a8,rfl,d1,?_⟩;rw[JY aA.1 aA.2];exact d2
  unfold QS at gO;split at gO
  ·rename_i e xs eK;simp only[aq.bx]at gO;split at gO
   ·rename_i he;subst he;simp only[Option.some.injEq,Prod.mk.injEq]at gO;obtain⟨rfl,rfl⟩:=gO;rw[eK]at hx;exact y0 xs ((dx rfl).1 hx).2 hc
   grind
  ·rename_i b g eK;rw[eK]at hx;simp only[aq.eF,aq.bx]at gO;split at gO
   ·rename_i az;have aN:=V.bn b;unfold cg at aN;split at gO
    ·rename_i e xs bD;split at gO
     ·rename_i he;subst he;simp only[Option.some.injEq,Prod.mk.injEq]at gO;obtain⟨rfl,rfl⟩:=gO;have hv:=hx.2 az.symm (by rw[bD];rfl);rw[bD]at hv aN;have uQ:(κ b).eI=false:=by
       cases aA:(κ b).eI with
       | false=>rfl
       | true=>rw[aN.1 aA]at hc;grind
      simp only[bm.slice,uQ,Bool.false_eq_true,if_false,bB.len]at hv;refine⟨_,by simp[execOp,ag,hv,h2.1,JZ cV (p:=⟨(κ b).ad,(κ b).off,none⟩) rfl hc.1 hc.2];rfl,⟨hx.1.1,rfl⟩,λ_ _=>?_⟩;rw[bD];exact⟨by simp only[bB.len];omega,uQ,rfl⟩
     grind
    ·rename_i e xs bD;split at gO
     ·rename_i he;subst he;simp only[Option.some.injEq,Prod.mk.injEq]at gO;obtain⟨rfl,rfl⟩:=gO;have hv:=hx.2 az.symm (by rw[bD];rfl);rw[bD]at hv aN;simp only[bB.len]at hv;refine y0 xs ?_ hc;rw[hv];exact aN
     grind
    grind
   grind
  ·rename_i b g lo G eK;rw[eK]at hx;simp only[aq.eF,aq.bx]at gO;split at gO
   ·rename_i az;have aN:=V.bn b;unfold cg at aN;split at gO
    ·rename_i e xs bD;split at gO
     ·rename_i he;subst he;simp only[Option.some.injEq,Prod.mk.injEq]at gO;obtain⟨rfl,rfl⟩:=gO;obtain⟨⟨aO,aP⟩,bA⟩:=hx.2 az.symm (by rw[bD];rfl);rw[bD]at aP bA aN;simp only[bB.len,bB.eE]at aP bA;rcases bA with⟨aA,_⟩ | ⟨aA,l1,hv,o1,f'⟩
      ·rw[aN.1 aA]at aP;grind
      ·obtain⟨cs,hB,c1,c2,c3,c4,c5⟩:=aN.2 aA;refine⟨_,by simp[execOp,ag,hv,h2.1,JZ cV (p:=⟨(κ b).ad,l1,none⟩) rfl hc.1 hc.2];rfl,⟨hx.1.1,rfl⟩,λ_ _=>?_⟩;rw[bD];refine⟨by simp only[bB.len];omega,aA,?_⟩;rw[f' (by omega)];simp only[bB.eE,Nat.add_mul];grind
     grind
    ·rename_i e xs bD;split at gO
     ·rename_i he;subst he;simp only[Option.some.injEq,Prod.mk.injEq]at gO;obtain⟨rfl,rfl⟩:=gO;obtain⟨⟨aO,aP⟩,bA⟩:=hx.2 az.symm (by rw[bD];rfl);rw[bD]at aP bA aN;simp only[bB.len,bB.eE]at aP bA;have hlen:((xs.take G).drop lo).length=G - lo:=by grind
      obtain⟨r,bX,cn⟩:=y0 ((xs.take G).drop lo) (ES aN aO aP bA) (by omega);refine⟨r,bX,?_⟩;have e1:ku e ((xs.take G).drop lo) n=ku e xs ((lo:Int)+n):=by
       rw[JY hc.1 (by omega),JY (by omega) (by omega)];grind
      grind
     grind
    grind
   grind
  ·simp_all
  ·cases gO
 ·rename_i m e0 k n aH G;split at h
  ·rename_i c8 aS xs eK;split at h
   ·rename_i he;obtain⟨rfl,rfl⟩:=he;simp only[bz,aq.bx,Option.some.injEq]at h;subst h;refine cm.pure (by grind) a6 λa w κ F V aY hc=>?_;have hx:bk C.P s.ad κ F w (use (aT C.aL s.aw x)).2 (a.eval x):=ct V x rfl aY.1;rw[eK]at hx;have h2:=n0 (ct V i rfl aY.2) G;obtain⟨j,aC,qE,_⟩:=(hT.bS aH (by simp)).a7;obtain⟨p,a8,hv,cz,ns⟩:=hx;obtain⟨c1,c2,c3,rfl,e2,e3⟩:=JM ns (i:=n.toNat) (by omega);refine⟨.pointer (some ⟨p.block,p.off+n.toNat*aS.size,none⟩),?_,⟨p.block,p.off+n.toNat*aS.size,none⟩,c2,rfl,⟨cz.1,rfl,λq be=>?_⟩,e3⟩
    ·simp[execOp,ag,Instr.indexAt,hv,h2.1,asIntOf,df aC,hc.1,hc.2,qE.size,BS cz.2.1,Instr.sureAddr]
    ·have:=cz.2.2 (c1.length+q) (by grind);grind
   ·cases h
  ·rename_i b g off eK;simp only[aq.eF,aq.bx]at h;split at h
   ·rename_i a_;simp only[Bool.and_eq_true,decide_eq_true_eq]at a_;simp only[Option.some.injEq]at h;subst h;refine cm.pure (by grind) a6 λa w κ F V aY hc=>?_;have h1:bk C.P s.ad κ F w (use (aT C.aL s.aw x)).2 (a.eval x):=ct V x rfl aY.1;rw[eK]at h1;have h2:=n0 (ct V i rfl aY.2) G;have h3:=h1.2 a_.1.symm a_.2;obtain⟨j,aC,qE,_⟩:=(hT.bS aH (by simp)).a7;exact⟨_,by simp[execOp,ag,Instr.indexAt,h3,h2.1,asIntOf,df aC,hc.1,hc.2,qE.size,BS (p:=⟨(κ b).ad,off,none⟩) rfl,Instr.sureAddr],⟨h1.1.1,rfl⟩,λ_ _=>rfl⟩
   grind
  ·cases h
 ·cases h
theorem BT{a:Act}{w:World}{κ:Nat->bm}{F:Nat->Prop}(V:ba C s a w κ F){x:Option Operand}{p:Prop}{n:Option Int}(h:kQ (aT C.aL s.aw) x=some (p,n))(hp:p) :
  (x=none/\n=none)\/∃ y k m,x=some y/\n=some m/\a.eval y=.int k m:=by
 cases x with
 | none=>simp only[kQ,Option.some.injEq,Prod.mk.injEq]at h;grind
 | some y=>
  simp only[kQ]at h;split at h
  ·rename_i q k m hu;simp only[Option.some.injEq,Prod.mk.injEq]at h;obtain⟨rfl,rfl⟩:=h;exact .inr ⟨y,k,m,rfl,rfl,(gy.1 (ct V y hu hp)).1⟩
  grind
theorem Rk{P:Program}{w:World}{isS:Bool}{len cap:Nat}{lo G:Option Value}{l h:Option Int}(ai:(lo=none/\l=none)\/∃ k m,lo=some (.int k m)/\l=some m)(cz:(G=none/\h=none)\/∃ k m,G=some (.int k m)/\h=some m)
  (h1:0<=cX l) (h2:cX l<=fe len h) (h3:fe len h<=(cap:Int)) (_h4:len<=cap):(Instr.sliceBounds isS len cap lo G none).run P w=.ok ((cX l).toNat,(fe len h).toNat,cap) w:=by
 rcases ai with⟨rfl,rfl⟩ | ⟨k,m,rfl,rfl⟩<;>rcases cz with⟨rfl,rfl⟩ | ⟨k',c8,rfl,rfl⟩<;>simp only[cX,fe]at h1 h2 h3 ⊢
 ·rfl
 ·have:0<=c8/\c8<=(cap:Int):=by omega
  simp[Instr.sliceBounds,Instr.sliceBound,asIntOf,this]
 ·have:0<=m/\m<=(len:Int):=by omega
  simp[Instr.sliceBounds,Instr.sliceBound,asIntOf,this]
 ·have e1:0<=c8/\c8<=(cap:Int):=by omega
  have e2:0<=m/\m<=c8:=by omega
  have e3:max c8 0=c8:=by omega
  simp[Instr.sliceBounds,Instr.sliceBound,asIntOf,e1,e2,e3]
theorem acW{l h:Option Int}{n m:Nat}(Rl:n<=m):By l h n m<=m:=by
 unfold By;grind
theorem acX(hT:dw C.P T){ty:TypeId}{x:Operand}{lo G:Option Operand}(a6:∀ i,o.dst=some i->i<C.nt)(ag:o.op=.slice ty x lo G none)(h:(bf C.aL T a1 (aT C.aL s.aw) o).run s.ad=some res):cm C o s res:=by
 simp only[bf,ag,Option.isSome_none,Bool.false_eq_true,if_false,EV]at h;split at h
 ·rename_i ol l qz lx rL J0;have au:∀ c,o.op≠.defer c:=by grind
  have rB:∀ (a:Act) (w:World) κ F,ba C s a w κ F->ol->qz->((lo.map a.eval=none/\l=none)\/∃ k m,lo.map a.eval=some (.int k m)/\l=some m)/\((G.map a.eval=none/\lx=none)\/∃ k m,G.map a.eval=some (.int k m)/\lx=some m):=by
   intro a w κ F V BU BV;constructor
   ·rcases BT V rL BU with⟨rfl,rfl⟩ | ⟨y,k,m,rfl,rfl,e⟩
    ·exact .inl ⟨rfl,rfl⟩
    ·exact .inr ⟨k,m,by simp[e],rfl⟩
   ·rcases BT V J0 BV with⟨rfl,rfl⟩ | ⟨y,k,m,rfl,rfl,e⟩
    ·exact .inl ⟨rfl,rfl⟩
    ·exact .inr ⟨k,m,by simp[e],rfl⟩
  split at h
  ·rename_i e0 aH;have cV:=hT.bS aH (by simp);obtain⟨j,aC,iK,n3⟩:=cV.sl;simp only[aq.eG,Option.bind_eq_some_iff]at h;obtain⟨⟨c,v⟩,fA,h⟩:=h;simp only[bz,aq.bx,Option.some.injEq]at h;subst h;have runs:∀ (a:Act) (w:World) κ F,ba C s a w κ F->ol->qz->∀ (q:Option Addr) (n cap:Nat),a.eval x=.slice q n cap->n<=cap->0<=cX l/\cX l<=fe n lx/\fe n lx<=(cap:Int)->
     (execOp a.eval o).run C.P w=.ok (.value (.slice (if cap=(cX l).toNat then q else q.map (·.add ((cX l).toNat*e0.size))) ((fe n lx).toNat - (cX l).toNat) (cap - (cX l).toNat))) w:=by
    intro a w κ F V BU BV q n cap hv aA hc;obtain⟨dd,dV⟩:=rB a w κ F V BU BV;have:=Rk (P:=C.P) (w:=w) (isS:=true) dd dV hc.1 hc.2.1 hc.2.2 aA;simp[execOp,ag,hv,Instr.sliceAt,Instr.slice,df aC,this,iK.size]
   unfold QT at fA;split at fA
   ·rename_i e xs eK;simp only[aq.bx]at fA;split at fA
    ·rename_i he;subst he;simp only[Option.some.injEq,Prod.mk.injEq]at fA;obtain⟨rfl,rfl⟩:=fA;refine cm.pure au a6 λa w κ F V aY hc=>?_;have hx:bk C.P s.ad κ F w (use (aT C.aL s.aw x)).2 (a.eval x):=ct V x rfl aY.1;rw[eK]at hx;obtain⟨_,a',cap,e1,m1,m2,m3,m4⟩:=(dx rfl).1 hx;have e1:=(List.cons.inj e1).1;refine⟨_,runs a w κ F V aY.2.1 aY.2.2 a' xs.length cap e1 m1 ⟨hc.1,hc.2.1,by omega⟩,(dx rfl).2 ⟨rfl,?_⟩⟩;have hlen:((xs.take (fe xs.length lx).toNat).drop (cX l).toNat).length=(fe xs.length lx).toNat - (cX l).toNat:=by
      simp;omega
     refine⟨_,_,by rw[hlen],by omega,by omega,?_,λp hp uE=>?_⟩
     ·intro aA;split at aA
      ·omega
      ·cases a' with
       | none=>have:=m3 rfl;omega
       | some q=>cases aA
     ·cases a' with
      | none=>split at hp<;>cases hp
      | some q=>
       obtain⟨dG,dJ,jt⟩:=m4 q rfl (by omega);have be:∃ d,p=⟨q.block,q.off+d,none⟩/\(d=(cX l).toNat*e.size\/cap=(cX l).toNat):=by
        split at hp
        ·omega
        ·simp only[Option.map_some,Option.some.injEq]at hp;rw[BS dJ]at hp;grind
       obtain⟨d,rfl,wA⟩:=be;refine⟨dG,rfl,λi G=>?_⟩;rw[hlen]at G;obtain⟨a8,d1,d2⟩:=jt ((cX l).toNat+i) (by omega);rcases wA with rfl | wN
       ·refine⟨a8,⟨d1.1,rfl,λk ao=>?_⟩,?_⟩
        ·have:=d1.2.2 k ao;rw[Nat.add_mul]at this;rw[show q.off+(cX l).toNat*e.size+i*e.size=q.off+((cX l).toNat*e.size+i*e.size) from by omega];exact this
        ·have e2:((xs.take (fe xs.length lx).toNat).drop (cX l).toNat)[i]'(by rw[hlen];exact G)=xs[(cX l).toNat+i]'(by omega):=by simp
         rw[e2];exact d2
       ·omega
    grind
   ·rename_i eK;simp only[aq.bx,Option.some.injEq,Prod.mk.injEq]at fA;obtain⟨rfl,rfl⟩:=fA;refine cm.pure au a6 λa w κ F V aY hc=>?_;have hx:bk C.P s.ad κ F w (use (aT C.aL s.aw x)).2 (a.eval x):=ct V x rfl aY.1;rw[eK]at hx;simp only[bk]at hx;have jv:0<=cX l/\cX l<=fe 0 lx/\fe 0 lx<=((0:Nat):Int):=hc;have cH:=runs a w κ F V aY.2.1 aY.2.2 none 0 0 hx (Nat.le_refl _) jv;have h0:(fe 0 lx).toNat=0:=by omega
    rw[h0]at cH;refine⟨_,cH,?_⟩;simp only[bk];simp
   ·rename_i b g eK;simp only[aq.eF,aq.bx]at fA;split at fA
    ·rename_i a_;simp only[Bool.and_eq_true,decide_eq_true_eq,beq_iff_eq]at a_;obtain⟨⟨az,eL⟩,BK⟩:=a_;simp only[Option.some.injEq,Prod.mk.injEq]at fA;obtain⟨rfl,rfl⟩:=fA;refine cm.pure au a6 λa w κ F V aY hc=>?_;have hx:bk C.P s.ad κ F w (use (aT C.aL s.aw x)).2 (a.eval x):=ct V x rfl aY.1;rw[eK]at hx;have hv:=hx.2 az.symm eL;obtain⟨dG,dJ⟩:=yV V eL;cases aA:(κ b).eI with
     | true=>
      have h0:=dG aA;simp only[bm.slice,aA,if_true]at hv;rw[h0]at hc;have cH:=runs a w κ F V aY.2.1 aY.2.2 none 0 0 hv (Nat.le_refl _) hc;refine⟨_,cH,⟨hx.1.1,by rfl⟩,λ_ _=>⟨by grind,.inl ⟨aA,?_⟩⟩⟩;grind
     | false=>
      have wN:=JN V eL aA;simp only[bm.slice,aA,Bool.false_eq_true,if_false]at hv;have cH:=runs a w κ F V aY.2.1 aY.2.2 _ _ _ hv wN ⟨hc.1,hc.2.1,by omega⟩;refine⟨_,cH,⟨hx.1.1,by rfl⟩,λ_ _=>⟨by omega,.inr ⟨aA,?_⟩⟩⟩;rw[<-BK];by_cases lq:(κ b).cap=(cX l).toNat
      ·grind
      ·rw[if_neg lq];simp only[Option.map_some,uJ];simp
    grind
   ·rename_i b g eS h0 eK;simp only[aq.eF,aq.bx]at fA;split at fA
    ·rename_i a_;simp only[Bool.and_eq_true,decide_eq_true_eq,beq_iff_eq]at a_;obtain⟨⟨az,eL⟩,BK⟩:=a_;simp only[Option.some.injEq,Prod.mk.injEq]at fA;obtain⟨rfl,rfl⟩:=fA;refine cm.pure au a6 λa w κ F V aY hc=>?_;have hx:bk C.P s.ad κ F w (use (aT C.aL s.aw x)).2 (a.eval x):=ct V x rfl aY.1;rw[eK]at hx;obtain⟨⟨aO,aP⟩,bA⟩:=hx.2 az.symm eL;obtain⟨dG,dJ⟩:=yV V eL;have rM:By l lx (h0 - eS) ((s.ad b).body.len - eS)<=(s.ad b).body.len - eS:=acW (by omega);revert hc rM;generalize By l lx (h0 - eS) ((s.ad b).body.len - eS)=lim;intro hc rM;rcases bA with⟨aA,hv⟩ | ⟨aA,l1,hv,o1,f'⟩
     ·have J1:=dG aA;have e0:h0 - eS=0:=by omega
      have elim:lim=0:=by omega
      rw[e0,elim]at hc;grind
     ·have wN:=JN V eL aA;have cH:=runs a w κ F V aY.2.1 aY.2.2 _ _ _ hv (by omega) ⟨hc.1,hc.2.1,by omega⟩;refine⟨_,cH,⟨hx.1.1,by rfl⟩,λ_ _=>⟨by omega,.inr ⟨aA,?_⟩⟩⟩;rw[<-BK];rw[<-BK]at cH;have e1:(fe (h0 - eS) lx).toNat - (cX l).toNat=eS+(fe (h0 - eS) lx).toNat - (eS+(cX l).toNat):=by omega
      have e2:(κ b).cap - eS - (cX l).toNat=(κ b).cap - (eS+(cX l).toNat):=by omega
      rw[e1,e2];have e3:(eS+(cX l).toNat)*(s.ad b).body.eE=eS*(s.ad b).body.eE+(cX l).toNat*(s.ad b).body.eE:=Nat.add_mul _ _ _;by_cases lq:(κ b).cap - eS=(cX l).toNat
      ·rw[if_pos lq];exact⟨_,rfl,by omega,λh=>by omega⟩
      ·rw[if_neg lq];simp only[Option.map_some,uJ];exact⟨_,rfl,by omega,λh=>by omega⟩
    grind
   ·cases fA
  ·rename_i aH;have cV:=(hT.bS aH (by simp)).str;split at h
   ·rename_i c v fA;simp only[bz,aq.bx,Option.some.injEq]at h;subst h;unfold QU at fA;split at fA
    ·rename_i xs eK;simp only[Option.some.injEq,Prod.mk.injEq]at fA;obtain⟨rfl,rfl⟩:=fA;refine cm.pure au a6 λa w κ F V aY hc=>?_;have hx:bk C.P s.ad κ F w (use (aT C.aL s.aw x)).2 (a.eval x):=ct V x rfl aY.1;rw[eK]at hx;obtain⟨hv,bZ⟩:=lS.1 hx;obtain⟨dd,dV⟩:=rB a w κ F V aY.2.1 aY.2.2;have hs:ByteArray.size ⟨xs.toArray⟩=xs.length:=by rfl
     have:=Rk (P:=C.P) (w:=w) (isS:=false) (len:=xs.length) (cap:=xs.length) dd dV hc.1 hc.2.1 hc.2.2 (Nat.le_refl _);refine⟨.string ⟨((xs.take (fe xs.length lx).toNat).drop (cX l).toNat).toArray⟩,?_,lS.2 ⟨rfl,by grind⟩⟩;simp only[execOp,ag,hv,Instr.sliceAt,Instr.slice,Sem.run_bind,df cV,Result.andThen_ok,Option.map_none,Option.isSome_none,Bool.false_eq_true,if_false,hs,this,Sem.run_pure];have he:ByteArray.extract ⟨xs.toArray⟩ (cX l).toNat (fe xs.length lx).toNat=⟨((xs.take (fe xs.length lx).toNat).drop (cX l).toNat).toArray⟩:=by
      apply ByteArray.ext;rw[ByteArray.data_extract];grind
     rw[he]
    grind
   ·cases h
  ·cases h
 ·cases h
end
end Go.Fer
namespace Go.Fer
open Go.RowKit
def fT(P:Program)(e:ae)(F:Nat->Prop)(w:World)(all:List Value)(xs:List e.ah):Prop:=
 all.length=xs.length*e.size/\∀ i (h:i<xs.length),bt P e F w ((all.drop (i*e.size)).take e.size) xs[i]
theorem fT.append{P:Program}{e:ae}{F:Nat->Prop}{w:World}{l m:List Value}{xs ys:List e.ah}(h:fT P e F w l xs)(k:fT P e F w m ys):fT P e F w (l++m) (xs++ys):=by
 refine⟨by simp[h.1,k.1,Nat.add_mul],λi G=>?_⟩;by_cases hx:i<xs.length
 ·have e1:(xs++ys)[i]=xs[i]:=List.getElem_append_left hx;rw[e1];have hle:(i+1)*e.size<=xs.length*e.size:=Nat.mul_le_mul_right _ (by omega);rw[Nat.add_mul,Nat.one_mul]at hle;have:((l++m).drop (i*e.size)).take e.size=(l.drop (i*e.size)).take e.size:=by
   rw[List.drop_append_of_le_length (by rw[h.1];omega),List.take_append_of_le_length (by simp[h.1];omega)]
  rw[this];exact h.2 i hx
 ·have dp:i - xs.length<ys.length:=by grind
  have e1:(xs++ys)[i]=ys[i - xs.length]:=List.getElem_append_right (by omega);rw[e1];have an:i*e.size=xs.length*e.size+(i - xs.length)*e.size:=by rw[<-Nat.add_mul];grind
  have:(l++m).drop (i*e.size)=m.drop ((i - xs.length)*e.size):=by
   rw[an,<-h.1,List.drop_append,List.drop_of_length_le (by omega)];simp
  rw[this];exact k.2 _ dp
theorem fT.BW{P:Program}{e:ae}{F:Nat->Prop}{w:World}{all pre post:List Value}{cs:Array Value}{xs:List e.ah}(h:fT P e F w all xs)(hc:cs.toList=pre++(all++post)):lg P e F w cs pre.length xs:=by
 intro i G;have hle:(i+1)*e.size<=xs.length*e.size:=Nat.mul_le_mul_right _ (by omega);rw[Nat.add_mul,Nat.one_mul]at hle;refine⟨_,λj aC=>?_,h.2 i G⟩;have fz:j<e.size:=by grind
 rw[<-Array.getElem?_toList,hc,List.getElem?_append_right (by omega),List.getElem?_append_left (by grind)];grind
theorem Fb{P:Program}{e:ae}{F:Nat->Prop}{w:World}:∀ {xs:List e.ah} {p:Addr},(0<xs.length->p.spot=none)->(∀ i (h:i<xs.length),∃ a8,kf w ⟨p.block,p.off+i*e.size,none⟩ a8/\bt P e F w a8 xs[i])->
  ∃ all,fT P e F w all xs/\kf w p all
 | [],p,hp,_=>⟨[],⟨by simp,λi G=>by grind⟩,λh=>by grind,λj aC=>by grind⟩
 | x::xs,p,hp,h=>by
  obtain⟨a8,d1,d2⟩:=h 0 (by simp);have uP:=ht e d2;obtain⟨all,bT,a2⟩:=Fb (P:=P) (F:=F) (w:=w) (xs:=xs) (p:=⟨p.block,p.off+e.size,none⟩) (λ_=>rfl) (λi G=>by
   obtain⟨Rj,aO,aP⟩:=h (i+1) (by grind);grind)
  refine⟨a8++all,?_,λ_=>hp (by simp),λj aC=>?_⟩
  ·have h1:fT P e F w a8 [x]:=⟨by grind,λi G=>by
    have:i=0:=by grind
    subst this;grind⟩
   exact h1.append bT
  ·rcases Nat.lt_or_ge j a8.length with h1 | h1
   ·rw[List.getElem_append_left h1];have:=d1.2 j h1;grind
   ·rw[List.getElem_append_right h1];have:=a2.2 (j - a8.length) (by grind);grind
section
variable {C:bQ} {T:Nat->ae} {a1:Nat->Option aJ} {o:Oper} {s:ay} {res:dY}
theorem rN{a:Act}{w:World}{κ:Nat->bm}{F:Nat->Prop}(V:ba C s a w κ F){e:ae}{av:aD}{v:Value}{ys:List e.ah}{l:List Nat}(h:(dc (.slice e) av).run s.ad=some (ys,l))(hv:bk C.P s.ad κ F w av v) :
  ∃ q cap,v=.slice q ys.length cap/\((q=none/\ys=[]/\cap=0)\/∃ p all,q=some p/\fT C.P e F w all ys/\kf w p all):=by
 have y0:∀ {xs:List e.ah},bt C.P (.slice e) F w [v] xs->∃ q cap,v=.slice q xs.length cap/\((q=none/\xs=[]/\cap=0)\/∃ p all,q=some p/\fT C.P e F w all xs/\kf w p all):=by
  intro xs hx;obtain⟨q,cap,e1,m1,m2,m3,m4⟩:=hx;refine⟨q,cap,(List.cons.inj e1).1,?_⟩;cases q with
  | none=>
   simp_all
  | some p=>
   obtain⟨all,bT,a2⟩:=Fb (P:=C.P) (F:=F) (w:=w) (xs:=xs) (p:=p) (λh=>(m4 p rfl (by omega)).2.1) (λi G=>let ⟨a8,d1,d2⟩:=(m4 p rfl (by omega)).2.2 i G;⟨a8,d1.JF,d2⟩);grind
 cases av with
 | val cC y=>
  simp only[dc,aq.bx,Option.map_eq_some_iff,Prod.mk.injEq]at h;obtain⟨z,a_,rfl,_⟩:=h;exact y0 (((dx rfl).1 (ER a_ hv)).2)
 | cR=>
  simp only[dc,j',ae.ea,if_true,dz,aq.bx,Option.some.injEq,Prod.mk.injEq]at h;obtain⟨rfl,_⟩:=h;simp only[bk]at hv;grind
 | own b g=>
  simp only[dc,j',ae.ea,if_true,dz,aq.eF,aq.bx]at h;split at h
  ·rename_i az;have aN:=V.bn b;unfold cg at aN;split at h
   ·rename_i aS xs bD;simp only[Option.map_eq_some_iff,Prod.mk.injEq]at h;obtain⟨z,a_,rfl,_⟩:=h;obtain⟨qF,rfl⟩:=kt a_;cases qF;have tc:=hv.2 az.symm (by rw[bD];rfl);rw[bD]at tc aN;simp only[bB.len]at tc;cases aA:(κ b).eI with
    | true=>
     have hA:=aN.1 aA;subst hA;simp only[bm.slice,aA,if_true]at tc;grind
    | false=>
     obtain⟨cs,hB,c1,c2,c3,c4,c5⟩:=aN.2 aA;simp only[bm.slice,aA,Bool.false_eq_true,if_false]at tc;obtain⟨all,bT,a2⟩:=Fb (P:=C.P) (F:=F) (w:=w) (xs:=xs) (p:=⟨(κ b).ad,(κ b).off,none⟩) (λ_=>rfl) (λi G=>by
      obtain⟨a8,d1,d2⟩:=c5 i G;exact⟨a8,⟨λ_=>rfl,λj aC=>by rw[uL c1];grind⟩,d2⟩)
     grind
   ·rename_i aS xs bD;simp only[Option.map_eq_some_iff,Prod.mk.injEq]at h;obtain⟨z,a_,rfl,_⟩:=h;obtain⟨qF,rfl⟩:=kt a_;cases qF;have tc:=hv.2 az.symm (by rw[bD];rfl);rw[bD]at tc aN;simp only[bB.len]at tc;simp only[jm]at aN;grind
   grind
  grind
 | sub b g lo G=>
  simp only[dc,j',ae.ea,if_true,dz,aq.eF,aq.bx]at h;split at h
  ·rename_i az;have aN:=V.bn b;unfold cg at aN;split at h
   ·rename_i aS xs bD;simp only[Option.map_eq_some_iff,Prod.mk.injEq]at h;obtain⟨z,a_,rfl,_⟩:=h;obtain⟨qF,rfl⟩:=kt a_;cases qF;obtain⟨⟨aO,aP⟩,bA⟩:=hv.2 az.symm (by rw[bD];rfl);rw[bD]at aP bA aN;simp only[bB.len,bB.eE]at aP bA;have hlen:((xs.take G).drop lo).length=G - lo:=by grind
    rcases bA with⟨aA,tc⟩ | ⟨aA,l1,tc,o1,f'⟩
    ·have hA:=aN.1 aA;grind
    ·obtain⟨cs,hB,c1,c2,c3,c4,c5⟩:=aN.2 aA;obtain⟨all,bT,a2⟩:=Fb (P:=C.P) (F:=F) (w:=w) (xs:=(xs.take G).drop lo) (p:=⟨(κ b).ad,l1,none⟩) (λ_=>rfl) (λi dp=>by
      rw[hlen]at dp;obtain⟨a8,d1,d2⟩:=c5 (lo+i) (by omega);refine⟨a8,⟨λ_=>rfl,λj aC=>?_⟩,?_⟩
      ·rw[uL c1,<-d1 j aC];grind
      grind)
     grind
   ·rename_i aS xs bD;simp only[Option.map_eq_some_iff,Prod.mk.injEq]at h;obtain⟨z,a_,rfl,_⟩:=h;obtain⟨qF,rfl⟩:=kt a_;cases qF;obtain⟨⟨aO,aP⟩,bA⟩:=hv.2 az.symm (by rw[bD];rfl);rw[bD]at aP bA aN;exact y0 (ES aN aO aP bA)
   grind
  grind
 | dy cC y=>simp[dc,j',ae.ea,dz,aq.none]at h
 | jl u=>simp[dc,j',ae.ea,dz,Bu]at h
 | _=>simp[dc,j',ae.ea,dz,aq.none]at h
theorem y1{P:Program}{w:World}{e:ae}{q:Option Addr}{n cap:Nat}{xs:List e.ah}{F:Nat->Prop}(aA:n=xs.length)(h:(q=none/\xs=[]/\cap=0)\/∃ p all,q=some p/\fT P e F w all xs/\kf w p all) :
  ∃ all,(Builtin.firstCells e.size n (.slice q n cap)).run P w=.ok all.toArray w/\fT P e F w all xs:=by
 subst aA;rcases h with⟨rfl,rfl,rfl⟩ | ⟨p,all,rfl,bT,a2⟩
 ·exact⟨[],by rfl,by simp[fT]⟩
 ·refine⟨all,?_,bT⟩;simp only[Builtin.firstCells];rw[<-bT.1];exact E2 a2
theorem acY(n:Nat):∀ (k c:Nat),Builtin.growBy n k c<=max c (2*n+768):=by
 intro k;induction k with
 | zero=>intro c;simp only[Builtin.growBy];omega
 | succ k aG=>
  intro c;simp only[Builtin.growBy];grind
theorem acZ{Fc cap:Nat}(h:cap<Fc):Builtin.nextslicecap Fc cap<=2*Fc+768:=by
 unfold Builtin.nextslicecap;split
 ·omega
 ·split
  ·omega
  ·have:=acY Fc 4 cap;omega
theorem ac0{z:Array Value}{n k:Nat}(h:z.size=k):(Builtin.zeroCells z n).size=n*k:=by simp[Builtin.zeroCells,h]
theorem ac1{P:Program}{w:World}{e:ae}{ty mr:TypeId}{F:Nat->Prop}(h:bP P (.slice e) ty)(cZ:bP P (.slice e) mr\/∃ aS,bP P (.slice aS) mr){q q':Option Addr}{cap cap':Nat}{xs ys:List e.ah}
  (hx:(q=none/\xs=[]/\cap=0)\/∃ p all,q=some p/\fT P e F w all xs/\kf w p all) (aM:(q'=none/\ys=[]/\cap'=0)\/∃ p all,q'=some p/\fT P e F w all ys/\kf w p all)
  (hc:cap<xs.length+ys.length) (ai:b6 (xs.length+ys.length)) (rt:TypeId) :
  ∃ jw qG cs,(Builtin.append_ #[ty,mr] rt #[.slice q xs.length cap,.slice q' ys.length cap']).run P w=.ok (.slice (some ⟨w.heap.size,0,none⟩) (xs.length+ys.length) qG) (w.drew.alloc (.cells cs jw))/\
   qG<2 ^ 63/\xs.length+ys.length<=qG/\cs.size=qG*e.size/\lg P e F w cs 0 (xs++ys):=by
 obtain⟨jw,aC,iK,n3⟩:=h.sl;obtain⟨jW,fz⟩:∃ jW,P.underlying mr=some (.slice jW):=by
  rcases cZ with cZ | ⟨aS,cZ⟩
  ·obtain⟨jW,k,_⟩:=cZ.sl;grind
  ·obtain⟨jW,k,_⟩:=cZ.sl;grind
 obtain⟨i,z,i1,i2,i3,i4,i5,i6⟩:=kc iK.ka;have a_:=(BO e (P:=P) i5).2;have ac2:∀ t:Nat,xs.length+ys.length<=xs.length+ys.length+t % (2 ^ 63 - (xs.length+ys.length))/\xs.length+ys.length+t % (2 ^ 63 - (xs.length+ys.length))<2 ^ 63:=by
  intro t;unfold b6 at ai;have:t % (2 ^ 63 - (xs.length+ys.length))<2 ^ 63 - (xs.length+ys.length):=Nat.mod_lt _ (by omega);omega
 generalize J2:xs.length+ys.length+(w.tape w.drawn (.appendCap (xs.length+ys.length) cap jw)) % (2 ^ 63 - (xs.length+ys.length))=qG;have J3:=ac2 (w.tape w.drawn (.appendCap (xs.length+ys.length) cap jw));rw[J2]at J3;have Rm:∀ {p:Addr} {all:List Value},kf w p all->kf w.drew p all:=λh=>h;have Rn:∀ {all:List Value} {zs:List e.ah},fT P e F w all zs->fT P e F w.drew all zs:=λh=>⟨h.1,λi G=>eP e (F:=F) (F':=F) (w:=w) (w':=w.drew) (λ_ V=>V) ⟨Nat.le_refl _,λ_ _=>rfl⟩ (h.2 i G)⟩
 have nq:(q=none/\xs=[]/\cap=0)\/∃ p all,q=some p/\fT P e F w.drew all xs/\kf w.drew p all:=hx.imp id λ⟨p,all,a,b,c⟩=>⟨p,all,a,Rn b,Rm c⟩
 have BX:(q'=none/\ys=[]/\cap'=0)\/∃ p all,q'=some p/\fT P e F w.drew all ys/\kf w.drew p all:=aM.imp id λ⟨p,all,a,b,c⟩=>⟨p,all,a,Rn b,Rm c⟩
 obtain⟨uR,o1,f'⟩:=y1 (P:=P) (w:=w.drew) (cap:=cap) rfl nq;obtain⟨dX,dG,dJ⟩:=y1 (P:=P) (w:=w.drew) (cap:=cap') rfl BX;refine⟨jw,qG,uR.toArray++dX.toArray++Builtin.zeroCells z.cells (qG - (xs.length+ys.length)),?_,J3.2,J3.1,?_,?_⟩
 ·have ab:=acZ hc;have qH:Builtin.nextslicecap (xs.length+ys.length) cap*i.bytes<=281474976710656:=by
   unfold b6 at ai;calc Builtin.nextslicecap (xs.length+ys.length) cap*i.bytes<=(2*4294967296+768)*1024:=Nat.mul_le_mul (by omega) i3
    _<=281474976710656:=by decide
  have y2:¬((xs.length+ys.length:Nat):Int) > IntKind.i64.max:=by
   unfold b6 at ai;have:IntKind.i64.max=9223372036854775807:=by decide
   omega
  have ac3:¬Builtin.nextslicecap (xs.length+ys.length) cap*i.bytes > 2 ^ 48:=by
   omega
  have Ro:(Question.appendCap (xs.length+ys.length) cap jw).cut (w.tape w.drawn (.appendCap (xs.length+ys.length) cap jw))=qG:=by
   rw[<-J2];rfl
  have ac4:(Question.appendCap (xs.length+ys.length) cap jw).forced=false:=rfl;simp only[Builtin.append_,List.getElem?_toArray,List.getElem?_cons_zero,List.getElem?_cons_succ,Sem.run_bind,df aC,df fz,Result.andThen_ok,rG i1,i2,Sem.run_pure,Builtin.lenOf,Bool.false_eq_true,if_false,if_neg (show ¬xs.length+ys.length<=cap by omega),y2,false_and,E0 i1,ac3,run_choose,ac4,Ro,run_askRoom,Bool.not_false,if_true,World.drew_eq,o1,dG,qB i1 i4];rfl
 ·have h1:=f'.1;have h2:=dJ.1;simp only[Array.size_append,List.size_toArray,ac0 a_,h1,h2];rw[<-Nat.add_mul,<-Nat.add_mul];grind
 ·have iX:=f'.append dJ;have ac5:fT P e F w (uR++dX) (xs++ys):=⟨iX.1,λi G=>eP e (F:=F) (F':=F) (w:=w.drew) (w':=w) (λ_ V=>V) ⟨Nat.le_refl _,λ_ _=>rfl⟩ (iX.2 i G)⟩
  exact ac5.BW (pre:=[]) (post:=(Builtin.zeroCells z.cells (qG - (xs.length+ys.length))).toList) (by simp)
end
end Go.Fer
namespace Go.Fer
open Go.RowKit
section
variable {C:bQ} {T:Nat->ae} {a1:Nat->Option aJ} {o:Oper} {s:ay} {res:dY}
theorem ba.BY{a:Act}{w w':World}{κ:Nat->bm}{F:Nat->Prop}(h:ba C s a w κ F){b g:Nat}{e:ae}{zs:List e.ah}{k:bm}(az:(s.ad b).gen<g)(kU:k.eI=true\/k.ad=w.heap.size)(bU:w.heap.size<=w'.heap.size)
  (nv:∀ r,r<w.heap.size->w'.heap[r]?=w.heap[r]?) (bZ:k.eI=false->k.ad<w'.heap.size) (hc:cM w w')
  (bD:∀ H κ',jm C.P H κ' F w' k (.a7 e zs)):ba C (s.b' b ⟨g,.a7 e zs⟩) a w' (λi=>if i=b then k else κ i) F:=by
 have ai:eZ s.ad κ (λi=>if i=b then (⟨g,.a7 e zs⟩:bu) else s.ad i) (λi=>if i=b then k else κ i):=yE az λaZ cS=>by grind
 have he:cG F w w':=⟨bU,λr V=>nv r (h.cL r V)⟩
 refine h.move (H':=λi=>if i=b then (⟨g,.a7 e zs⟩:bu) else s.ad i) ai (λ_ V=>V) (λ_ V=>.inl V) bU (λr V _=>nv r V) hc (λ_=>?_) ?_ ?_ (λr V=>Nat.lt_of_lt_of_le (h.cL r V) bU) (yF (.inr ⟨rfl,rfl⟩) λaZ cS=>by grind)
 ·intro i;by_cases G:i=b
  ·subst G;simp only[cg,if_true];grind
  ·exact cg.kP (h.bn i) ai (λ_ V=>V) he (by grind) (by grind) λag=>nv _ (h.own i ag).1
 ·intro i G;by_cases ej:i=b
  ·subst ej;simp only[if_true,bB.bL,Bool.not_eq_true']at G ⊢;have ao:=kU.resolve_left (by grind);refine⟨bZ G,λar=>?_,.inr (by omega)⟩;have:=h.cL _ ar;omega
  ·simp only[if_neg ej]at G ⊢;have:=h.own i G;grind
 ·intro i j G aC aS;by_cases ej:i=b<;>by_cases lU:j=b
  ·omega
  ·simp only[if_pos ej,if_neg lU,bB.bL,Bool.not_eq_true']at G aC aS;have ao:=kU.resolve_left (by grind);have:=(h.own j aC).1;omega
  ·simp only[if_neg ej,if_pos lU,bB.bL,Bool.not_eq_true']at G aC aS;have ao:=kU.resolve_left (by grind);have:=(h.own i G).1;omega
  ·simp only[if_neg ej,if_neg lU]at G aC aS;exact h.inj i j G aC aS
theorem ac6(s:ay)(b:Nat)(x y:bu):(s.b' b x).b' b y=s.b' b y:=by
 unfold ay.b';grind
theorem ba.ac7{a:Act}{w:World}{κ:Nat->bm}{F:Nat->Prop}(h:ba C s a w κ F){b:Nat}{e:ae}{xs:List e.ah}(ab:(s.ad b).body=.a7 e xs){lo G:Nat}(h1:lo<=G)(h2:G<=xs.length){v:Value}(hs:EP (κ b) e.size lo G v) :
  ∃ κ',ba C (s.b' b ⟨(s.ad b).gen+1,.a7 e ((xs.take G).drop lo)⟩) a w κ' F/\v=(κ' b).slice ((xs.take G).drop lo).length:=by
 have hlen:((xs.take G).drop lo).length=G - lo:=by grind
 have fS:∀ κ':Nat->bm,(∀ aZ,aZ≠b->κ' aZ=κ aZ)->eZ s.ad κ (λi=>if i=b then (⟨(s.ad b).gen+1,.a7 e ((xs.take G).drop lo)⟩:bu) else s.ad i) κ':=
  λκ' Bs=>yE (Nat.lt_succ_self _) Bs
 have aN:=h.bn b;unfold cg at aN;rw[ab]at aN;rcases hs with⟨aA,rfl⟩ | ⟨aA,o,rfl,o1,f'⟩
 ·have hA:=aN.1 aA;subst hA;refine⟨κ,?_,by simp[bm.slice,aA]⟩;refine h.move (H':=λi=>if i=b then (⟨(s.ad b).gen+1,.a7 e ((([]:List e.ah).take G).drop lo)⟩:bu) else s.ad i) (fS κ λ_ _=>rfl) (λ_ V=>V) (λ_ V=>.inl V) (Nat.le_refl _) (λ_ _ _=>rfl) (cM.refl _) (λ_=>?_) ?_ ?_ h.cL (yF (.inr ⟨rfl,rfl⟩) λ_ _=>rfl)
  ·intro i;by_cases G:i=b
   ·subst G;simp only[cg,if_true];exact⟨λ_=>by simp,λh=>by grind⟩
   ·exact cg.kP (h.bn i) (fS κ λ_ _=>rfl) (λ_ V=>V) (cG.refl _ _) (by grind) rfl λ_=>rfl
  ·intro i G;by_cases ej:i=b
   ·subst ej;simp[bB.bL,aA]at G
   ·simp only[if_neg ej]at G;exact⟨(h.own i G).1,(h.own i G).2.1,.inl ⟨i,G,rfl⟩⟩
  ·intro i j G aC aS;by_cases ej:i=b
   ·subst ej;simp[bB.bL,aA]at G
   ·by_cases lU:j=b
    ·subst lU;simp[bB.bL,aA]at aC
    ·simp only[if_neg ej,if_neg lU]at G aC;exact h.inj i j G aC aS
 ·obtain⟨cs,hB,c1,c2,c3,c4,c5⟩:=aN.2 aA;let k':bm:=⟨(κ b).ad,o,(κ b).cap - lo,false⟩
  let κ':Nat->bm:=λi=>if i=b then k' else κ i
  have BZ:∀ aZ,aZ≠b->κ' aZ=κ aZ:=λaZ h=>if_neg h;have y3:κ' b=k':=if_pos rfl;have fP:=h.own b (by rw[ab];simp[bB.bL,aA]);refine⟨κ',?_,by rw[y3,hlen];rfl⟩;refine h.move (H':=λi=>if i=b then (⟨(s.ad b).gen+1,.a7 e ((xs.take G).drop lo)⟩:bu) else s.ad i) (fS κ' BZ) (λ_ V=>V) (λ_ V=>.inl V) (Nat.le_refl _) (λ_ _ _=>rfl) (cM.refl _) (λ_=>?_) ?_ ?_ h.cL (yF (.inr ⟨rfl,rfl⟩) BZ)
  ·intro i;by_cases dp:i=b
   ·subst dp;simp only[cg,if_true,y3];have hmul:lo*e.size<=(κ i).cap*e.size:=Nat.mul_le_mul_right _ (by omega);refine⟨λh=>(by cases h),λ_=>⟨cs,hB,c1,?_,by grind,by grind,λj aC=>?_⟩⟩
    ·simp only[k'];rw[Nat.sub_mul];omega
    ·rw[hlen]at aC;obtain⟨a8,d1,d2⟩:=c5 (lo+j) (by omega);grind
   ·exact cg.kP (h.bn i) (fS κ' BZ) (λ_ V=>V) (cG.refl _ _) (by grind) (BZ i dp) λ_=>rfl
  ·intro i dp;by_cases ej:i=b
   ·subst ej;rw[y3];exact⟨fP.1,fP.2.1,.inl ⟨i,by rw[ab];simp[bB.bL,aA],rfl⟩⟩
   ·simp only[if_neg ej]at dp;rw[BZ i ej]at dp ⊢;exact⟨(h.own i dp).1,(h.own i dp).2.1,.inl ⟨i,dp,rfl⟩⟩
  ·intro i j dp aC aS;have Rp:∀ i,(κ' i).ad=(κ i).ad:=λi=>by
    grind
   have bR:∀ i,((if i=b then (⟨(s.ad b).gen+1,.a7 e ((xs.take G).drop lo)⟩:bu) else s.ad i).body.bL (κ' i)=true)->(s.ad i).body.bL (κ i)=true:=λi G=>by
    by_cases ej:i=b
    ·subst ej;rw[ab];simp[bB.bL,aA]
    grind
   rw[Rp,Rp]at aS;exact h.inj i j (bR i dp) (bR j aC) aS
theorem lg.later{P:Program}{e:ae}{F:Nat->Prop}{w w':World}{cs:Array Value}{off:Nat}{xs:List e.ah}(h:lg P e F w cs off xs)(he:cG F w w'):lg P e F w' cs off xs:=h.mono (λ_ V=>V) he
theorem ac8(hT:dw C.P T){args:Array Operand}{cU:Array TypeId}(a6:∀ i,o.dst=some i->i<C.nt)(ag:o.op=.call { callee:=.builtin .append,args:=args,argTypes:=cU })(h:(BA T (aT C.aL s.aw) o.dst args.toList cU.toList).run s.ad=some res):cm C o s res:=by
 obtain⟨args⟩:=args;obtain⟨cU⟩:=cU;have au:∀ c,o.op≠.defer c:=by grind
 simp only[BA]at h;split at h
 ·rename_i x y t u;split at h
  ·rename_i e e2 aH hu;have cV:=hT.bS aH (by simp);have uN:=hT.bS hu (by simp);obtain⟨jw,aC,iK,n3⟩:=cV.sl;obtain⟨ac9,fz,_⟩:=uN.sl;obtain⟨inf,z,i1,i2,i3,i4,i5,i6⟩:=kc iK.ka;have mu:∀ (a:Act) (w w':World) v,(Builtin.append_ #[t,u] o.type #[a.eval x,a.eval y]).run C.P w=.ok v w'->(execOp a.eval o).run C.P w=.ok (.value v) w':=by
    intro a w w' v hv;refine wK ag ?_;simp[builtin,hv]
   have main:∀ (s:ay) (a:Act) (w:World) (κ:Nat->bm) (F:Nat->Prop) (Q:Exit->Act->World->Prop) (b g:Nat) (xs ys:List e.ah),ba C s a w κ F->
     (∃ q cap,a.eval y=.slice q ys.length cap/\((q=none/\ys=[]/\cap=0)\/∃ p all,q=some p/\fT C.P e F w all ys/\kf w p all))->
     (s.ad b).gen<g->(∃ q cap,a.eval x=.slice q xs.length cap/\((q=none/\xs=[]/\cap=0)\/∃ p all,q=some p/\fT C.P e F w all xs/\kf w p all))->
     (∀ q cap,a.eval x=.slice q xs.length cap->q≠none->xs.length+ys.length<=cap->(s.ad b).body=.a7 e xs/\(κ b).eI=false/\q=some ⟨(κ b).ad,(κ b).off,none⟩/\cap=(κ b).cap)->b6 (xs.length+ys.length)->
     o.wpIn (dv C.r) 0 C.P a w (λa' w'=>b9 C ((s.b' b ⟨g,.a7 e (xs++ys)⟩).set o.dst (.own b g)) a' w') Q:=by
    intro s a w κ F Q b g xs ys V nw J4 rO ac_ hlen;obtain⟨q,cap,rO,J5⟩:=rO;obtain⟨q',cap',td,nw⟩:=nw;have J6:∀ (κ':Nat->bm) (v:Value) (w':World),ba C (s.b' b ⟨g,.a7 e (xs++ys)⟩) a w' κ' F->v=(κ' b).slice (xs++ys).length->b9 C ((s.b' b ⟨g,.a7 e (xs++ys)⟩).set o.dst (.own b g)) (a.put o.dst v) w':=by
     intro κ' v w' aX hv;refine⟨κ',F,ba.set aX a6 ⟨⟨by simp[ay.b'],?_⟩,λ_ _=>?_⟩⟩
     ·rw[hv];unfold bm.slice;split<;>rfl
     ·rw[hv];simp[ay.b',bB.len]
    by_cases wO:xs.length+ys.length<=cap
    ·cases be:q with
     | none=>
      subst be;obtain⟨ac',uE⟩:xs=[]/\cap=0:=by
       grind
      subst ac';subst uE;have J7:ys=[]:=by grind
      subst J7;obtain⟨dX,dG,dJ⟩:=y1 (P:=C.P) (w:=w) (cap:=cap') rfl nw;have cH:(Builtin.append_ #[t,u] o.type #[a.eval x,a.eval y]).run C.P w=.ok (.slice none 0 0) w:=by
       rw[rO,td];simp only[List.length_nil]at dG ⊢;simp[Builtin.append_,df aC,df fz,rG i1,Builtin.lenOf];rw[i2,dG];simp
      refine gY au (mu a w w _ cH) (J6 _ _ _ (V.BY (k:=⟨0,0,0,true⟩) J4 (.inl rfl) (Nat.le_refl _) (λ_ _=>rfl) (λh=>by cases h) (cM.refl _) λH κ'=>⟨λ_=>rfl,λh=>by cases h⟩) ?_);simp[bm.slice]
     | some Fe=>
      obtain⟨ab,uQ,hp,wN⟩:=ac_ q cap rO (by grind) wO;rw[be]at hp;have hp:=Option.some.inj hp;subst hp;subst wN;have aN:=V.bn b;unfold cg at aN;rw[ab]at aN;obtain⟨cs,hB,c1,c2,c3,c4,c5⟩:=aN.2 uQ;obtain⟨dX,dG,dJ⟩:=y1 (P:=C.P) (w:=w) (cap:=cap') rfl nw;have oW:=dJ.1;have nu:∀ v∈dX,v.oneCell'=true:=by
       intro v hv;obtain⟨j,aC,rfl⟩:=List.mem_iff_getElem.1 hv;have kT:0<e.size:=Nat.pos_of_ne_zero n3;have hdiv:j / e.size<ys.length:=(Nat.div_lt_iff_lt_mul kT).2 (by omega);have ns:=dJ.2 (j / e.size) hdiv;have ie:=yI (P:=C.P) (H:=λ_=>⟨0,.fb⟩) (κ:=λ_=>⟨0,0,0,true⟩) e ns;have y4:=Nat.mod_lt j kT;have ada:j / e.size*e.size+j % e.size=j:=Nat.div_add_mod' j e.size;have B0:((dX.drop (j / e.size*e.size)).take e.size).length=e.size:=ht e ns;have:=(ie.ku (j % e.size) (by rw[ie.len,B0];omega)).2;grind
      have adb:(κ b).off+xs.length*e.size+0+dX.length<=cs.size:=by
       rw[oW];have:(xs.length+ys.length)*e.size<=(κ b).cap*e.size:=Nat.mul_le_mul_right _ wO;grind
      obtain⟨w',cO,bX,cn,dS,lr,ls,lY⟩:=uM (P:=C.P) dX ((κ b).off+xs.length*e.size) 0 w cs c1 adb nu;have cH:(Builtin.append_ #[t,u] o.type #[a.eval x,a.eval y]).run C.P w=.ok (.slice (some ⟨(κ b).ad,(κ b).off,none⟩) (xs.length+ys.length) (κ b).cap) w':=by
       rw[rO,td,be];simp only[Builtin.append_,List.getElem?_toArray,List.getElem?_cons_zero,List.getElem?_cons_succ,Sem.run_bind,df aC,df fz,Result.andThen_ok,rG i1,i2,Sem.run_pure,Builtin.lenOf,Bool.false_eq_true,if_false,if_pos wO,Bool.not_false,if_true,dG,uJ];simp only[bX,Result.andThen_ok]
      have fS:eZ s.ad κ (λi=>if i=b then (⟨g,.a7 e (xs++ys)⟩:bu) else s.ad i) κ:=yE J4 λ_ _=>rfl;refine gY au (mu a w w' _ cH) (J6 κ _ _ (V.oO (b:=b) (by rw[ab];simp[bB.bL,uQ]) (by simp[bB.bL,uQ]) fS (λh=>by cases h) (λh=>by cases h) lr ls lY λH mw bZ he=>?_) (by simp[bm.slice,uQ]));refine⟨λh=>(by grind),λ_=>?_⟩;have E':cO.size=cs.size:=by
       rw[<-Array.length_toList,dS];grind
      refine⟨cO,hB,cn,by omega,by grind,c4,λi G=>?_⟩;simp only[Nat.add_zero]at dS;have gm:(cs.toList.take ((κ b).off+xs.length*e.size)).length=(κ b).off+xs.length*e.size:=by grind
      by_cases Rq:i<xs.length
      ·obtain⟨a8,d1,d2⟩:=c5 i Rq;have e1:(xs++ys)[i]=xs[i]:=List.getElem_append_left Rq;rw[e1];refine⟨a8,λk ao=>?_,eP e (λ_ V=>V) he d2⟩;have Rr:=ht e d2;have hle:(i+1)*e.size<=xs.length*e.size:=Nat.mul_le_mul_right _ (by omega);rw[Nat.add_mul]at hle;rw[<-Array.getElem?_toList,dS,List.getElem?_append_left (by omega),List.getElem?_take,if_pos (by omega)];grind
      ·have dp:i - xs.length<ys.length:=by grind
       have e1:(xs++ys)[i]=ys[i - xs.length]:=List.getElem_append_right (by omega);rw[e1];have B1:=dJ.BW (pre:=cs.toList.take ((κ b).off+xs.length*e.size)) (post:=cs.toList.drop ((κ b).off+xs.length*e.size+dX.length)) dS;obtain⟨a8,d1,d2⟩:=B1 (i - xs.length) dp;refine⟨a8,λk ao=>?_,eP e (λ_ V=>V) he d2⟩;have:=d1 k ao;rw[gm]at this;rw[<-this];congr 1;have:i*e.size=xs.length*e.size+(i - xs.length)*e.size:=by rw[<-Nat.add_mul];grind
       omega
    ·obtain⟨ade,qG,cs,bX,cn,dS,lr,ls⟩:=ac1 (P:=C.P) (w:=w) (F:=F) (cap:=cap) (cap':=cap') cV (.inr ⟨e2,uN⟩) J5 nw (by omega) hlen o.type;rw[<-rO,<-td]at bX;refine gY au (mu a w _ _ bX) (J6 _ _ _ (V.BY (k:=⟨w.heap.size,0,qG,false⟩) J4 (.inr rfl) (by simp) (λr V=>?_) (λ_=>by simp) ⟨rfl,rfl,rfl⟩ λH κ'=>⟨λh=>(by cases h),λ_=>⟨cs,ade,?_,by grind,by grind,cn,?_⟩⟩) ?_)
     ·exact oN w.drew _ V
     ·exact pP w.drew _
     ·exact ls.later ⟨by simp,λr aX=>oN w.drew _ (V.cL r aX)⟩
     ·simp[bm.slice]
   simp only[JC]at h;split at h
   ·rename_i b g eK;simp only[aq.eF]at h;split at h
    ·rename_i aS xs bD;split at h
     ·rename_i qI;subst qI;simp only[aq.eG,Option.bind_eq_some_iff,aq.bx,Option.some.injEq]at h;obtain⟨⟨ys,l⟩,jV,rfl⟩:=h;have az:(s.ad b).gen=g/\(s.ad b).body=.a7 aS xs:=by
       grind
      intro a w κ F Q V aY hc;have hx:bk C.P s.ad κ F w (use (aT C.aL s.aw x)).2 (a.eval x):=ct V x rfl aY.1;have nq:=hx;rw[eK]at nq;have hv:=nq.2 az.1.symm (by rw[az.2];rfl);rw[az.2]at hv;simp only[bB.len]at hv;have hA:(dc (.slice aS) (use (aT C.aL s.aw x)).2).run s.ad=some (xs,[b]):=by
       rw[eK];simp[dc,j',ae.ea,dz,az.1,az.2,ew]
      refine main s a w κ F Q b (g+1) xs ys V (rN V jV (ct V y rfl aY.2)) (by omega) (rN V hA hx) (λq cap be J8 _=>?_) hc;rw[hv]at be;cases aA:(κ b).eI with
      | true=>
       simp only[bm.slice,aA,if_true,Value.slice.injEq]at be;grind
      | false=>
       simp only[bm.slice,aA,Bool.false_eq_true,if_false,Value.slice.injEq]at be;grind
     ·cases h
    ·cases h
   ·rename_i b g lo G eK;simp only[aq.eF]at h;split at h
    ·rename_i aS xs bD;split at h
     ·rename_i qI;subst qI;simp only[aq.eG,Option.bind_eq_some_iff,aq.bx,Option.some.injEq]at h;obtain⟨⟨ys,l⟩,jV,rfl⟩:=h;have az:(s.ad b).gen=g/\(s.ad b).body=.a7 aS xs:=by
       grind
      intro a w κ F Q V aY hc;have hx:bk C.P s.ad κ F w (use (aT C.aL s.aw x)).2 (a.eval x):=ct V x rfl aY.1;rw[eK]at hx;obtain⟨⟨aO,aP⟩,bA⟩:=hx.2 az.1.symm (by rw[az.2];rfl);rw[az.2]at aP bA;simp only[bB.len,bB.eE]at aP bA;obtain⟨κ',aX,hv⟩:=V.ac7 az.2 aO aP bA;have nw:=rN V jV (ct V y rfl aY.2);have Rs:(s.b' b ⟨(s.ad b).gen+1,.a7 aS ((xs.take G).drop lo)⟩).ad b=⟨(s.ad b).gen+1,.a7 aS ((xs.take G).drop lo)⟩:=by simp[ay.b']
      have hA:(dc (.slice aS) (.own b (g+1))).run (s.b' b ⟨(s.ad b).gen+1,.a7 aS ((xs.take G).drop lo)⟩).ad=some ((xs.take G).drop lo,[b]):=by
       simp[dc,j',ae.ea,dz,ay.b',az.1,ew]
      have J5:bk C.P (s.b' b ⟨(s.ad b).gen+1,.a7 aS ((xs.take G).drop lo)⟩).ad κ' F w (.own b (g+1)) (a.eval x):=by
       refine⟨⟨by grind,hx.1.2⟩,λ_ _=>?_⟩;rw[Rs];exact hv
      have:=main (s.b' b ⟨(s.ad b).gen+1,.a7 aS ((xs.take G).drop lo)⟩) a w κ' F Q b (g+2) ((xs.take G).drop lo) ys aX nw (by grind) (rN aX hA J5) (λq cap be J8 _=>?_) hc
      ·rw[ac6]at this;exact this
      ·rw[hv]at be;cases aA:(κ' b).eI with
       | true=>
        simp only[bm.slice,aA,if_true,Value.slice.injEq]at be;grind
       | false=>
        simp only[bm.slice,aA,Bool.false_eq_true,if_false,Value.slice.injEq]at be;grind
     ·cases h
    ·cases h
   ·rename_i eK;simp only[aq.eG,Option.bind_eq_some_iff]at h;obtain⟨⟨ys,l⟩,jV,h⟩:=h;obtain⟨b,ab,ao⟩:=qD h;simp only[Option.some.injEq]at ao;subst ao;intro a w κ F Q V aY hc;have hx:bk C.P s.ad κ F w (use (aT C.aL s.aw x)).2 (a.eval x):=ct V x rfl aY.1;rw[eK]at hx;simp only[bk]at hx;have:=main s a w κ F Q b ((s.ad b).gen+1) [] ys V (rN V jV (ct V y rfl aY.2)) (Nat.lt_succ_self _) ⟨none,0,hx,.inl ⟨rfl,rfl,rfl⟩⟩ (λq cap be J8 _=>by grind) (by grind);exact this
   ·rename_i aS xs eK;split at h
    ·rename_i qI;subst qI;simp only[aq.eG,Option.bind_eq_some_iff]at h;obtain⟨⟨ys,l⟩,jV,h⟩:=h;obtain⟨b,ab,ao⟩:=qD h;simp only[Option.some.injEq]at ao;subst ao;intro a w κ F Q V aY hc;have hx:bk C.P s.ad κ F w (use (aT C.aL s.aw x)).2 (a.eval x):=ct V x rfl aY.1;rw[eK]at hx;obtain⟨JV,BM,Fa⟩:=hx;have hA:(dc (.slice aS) (.val (.slice aS) xs)).run s.ad=some (xs,[]):=by
      simp[dc,ew]
     exact main s a w κ F Q b ((s.ad b).gen+1) xs ys V (rN V jV (ct V y rfl aY.2)) (Nat.lt_succ_self _) (rN V hA JV) (λq cap be J8 wO=>by
      grind) hc.2
    ·cases h
   ·cases h
  ·cases h
 ·cases h
theorem adf{P:Program}{F:Nat->Prop}{w:World}{all:List Value}{ys:z1'}(h:fT P (.int .u8) F w all ys):all=ys.map (Value.int .u8):=by
 obtain⟨h1,h2⟩:=h;have h1:all.length=ys.length:=h1.trans (Nat.mul_one _);apply List.ext_getElem (by simpa using h1);intro i G dp;have c6:i<ys.length:=by omega
 obtain⟨e,_⟩:=h2 i c6;have hs:ae.size (.int .u8)=1:=rfl;rw[hs,Nat.mul_one,List.drop_eq_getElem_cons G]at e;have:=(List.cons.inj e).1;rw[this];simp
theorem Rt:∀ (ys:z1') (s:ByteArray),ys.foldl (λr n=>r.push (UInt8.ofNat n.toNat)) s=⟨s.data++(uI ys).toArray⟩
 | [],s=>by simp[uI]
 | y::ys,s=>by
  rw[List.foldl_cons,Rt ys];refine congrArg ByteArray.mk ?_;apply Array.ext';simp[uI,ByteArray.push]
theorem adg(ys:z1'):ys.foldl (λr n=>r.push (UInt8.ofNat n.toNat)) ByteArray.empty=⟨(uI ys).toArray⟩:=by
 rw[Rt];refine congrArg ByteArray.mk ?_;apply Array.ext';simp[ByteArray.empty,ByteArray.emptyWithCapacity];rfl
theorem adh(hT:dw C.P T){J9 J_:TypeId}{x:Operand}(a6:∀ i,o.dst=some i->i<C.nt)(ag:o.op=.convert J9 J_ x)(h:(bf C.aL T a1 (aT C.aL s.aw) o).run s.ad=some res):cm C o s res:=by
 simp only[bf,ag]at h;split at h
 ·rename_i aO k aP n t1 t2 hx;simp only[bz,aq.bx,Option.some.injEq]at h;subst h;refine cm.pure (by grind) a6 λa w κ F V aY _=>?_;have h1:=n0 (ct V x rfl aY) hx;have e1:=(hT.bS t1 (by simp)).int;have e2:=(hT.bS t2 (by simp)).int;refine⟨.int k (k.wrap n),?_,gy.2 ⟨rfl,pS _ _⟩⟩;simp[execOp,ag,convert,df e1,df e2,h1.1,Conv.intToInt]
 ·rename_i t1 t2;simp only[aq.eG,Option.bind_eq_some_iff,bz,aq.bx,Option.some.injEq]at h;obtain⟨⟨ys,l⟩,jV,rfl⟩:=h;refine cm.pure (by grind) a6 λa w κ F V aY _=>?_;have hu:=ct V x rfl aY;obtain⟨q,cap,hv,nw⟩:=rN V jV hu;have bZ:ys.length<2 ^ 63:=by
   have h1:=lW (F':=λ_=>True) V.bn (λ_ _=>trivial) jV (λ_ _ _=>trivial) hu;obtain⟨_,h2⟩:=(dx rfl).1 h1;obtain⟨q',cap',e1,m1,m2,_⟩:=h2;have e2:=(List.cons.inj (e1.symm.trans rfl)).1;omega
  obtain⟨jw,aC,iK,_⟩:=(hT.bS t1 (by simp)).sl;have e1:=iK.int;have e2:=(hT.bS t2 (by simp)).str;refine⟨.string ⟨(uI ys).toArray⟩,?_,lS.2 ⟨rfl,by simpa [uI]using bZ⟩⟩;have hc:(convert J9 J_ (a.eval x)).run C.P w=.ok (.string ⟨(uI ys).toArray⟩) w:=by
   rw[hv,run_convert_bytes_string w J9 J_ jw q ys.length cap aC e1 e2];rcases nw with⟨rfl,rfl,rfl⟩ | ⟨p,all,rfl,aU,n5⟩
   ·rfl
   ·have fj:all=ys.map (Value.int .u8):=adf aU;have ai:=E2 (P:=C.P) n5;rw[fj,List.length_map]at ai;rw[run_bytesToString w p ys.length cap ys ai];refine congrArg (λs=>Result.ok (Value.string s) w) ?_;exact adg ys
  simp[execOp,ag,hc]
 ·cases h
end
end Go.Fer
namespace Go.Fer
open Go.RowKit
theorem hL.yH{P:Program}{k:FuncId}{ts tr:ae}{sh Ru:ts.ah->M tr.ah}(h:hL P k ts tr sh)(hs:∀ x,M.le (sh x) (Ru x)):hL P k ts tr Ru where
 enter:=h.enter
 iD:=λF w args x bb fQ aU qJ=>by
  obtain⟨h1,h2⟩:=hs x qJ;exact (h.iD F w args x bb fQ aU h1).mono λe w' ⟨v,y,e1,e2,e3⟩=>⟨v,y,e1,h2 y e2,e3⟩
def aJ.sh(c:aJ)(x:c.ts.ah):M c.tr.ah:=M.du (c.pre x) (c.g x)
def adi(P:Program)(k:FuncId)(ts:ae)(x:ts.ah)(e:ae)(ys:List e.ah):Prop:=
 ∀ (F:Nat->Prop) (w:World) (args:List Value),(∀ r,F r->r<w.heap.size)->nk P F w->eY P ts F w args x->Calls P k args.toArray w λz w'=>∃ (b:bm) (F':Nat->Prop),z=.returned (b.slice ys.length)/\(∀ r,F r->F' r)/\(∀ r,F' r->F r\/(w.heap.size<=r/\r<w'.heap.size))/\
  (b.eI=true->ys=[])/\(b.eI=false->(w.heap.size<=b.ad/\b.ad<w'.heap.size/\¬F' b.ad)/\∃ cs T,w'.heap[b.ad]?=some (.cells cs T (0,0))/\b.off+b.cap*e.size<=cs.size/\ys.length<=b.cap/\b.cap<2 ^ 63/\lg P e F' w' cs b.off ys)/\Below w.heap.size w w'
def B2(P:Program)(k:FuncId)(c:aJ):Prop:=(∀ args w,(callFunc k args).run P w=.ok (.enter k args) w)/\∀ x,c.pre x->∀ y,BC c.tr (c.g x)=some y->adi P k c.ts x y.1 y.2
def iY(P:Program)(a1:Nat->Option aJ):Prop:=∀ k c,a1 k=some c->(nn c.tr=false->hL P k c.ts c.tr c.sh)/\(nn c.tr=true->B2 P k c)
theorem adj{t:ae}{y:t.ah}{z:(e:ae)×List e.ah}(h:BC t y=some z):nn t=true:=by
 unfold BC at h;unfold nn;split at h<;>simp_all
theorem adk{t:ae}{y:t.ah}(h:BC t y=none):nn t=false:=by
 cases hc:nn t with
 | false=>rfl
 | true=>
  unfold nn at hc;split at hc
  ·cases h
  ·cases hc
theorem jX{t:ae}(aH:t.f_=true)(avs:List aD):iG t avs=(match avs with | [v]=>dc t v | _=>.none:aq (Option (t.ah×List Nat))):=by
 cases t<;>first
  | (cases aH;done)
  | (rcases avs with _ | ⟨v,_ | ⟨u,aB⟩⟩<;>rfl)
theorem uS{P:Program}{H:Nat->bu}{κ:Nat->bm}{F F':Nat->Prop}{w:World}(aN:∀ b,cg P H κ F w b)(bb:∀ r,F r->F' r):∀ (t:ae) {avs:List aD} {aB:List Value} {x:t.ah} {l:List Nat},(iG t avs).run H=some (x,l)->
  iF H κ F' l->avs.length=aB.length->(∀ i (h:i<avs.length) (cZ:i<aB.length),bk P H κ F w avs[i] aB[i])->eY P t F' w aB x:=by
 have f_:∀ (t:ae),t.f_=true->∀ {avs:List aD} {aB:List Value} {x:t.ah} {l:List Nat},(match avs with | [v]=>dc t v | _=>.none:aq (Option (t.ah×List Nat))).run H=some (x,l)->
   iF H κ F' l->avs.length=aB.length->(∀ i (h:i<avs.length) (cZ:i<aB.length),bk P H κ F w avs[i] aB[i])->eY P t F' w aB x:=by
  intro t aH avs aB x l h ai hlen fj;split at h
  ·rename_i v;match aB,hlen with
   | [u],_=>
    refine (rz aH).2 ⟨u,rfl,lW aN bb h ai ?_⟩;exact fj 0 (by simp) (by simp)
  ·cases h
 intro t;induction t with
 | ax a b fa ei=>
  intro avs aB x l h ai hlen fj;match avs,aB,hlen with
  | [],_,_=>simp[iG,aq.none]at h
  | v::avs,u::aB,hlen=>
   simp only[iG,aq.eG,Option.bind_eq_some_iff,aq.bx,Option.some.injEq,Prod.mk.injEq]at h;obtain⟨⟨y,m⟩,h1,⟨z,c8⟩,h2,rfl,rfl⟩:=h;refine Bo.2 ⟨lW aN bb h1 ai.left (fj 0 (by simp) (by simp)),?_⟩;exact ei h2 ai.right (by grind) λi G dp=>by
    have:=fj (i+1) (by grind) (by grind);grind
 | cy=>
  intro avs aB x l h ai hlen fj;match avs,aB,hlen with
  | [],[],_=>exact⟨rfl,rfl⟩
  | _::_,_,_=>simp[iG,aq.none]at h
 | bool=>intro avs aB x l h;rw[jX rfl]at h;exact f_ _ rfl h
 | int k=>intro avs aB x l h;rw[jX rfl]at h;exact f_ (.int k) rfl h
 | str=>intro avs aB x l h;rw[jX rfl]at h;exact f_ _ rfl h
 | st t _=>intro avs aB x l h;rw[jX rfl]at h;exact f_ (.st t) rfl h
 | slice e _=>intro avs aB x l h;rw[jX rfl]at h;exact f_ (.slice e) rfl h
 | array n e _=>intro avs aB x l h;rw[jX rfl]at h;exact f_ (.array n e) rfl h
 | bq e _=>intro avs aB x l h;rw[jX rfl]at h;exact f_ (.bq e) rfl h
 | map k v _ _=>intro avs aB x l h;rw[jX rfl]at h;exact f_ (.map k v) rfl h
 | fn a b _ _=>intro avs aB x l h;rw[jX rfl]at h;exact f_ (.fn a b) rfl h
 | b5 a _=>intro avs aB x l h;rw[jX rfl]at h;exact f_ (.b5 a) rfl h
 | dO=>intro avs aB x l h;rw[jX rfl]at h;exact f_ .dO rfl h
theorem pW{H:Nat->bu}:∀ (t:ae) {avs:List aD} {x:t.ah} {l:List Nat},(iG t avs).run H=some (x,l)->gl H l:=by
 have f_:∀ (t:ae),t.f_=true->∀ {avs:List aD} {x:t.ah} {l:List Nat},(match avs with | [v]=>dc t v | _=>.none:aq (Option (t.ah×List Nat))).run H=some (x,l)->gl H l:=by
  intro t _ avs x l h;split at h
  ·exact mv h
  ·cases h
 intro t;induction t with
 | ax a b fa ei=>
  intro avs x l h;match avs with
  | []=>simp[iG,aq.none]at h
  | v::avs=>
   simp only[iG,aq.eG,Option.bind_eq_some_iff,aq.bx,Option.some.injEq,Prod.mk.injEq]at h;obtain⟨⟨y,m⟩,h1,⟨z,c8⟩,h2,rfl,rfl⟩:=h;exact (mv h1).append (ei h2)
 | cy=>
  intro avs x l h;match avs with
  | []=>
   simp only[iG,aq.bx,Option.some.injEq,Prod.mk.injEq]at h;rw[<-h.2];exact .nil H
  | _::_=>simp[iG,aq.none]at h
 | bool=>intro avs x l h;rw[jX rfl]at h;exact f_ _ rfl h
 | int k=>intro avs x l h;rw[jX rfl]at h;exact f_ (.int k) rfl h
 | str=>intro avs x l h;rw[jX rfl]at h;exact f_ _ rfl h
 | st t _=>intro avs x l h;rw[jX rfl]at h;exact f_ (.st t) rfl h
 | slice e _=>intro avs x l h;rw[jX rfl]at h;exact f_ (.slice e) rfl h
 | array n e _=>intro avs x l h;rw[jX rfl]at h;exact f_ (.array n e) rfl h
 | bq e _=>intro avs x l h;rw[jX rfl]at h;exact f_ (.bq e) rfl h
 | map k v _ _=>intro avs x l h;rw[jX rfl]at h;exact f_ (.map k v) rfl h
 | fn a b _ _=>intro avs x l h;rw[jX rfl]at h;exact f_ (.fn a b) rfl h
 | b5 a _=>intro avs x l h;rw[jX rfl]at h;exact f_ (.b5 a) rfl h
 | dO=>intro avs x l h;rw[jX rfl]at h;exact f_ .dO rfl h
theorem adl{H:Nat->bu}{e:ae}{ps:List (Nat×aD)}:∀ (n i:Nat) {xs:List e.ah} {l:List Nat},(s5 e ps i n).run H=some (xs,l)->gl H l:=by
 intro n;induction n with
 | zero=>intro i xs l h;cases h;exact .nil H
 | succ n aG=>
  intro i xs l h;simp only[s5,aq.eG,Option.bind_eq_some_iff,aq.bx,Option.some.injEq,Prod.mk.injEq]at h;obtain⟨⟨x,m⟩,h1,⟨ys,c8⟩,h2,rfl,rfl⟩:=h;refine gl.append ?_ (aG (i+1) h2);split at h1
  ·exact mv h1
  ·simp only[aq.bx,Option.some.injEq,Prod.mk.injEq]at h1;rw[<-h1.2];exact .nil H
theorem Rv{P:Program}{F F':Nat->Prop}{w w':World}{t:ae}{aB:List Value}{x:t.ah}(aH:t.pure=true)(h:eY P t F w aB x):eY P t F' w' aB x:=⟨h.1,ab5 t aH h.2⟩
theorem tf{P:Program}{H:Nat->bu}{κ:Nat->bm}{F:Nat->Prop}{w:World}:∀ (t:ae) {aB:List Value} {y:t.ah},eY P t F w aB y->t≠.cy->aB.length=jS t/\∀ i,i<jS t->bk P H κ F w (kd t y i) (aB.getD i Go.undef):=by
 intro t;induction t with
 | ax a b _ ei=>
  intro aB y h _;obtain⟨v,us,rfl,h1,h2⟩:=EM h;by_cases ab:b=.cy
  ·subst ab;have:us=[]:=h2.1;subst this;refine⟨rfl,λi G=>?_⟩;cases i with
   | zero=>exact h1
   | succ i=>simp only[jS]at G;omega
  ·obtain⟨aO,aP⟩:=ei h2 ab;refine⟨by simp[jS,aO],λi G=>?_⟩;cases i with
   | zero=>exact h1
   | succ i=>
    have:=aP i (by simp only[jS]at G;omega);simpa [kd]using this
 | cy=>simp
 | _=>
  intro aB y h _;obtain⟨v,rfl,h1⟩:=(rz rfl).1 h;refine⟨rfl,λi G=>?_⟩;simp only[jS]at G;have:i=0:=by omega
  subst this;exact h1
theorem B3{P:Program}{H:Nat->bu}{κ:Nat->bm}{F:Nat->Prop}{w:World}{t:ae}{v:Value}{y:t.ah}(h:sW P t F w v y):bk P H κ F w (qy t y) v:=by
 have pN:=@tf P H κ F w;obtain⟨aB,h1,h2⟩:=h;cases t with
 | ax a b=>
  simp only[yA]at h1;obtain⟨aO,aP⟩:=pN (.ax a b) h2 (by simp);exact⟨aB,h1,aO,aP⟩
 | cy=>exact h1.1
 | _=>
  obtain⟨u,rfl,hu⟩:=(rz rfl).1 h2;have:v=u:=by simpa [yA,eq_comm]using h1
  rw[this];exact hu
section
variable {C:bQ} {T:Nat->ae} {a1:Nat->Option aJ} {o:Oper} {s:ay} {res:dY}
theorem ba.grow{a:Act}{w w':World}{κ:Nat->bm}{F:Nat->Prop}(h:ba C s a w κ F)(ab:Below w.heap.size w w'):ba C s a w' κ (uB F w w'):=by
 have he:cG F w w':=⟨ab.size,λr V=>ab.block r (h.cL r V)⟩
 refine h.move (H':=s.ad) (eZ.refl _ _) (λ_ V=>.inl V) (λr V=>V.imp id λV=>.inr V.1) ab.size (λr V _=>ab.block r V) ⟨ab.os,ab.tape,ab.output⟩ (λ_=>?_) ?_ h.inj ?_ (λ_ _ h=>⟨rfl,h⟩)
 ·intro b;exact cg.kP (h.bn b) (eZ.refl _ _) (λ_ V=>.inl V) he rfl rfl λag=>ab.block _ (h.own b ag).1
 ·intro b ag;have:=h.own b ag;refine⟨Nat.lt_of_lt_of_le this.1 ab.size,λar=>?_,.inl ⟨b,ag,rfl⟩⟩;rcases ar with ar | ⟨ar,_⟩
  ·exact this.2.1 ar
  ·omega
 ·intro r V;rcases V with V | ⟨_,V⟩
  ·exact Nat.lt_of_lt_of_le (h.cL r V) ab.size
  omega
theorem B4{r:Option Nat}{P:Program}{o:Oper}{a:Act}{w:World}{K:Act->World->Prop}{Q:Exit->Act->World->Prop}{f:FuncId}{args:Array Value}{R:Ending->World->Prop}(au:∀ c,o.op≠.defer c)
  (h:(execOp a.eval o).run P w=.ok (.enter f args) w) (hc:Calls P f args w R) (ao:∀ e w',R e w'->∃ v,e=.returned v/\K (a.put o.dst v) w'):o.wpIn (dv r) 0 P a w K Q:=by
 refine⟨λ_ _=>trivial,?_⟩;rw[yR au,h];refine⟨λhs=>(by cases hs),?_⟩;have h1:CallsIn Fence.wide 0 P f args w R:=callsIn_wide.2 hc;have h2:CallsIn (dv r) 0 P f args w R:=by
  cases r with
  | none=>exact h1
  | some l=>exact CallsIn.inRound l h1
 refine h2.mono λe w' he=>?_;grind
theorem Rw{a:Act}{w:World}{κ:Nat->bm}{F:Nat->Prop}{ts:ae}(V:ba C s a w κ F){args:Array Operand}(aY:js (args.toList.map (aT C.aL s.aw))){x:ts.ah}{l:List Nat}
  (hx:(iG ts ((args.toList.map (aT C.aL s.aw)).map λv=>(use v).2)).run s.ad=some (x,l)):∃ F',(∀ r,F r->F' r)/\ba C (s.cb l) a w κ F'/\eY C.P ts F' w (args.toList.map a.eval) x:=by
 obtain⟨args⟩:=args;obtain⟨F',f1,aX,f2⟩:=ba.kS (pW ts hx) V;refine⟨F',f1,aX,uS V.bn f1 ts hx f2 (by simp) λi G dp=>?_⟩;simp only[List.getElem_map];have c6:i<args.length:=by grind
 have h1:=rH aY i (by grind);have e1:(args.map (aT C.aL s.aw)).getD i .undef=aT C.aL s.aw args[i]:=by grind
 rw[show (List.map (aT C.aL s.aw) (⟨args⟩:Array Operand).toList)=args.map (aT C.aL s.aw) from rfl,e1]at h1;exact oQ (jU V args[i]) h1
theorem Rx{a:Act}{w:World}{κ:Nat->bm}{F:Nat->Prop}{Q:Exit->Act->World->Prop}{K:Act->World->Prop}{k:FuncId}{ts tr:ae}{sh:ts.ah->M tr.ah}(V:ba C s a w κ F)(ar:hL C.P k ts tr sh)
  (a6:∀ i,o.dst=some i->i<C.nt) {args:Array Operand} {cU:Array TypeId} (ag:o.op=.call { callee:=.value (.func k),args:=args,argTypes:=cU }) (aY:js (args.toList.map (aT C.aL s.aw))) {x:ts.ah} {l:List Nat}
  (hx:(iG ts ((args.toList.map (aT C.aL s.aw)).map λv=>(use v).2)).run s.ad=some (x,l)) (hs:(sh x).b8)
  (ao:∀ y w',(sh x).bC y->∀ v,b9 C ((if tr.pure then s else s.cb l).set o.dst (qy tr y)) (a.put o.dst v) w'->K (a.put o.dst v) w'):o.wpIn (dv C.r) 0 C.P a w K Q:=by
 have au:∀ c,o.op≠.defer c:=by grind
 obtain⟨args⟩:=args;have cH:(execOp a.eval o).run C.P w=.ok (.enter k (args.map a.eval).toArray) w:=by
  simp only[execOp,ag,Sem.run_bind,resolve,Act.eval,Deferred.ofValue,Sem.run_pure,Result.andThen_ok,invoke];have:=ar.enter (args.map a.eval).toArray w;grind
 obtain⟨F',f1,aX,dA⟩:=Rw V aY hx;refine B4 au cH (ar.iD F' w _ x aX.cL aX.ib dA hs) λe w' ⟨v,y,he,aM,fR,ab⟩=>⟨v,he,ao y w' aM v ?_⟩
 by_cases hp:tr.pure=true
 ·rw[if_pos hp];have az:=V.grow ab;refine⟨κ,_,az.set a6 (B3 ?_)⟩;obtain⟨aB,c_,q2⟩:=fR;exact⟨aB,c_,Rv hp q2⟩
 ·rw[if_neg hp];have az:=aX.grow ab;exact⟨κ,_,az.set a6 (B3 fR)⟩
theorem ba.hi{a:Act}{w w':World}{κ:Nat->bm}{F F':Nat->Prop}(h:ba C s a w κ F){b g:Nat}{e:ae}{ys:List e.ah}{k:bm}(Bt:b<eu)(az:(s.ad b).gen<g)(ab:Below w.heap.size w w')
  (bb:∀ r,F r->F' r) (sV:∀ r,F' r->F r\/(w.heap.size<=r/\r<w'.heap.size)) (h1:k.eI=true->ys=[])
  (h2:k.eI=false->(w.heap.size<=k.ad/\k.ad<w'.heap.size/\¬F' k.ad)/\∃ cs T,w'.heap[k.ad]?=some (.cells cs T (0,0))/\k.off+k.cap*e.size<=cs.size/\ys.length<=k.cap/\k.cap<2 ^ 63/\lg C.P e F' w' cs k.off ys) :
  ba C (s.b' b ⟨g,.a7 e ys⟩) a w' (λi=>if i=b then k else κ i) F':=by
 have ai:eZ s.ad κ (λi=>if i=b then ⟨g,.a7 e ys⟩ else s.ad i) (λi=>if i=b then k else κ i):=yE az λaZ cS=>by grind
 refine h.move (H':=λi=>if i=b then ⟨g,.a7 e ys⟩ else s.ad i) ai bb (λr V=>(sV r V).imp id λh=>.inr h.1) ab.size (λr V _=>ab.block r V) ⟨ab.os,ab.tape,ab.output⟩ (λhe=>?_) ?_ ?_ ?_ (yF (.inl Bt) λaZ cS=>by grind)
 ·intro i;by_cases G:i=b
  ·subst G;simp only[cg,if_true];exact⟨h1,λaA=>(h2 aA).2⟩
  ·refine cg.kP (h.bn i) ai bb he (by grind) (by grind) λag=>?_;exact ab.block _ (h.own i ag).1
 ·intro i G;by_cases ej:i=b
  ·subst ej;simp only[if_true,bB.bL,Bool.not_eq_true']at G ⊢;obtain⟨⟨aO,aP,bA⟩,_⟩:=h2 G;exact⟨aP,bA,.inr aO⟩
  ·simp only[if_neg ej]at G ⊢;have:=h.own i G;refine⟨Nat.lt_of_lt_of_le this.1 ab.size,λar=>?_,.inl ⟨i,G,rfl⟩⟩;rcases sV _ ar with ar | ar
   ·exact this.2.1 ar
   ·omega
 ·intro i j G aC aS;by_cases ej:i=b<;>by_cases lU:j=b
  ·omega
  ·simp only[if_pos ej,if_neg lU,bB.bL,Bool.not_eq_true']at G aC aS;have:=(h.own j aC).1;have:=(h2 G).1.1;omega
  ·simp only[if_neg ej,if_pos lU,bB.bL,Bool.not_eq_true']at G aC aS;have:=(h.own i G).1;have:=(h2 aC).1.1;omega
  ·simp only[if_neg ej,if_neg lU]at G aC aS;exact h.inj i j G aC aS
 ·intro r V;rcases sV r V with cZ | cZ
  ·exact Nat.lt_of_lt_of_le (h.cL r cZ) ab.size
  ·exact cZ.2
theorem adm(cc:iY C.P a1){k:FuncId}{args:Array Operand}{cU:Array TypeId}(a6:∀ i,o.dst=some i->i<C.nt)(ag:o.op=.call { callee:=.value (.func k),args:=args,argTypes:=cU })(h:(bf C.aL T a1 (aT C.aL s.aw) o).run s.ad=some res):cm C o s res:=by
 simp only[bf,ag,mq,EX]at h;split at h
 ·rename_i c hc;simp only[aq.eG,Option.bind_eq_some_iff]at h;obtain⟨⟨x,l⟩,hx,h⟩:=h;split at h
  ·rename_i y aM;simp only[aq.run_bind]at h;obtain⟨d,au,h⟩:=qD h;split at h
   ·cases h
   rename_i ti;cases h;have ti:d ∉ l:=by simpa using ti
   have J':=a6 d au;intro a w κ F Q V aY gm;obtain⟨aO,aP⟩:=(cc k c hc).2 (adj aM);obtain⟨F',f1,aX,dA⟩:=Rw V aY hx;have cH:(execOp a.eval o).run C.P w=.ok (.enter k (args.map a.eval)) w:=by
    simp only[execOp,ag,Sem.run_bind,resolve,Act.eval,Deferred.ofValue,Sem.run_pure,Result.andThen_ok,invoke];have:=aO (args.map a.eval) w;grind
   have iZ:=aP x gm y aM F' w _ aX.cL aX.ib dA;rw[show (args.toList.map a.eval).toArray=args.map a.eval from by rw[<-Array.toList_map,Array.toArray_toList]]at iZ;refine B4 (by grind) cH iZ λz w' ⟨b,dK,a_,g1,dR,g3,g4,g5⟩=>⟨_,a_,?_⟩
   have y5:(s.cb l).ad d=s.ad d:=by simp[ay.cb,ti]
   have iX:=aX.hi (b:=d) (g:=(s.ad d).gen+1) (e:=y.1) (ys:=y.2) (k:=b) (Nat.lt_of_lt_of_le J' V.fO) (by rw[y5];omega) g5 g1 dR g3 g4;refine⟨λi=>if i=d then b else κ i,dK,?_⟩;simp only[ay.hP];rw[BN,s9];refine iX.set a6 ⟨⟨by simp[ay.b'],by unfold bm.slice;split<;>rfl⟩,λ_ _=>by simp[ay.b',bB.len]⟩
  rename_i aM;simp only[aq.run_bind,aq.bx,Option.some.injEq]at h;subst h;intro a w κ F Q V aY gm;refine Rx V ((cc k c hc).1 (adk aM)) a6 ag aY hx gm λy w' aM v jY=>?_;have aM:y=c.g x:=aM;subst aM;have e:∀ (r:aq (List (Nat×bu))),r=(if c.tr.pure then .ret [] else jr l)->s.fH (r.run s.ad)=(if c.tr.pure then s else s.cb l):=by
   intro r V;subst V;split
   ·rfl
   ·exact s9 s l
  simp only[ay.hP];grind
 ·cases h
theorem Ry{P:Program}{H:Nat->bu}{κ:Nat->bm}{F F':Nat->Prop}{w:World}(aN:∀ b,cg P H κ F w b)(bb:∀ r,F r->F' r){e:ae}{zero:List Value}(a_:bt P e F' w zero e.cN){ps:List (Nat×aD)}{qs:List (Nat×Value)}(hlen:ps.length=qs.length)
  (fj:∀ i (h:i<ps.length) (cZ:i<qs.length),ps[i].1=qs[i].1/\bk P H κ F w ps[i].2 qs[i].2):∀ (n i:Nat) {xs:List e.ah} {l:List Nat},(s5 e ps i n).run H=some (xs,l)->
  iF H κ F' l->xs.length=n/\∀ j (h:j<xs.length),∃ a8,bt P e F' w a8 xs[j]/\(match qs.find? (λp=>p.1 == i+j) with | some q=>a8=q.2.cells.toList | none=>a8=zero):=by
 have find:∀ (ps:List (Nat×aD)) (qs:List (Nat×Value)),ps.length=qs.length->(∀ i (h:i<ps.length) (cZ:i<qs.length),ps[i].1=qs[i].1/\bk P H κ F w ps[i].2 qs[i].2)->∀ i,(ps.find? (λp=>p.1 == i)=none/\qs.find? (λp=>p.1 == i)=none)\/∃ p q,ps.find? (λp=>p.1 == i)=some p/\qs.find? (λp=>p.1 == i)=some q/\bk P H κ F w p.2 q.2:=by
  intro ps;induction ps with
  | nil=>grind
  | cons p ps aG=>
   intro qs ai h i;cases qs with
   | nil=>grind
   | cons q qs=>
    have h0:=h 0 (by simp) (by simp);simp only[List.getElem_cons_zero]at h0;by_cases hp:p.1=i
    ·grind
    ·have be:q.1≠i:=by omega
     have:=aG qs (by grind) (λj aC fz=>by have:=h (j+1) (by grind) (by grind);grind) i;grind
 intro n;induction n with
 | zero=>intro i xs l h _;cases h;simp
 | succ n aG=>
  intro i xs l h ai;simp only[s5,aq.eG,Option.bind_eq_some_iff,aq.bx,Option.some.injEq,Prod.mk.injEq]at h;obtain⟨⟨x,m⟩,h1,⟨ys,c8⟩,h2,rfl,rfl⟩:=h;obtain⟨aO,aP⟩:=aG (i+1) h2 ai.right;refine⟨by grind,λj aC=>?_⟩;cases j with
  | zero=>
   rcases find ps qs hlen fj i with⟨f1,f2⟩ | ⟨p,q,f1,f2,f3⟩
   ·rw[f1]at h1;simp only[aq.bx,Option.some.injEq,Prod.mk.injEq]at h1;grind
   ·rw[f1]at h1;refine⟨q.2.cells.toList,(lW aN bb h1 ai.left f3).2,?_⟩;grind
  | succ j=>
   obtain⟨a8,d1,d2⟩:=aP j (by grind);grind
end
end Go.Fer
namespace Go.Fer
open Go.RowKit
def rP(d:Nat)(em:Bool)(xs:Array Value):List Field->Sem Unit
 | []=>pure ()
 | f::ez=>
  if f.name ≠ "_" then do
   let a <-part f.type xs f.offset
   Instr.checkKey em d f.type a
   rP d em xs ez
  else rP d em xs ez
theorem adn{P:Program}(w:World)(em:Bool)(d:Nat)(t:TypeId)(xs:Array Value)(aH:P.underlying t=some (.struct (P.fieldsOf t))) :
  (Instr.checkKey em (d+1) t (.agg xs)).run P w=(rP d em xs (P.fieldsOf t).toList).run P w:=by
 simp only[Instr.checkKey,Sem.run_bind,df aH,Result.andThen_ok];rw[<-Array.forIn_toList];generalize (P.fieldsOf t).toList=ez;clear aH;induction ez generalizing w with
 | nil=>rfl
 | cons f ez aG=>
  simp only[List.forIn_cons,rP,Sem.run_bind,Sem.run_ite];split
  ·generalize (part f.type xs f.offset).run P w=bX;cases bX with
   | ok a b1=>
    simp only[Result.andThen_ok];generalize (Instr.checkKey em d f.type a).run P b1=cn;cases cn with
    | ok b cI=>
     simp_all
    | halt x cI=>rfl
   | halt x b1=>rfl
  simp_all
theorem B5{P:Program}{F:Nat->Prop}{w:World}{em:Bool}:∀ (t:ae) (d:Nat),t.kv=true->t.jT<=d->
  (∀ {id:TypeId} {v:Value} {x:t.ah},bP P t id->dP P t F w v x->(Instr.checkKey em d id v).run P w=.ok () w)/\
  (∀ {l:List Field} {off:Nat} {xs:Array Value} {p c q:List Value} {x:t.ah},ch P t (.inr (l,off))=true->xs.toList=p++(c++q)->p.length=off->bt P t F w c x->
   (rP d em xs l).run P w=.ok () w):=by
 intro t;induction t with
 | bool=>
  intro d _ au;refine⟨λ{id v x} h h1=>?_,λh=>by simp[ch]at h⟩;rw[eQ.1 h1];obtain⟨d,rfl⟩:∃ e,d=e+1:=⟨d - 1,by simp only[ae.jT]at au;omega⟩
  unfold bP at h;simp only[ch,Bool.and_eq_true]at h;obtain⟨_,h⟩:=h;split at h
  ·rename_i hu;simp[Instr.checkKey,df hu]
  grind
 | int k=>
  intro d _ au;refine⟨λ{id v x} h h1=>?_,λh=>by simp[ch]at h⟩;rw[(gy.1 h1).1];obtain⟨d,rfl⟩:∃ e,d=e+1:=⟨d - 1,by simp only[ae.jT]at au;omega⟩
  simp[Instr.checkKey,df (bP.int h)]
 | str=>
  intro d _ au;refine⟨λ{id v x} h h1=>?_,λh=>by simp[ch]at h⟩;rw[(lS.1 h1).1];obtain⟨d,rfl⟩:∃ e,d=e+1:=⟨d - 1,by simp only[ae.jT]at au;omega⟩
  simp[Instr.checkKey,df (bP.str h)]
 | cy=>intro d h;cases h
 | slice e _=>intro d h;cases h
 | array n e _=>intro d h;cases h
 | bq e _=>intro d h;cases h
 | map k v _ _=>intro d h;cases h
 | fn a b _ _=>intro d h;cases h
 | b5 a _=>intro d h;cases h
 | dO=>intro d h;cases h
 | ax a b fa ei=>
  intro d hc au;simp only[ae.kv,Bool.and_eq_true]at hc;simp only[ae.jT]at au;have ia:=fa d hc.1 (by omega);have oL:=ei d hc.2 (by omega);refine⟨λh=>by unfold bP at h;simp[ch]at h,?_⟩;intro l off xs p c q x h hx hp oS;simp only[bt]at oS;obtain⟨c1,c2,rfl,aO,aP⟩:=oS;have eO:=ht a aO;have step : ∀ (f : Field) (bY : List Field), f.offset = off -> bP P a f.type -> f.name ≠ "_" -> (rP d em xs (f :: bY)).run P w = (rP d em xs bY).run P w := by
   intro f bY ag ar aA;obtain⟨v,bX,cn⟩:=qC (cs:=xs) (p:=p) (c:=c1) (q:=c2++q) ar (by grind) aO;simp only[rP,aA,ne_eq,not_false_eq_true,if_true,Sem.run_bind];rw[ag,<-hp,bX,Result.andThen_ok,ia.1 ar cn,Result.andThen_ok]
  match l,h with
  | [],h=>rfl
  | [f],h=>simp only[ch,Bool.false_eq_true]at h
  | [f,g],h=>
   simp only[ch,Bool.and_eq_true,beq_iff_eq,bne_iff_ne,ne_eq]at h;obtain⟨⟨⟨⟨h1,h2⟩,h3⟩,aR⟩,⟨⟨⟨bw,cY⟩,fK⟩,iS⟩⟩:=h;rw[step f [g] h1 h2 aR];obtain⟨v,bX,cn⟩:=qC (cs:=xs) (p:=p++c1) (c:=c2) (q:=q) cY (by grind) aP;have e1:(p++c1).length=g.offset:=by grind
   rw[e1]at bX;simp only[rP,iS,ne_eq,not_false_eq_true,if_true,Sem.run_bind,bX,Result.andThen_ok,oL.1 cY cn,Sem.run_pure]
  | f::g::i::l,h=>
   simp only[ch,Bool.and_eq_true,beq_iff_eq,bne_iff_ne,ne_eq]at h;obtain⟨⟨⟨⟨h1,h2⟩,h3⟩,aR⟩,bw⟩:=h;rw[step f _ h1 h2 aR,oL.2 bw (p:=p++c1) (c:=c2) (q:=q) (by grind) (by grind) aP]
 | st t aG=>
  intro d hc au;simp only[ae.jT]at au;obtain⟨d,rfl⟩:∃ e,d=e+1:=⟨d - 1,by omega⟩
  refine⟨λ{id v x} h h1=>?_,λh=>by simp[ch]at h⟩;have i:=aG d hc (by omega);obtain⟨e1,e2,e3,e4⟩:=h.BG;obtain⟨⟨xs,rfl,hA⟩,oS⟩:=h1;simp only[Value.cells,bt]at oS;rw[adn w em d id xs e4];rcases e3 with e3 | ⟨f,e3,dB,kO,s7⟩ | ⟨rfl,e3⟩
  ·exact i.2 e3 (p:=[]) (c:=xs.toList) (q:=[]) (by simp) rfl oS
  ·rw[e3];obtain⟨v,bX,cn⟩:=qC (cs:=xs) (p:=[]) (c:=xs.toList) (q:=[]) kO (by simp) oS;simp only[List.length_nil]at bX;simp only[rP,s7,ne_eq,not_false_eq_true,if_true,Sem.run_bind,dB,bX,Result.andThen_ok,i.1 kO cn,Sem.run_pure]
  ·cases hc
theorem Ka:∀ (t:ae),t.kv=true->∀ (x y:t.ah),gj t x y=true<->x=y:=by
 intro t;induction t with
 | bool=>intro _ x y;simp[gj]
 | int k=>intro _ x y;simp[gj]
 | str=>intro _ x y;simp[gj]
 | st t aG=>intro h x y;exact aG h x y
 | ax a b fa ei=>
  intro h x y;simp only[ae.kv,Bool.and_eq_true]at h;simp only[gj,Bool.and_eq_true,fa h.1,ei h.2];grind
 | _=>intro h;cases h
def y6{k:ae}{β:Type}(x:k.ah)(es:List MapEntry)(xs:List (k.ah×β))(i:Nat)(r:Option (Nat×Value)):Prop:=
 (r=none/\∀ p∈xs,gj k x p.1=false)\/∃ j e p,es[j]?=some e/\xs[j]?=some p/\gj k x p.1=true/\(∀ jW q,jW<j->xs[jW]?=some q->gj k x q.1=false)/\r=some (i+j,e.val)
theorem y6.next{k:ae}{β:Type}{x:k.ah}{e:MapEntry}{es:List MapEntry}{p:k.ah×β}{xs:List (k.ah×β)}{i:Nat}{r:Option (Nat×Value)}(h:y6 x es xs (i+1) r)(hp:gj k x p.1=false):y6 x (e::es) (p::xs) i r:=by
 rcases h with⟨h1,h2⟩ | ⟨j,aS,p',h1,h2,h3,aR,bw⟩
 ·exact .inl ⟨h1,λq be=>by
   grind⟩
 ·refine .inr ⟨j+1,aS,p',by grind,by grind,h3,λjW q fz be=>?_,by grind⟩;grind
theorem Rz{P:Program}{F:Nat->Prop}{w:World}{k:ae}{β:Type}(hc:k.kv=true)(aA:k.jT<=10000){kV:TypeId}(ao:bP P k kV){tj:Value}{x:k.ah}(hx:dP P k F w tj x):∀ (es:List MapEntry) (xs:List (k.ah×β)) (i:Nat),es.length=xs.length->(∀ (j:Nat) (e:MapEntry) (p:k.ah×β),es[j]?=some e->xs[j]?=some p->dP P k F w e.key p.1)->∃ r,(Instr.findAsking kV tj es i).run P w=.ok r w/\y6 x es xs i r
 | [],[],i,_,_=>⟨none,rfl,.inl ⟨rfl,λp hp=>by cases hp⟩⟩
 | e::es,p::xs,i,ai,h=>by
  have h0:=h 0 e p rfl rfl;have he:=(JI k 10000 hc aA).1 ao hx h0;obtain⟨r,bX,cn⟩:=Rz (β:=β) hc aA ao hx es xs (i+1) (by grind) λj aS p' h1 h2=>h (j+1) aS p' (by grind) (by grind);cases be:gj k x p.1 with
  | true=>
   refine⟨some (i,e.val),by simp[Instr.findAsking,Op.equal,Op.maxDepth,he,be],.inr ⟨0,e,p,rfl,rfl,be,λjW q fz=>by omega,rfl⟩⟩
  | false=>exact⟨r,by simp[Instr.findAsking,Op.equal,Op.maxDepth,he,be,bX],cn.next be⟩
theorem RA{P:Program}{F:Nat->Prop}{w:World}{k:ae}{kV:TypeId}(ao:bP P k kV){d:TypeDesc}(au:P.underlying kV=some d){u v:Value}{x y:k.ah}(hu:dP P k F w u x)(hv:dP P k F w v y){b:Bool}(h:Instr.sameNow d u v=some b):b=gj k x y:=by
 cases k with
 | bool=>
  rw[eQ.1 hu,eQ.1 hv]at h;cases d<;>simp only[Instr.sameNow,Option.some.injEq,reduceCtorEq]at h;rw[<-h];rfl
 | int k=>
  rw[(gy.1 hu).1,(gy.1 hv).1]at h;cases d<;>simp only[Instr.sameNow,if_true,Option.some.injEq,reduceCtorEq]at h;rw[<-h];rfl
 | str=>
  rw[(lS.1 hu).1,(lS.1 hv).1]at h;cases d<;>simp only[Instr.sameNow,Option.some.injEq,reduceCtorEq]at h;rw[<-h,beq_toListBytes,ByteArray.toList_eq,ByteArray.toList_eq];simp only[gj];grind
 | st t=>
  obtain⟨⟨us,rfl,_⟩,_⟩:=hu;cases d<;>cases v<;>simp[Instr.sameNow]at h
 | array n t=>
  obtain⟨⟨us,rfl,_⟩,_⟩:=hu;cases d<;>cases v<;>simp[Instr.sameNow]at h
 | cy=>exact hu.1.elim
 | ax a b=>exact hu.1.elim
 | slice e=>
  obtain⟨_,a,cap,e1,_⟩:=(dx rfl).1 hu;obtain rfl:=(List.cons.inj e1).1;cases d<;>simp[Instr.sameNow]at h
 | bq e=>
  obtain⟨_,hx⟩:=(dx rfl).1 hu;rcases hx with⟨e1,_⟩ | ⟨p,y,a8,e1,_⟩<;>(obtain rfl:=(List.cons.inj e1).1;cases d<;>simp[Instr.sameNow]at h)
 | map k' hM=>
  obtain⟨_,hx⟩:=(dx rfl).1 hu;rcases hx with⟨e1,_⟩ | ⟨r,es,clk,e1,_⟩<;>(obtain rfl:=(List.cons.inj e1).1;cases d<;>simp[Instr.sameNow]at h)
 | fn a b=>
  obtain⟨i,z,h1,h2,h3,aR,bw,cY⟩:=kc ao.ka;unfold bP at ao;simp only[ch,Bool.and_eq_true,au]at ao;cases d<;>simp[Instr.sameNow]at ao h
 | b5 a=>
  obtain⟨i,z,h1,h2,h3,aR,bw,cY⟩:=kc ao.ka;unfold bP at ao;simp only[ch,Bool.and_eq_true,au]at ao;cases d<;>simp[Instr.sameNow]at ao h
 | dO=>
  obtain⟨i,z,h1,h2,h3,aR,bw,cY⟩:=kc ao.ka;unfold bP at ao;simp only[ch,Bool.and_eq_true,au]at ao;cases d<;>simp[Instr.sameNow]at ao h
theorem RB{P:Program}{F:Nat->Prop}{w:World}{k:ae}{β:Type}{kV:TypeId}(ao:bP P k kV){d:TypeDesc}(au:P.underlying kV=some d){tj:Value}{x:k.ah}(hx:dP P k F w tj x):∀ (es:List MapEntry) (xs:List (k.ah×β)) (i:Nat) {r:Option (Nat×Value)},es.length=xs.length->(∀ (j:Nat) (e:MapEntry) (p:k.ah×β),es[j]?=some e->xs[j]?=some p->dP P k F w e.key p.1)->Instr.findNow d tj es i=some r->y6 x es xs i r
 | [],[],i,r,_,_,h=>by cases h;exact .inl ⟨rfl,λp hp=>by cases hp⟩
 | e::es,p::xs,i,r,ai,h,ar=>by
  have h0:=h 0 e p rfl rfl;simp only[Instr.findNow]at ar;split at ar
  ·rename_i hs;have:=RA ao au hx h0 hs;cases ar;exact .inr ⟨0,e,p,rfl,rfl,this.symm,λjW q fz=>by omega,rfl⟩
  ·rename_i hs;have:=RA ao au hx h0 hs;exact (RB ao au hx es xs (i+1) (by grind) (λj aS p' h1 h2=>h (j+1) aS p' (by grind) (by grind)) ar).next this.symm
  grind
theorem bP.ado{P:Program}{t:ae}{id:TypeId}(h:bP P t id)(hc:t.kv=true):∃ d,P.underlying id=some d:=by
 cases t with
 | bool=>
  unfold bP at h;simp only[ch,Bool.and_eq_true]at h;grind
 | int k=>exact⟨_,bP.int h⟩
 | str=>exact⟨_,bP.str h⟩
 | st t=>exact⟨_,h.BG.2.2.2⟩
 | ax a b=>unfold bP at h;simp[ch]at h
 | _=>cases hc
theorem wP{P:Program}{F:Nat->Prop}{w:World}{k:ae}{β:Type}(hc:s6 k=true){kV:TypeId}(ao:bP P k kV){tj:Value}{x:k.ah}(hx:dP P k F w tj x){es:List MapEntry}{xs:List (k.ah×β)}
  (ai:es.length=xs.length) (h:∀ (j:Nat) (e:MapEntry) (p:k.ah×β),es[j]?=some e->xs[j]?=some p->dP P k F w e.key p.1):∃ r,(Instr.findKey kV tj es).run P w=.ok r w/\y6 x es xs 0 r:=by
 simp only[s6,Bool.and_eq_true,decide_eq_true_eq]at hc;obtain⟨d,au⟩:=ao.ado hc.1;simp only[Instr.findKey,Sem.run_bind,df au,Result.andThen_ok];cases aA:Instr.findNow d tj es 0 with
 | some r=>exact⟨r,rfl,RB ao au hx es xs 0 ai h aA⟩
 | none=>exact Rz hc.1 (by omega) ao hx es xs 0 ai h
theorem RC{k v:ae}{es:List (k.ah×v.ah)}{x:k.ah}:∀ {j:Nat} {p:k.ah×v.ah},es[j]?=some p->gj k x p.1=true->(∀ jW q,jW<j->es[jW]?=some q->gj k x q.1=false)->yM es x=some p.2/\∀ y,ln es x y=es.set j (p.1,y):=by
 induction es with
 | nil=>simp
 | cons q es aG=>
  intro j p h1 h2 h3;cases j with
  | zero=>
   simp at h1;subst h1;exact⟨by simp[yM,h2],λy=>by simp[ln,h2]⟩
  | succ j=>
   have h0:=h3 0 q (by omega) rfl;obtain⟨aO,aP⟩:=aG (j:=j) (p:=p) (by grind) h2 λjW q' fz tb=>h3 (jW+1) q' (by omega) (by grind);exact⟨by simpa [yM,List.find?_cons,h0]using aO,λy=>by simp[ln,h0,aP y]⟩
theorem RD{k v:ae}{es:List (k.ah×v.ah)}{x:k.ah}(h:∀ p∈es,gj k x p.1=false):yM es x=none/\∀ y,ln es x y=es++[(x,y)]:=by
 induction es with
 | nil=>exact⟨rfl,λ_=>rfl⟩
 | cons q es aG=>
  have h0:=h q (by simp);obtain⟨aO,aP⟩:=aG λp hp=>h p (by grind);exact⟨by simpa [yM,List.find?_cons,h0]using aO,λy=>by simp[ln,h0,aP y]⟩
section
variable {C:bQ} {T:Nat->ae} {a1:Nat->Option aJ} {o:Oper} {s:ay} {res:dY}
theorem adp{P:Program}{F:Nat->Prop}{w:World}{v:ae}{z:Value}(hv:v.ea=true\/v.isAgg=true)(i5:jR v z.cells.toList=some [])(i6:(∃ cs,z=.agg cs)<->v.isAgg=true):dP P v F w z v.cN:=by
 obtain⟨c,e,n2,z2⟩:=uG (P:=P) (H:=λ_=>⟨0,.fb⟩) (κ:=λ_=>⟨0,0,0,true⟩) (F:=F) (w:=w) v i5;rw[List.append_nil]at e;refine⟨?_,by grind⟩;have ai:=ht v n2;rcases hv with hv | hv
 ·obtain⟨u,rfl,hu⟩:=Bp hv n2;have E_:∀ cs,z≠.agg cs:=λcs a_=>by
   have:=i6.1 ⟨cs,a_⟩;cases v<;>simp[ae.ea,ae.isAgg]at hv this
  have a_:z.cells=#[z]:=by
   cases z<;>first | rfl | grind
  cases v<;>simp only[ae.ea,Bool.false_eq_true]at hv<;>exact a_
 ·obtain⟨cs,rfl⟩:=i6.2 hv;have aS:cs.toList=c:=e;cases v<;>simp only[ae.isAgg,Bool.false_eq_true]at hv
  ·exact⟨cs,rfl,by rw[<-Array.length_toList,aS,ai];rfl⟩
  ·exact⟨cs,rfl,by rw[<-Array.length_toList,aS,ai];rfl⟩
def Kb(P:Program)(k v:ae)(F:Nat->Prop)(w:World)(ms:List MapEntry)(xs:List (k.ah×v.ah)):Prop:=
 ms.length=xs.length/\∀ (j:Nat) (e:MapEntry) (p:k.ah×v.ah),ms[j]?=some e->xs[j]?=some p->dP P k F w e.key p.1/\dP P v F w e.val p.2
theorem uC.es{P:Program}{k v:ae}{F:Nat->Prop}{w:World}{ms:Array MapEntry}{clk:Nat}{xs:List (k.ah×v.ah)}(h:uC P k v F w ms clk xs):Kb P k v F w ms.toList xs:=by
 obtain⟨h1,h2,h3,aR⟩:=h;refine⟨by omega,λj e p he hp=>?_⟩;obtain⟨aC,rfl⟩:=List.getElem?_eq_some_iff.1 hp;obtain⟨fz,rfl⟩:=List.getElem?_eq_some_iff.1 he;obtain⟨a,b,c,d,_⟩:=h3 j aC (by omega);exact⟨⟨a,by grind⟩,c,by grind⟩
theorem adq{a:Act}{w:World}{κ:Nat->bm}{F:Nat->Prop}(V:ba C s a w κ F){k v:ae}{av:aD}{u:Value}{xs:List (k.ah×v.ah)}(h:(BD k v av).run s.ad=some xs)(hu:bk C.P s.ad κ F w av u) :
  (u=.map none/\xs=[])\/∃ r ms clk,u=.map (some r)/\w.heap[r]?=some (.map ms clk)/\Kb C.P k v F w ms.toList xs:=by
 have cb:∀ {xs:List (k.ah×v.ah)},bt C.P (.map k v) F w [u] xs->(u=.map none/\xs=[])\/∃ r ms clk,u=.map (some r)/\w.heap[r]?=some (.map ms clk)/\Kb C.P k v F w ms.toList xs:=by
  intro xs hx;rcases hx with⟨e1,e2⟩ | ⟨r,ms,clk,e1,h1,h2,h3,aR,bw,cY⟩
  ·grind
  ·exact .inr ⟨r,ms,clk,(List.cons.inj e1).1,h2,uC.es ⟨h3,aR,bw,cY⟩⟩
 cases av with
 | val t es=>
  simp only[BD,aq.bx]at h;exact cb ((dx rfl).1 (ER h hu)).2
 | jl x=>
  simp only[bk]at hu;subst hu;have hx:u=.map none/\xs=[]:=by
   unfold BD at h;split at h
   ·grind
   ·simp_all
   ·grind
   ·cases h
  grind
 | fk b g=>
  simp only[BD,aq.eF,aq.bx]at h;split at h
  ·rename_i az;have aN:=V.bn b;unfold cg at aN;split at h
   ·rename_i k' hM es ab;obtain⟨e,rfl⟩:=kt h;cases e;rw[ab]at aN;obtain⟨ms,clk,h1,h2⟩:=aN;exact .inr ⟨_,ms,clk,hu.2 az.symm (by rw[ab];rfl),h1,h2.es⟩
   ·rename_i k' hM es ab;obtain⟨e,rfl⟩:=kt h;cases e;rw[ab]at aN;have:=hu.2 az.symm (by rw[ab];rfl);simp only[jm]at aN;grind
   grind
  grind
 | _=>cases h
theorem adr{ty:TypeId}{r:Option Operand}(a6:∀ i,o.dst=some i->i<C.nt)(ag:o.op=.makeMap ty r)(h:(bf C.aL T a1 (aT C.aL s.aw) o).run s.ad=some res):cm C o s res:=by
 simp only[bf,ag]at h;split at h
 ·cases h
 ·rename_i RE;have RE:r=none:=by simp_all
  subst RE;split at h
  ·rename_i k v aH;obtain⟨b,au,ao⟩:=qD h;simp only[Option.some.injEq]at ao;subst ao;intro a w κ F Q V _ _;have cH:(execOp a.eval o).run C.P w=.ok (.value (.map (some w.heap.size))) (w.alloc (.map #[] 0)):=by
    simp[execOp,ag,Instr.makeMap]
   have h1:=V.alloc (b:=b) (x:=⟨(s.ad b).gen+1,.mp k v []⟩) (V.gN (a6 b au)) (Nat.lt_succ_self _) (o:=.map #[] 0) (k:=⟨w.heap.size,0,0,false⟩) rfl λH κ' _ _ _=>
    ⟨#[],0,pP _ _,rfl,by simp,λi G=>by simp,λi j G=>by simp⟩
   refine gY (by grind) cH ⟨_,F,ba.set (s:=s.b' b _) h1 a6 ⟨⟨by simp[ay.b'],rfl⟩,λ_ _=>by simp⟩⟩
  ·cases h
theorem ads(hT:dw C.P T){ty:TypeId}{m x:Operand}{ok:Bool}(a6:∀ i,o.dst=some i->i<C.nt)(ag:o.op=.lookup ty m x ok)(h:(bf C.aL T a1 (aT C.aL s.aw) o).run s.ad=some res):cm C o s res:=by
 simp only[bf,ag,yN]at h;split at h
 ·rename_i k v aH;split at h
  ·rename_i hc;simp only[Bool.and_eq_true,Bool.or_eq_true]at hc;obtain⟨i,j,G,mx,gO⟩:=(hT.bS aH (by simp)).mp;simp only[aq.eG,Option.bind_eq_some_iff,bz,aq.bx,Option.some.injEq]at h;obtain⟨es,oT,⟨y,l⟩,aM,rfl⟩:=h;refine cm.pure (by grind) a6 λa w κ F V aY _=>?_;have an:=ct V m rfl aY.1;have hx:=BJ V aM (ct V x rfl aY.2);obtain⟨inf,z,i1,i2,i3,i4,i5,i6⟩:=kc gO.ka;have hzero:dP C.P v F w z v.cN:=adp hc.2 i5 i6;have fin:∀ (u:Value) (q:Option v.ah),dP C.P v F w u (q.getD v.cN)->bk C.P s.ad κ F w (QW v q ok) (if ok=true then .tuple #[u,.bool q.isSome] else u):=by
    intro u q h3;cases ok with
    | true=>
     refine⟨[u,.bool q.isSome],rfl,rfl,λi G=>?_⟩;match i,G with
     | 0,_=>exact h3
     | 1,_=>exact eQ.2 rfl
    | false=>exact h3
   have lT:s6 k=true:=hc.1;have eU:k.kv=true/\k.jT<=100:=by simpa [s6]using lT
   rcases adq V oT an with⟨hu,aA⟩ | ⟨r,ms,clk,hu,hw,kg⟩
   ·subst aA;have dF:=(B5 (em:=true) k 10000 eU.1 (by omega)).1 mx hx;obtain⟨f,f1,f2⟩:=wP (β:=v.ah) (xs:=[]) (es:=[]) lT mx hx rfl (λj e p h=>by cases h);rcases f2 with⟨rfl,_⟩ | ⟨j,e,p,h1,_⟩
    ·refine⟨_,?_,fin z none hzero⟩;simp only[execOp,ag,hu,Instr.lookup,Sem.run_bind,df G,Result.andThen_ok,Sem.run_pure];simp only[show (#[]:Array MapEntry).isEmpty=true from rfl,dF,Result.andThen_ok,f1];cases ok<;>simp[qB i1 i4]
    grind
   ·have dF:=(B5 (em:=ms.isEmpty) k 10000 eU.1 (by omega)).1 mx hx;obtain⟨f,f1,f2⟩:=wP (β:=v.ah) (xs:=es) (es:=ms.toList) lT mx hx kg.1 (λj e p h1 h2=>by
     have:=(kg.2 j e p h1 h2).1;exact⟨this.1,eP k (λ_ _=>trivial) (cG.refl F w) this.2⟩)
    have eA:(getObj r).run C.P w=.ok (.map ms clk) w:=by simp[getObj,Sem.run,hw]
    rcases f2 with⟨rfl,dZ⟩ | ⟨j,e,p,h1,h2,h3,aR,rfl⟩
    ·refine⟨_,?_,by rw[(RD dZ).1];exact fin z none hzero⟩;simp only[execOp,ag,hu,Instr.lookup,Sem.run_bind,df G,Result.andThen_ok,Sem.run_pure,eA,dF,f1,qB i1 i4];rfl
    ·refine⟨_,?_,by rw[(RC h2 h3 aR).1];exact fin e.val (some p.2) (kg.2 j e p h1 h2).2⟩;simp only[execOp,ag,hu,Instr.lookup,Sem.run_bind,df G,Result.andThen_ok,Sem.run_pure,eA,dF,f1];rfl
  ·cases h
 ·cases h
theorem Kc(P:Program)(w:World)(uR dX:Value):∃ k' w',(Instr.keyThatStays uR dX).run P w=.ok k' w'/\(k'=dX\/k'=uR)/\(w'=w\/w'=w.drew):=by
 unfold Instr.keyThatStays;split
 ·exact⟨dX,w,rfl,.inl rfl,.inl rfl⟩
 ·have ar : (Question.extern "map.whichKeyStays" 2).forced = false := rfl;simp only[Sem.run_bind,run_choose,ar,Bool.false_eq_true,if_false,Result.andThen_ok];split
  ·exact⟨dX,_,rfl,.inl rfl,.inr rfl⟩
  ·exact⟨uR,_,rfl,.inr rfl,.inr rfl⟩
theorem rQ{P:Program}{w:World}{r:Nat}{es:Array MapEntry}{clk:Nat}(h:w.heap[r]?=some (.map es clk))(o:Obj):(setObj r o).run P w=.ok () { w with heap:=w.heap.setIfInBounds r o }:=by
 simp[setObj,Sem.run,h]
theorem Kd(hT:dw C.P T){ty:TypeId}{m x y:Operand}(J':o.dst=none)(ag:o.op=.mapUpdate ty m x y\/o.op=.insert ty m x y)(h:(bf C.aL T a1 (aT C.aL s.aw) o).run s.ad=some res):cm C o s res:=by
 have au:∀ c,o.op≠.defer c:=by grind
 have ky:∀ aF,bf C.aL T a1 aF o=qA T aF ty m x y:=λaF=>by rcases ag with ag | ag<;>simp only[bf,ag]
 have hex:∀ aF w,(execOp aF o).run C.P w=(do Instr.mapUpdate ty (aF m) (aF x) (aF y);pure .skip:Sem Next).run C.P w:=λaF w=>by rcases ag with ag | ag<;>simp only[execOp,ag]
 rw[ky]at h;simp only[qA]at h;split at h
 ·rename_i k v aH;obtain⟨kV,y7,G,mx,gO⟩:=(hT.bS aH (by simp)).mp;split at h
  ·rename_i hc;split at h
   ·rename_i b g tk;simp only[aq.eG,Option.bind_eq_some_iff,aq.run_bind,aq.eF,aq.bx]at h;obtain⟨⟨dn,nY⟩,hx,⟨my,nZ⟩,aM,h⟩:=h;split at h
    ·rename_i az;obtain⟨az,pU⟩:=az;have pU:b ∉ nY++nZ:=by
      grind
     split at h
     ·rename_i k' hM es ab;simp only[Option.map_eq_some_iff]at h;obtain⟨RF,oT,rfl⟩:=h;obtain⟨e,rfl⟩:=kt oT;cases e;intro a w κ F Q V aY _;obtain⟨F',f1,aX,f2⟩:=ba.kS ((mv hx).append (mv aM)) V;have an:bk C.P s.ad κ F w (use (aT C.aL s.aw m)).2 (a.eval m):=ct V m rfl aY.1;rw[tk]at an;have kz:=an.2 az.symm (by rw[ab];rfl);have tl:=lW V.bn f1 hx f2.left (ct V x rfl aY.2.1);have Ff:=lW V.bn f1 aM f2.right (ct V y rfl aY.2.2);have oX:(s.cb (nY++nZ)).ad b=s.ad b:=by simp only[ay.cb];grind
      have aN:=aX.bn b;unfold cg at aN;rw[oX,ab]at aN;obtain⟨ms,clk,hw,tm⟩:=aN;have eU:k.kv=true/\k.jT<=100:=by simpa [s6]using hc
      have dF:=(B5 (em:=false) k 10000 eU.1 (by omega)).1 mx tl;have kg:=tm.es;obtain⟨f,c_,q2⟩:=wP (β:=v.ah) (xs:=es) (es:=ms.toList) hc mx tl kg.1 (λj e p h1 h2=>(kg.2 j e p h1 h2).1);have eA:(getObj (κ b).ad).run C.P w=.ok (.map ms clk) w:=by simp[getObj,Sem.run,hw]
      have oV:s.fH ((jr (nY++nZ)).run s.ad++[(b,⟨(s.ad b).gen,.mp k v (ln es dn my)⟩)])=(s.cb (nY++nZ)).b' b ⟨(s.ad b).gen,.mp k v (ln es dn my)⟩:=by
       rw[BN,s9]
      have fS:eZ (s.cb (nY++nZ)).ad κ (λi=>if i=b then (⟨(s.ad b).gen,.mp k v (ln es dn my)⟩:bu) else (s.cb (nY++nZ)).ad i) κ:=
       qx (by rw[oX]) (λh=>by cases h) (λh=>by cases h) (λ_=>by rw[oX,ab];rfl) (λh=>by cases h)
      obtain⟨gX,Ke,Fg,RG⟩:=tm;have done:∀ (b1:World) (Fh:Array MapEntry) (Fi:Nat),(b1=w\/b1=w.drew)->
        (execOp a.eval o).run C.P w=.ok .skip { b1 with heap:=b1.heap.setIfInBounds (κ b).ad (.map Fh Fi) }->
        (∀ {w'},cG F' w w'->uC C.P k v F' w' Fh Fi (ln es dn my))->
        o.wpIn (dv C.r) 0 C.P a w (λa' w'=>b9 C (s.hP o.dst ⟨(use (aT C.aL s.aw m)).1/\(use (aT C.aL s.aw x)).1/\(use (aT C.aL s.aw y)).1,True,.undef,(jr (nY++nZ)).run s.ad++[(b,⟨(s.ad b).gen,.mp k v (ln es dn my)⟩)]⟩) a' w') Q:=by
       intro b1 Fh Fi ly cH adt;have cz:b1.heap=w.heap:=by rcases ly with rfl | rfl<;>rfl
       have iJ:cM w b1:=by rcases ly with rfl | rfl<;>exact⟨rfl,rfl,rfl⟩
       refine E3 au cH ⟨κ,F',?_⟩;simp only[ay.hP];rw[oV,J'];refine aX.oO (b:=b) (x:=⟨(s.ad b).gen,.mp k v (ln es dn my)⟩) (by rw[oX,ab];rfl) rfl fS (λh=>by cases h) (λ_=>by rw[oX,ab];rfl) (λr Kf=>?_) (by grind) ⟨iJ.os,iJ.tape,iJ.output⟩ λH _ _ he=>?_
       ·grind
       ·have bZ:(κ b).ad<w.heap.size:=(Array.getElem?_eq_some_iff.1 hw).1;exact⟨Fh,Fi,by grind,adt he⟩
      rcases q2 with⟨rfl,dZ⟩ | ⟨j,e,p,h1,h2,h3,aR,rfl⟩
      ·refine done w (ms.push { key:=a.eval x,val:=a.eval y,born:=clk }) (clk+1) (.inl rfl) ?_ λ{w'} he=>?_
       ·rw[hex];simp only[kz,Instr.mapUpdate,Sem.run_bind,df G,Result.andThen_ok,eA,dF,c_,rQ hw,Sem.run_pure]
       ·rw[(RD dZ).2];refine⟨by grind,?_,λi G dp=>?_,λi j G aC e=>?_⟩
        ·rw[List.map_append,List.nodup_append];refine⟨Ke,by simp,λq be q' tb=>?_⟩;obtain⟨p,hp,rfl⟩:=List.mem_map.1 be;simp only[List.map_cons,List.map_nil,List.mem_singleton]at tb;subst tb;intro e;have:=dZ p hp;rw[e,(Ka k eU.1 _ _).2 rfl]at this;grind
        ·by_cases pX:i<es.length
         ·obtain⟨aO,aP,bA,ga,oY⟩:=Fg i pX (by omega);have e1:(es++[(dn,my)])[i]=es[i]:=List.getElem_append_left pX;have e2:(ms.push { key:=a.eval x,val:=a.eval y,born:=clk })[i]=ms[i]'(by omega):=Array.getElem_push_lt (by omega);rw[e1,e2];exact⟨aO,eP k (λ_ h=>h) he aP,bA,eP v (λ_ h=>h) he ga,by omega⟩
         ·have adu:i=es.length:=by grind
          subst adu;have e1:(es++[(dn,my)])[es.length]=(dn,my):=by simp
          have e2:(ms.push { key:=a.eval x,val:=a.eval y,born:=clk })[es.length]={ key:=a.eval x,val:=a.eval y,born:=clk }:=by
           grind
          rw[e1,e2];exact⟨tl.1,eP k (λ_ h=>h) he tl.2,Ff.1,eP v (λ_ h=>h) he Ff.2,by simp⟩
        ·have born:∀ i (h:i<(ms.push { key:=a.eval x,val:=a.eval y,born:=clk }).size),(∃ cZ:i<ms.size,(ms.push { key:=a.eval x,val:=a.eval y,born:=clk })[i]=ms[i])\/(i=ms.size/\((ms.push { key:=a.eval x,val:=a.eval y,born:=clk })[i]).born=clk):=by
          grind
         grind
      ·have aC:j<es.length:=(List.getElem?_eq_some_iff.1 h2).1;have wQ:j<ms.size:=by omega
       have Kg:ms[j]=e:=by
        grind
       have mz:es[j]=p:=(List.getElem?_eq_some_iff.1 h2).2;have adv:dn=p.1:=(Ka k eU.1 _ _).1 h3;obtain⟨i_,b1,bX,cn,dS⟩:=Kc C.P w e.key (a.eval x);have ly:b1.heap[(κ b).ad]?=some (.map ms clk):=by rcases dS with rfl | rfl<;>exact hw
       refine done b1 (ms.modify j λe=>{ e with key:=i_,val:=a.eval y }) clk dS ?_ λ{w'} he=>?_
       ·rw[hex];rw[Nat.zero_add]at c_;simp only[kz,Instr.mapUpdate,Sem.run_bind,df G,Result.andThen_ok,eA,dF,c_];have nv:((ms[j]?).map (·.key)).getD (a.eval x)=e.key:=by
         grind
        rw[nv,bX];simp only[Result.andThen_ok,rQ ly,Sem.run_pure]
       ·rw[(RC h2 h3 aR).2];refine⟨by grind,?_,λi G dp=>?_,λi jW G fz aS=>?_⟩
        ·have:(es.set j (p.1,my)).map (·.1)=es.map (·.1):=by
          apply List.ext_getElem?;grind
         grind
        ·have pX:i<es.length:=by grind
         have Kh:i<ms.size:=by omega
         obtain⟨aO,aP,bA,ga,oY⟩:=Fg i pX Kh;by_cases y8:j=i
         ·subst y8;have e1:(es.set j (p.1,my))[j]=(p.1,my):=by simp
          have e2:(ms.modify j λe=>{ e with key:=i_,val:=a.eval y })[j]={ key:=i_,val:=a.eval y,born:=ms[j].born }:=by grind
          rw[e1,e2];have uK:dP C.P k F' w i_ p.1:=by
           rcases cn with rfl | rfl
           ·grind
           ·rw[<-Kg,<-mz];exact⟨aO,aP⟩
          exact⟨uK.1,eP k (λ_ h=>h) he uK.2,Ff.1,eP v (λ_ h=>h) he Ff.2,oY⟩
         ·have e1:(es.set j (p.1,my))[i]=es[i]:=by grind
          have e2:(ms.modify j λe=>{ e with key:=i_,val:=a.eval y })[i]=ms[i]:=by grind
          rw[e1,e2];exact⟨aO,eP k (λ_ h=>h) he aP,bA,eP v (λ_ h=>h) he ga,oY⟩
        grind
     grind
    grind
   ·cases h
  ·cases h
 ·cases h
end
end Go.Fer
namespace Go.Fer
open Go.RowKit
section
variable {C:bQ} {T:Nat->ae} {a1:Nat->Option aJ} {o:Oper} {s:ay} {res:dY}
theorem RH{P:Program}{F:Nat->Prop}{w:World}{e:ae}{z:Value}(bw:jR e z.cells.toList=some [])(n:Nat) :
  fT P e F w ((Array.range (n*e.size)).map (λi=>z.cells[i % z.cells.size]!)).toList (List.replicate n e.cN):=by
 obtain⟨c,ec,n2,z2⟩:=uG (P:=P) (H:=λ_=>⟨0,.fb⟩) (κ:=λ_=>⟨0,0,0,true⟩) (F:=F) (w:=w) e bw;rw[List.append_nil]at ec;have tn:z.cells.size=e.size:=by rw[<-Array.length_toList,ec];exact ht e n2
 refine⟨by simp,λi G=>?_⟩;have dp:i<n:=by grind
 have hle:(i+1)*e.size<=n*e.size:=Nat.mul_le_mul_right _ (by omega);rw[Nat.add_mul]at hle;have:((((Array.range (n*e.size)).map (λi=>z.cells[i % z.cells.size]!)).toList.drop (i*e.size)).take e.size)=z.cells.toList:=by
  apply List.ext_getElem?;intro j;simp only[List.getElem?_take,List.getElem?_drop];split
  ·rename_i aC;have fz:j<z.cells.size:=by omega
   rw[Array.getElem?_toList,Array.getElem?_toList];have y4:(i*e.size+j) % z.cells.size=j:=by rw[tn,Nat.add_comm,Nat.add_mul_mod_self_right,Nat.mod_eq_of_lt aC]
   grind
  grind
 grind
theorem adw{n:Int}(h0:0<=n)(h1:n<=4294967296):IntKind.i64.wrap n=n:=by
 simp only[IntKind.wrap,IntKind.signed,IntKind.bits];grind
theorem adx(hT:dw C.P T){ty:TypeId}{l c:Operand}(a6:∀ i,o.dst=some i->i<C.nt)(ag:o.op=.makeSlice ty l c)(h:(bf C.aL T a1 (aT C.aL s.aw) o).run s.ad=some res):cm C o s res:=by
 simp only[bf,ag,EY]at h;split at h
 ·rename_i e aH;split at h
  ·rename_i n m ai an;have cV:=hT.bS aH (by simp);obtain⟨jw,aC,iK,n3⟩:=cV.sl;obtain⟨inf,z,i1,i2,i3,i4,i5,i6⟩:=kc iK.ka;obtain⟨b,au,ao⟩:=qD h;simp only[Option.some.injEq]at ao;subst ao;intro a w κ F Q V aY hc;have ady:=n0 (ct V l rfl aY.1) ai;have iJ:=n0 (ct V c rfl aY.2) an;obtain⟨c0,rfl,c1⟩:0<=n/\n=m/\b6 n.toNat:=hc;unfold b6 at c1;obtain⟨k,rfl⟩:∃ k:Nat,n=k:=⟨n.toNat,by omega⟩
   simp only[Int.toNat_natCast]at c1;have hw:IntKind.i64.wrap (k:Int)=k:=adw (by omega) (by omega);let cs:Array Value:=(Array.range (k*e.size)).map (λi=>z.cells[i % z.cells.size]!);have iX:fT C.P e F w cs.toList (List.replicate k e.cN):=RH i5 k;have awB:inf.bytes*k<=2 ^ 47:=by
    calc inf.bytes*k<=1024*4294967296:=Nat.mul_le_mul i3 (by omega)
     _<=2 ^ 47:=by decide
   have cH:(execOp a.eval o).run C.P w=.ok (.value (.slice (some ⟨w.heap.size,0,none⟩) k k)) (w.alloc (.cells cs jw)):=by
    have adz:¬((inf.bytes:Int)*(k:Int) > 2 ^ 48):=by
     omega
    have lz:¬((k:Int)<0):=by omega
    have wO:¬(k*inf.bytes > roomBytes):=by
     have:roomBytes=2 ^ 47:=rfl;grind
    have uK:¬((k:Int) > (k:Int)):=by omega
    simp only[execOp,ag,Instr.makeSlice,ady.1,iJ.1,Sem.run_bind,df aC,Result.andThen_ok,asInt,asIntOf,Sem.run_pure,E0 i1,hw,adz,lz,uK,decide_false,Bool.or_false,Bool.false_or,Bool.false_eq_true,if_false,run_askRoom,Int.toNat_natCast,rG i1,i2];by_cases rR:k*e.size=0
    ·have adA:cs=#[]:=Array.eq_empty_of_size_eq_zero (by grind);rw[adA];have adB:(Array.map (λ_:Nat=>(default:Value)) (Array.range 0))=#[]:=by simp
     simp[rR,newRow];rw[adB]
    ·simp[rR,qB i1 i4,newRow,cs]
   have h3:=V.BY (b:=b) (g:=(s.ad b).gen+1) (zs:=List.replicate k e.cN) (k:=⟨w.heap.size,0,k,false⟩) (w':=w.alloc (.cells cs jw)) (Nat.lt_succ_self _) (.inr rfl) (by simp) (λr V=>oN w _ V) (λ_=>by simp) ⟨rfl,rfl,rfl⟩
    (λH κ'=>⟨λh=>(by cases h),λ_=>⟨cs,jw,pP w _,by grind,by simp,by grind,(iX.BW (pre:=[]) (post:=[]) (by simp)).later (cG.alloc V.cL _)⟩⟩)
   refine gY (by grind) cH ⟨_,F,ba.set (s:=s.b' b _) h3 a6 ⟨⟨by simp[ay.b'],rfl⟩,λ_ _=>by simp[ay.b',bm.slice,bB.len]⟩⟩
  ·cases h
 ·cases h
theorem fT.take{P:Program}{e:ae}{F:Nat->Prop}{w:World}{all:List Value}{xs:List e.ah}(h:fT P e F w all xs){n:Nat}(aA:n<=xs.length):fT P e F w (all.take (n*e.size)) (xs.take n):=by
 have hle:n*e.size<=xs.length*e.size:=Nat.mul_le_mul_right _ aA;refine⟨by simp only[List.length_take,h.1];simp,λi G=>?_⟩;have dp:i<n:=by grind
 have adC:(i+1)*e.size<=n*e.size:=Nat.mul_le_mul_right _ (by omega);rw[Nat.add_mul]at adC;have:((all.take (n*e.size)).drop (i*e.size)).take e.size=(all.drop (i*e.size)).take e.size:=by
  rw[List.drop_take,List.take_take,Nat.min_eq_left (by omega)]
 rw[this];simpa using h.2 i (by omega)
theorem RI{P:Program}{w:World}{e:ae}{q:Option Addr}{n cap:Nat}{xs:List e.ah}{F:Nat->Prop}(aA:n<=xs.length)(h:(q=none/\xs=[]/\cap=0)\/∃ p all,q=some p/\fT P e F w all xs/\kf w p all) :
  ∃ all,(Builtin.firstCells e.size n (.slice q xs.length cap)).run P w=.ok all.toArray w/\fT P e F w all (xs.take n):=by
 rcases h with⟨rfl,rfl,rfl⟩ | ⟨p,all,rfl,bT,a2⟩
 ·exact⟨[],by rfl,by simp[fT]⟩
 ·have hle:n*e.size<=xs.length*e.size:=Nat.mul_le_mul_right _ aA;refine⟨all.take (n*e.size),?_,bT.take aA⟩;simp only[Builtin.firstCells];have ai:(all.take (n*e.size)).length=n*e.size:=by simp only[List.length_take,bT.1];omega
  have V:kf w p (all.take (n*e.size)):=⟨λh0=>a2.1 (by grind),λj aC=>by
   have fz:j<all.length:=by grind
   rw[List.getElem_take];exact a2.2 j fz⟩
  have:=E2 (P:=P) V;grind
theorem lg.fL{P:Program}{e:ae}{F:Nat->Prop}{w w':World}{cs cO:Array Value}{off lo:Nat}{xs zs:List e.ah}{dX:List Value}(h:lg P e F w cs off xs)(he:cG F w w')(aA:fT P e F w dX zs)(ai:lo+zs.length<=xs.length)
  (oR:off+xs.length*e.size<=cs.size) (hc:cO.toList=cs.toList.take (off+lo*e.size)++(dX++cs.toList.drop (off+lo*e.size+dX.length))):lg P e F w' cO off (Go.Fer.fL xs lo zs):=by
 have hlen:(Go.Fer.fL xs lo zs).length=xs.length:=by simp[Go.Fer.fL];omega
 have adD:(lo+zs.length)*e.size<=xs.length*e.size:=Nat.mul_le_mul_right _ ai;rw[Nat.add_mul]at adD;have oW:=aA.1;have gm:(cs.toList.take (off+lo*e.size)).length=off+lo*e.size:=by grind
 intro i G;rw[hlen]at G;have adE:i<lo\/(lo<=i/\i<lo+zs.length)\/lo+zs.length<=i:=by omega
 rcases adE with h1 | ⟨h1,h2⟩ | h1
 ·obtain⟨a8,d1,d2⟩:=h i G;have Rr:=ht e d2;have e1:(Go.Fer.fL xs lo zs)[i]'(by omega)=xs[i]:=by
   simp only[Go.Fer.fL,List.append_assoc];grind
  rw[e1];refine⟨a8,λj aC=>?_,eP e (λ_ h=>h) he d2⟩;have hle:(i+1)*e.size<=lo*e.size:=Nat.mul_le_mul_right _ (by omega);rw[Nat.add_mul]at hle;rw[<-Array.getElem?_toList,hc,List.getElem?_append_left (by omega),List.getElem?_take,if_pos (by omega),Array.getElem?_toList];grind
 ·have B1:=aA.BW (pre:=cs.toList.take (off+lo*e.size)) (post:=cs.toList.drop (off+lo*e.size+dX.length)) hc;obtain⟨a8,d1,d2⟩:=B1 (i - lo) (by omega);have e1:(Go.Fer.fL xs lo zs)[i]'(by omega)=zs[i - lo]'(by omega):=by
   simp only[Go.Fer.fL,List.append_assoc];grind
  rw[e1];refine⟨a8,λj aC=>?_,eP e (λ_ h=>h) he d2⟩;have:=d1 j aC;rw[gm]at this;rw[<-this];congr 1;have:i*e.size=lo*e.size+(i - lo)*e.size:=by rw[<-Nat.add_mul];grind
  omega
 ·obtain⟨a8,d1,d2⟩:=h i G;have Rr:=ht e d2;have e1:(Go.Fer.fL xs lo zs)[i]'(by omega)=xs[i]:=by
   simp only[Go.Fer.fL,List.append_assoc];have fS:(xs.take lo).length=lo:=by grind
   rw[List.getElem_append_right (by omega),List.getElem_append_right (by omega)];grind
  rw[e1];refine⟨a8,λj aC=>?_,eP e (λ_ h=>h) he d2⟩;have Fj:(lo+zs.length)*e.size<=i*e.size:=Nat.mul_le_mul_right _ h1;rw[Nat.add_mul]at Fj;rw[<-Array.getElem?_toList,hc,List.getElem?_append_right (by omega),List.getElem?_append_right (by omega),List.getElem?_drop,gm];grind
theorem fT.one{P:Program}{e:ae}{F:Nat->Prop}{w:World}{dX:List Value}{ys:List e.ah}(h:fT P e F w dX ys)(kT:0<e.size):∀ v∈dX,v.oneCell'=true:=by
 intro v hv;obtain⟨j,aC,rfl⟩:=List.mem_iff_getElem.1 hv;have hdiv:j / e.size<ys.length:=(Nat.div_lt_iff_lt_mul kT).2 (by rw[<-h.1];exact aC);have ns:=h.2 (j / e.size) hdiv;have ie:=yI (P:=P) (H:=λ_=>⟨0,.fb⟩) (κ:=λ_=>⟨0,0,0,true⟩) e ns;have y4:=Nat.mod_lt j kT;have ada:j / e.size*e.size+j % e.size=j:=Nat.div_add_mod' j e.size;have B0:((dX.drop (j / e.size*e.size)).take e.size).length=e.size:=ht e ns;have:=(ie.ku (j % e.size) (by rw[ie.len,B0];omega)).2;grind
theorem adF(hT:dw C.P T){args:Array Operand}{cU:Array TypeId}(a6:∀ i,o.dst=some i->i<C.nt)(ag:o.op=.call { callee:=.builtin .copy,args:=args,argTypes:=cU })(h:(bf C.aL T a1 (aT C.aL s.aw) o).run s.ad=some res):cm C o s res:=by
 obtain⟨args⟩:=args;obtain⟨cU⟩:=cU;have au:∀ c,o.op≠.defer c:=by grind
 simp only[bf,ag,mq,EZ]at h;split at h
 ·rename_i x y t u;split at h
  ·rename_i e e2 aH hu;have cV:=hT.bS aH (by simp);obtain⟨jw,aC,iK,n3⟩:=cV.sl;obtain⟨inf,z,i1,i2,i3,i4,i5,i6⟩:=kc iK.ka;have kT:0<e.size:=Nat.pos_of_ne_zero n3;split at h
   ·rename_i b g lo G B6;simp only[aq.eG,Option.bind_eq_some_iff,aq.eF,aq.bx]at h;obtain⟨⟨ys,l⟩,jV,h⟩:=h;split at h
    ·rename_i az;split at h
     ·rename_i aS xs ab;split at h
      ·rename_i qI;subst qI;simp only[Option.some.injEq]at h;subst h;intro a w κ F Q V aY _;obtain⟨q',cap',td,nw⟩:=rN V jV (ct V y rfl aY.2);have hx:bk C.P s.ad κ F w (use (aT C.aL s.aw x)).2 (a.eval x):=ct V x rfl aY.1;have aN:=V.bn b;unfold cg at aN;rw[ab]at aN;have place:lo<=G.getD xs.length/\G.getD xs.length<=xs.length/\(((κ b).eI=true/\∃ cap,a.eval x=.slice none 0 cap)\/((κ b).eI=false/\∃ l1 cap,a.eval x=.slice (some ⟨(κ b).ad,l1,none⟩) (G.getD xs.length - lo) cap/\(lo<G.getD xs.length->l1=(κ b).off+lo*aS.size))):=by
        split at B6
        ·rename_i aZ g' eK;simp only[Option.some.injEq,Prod.mk.injEq]at B6;obtain⟨rfl,rfl,rfl,rfl⟩:=B6;rw[eK]at hx;have hv:=hx.2 az.symm (by rw[ab];rfl);rw[ab]at hv;simp only[bB.len]at hv;refine⟨Nat.zero_le _,Nat.le_refl _,?_⟩;cases aA:(κ aZ).eI with
         | true=>exact .inl ⟨rfl,0,by simpa [bm.slice,aA]using hv⟩
         | false=>exact .inr ⟨rfl,(κ aZ).off,(κ aZ).cap,by simpa [bm.slice,aA]using hv,λ_=>by simp⟩
        ·rename_i aZ g' awC dp eK;simp only[Option.some.injEq,Prod.mk.injEq]at B6;obtain⟨rfl,rfl,rfl,rfl⟩:=B6;rw[eK]at hx;obtain⟨⟨aO,aP⟩,bA⟩:=hx.2 az.symm (by rw[ab];rfl);rw[ab]at aP bA;simp only[bB.len,bB.eE]at aP bA;refine⟨aO,aP,?_⟩;rcases bA with⟨aA,hv⟩ | ⟨aA,l1,hv,o1,f'⟩
         ·grind
         ·obtain⟨cs,hB,c1,c2,c3,c4,c5⟩:=aN.2 aA;grind
        grind
       obtain⟨ju,pV,l0⟩:=place;have RJ:∀ m:Nat,m<=ys.length->m<=xs.length->fy .i64 (m:Int):=by
        intro m _ an;have:=yV V (b:=b) (by rw[ab];rfl);rw[ab]at this;simp only[bB.len]at this;exact BL (by omega)
       generalize RL:G.getD xs.length=cz at *
       have Rl:Nat.min ys.length (cz - lo)=min (cz - lo) ys.length:=Nat.min_comm _ _;have adG:(ys.take (cz - lo)).length=min (cz - lo) ys.length:=by simp
       have y9:(fL xs lo (ys.take (cz - lo))).length=xs.length:=by simp[fL];omega
       have fS:eZ s.ad κ (λi=>if i=b then (⟨(s.ad b).gen,.a7 aS (fL xs lo (ys.take (cz - lo)))⟩:bu) else s.ad i) κ:=
        qx rfl (λh=>by cases h) (λ_=>by rw[ab];exact⟨rfl,y9,rfl⟩) (λh=>by cases h) (λh=>by cases h)
       have mu:∀ (w':World) v,(Builtin.copy_ #[t,u] o.type #[a.eval x,a.eval y]).run C.P w=.ok v w'->(execOp a.eval o).run C.P w=.ok (.value v) w':=by
        intro w' v hv;refine wK ag ?_;simp[builtin,hv]
       rcases l0 with⟨aA,cap,rO⟩ | ⟨aA,l1,cap,rO,adH⟩
       ·have hA:=aN.1 aA;subst hA;have adI:cz=0:=by grind
        subst adI;have Ki:lo=0:=by omega
        subst Ki;obtain⟨dX,dG,dJ⟩:=RI (P:=C.P) (w:=w) (n:=0) (Nat.zero_le _) nw;have cH:(Builtin.copy_ #[t,u] o.type #[a.eval x,a.eval y]).run C.P w=.ok (.int .i64 ((0:Nat):Int)) w:=by
         simp only[Builtin.copy_,List.getElem?_toArray,List.getElem?_cons_zero,List.getElem?_cons_succ,Sem.run_bind,df aC,Result.andThen_ok,rO,td,Builtin.lenOf,Sem.run_pure,rG i1,i2,Nat.min_zero];rw[dG];rfl
        refine gY au (mu w _ cH) ⟨κ,F,ba.set (s:=s.b' b _) ?_ a6 (gy.2 ⟨by simp,RJ _ (by simp) (by simp)⟩)⟩;have e0:fL ([]:List aS.ah) 0 (ys.take (0 - 0))=[]:=by rfl
        have es:s.b' b ⟨(s.ad b).gen,.a7 aS (fL ([]:List aS.ah) 0 (ys.take (0 - 0)))⟩=s:=by
         rw[e0];unfold ay.b';have:(λi=>if i=b then (⟨(s.ad b).gen,.a7 aS []⟩:bu) else s.ad i)=s.ad:=by
          funext i;by_cases G:i=b
          ·subst G;simp only[if_true];rw[<-ab]
          grind
         rw[this]
        grind
       ·obtain⟨cs,hB,c1,c2,c3,c4,c5⟩:=aN.2 aA;have BP:min (cz - lo) ys.length<=ys.length:=Nat.min_le_right _ _;obtain⟨dX,dG,dJ⟩:=RI (P:=C.P) (w:=w) BP nw;have kx:ys.take (min (cz - lo) ys.length)=ys.take (cz - lo):=by
         simp
        rw[kx]at dJ;have oW:=dJ.1;rw[adG]at oW;have nu:=dJ.one kT;have RM:xs.length*aS.size<=(κ b).cap*aS.size:=Nat.mul_le_mul_right _ c3;have B7:(lo+min (cz - lo) ys.length)*aS.size<=xs.length*aS.size:=Nat.mul_le_mul_right _ (by omega);rw[Nat.add_mul]at B7;obtain⟨w',cO,bX,cn,dS,lr,ls,lY⟩:∃ w' cO,(storeCells ⟨(κ b).ad,l1,none⟩ dX).run C.P w=.ok () w'/\w'.heap[(κ b).ad]?=some (.cells cO hB (0,0))/\cO.toList=cs.toList.take ((κ b).off+lo*aS.size)++(dX++cs.toList.drop ((κ b).off+lo*aS.size+dX.length))/\
          (∀ r,r≠(κ b).ad->w'.heap[r]?=w.heap[r]?)/\w'.heap.size=w.heap.size/\cM w w':=by
         by_cases bZ:lo<cz
         ·rw[adH bZ];obtain⟨w',cO,bX,cn,dS,lr,ls,lY⟩:=uM (P:=C.P) dX ((κ b).off+lo*aS.size) 0 w cs c1 (by omega) nu;grind
         ·have h0:min (cz - lo) ys.length=0:=by omega
          rw[h0,Nat.zero_mul]at oW;have:dX=[]:=List.eq_nil_of_length_eq_zero oW;subst this;exact⟨w,cs,by rfl,c1,by simp,λ_ _=>rfl,rfl,cM.refl w⟩
        have cH:(Builtin.copy_ #[t,u] o.type #[a.eval x,a.eval y]).run C.P w=.ok (.int .i64 ((min (cz - lo) ys.length:Nat):Int)) w':=by
         simp only[Builtin.copy_,List.getElem?_toArray,List.getElem?_cons_zero,List.getElem?_cons_succ,Sem.run_bind,df aC,Result.andThen_ok,rO,td,Builtin.lenOf,Sem.run_pure,rG i1,i2];rw[Rl,dG];simp only[Result.andThen_ok,bX];rfl
        refine gY au (mu w' _ cH) ⟨κ,F,ba.set (s:=s.b' b _) ?_ a6 (gy.2 ⟨rfl,RJ _ (by omega) (by omega)⟩)⟩;refine V.oO (b:=b) (by rw[ab];simp[bB.bL,aA]) (by simp[bB.bL,aA]) fS (λh=>by cases h) (λh=>by cases h) lr ls lY λH mw bZ he=>?_;refine⟨λh=>(by grind),λ_=>⟨cO,hB,cn,?_,by omega,c4,?_⟩⟩
        ·have:cO.size=cs.size:=by
          rw[<-Array.length_toList,dS];simp only[List.length_append,List.length_take,List.length_drop,Array.length_toList];omega
         omega
        ·exact c5.fL he dJ (by omega) (by omega) dS
      grind
     grind
    grind
   ·cases h
  ·cases h
 ·cases h
theorem RN(ag:(bf C.aL T a1 (aT C.aL s.aw) o).run s.ad=some ⟨True,False,.undef,[]⟩)(h:(bf C.aL T a1 (aT C.aL s.aw) o).run s.ad=some res):cm C o s res:=by
 rw[ag]at h;cases h;intro a w κ F Q _ _ hc;grind
end
end Go.Fer
namespace Go.Fer
open Go.RowKit
section
variable {C:bQ} {T:Nat->ae} {a1:Nat->Option aJ} {o:Oper} {s:ay} {res:dY}
theorem adJ{P:Program}{w:World}{len cap:Nat}{lo:Option Value}{l:Option Int}{k k':IntKind}{h m:Int}(ai:(lo=none/\l=none)\/∃ k m,lo=some (.int k m)/\l=some m)
  (h1:0<=cX l) (h2:cX l<=h) (h3:h<=m) (aR:m<=(cap:Int)):(Instr.sliceBounds true len cap lo (some (.int k h)) (some (.int k' m))).run P w=.ok ((cX l).toNat,h.toNat,m.toNat) w:=by
 rcases ai with⟨rfl,rfl⟩ | ⟨k,n,rfl,rfl⟩<;>simp only[cX]at h1 h2 ⊢
 ·have e1:0<=m/\m<=(cap:Int):=by omega
  have e2:0<=h/\h<=m:=by omega
  have e3:max m 0=m:=by omega
  simp[Instr.sliceBounds,Instr.sliceBound,asIntOf,e1,e2,e3]
 ·have e1:0<=m/\m<=(cap:Int):=by omega
  have e2:0<=h/\h<=m:=by omega
  have e3:max m 0=m:=by omega
  have e4:0<=n/\n<=h:=by omega
  have dB:max h 0=h:=by omega
  simp[Instr.sliceBounds,Instr.sliceBound,asIntOf,e1,e2,e3,e4,dB]
theorem adK(hT:dw C.P T){ty:TypeId}{x:Operand}{lo G:Option Operand}{oP:Operand}(a6:∀ i,o.dst=some i->i<C.nt)(ag:o.op=.slice ty x lo G (some oP))(h:(bf C.aL T a1 (aT C.aL s.aw) o).run s.ad=some res):cm C o s res:=by
 simp only[bf,ag,Option.isSome_some,if_true,EW]at h;split at h
 ·rename_i ol l qz cz uH m rL J0 adL;have au:∀ c,o.op≠.defer c:=by grind
  split at h
  ·rename_i e0 aH;have cV:=hT.bS aH (by simp);obtain⟨j,aC,iK,n3⟩:=cV.sl;simp only[aq.eG,Option.bind_eq_some_iff]at h;obtain⟨⟨c,v⟩,fA,h⟩:=h;simp only[bz,aq.bx,Option.some.injEq]at h;subst h;have runs:∀ (a:Act) (w:World) κ F,ba C s a w κ F->ol->qz->uH->∀ (q:Option Addr) (n cap:Nat),a.eval x=.slice q n cap->0<=cX l->cX l<=cz->cz<=m->m<=(cap:Int)->
     (execOp a.eval o).run C.P w=.ok (.value (.slice (if m.toNat=(cX l).toNat then q else q.map (·.add ((cX l).toNat*e0.size))) (cz.toNat - (cX l).toNat) (m.toNat - (cX l).toNat))) w:=by
    intro a w κ F V BU BV adM q n cap hv c1 c2 c3 c4;have dd:(lo.map a.eval=none/\l=none)\/∃ k m,lo.map a.eval=some (.int k m)/\l=some m:=by
     rcases BT V rL BU with⟨rfl,rfl⟩ | ⟨y,k,m,rfl,rfl,e⟩
     ·exact .inl ⟨rfl,rfl⟩
     ·exact .inr ⟨k,m,by simp[e],rfl⟩
    obtain⟨awD,aP,m2,rfl,e2,e3⟩:∃ y k n,G=some y/\cz=n/\a.eval y=.int k n:=by
     rcases BT V J0 BV with⟨_,h⟩ | ⟨y,k,m,rfl,h,e⟩
     ·cases h
     ·exact⟨y,k,m,rfl,Option.some.inj h,e⟩
    obtain⟨bA,e4⟩:∃ k,a.eval oP=.int k m:=by
     rcases BT V adL adM with⟨h,_⟩ | ⟨y,k,m,h1,h2,e⟩
     ·cases h
     ·cases h1;cases h2;exact⟨k,e⟩
    subst e2;have:=adJ (P:=C.P) (w:=w) (len:=n) (k:=aP) (k':=bA) dd c1 c2 c3 c4;simp[execOp,ag,hv,Instr.sliceAt,Instr.slice,df aC,e3,e4,this,iK.size]
   unfold QV at fA;split at fA
   ·rename_i e xs eK;simp only[aq.bx]at fA;split at fA
    ·rename_i he;subst he;simp only[Option.some.injEq,Prod.mk.injEq]at fA;obtain⟨rfl,rfl⟩:=fA;refine cm.pure au a6 λa w κ F V aY hc=>?_;have hx:bk C.P s.ad κ F w (use (aT C.aL s.aw x)).2 (a.eval x):=ct V x rfl aY.1;rw[eK]at hx;obtain⟨_,a',cap,e1,m1,m2,m3,m4⟩:=(dx rfl).1 hx;have e1:=(List.cons.inj e1).1;simp only[fe]at hc;obtain⟨c1,c2,c3,c4⟩:=hc;subst c3;have hlen:((xs.take cz.toNat).drop (cX l).toNat).length=cz.toNat - (cX l).toNat:=by
      grind
     have awE:(xs.length:Int)<=cap:=by omega
     refine⟨_,runs a w κ F V aY.2.1 aY.2.2.1 aY.2.2.2 a' xs.length cap e1 c1 c2 (Int.le_refl _) (by omega),(dx rfl).2 ⟨rfl,?_⟩,_,by rw[hlen]⟩;refine⟨_,_,by rw[hlen],by omega,by omega,?_,λp hp uE=>?_⟩
     ·intro aA;split at aA
      ·omega
      ·cases a' with
       | none=>grind
       | some q=>cases aA
     ·cases a' with
      | none=>grind
      | some q=>
       obtain⟨dG,dJ,jt⟩:=m4 q rfl (by omega);have be:p=⟨q.block,q.off+(cX l).toNat*e.size,none⟩:=by
        split at hp
        ·omega
        ·simp only[Option.map_some,Option.some.injEq]at hp;rw[BS dJ]at hp;grind
       subst be;refine⟨dG,rfl,λi G=>?_⟩;rw[hlen]at G;obtain⟨a8,d1,d2⟩:=jt ((cX l).toNat+i) (by omega);grind
    grind
   ·rename_i eK;simp only[aq.bx,Option.some.injEq,Prod.mk.injEq]at fA;obtain⟨rfl,rfl⟩:=fA;refine cm.pure au a6 λa w κ F V aY hc=>?_;have hx:bk C.P s.ad κ F w (use (aT C.aL s.aw x)).2 (a.eval x):=ct V x rfl aY.1;rw[eK]at hx;simp only[bk]at hx;simp only[fe]at hc;obtain⟨c1,c2,c3⟩:=hc;have cH:=runs a w κ F V aY.2.1 aY.2.2.1 aY.2.2.2 none 0 0 hx (by omega) (by omega) (by omega) (by omega);have h0:cz.toNat=0:=by omega
    have h1:m.toNat=0:=by omega
    have h2:(cX l).toNat=0:=by omega
    rw[h0,h1,h2]at cH;simp only[if_true,Nat.sub_zero]at cH;exact⟨_,cH,(dx rfl).2 ⟨rfl,none,0,rfl,Nat.le_refl _,by decide,λ_=>rfl,λp hp=>by simp⟩,none,rfl⟩
   ·rename_i b g eK;simp only[aq.eF,aq.bx]at fA;split at fA
    ·rename_i a_;simp only[Bool.and_eq_true,decide_eq_true_eq]at a_;obtain⟨az,eL⟩:=a_;simp only[Option.some.injEq,Prod.mk.injEq]at fA;obtain⟨rfl,rfl⟩:=fA;refine cm.pure au a6 λa w κ F V aY hc=>?_;have hx:bk C.P s.ad κ F w (use (aT C.aL s.aw x)).2 (a.eval x):=ct V x rfl aY.1;rw[eK]at hx;have hv:=hx.2 az.symm eL;obtain⟨dG,dJ⟩:=yV V eL;simp only[fe]at hc;obtain⟨c1,c2,c3,c4⟩:=hc;cases aA:(κ b).eI with
     | true=>
      have h0:=dG aA;simp only[bm.slice,aA,if_true]at hv;exact⟨_,runs a w κ F V aY.2.1 aY.2.2.1 aY.2.2.2 none 0 0 hv c1 c2 c3 (by omega),trivial⟩
     | false=>
      have wN:=JN V eL aA;simp only[bm.slice,aA,Bool.false_eq_true,if_false]at hv;exact⟨_,runs a w κ F V aY.2.1 aY.2.2.1 aY.2.2.2 _ _ _ hv c1 c2 c3 (by omega),trivial⟩
    grind
   ·cases fA
  ·cases h
 ·cases h
theorem adN{b:Nat}{e:ae}(ab:(s.ad b).body=.a7 e []):s.b' b ⟨(s.ad b).gen,.a7 e []⟩=s:=by
 unfold ay.b';have:(λi=>if i=b then (⟨(s.ad b).gen,.a7 e []⟩:bu) else s.ad i)=s.ad:=by
  funext i;by_cases G:i=b
  ·subst G;simp only[if_true];rw[<-ab]
  grind
 rw[this]
theorem adO(hT:dw C.P T){args:Array Operand}{cU:Array TypeId}(a6:∀ i,o.dst=some i->i<C.nt)(ag:o.op=.call { callee:=.builtin .append,args:=args,argTypes:=cU }){b g lo G:Nat}(hs:wD (aT C.aL s.aw) args.toList=some (b,g,lo,G))
  (h:(BE T (aT C.aL s.aw) args.toList cU.toList b g lo G).run s.ad=some res):cm C o s res:=by
 obtain⟨args⟩:=args;obtain⟨cU⟩:=cU;have au:∀ c,o.op≠.defer c:=by grind
 simp only[BE]at h;split at h
 ·rename_i x y t u;have eK:(use (aT C.aL s.aw x)).2=.sub b g lo G:=by
   simp only[wD]at hs;grind
  split at h
  ·rename_i e e2 aH hu;have cV:=hT.bS aH (by simp);have uN:=hT.bS hu (by simp);obtain⟨jw,aC,iK,n3⟩:=cV.sl;obtain⟨ac9,fz,_⟩:=uN.sl;obtain⟨inf,z,i1,i2,i3,i4,i5,i6⟩:=kc iK.ka;have kT:0<e.size:=Nat.pos_of_ne_zero n3;simp only[aq.eG,Option.bind_eq_some_iff,aq.eF,aq.bx]at h;obtain⟨⟨ys,l⟩,jV,h⟩:=h;split at h
   ·rename_i az;split at h
    ·rename_i aS xs ab;split at h
     ·rename_i qI;subst qI;simp only[Option.some.injEq]at h;subst h;intro a w κ F Q V aY hc;change G+ys.length<=xs.length at hc;obtain⟨q',cap',td,nw⟩:=rN V jV (ct V y rfl aY.2);have hx:bk C.P s.ad κ F w (use (aT C.aL s.aw x)).2 (a.eval x):=ct V x rfl aY.1;rw[eK]at hx;have aN:=V.bn b;unfold cg at aN;rw[ab]at aN;obtain⟨⟨aO,aP⟩,bA⟩:=hx.2 az.symm (by rw[ab];rfl);rw[ab]at aP bA;simp only[bB.len,bB.eE]at aP bA;have mu:∀ (w':World) v,(Builtin.append_ #[t,u] o.type #[a.eval x,a.eval y]).run C.P w=.ok v w'->(execOp a.eval o).run C.P w=.ok (.value v) w':=by
       intro w' v hv;refine wK ag ?_;simp[builtin,hv]
      have y9:(fL xs G ys).length=xs.length:=by simp[fL];omega
      have fS:eZ s.ad κ (λi=>if i=b then (⟨(s.ad b).gen,.a7 aS (fL xs G ys)⟩:bu) else s.ad i) κ:=
       qx rfl (λh=>by cases h) (λ_=>by rw[ab];exact⟨rfl,y9,rfl⟩) (λh=>by cases h) (λh=>by cases h)
      rcases bA with⟨aA,hv⟩ | ⟨aA,l1,hv,o1,f'⟩
      ·have hA:=aN.1 aA;subst hA;have n6:G=0:=by grind
       subst n6;have Ki:lo=0:=by omega
       subst Ki;have J7:ys=[]:=by grind
       subst J7;obtain⟨dX,dG,dJ⟩:=y1 (P:=C.P) (w:=w) (cap:=cap') rfl nw;have cH:(Builtin.append_ #[t,u] o.type #[a.eval x,a.eval y]).run C.P w=.ok (.slice none 0 0) w:=by
        rw[hv,td];simp only[List.length_nil]at dG ⊢;simp[Builtin.append_,df aC,df fz,rG i1,Builtin.lenOf];simp_all
       have e0:fL ([]:List aS.ah) 0 []=[]:=by rfl
       refine gY au (mu w _ cH) ⟨κ,F,ba.set (s:=s.b' b _) ?_ a6 ⟨⟨by simp[ay.b',az],rfl⟩,λ_ _=>⟨by simp,.inl ⟨aA,rfl⟩⟩⟩⟩;rw[e0,adN ab];exact V
      ·obtain⟨cs,hB,c1,c2,c3,c4,c5⟩:=aN.2 aA;obtain⟨dX,dG,dJ⟩:=y1 (P:=C.P) (w:=w) (cap:=cap') rfl nw;have oW:=dJ.1;have nu:=dJ.one kT;have RM:xs.length*aS.size<=(κ b).cap*aS.size:=Nat.mul_le_mul_right _ c3;have B7:(G+ys.length)*aS.size<=xs.length*aS.size:=Nat.mul_le_mul_right _ hc;rw[Nat.add_mul]at B7;obtain⟨w',cO,bX,cn,dS,lr,ls,lY⟩:∃ w' cO,(storeCells ⟨(κ b).ad,l1+(G - lo)*aS.size,none⟩ dX).run C.P w=.ok () w'/\w'.heap[(κ b).ad]?=some (.cells cO hB (0,0))/\cO.toList=cs.toList.take ((κ b).off+G*aS.size)++(dX++cs.toList.drop ((κ b).off+G*aS.size+dX.length))/\
         (∀ r,r≠(κ b).ad->w'.heap[r]?=w.heap[r]?)/\w'.heap.size=w.heap.size/\cM w w':=by
        by_cases bZ:lo<(κ b).cap
        ·have y_:l1+(G - lo)*aS.size=(κ b).off+G*aS.size:=by
          rw[f' bZ,Nat.add_assoc,<-Nat.add_mul];grind
         rw[y_];obtain⟨w',cO,bX,cn,dS,lr,ls,lY⟩:=uM (P:=C.P) dX ((κ b).off+G*aS.size) 0 w cs c1 (by omega) nu;grind
        ·have h0:ys.length=0:=by omega
         rw[h0,Nat.zero_mul]at oW;have:dX=[]:=List.eq_nil_of_length_eq_zero oW;subst this;exact⟨w,cs,by rfl,c1,by simp,λ_ _=>rfl,rfl,cM.refl w⟩
       have wO:G - lo+ys.length<=(κ b).cap - lo:=by omega
       have cH:(Builtin.append_ #[t,u] o.type #[a.eval x,a.eval y]).run C.P w=.ok (.slice (some ⟨(κ b).ad,l1,none⟩) (G - lo+ys.length) ((κ b).cap - lo)) w':=by
        rw[hv,td];simp only[Builtin.append_,List.getElem?_toArray,List.getElem?_cons_zero,List.getElem?_cons_succ,Sem.run_bind,df aC,df fz,Result.andThen_ok,rG i1,i2,Sem.run_pure,Builtin.lenOf,Bool.false_eq_true,if_false,if_pos wO,Bool.not_false,if_true,dG,uJ];simp_all
       refine gY au (mu w' _ cH) ⟨κ,F,ba.set (s:=s.b' b _) ?_ a6 ⟨⟨by simp[ay.b',az],rfl⟩,λ_ _=>⟨by simp only[ay.b',if_true,bB.len,y9];omega,.inr ⟨aA,l1,?_,?_,?_⟩⟩⟩⟩
       ·refine V.oO (b:=b) (by rw[ab];simp[bB.bL,aA]) (by simp[bB.bL,aA]) fS (λh=>by cases h) (λh=>by cases h) lr ls lY λH mw bZ he=>?_;refine⟨λh=>(by grind),λ_=>⟨cO,hB,cn,?_,by omega,c4,?_⟩⟩
        ·have:cO.size=cs.size:=by
          rw[<-Array.length_toList,dS];grind
         omega
        ·exact c5.fL he dJ hc (by omega) dS
       ·grind
       ·simp only[ay.b',if_true,bB.eE];exact o1
       ·simp only[ay.b',if_true,bB.eE];exact f'
     grind
    grind
   grind
  ·cases h
 ·cases h
theorem adP(hT:dw C.P T){args:Array Operand}{cU:Array TypeId}(a6:∀ i,o.dst=some i->i<C.nt)(ag:o.op=.call { callee:=.builtin .clear,args:=args,argTypes:=cU })
  (h:(BF T (aT C.aL s.aw) args.toList cU.toList).run s.ad=some res):cm C o s res:=by
 obtain⟨args⟩:=args;obtain⟨cU⟩:=cU;have au:∀ c,o.op≠.defer c:=by grind
 simp only[BF]at h;split at h
 ·rename_i x t;split at h
  ·rename_i e aH;have cV:=hT.bS aH (by simp);obtain⟨jw,aC,iK,n3⟩:=cV.sl;obtain⟨inf,z,i1,i2,i3,i4,i5,i6⟩:=kc iK.ka;have kT:0<e.size:=Nat.pos_of_ne_zero n3;split at h
   ·rename_i b g lo G eK;simp only[aq.eF,aq.bx]at h;split at h
    ·rename_i az;split at h
     ·rename_i aS xs ab;split at h
      ·rename_i qI;subst qI;simp only[Option.some.injEq]at h;subst h;intro a w κ F Q V aY _;have hx:bk C.P s.ad κ F w (use (aT C.aL s.aw x)).2 (a.eval x):=ct V x rfl aY;rw[eK]at hx;have aN:=V.bn b;unfold cg at aN;rw[ab]at aN;obtain⟨⟨aO,aP⟩,bA⟩:=hx.2 az.symm (by rw[ab];rfl);rw[ab]at aP bA;simp only[bB.len,bB.eE]at aP bA;have mu:∀ (w':World) v,(Builtin.clear_ #[t] o.type #[a.eval x]).run C.P w=.ok v w'->(execOp a.eval o).run C.P w=.ok (.value v) w':=by
        intro w' v hv;refine wK ag ?_;simp[builtin,hv]
       have tp:(List.replicate (G - lo) aS.cN).length=G - lo:=by simp
       have y9:(fL xs lo (List.replicate (G - lo) aS.cN)).length=xs.length:=by simp[fL];omega
       have fS:eZ s.ad κ (λi=>if i=b then (⟨(s.ad b).gen,.a7 aS (fL xs lo (List.replicate (G - lo) aS.cN))⟩:bu) else s.ad i) κ:=
        qx rfl (λh=>by cases h) (λ_=>by rw[ab];exact⟨rfl,y9,rfl⟩) (λh=>by cases h) (λh=>by cases h)
       have nothing:G - lo=0->fL xs lo (List.replicate (G - lo) aS.cN)=xs:=λh0=>by rw[h0];simp[fL]
       have hh:G - lo=0->s.b' b ⟨(s.ad b).gen,.a7 aS (fL xs lo (List.replicate (G - lo) aS.cN))⟩=s:=λh0=>by
        rw[nothing h0];unfold ay.b';have:(λi=>if i=b then (⟨(s.ad b).gen,.a7 aS xs⟩:bu) else s.ad i)=s.ad:=by
         funext i;by_cases G:i=b
         ·subst G;simp only[if_true];rw[<-ab]
         grind
        rw[this]
       rcases bA with⟨aA,hv⟩ | ⟨aA,l1,hv,o1,f'⟩
       ·have hA:=aN.1 aA;subst hA;have n6:G - lo=0:=by grind
        have cH:(Builtin.clear_ #[t] o.type #[a.eval x]).run C.P w=.ok (.tuple #[]) w:=by
         rw[hv];simp[Builtin.clear_,df aC]
        refine gY au (mu w _ cH) ⟨κ,F,ba.set (s:=s.b' b _) ?_ a6 trivial⟩;grind
       ·obtain⟨cs,hB,c1,c2,c3,c4,c5⟩:=aN.2 aA;by_cases h0:G - lo=0
        ·have cH:(Builtin.clear_ #[t] o.type #[a.eval x]).run C.P w=.ok (.tuple #[]) w:=by
          rw[hv,h0];simp[Builtin.clear_,df aC]
         refine gY au (mu w _ cH) ⟨κ,F,ba.set (s:=s.b' b _) ?_ a6 trivial⟩;grind
        ·obtain⟨n,pY⟩:∃ n,G - lo=n+1:=⟨G - lo - 1,by omega⟩
         have iX:fT C.P aS F w ((Array.range ((G - lo)*aS.size)).map (λi=>z.cells[i % z.cells.size]!)).toList (List.replicate (G - lo) aS.cN):=RH i5 _;have tn:z.cells.size=aS.size:=by
          obtain⟨c,ec,n2,z2⟩:=uG (P:=C.P) (H:=λ_=>⟨0,.fb⟩) (κ:=λ_=>⟨0,0,0,true⟩) (F:=F) (w:=w) aS i5;rw[List.append_nil]at ec;rw[<-Array.length_toList,ec];exact ht aS n2
         have oW:=iX.1;rw[tp]at oW;have nu:=iX.one kT;revert iX oW nu;generalize kU:((Array.range ((G - lo)*aS.size)).map (λi=>z.cells[i % z.cells.size]!)).toList=dX;intro iX oW nu;have RM:xs.length*aS.size<=(κ b).cap*aS.size:=Nat.mul_le_mul_right _ c3;have B7:(lo+(G - lo))*aS.size<=xs.length*aS.size:=Nat.mul_le_mul_right _ (by omega);rw[Nat.add_mul]at B7;have y_:l1=(κ b).off+lo*aS.size:=f' (by omega);obtain⟨w',cO,bX,cn,dS,lr,ls,lY⟩:=uM (P:=C.P) dX ((κ b).off+lo*aS.size) 0 w cs c1 (by omega) nu;have cH:(Builtin.clear_ #[t] o.type #[a.eval x]).run C.P w=.ok (.tuple #[]) w':=by
          rw[hv,y_];have a_:(Builtin.zeroCells z.cells (G - lo)).toList=dX:=by rw[<-kU,<-tn];rfl
          simp only[Builtin.clear_,List.getElem?_toArray,List.getElem?_cons_zero,Sem.run_bind,df aC,Result.andThen_ok,qB i1 i4,pY];simp_all
         refine gY au (mu w' _ cH) ⟨κ,F,ba.set (s:=s.b' b _) ?_ a6 trivial⟩;refine V.oO (b:=b) (by rw[ab];simp[bB.bL,aA]) (by simp[bB.bL,aA]) fS (λh=>by cases h) (λh=>by cases h) lr ls lY λH mw bZ he=>?_;refine⟨λh=>(by grind),λ_=>⟨cO,hB,cn,?_,by omega,c4,?_⟩⟩
         ·have:cO.size=cs.size:=by
           rw[<-Array.length_toList,dS];grind
          omega
         ·exact c5.fL he iX (by omega) (by omega) (by omega)
      grind
     grind
    grind
   ·cases h
  ·cases h
 ·cases h
end
end Go.Fer
namespace Go.Fer
open Go.RowKit
section
variable {C:bQ} {T:Nat->ae} {a1:Nat->Option aJ} {o:Oper} {s:ay} {res:dY}
theorem Kj{place:Nat->Option (Nat×Nat)}{size:Nat}(hp:∀ i,place i=some (i*size,size)):∀ (qs:List (Nat×Value)) (cs:Array Value),(∀ q∈qs,q.2.cells.size=size/\q.1*size+size<=cs.size)->(qs.map (·.1)).Nodup->
  ∃ cO,Instr.fill place cs qs=some cO/\cO.size=cs.size/\∀ i,i*size+size<=cs.size->(cO.toList.drop (i*size)).take size=(match qs.find? (λp=>p.1 == i) with | some q=>q.2.cells.toList | none=>(cs.toList.drop (i*size)).take size)
 | [],cs,_,_=>⟨cs,rfl,rfl,λi _=>rfl⟩
 | (k,v)::qs,cs,h,aA=>by
  obtain⟨h1,h2⟩:=h (k,v) (by simp);simp only at h1 h2;have E9:=E7 v.cells.toList 0 (k*size) cs (by grind);have e:(v.cells.zipIdx.foldl (λ(cs:Array Value) (p:Value×Nat)=>cs.setIfInBounds (k*size+p.2) p.1) cs)=((v.cells.toList.zipIdx 0).foldl (λ(cs:Array Value) (p:Value×Nat)=>cs.setIfInBounds (k*size+p.2) p.1) cs):=by
   rw[<-Array.foldl_toList];simp
  generalize awF:(v.cells.zipIdx.foldl (λ(cs:Array Value) (p:Value×Nat)=>cs.setIfInBounds (k*size+p.2) p.1) cs)=Fk at *
  have RO:Fk.toList=cs.toList.take (k*size)++(v.cells.toList++cs.toList.drop (k*size+size)):=by
   grind
  have bU:Fk.size=cs.size:=by
   rw[<-Array.length_toList,RO];grind
  have B8:(qs.map (·.1)).Nodup/\k ∉ qs.map (·.1):=by
   grind
  obtain⟨cO,aO,aP,bA⟩:=Kj hp qs Fk (λq be=>by grind) B8.1;refine⟨cO,?_,by omega,λi G=>?_⟩
  ·simp only[Instr.fill,hp];grind
  ·rw[bA i (by omega)];by_cases mx:k=i
   ·grind
   ·have:((k,v)::qs).find? (λp=>p.1 == i)=qs.find? (λp=>p.1 == i):=by grind
    rw[this];have iX:(Fk.toList.drop (i*size)).take size=(cs.toList.drop (i*size)).take size:=by
     apply List.ext_getElem?;intro j;simp only[List.getElem?_take,List.getElem?_drop];split
     ·rename_i aC;rw[RO];have kx:(List.take (k*size) cs.toList).length=k*size:=by grind
      have wM:v.cells.toList.length=size:=by omega
      rcases Nat.lt_or_ge i k with h3 | h3
      ·have:(i+1)*size<=k*size:=Nat.mul_le_mul_right _ (by omega);grind
      ·have:(k+1)*size<=i*size:=Nat.mul_le_mul_right _ (by omega);rw[Nat.add_mul]at this;rw[List.getElem?_append_right (by omega),kx,List.getElem?_append_right (by omega),List.getElem?_drop];congr 1;omega
     ·rfl
    grind
theorem adQ(hT:dw C.P T){ty n:Nat}{ps:Array (Nat×Operand)}(a6:∀ i,o.dst=some i->i<C.nt)(ag:o.op=.buildSlice ty n ps)(h:(bf C.aL T a1 (aT C.aL s.aw) o).run s.ad=some res):cm C o s res:=by
 obtain⟨ps⟩:=ps;have au:∀ c,o.op≠.defer c:=by grind
 simp only[bf,ag]at h;split at h
 ·rename_i e aH;have cV:=hT.bS aH (by simp);obtain⟨jw,aC,iK,n3⟩:=cV.sl;obtain⟨inf,z,i1,i2,i3,i4,i5,i6⟩:=kc iK.ka;simp only[aq.eG,Option.bind_eq_some_iff,aq.run_bind]at h;obtain⟨⟨xs,fl⟩,hA,h⟩:=h;obtain⟨b,awG,ao⟩:=qD h;split at ao
  ·rename_i Fl;obtain⟨awH,RP⟩:=Fl;simp only[Bool.and_eq_true,Bool.not_eq_true',decide_eq_true_eq]at RP;obtain⟨⟨fB,ti⟩,Kk⟩:=RP;have pU:b ∉ fl:=by grind
   simp only[Option.some.injEq]at ao;subst ao;intro a w κ F Q V aY _;obtain⟨F',f1,aX,f2⟩:=ba.kS (adl n 0 hA) V;obtain⟨adR,Fm,n2,z2⟩:=uG (P:=C.P) (H:=s.ad) (κ:=κ) (F:=F') (w:=w) e i5;rw[List.append_nil]at Fm;have Kl:=JS V ps aY;have jZ:=Ry V.bn f1 n2 (ps:=ig (ps.map λp=>(p.1,aT C.aL s.aw p.2))) (qs:=ps.map λp=>(p.1,a.eval p.2)) (by simp[ig]) Kl n 0 hA f2;have tn:=(BO e (P:=C.P) i5).2;have Km:∀ p∈ps,p.1<n:=by
    intro p hp;have:=List.all_eq_true.1 Kk (p.1,(use (aT C.aL s.aw p.2)).2) (by simp only[ig,List.map_map,List.mem_map];grind);grind
   have Kn:((ps.map λp=>(p.1,a.eval p.2)).map (·.1)).Nodup:=by
    have:(ig (ps.map λp=>(p.1,aT C.aL s.aw p.2))).map (·.1)=(ps.map λp=>(p.1,a.eval p.2)).map (·.1):=by simp[ig]
    grind
   have RQ:∀ q∈ps.map (λp=>(p.1,a.eval p.2)),q.2.cells.size=e.size/\q.1*e.size+e.size<=n*e.size:=by
    intro q be;obtain⟨p,hp,rfl⟩:=List.mem_map.1 be;have bZ:=Km p hp;refine⟨?_,by
     have:(p.1+1)*e.size<=n*e.size:=Nat.mul_le_mul_right _ (by omega);grind⟩
    obtain⟨a8,d1,d2⟩:=jZ.2 p.1 (by omega);rw[Nat.zero_add]at d2;have uT:(ps.map λp=>(p.1,a.eval p.2)).find? (λr=>r.1 == p.1)=some (p.1,a.eval p.2):=by
     have adS:∀ (l:List (Nat×Value)),(l.map (·.1)).Nodup->∀ q∈l,l.find? (λr=>r.1 == q.1)=some q:=by
      intro l;induction l with
      | nil=>simp
      | cons c l aG=>
       grind
     grind
    rw[uT]at d2;have:=ht e d1;grind
   have Ko:z.cells.size≠0:=by omega
   let base:Array Value:=(Array.range (n*e.size)).map (λi=>z.cells[i % z.cells.size]!);have awI:base.size=n*e.size:=by grind
   obtain⟨cO,aO,aP,bA⟩:=Kj (place:=λi=>some (i*e.size,e.size)) (λi=>rfl) (ps.map λp=>(p.1,a.eval p.2)) base (by grind) Kn;have awJ:∀ i,i<n->(base.toList.drop (i*e.size)).take e.size=z.cells.toList:=by
    intro i G;have hle:(i+1)*e.size<=n*e.size:=Nat.mul_le_mul_right _ (by omega);rw[Nat.add_mul]at hle;apply List.ext_getElem?;intro j;simp only[List.getElem?_take,List.getElem?_drop];split
    ·rename_i aC;have fz:j<z.cells.size:=by omega
     rw[Array.getElem?_toList,Array.getElem?_toList];have y4:(i*e.size+j) % z.cells.size=j:=by rw[tn,Nat.add_comm,Nat.add_mul_mod_self_right,Nat.mod_eq_of_lt aC]
     grind
    grind
   have adT:fT C.P e F' w cO.toList xs:=by
    refine⟨by grind,λi G=>?_⟩;have dp:i<n:=by omega
    have hle:(i+1)*e.size<=n*e.size:=Nat.mul_le_mul_right _ (by omega);grind
   have cH:(execOp a.eval o).run C.P w=.ok (.value (.slice (some ⟨w.heap.size,0,none⟩) n n)) (w.alloc (.cells cO jw)):=by
    have adU:¬n*e.size > 2 ^ 24:=by omega
    simp only[execOp,ag,Instr.buildSlice,Sem.run_bind,df aC,Result.andThen_ok,rG i1,i2,adU,if_false];by_cases rR:n*e.size=0
    ·have y':base=#[]:=Array.eq_empty_of_size_eq_zero (by omega);rw[y']at aO;simp only[rR,if_true,Sem.run_bind,Sem.run_pure,Result.andThen_ok];rw[show ((Array.range 0).map (λi=>(#[]:Array Value)[i % (#[]:Array Value).size]!))=#[] from by simp];simp only[List.map_toArray]at aO ⊢;rw[show Instr.fill (λi=>some (i*e.size,e.size)) #[] (ps.map λx=>(x.1,a.eval x.2))=some cO from aO];rfl
    ·simp only[rR,if_false,Sem.run_bind,qB i1 i4,Result.andThen_ok,Sem.run_pure];simp only[List.map_toArray];rw[show Instr.fill (λi=>some (i*e.size,e.size)) ((Array.range (n*e.size)).map (λi=>z.cells[i % z.cells.size]!)) (ps.map λx=>(x.1,a.eval x.2))=some cO from aO];rfl
   have oV:s.fH ((jr fl).run s.ad++[(b,⟨(s.ad b).gen+1,.a7 e xs⟩)])=(s.cb fl).b' b ⟨(s.ad b).gen+1,.a7 e xs⟩:=by
    rw[BN,s9]
   have oX:(s.cb fl).ad b=s.ad b:=by simp[ay.cb,pU]
   have h3:=aX.BY (b:=b) (g:=(s.ad b).gen+1) (zs:=xs) (k:=⟨w.heap.size,0,n,false⟩) (w':=w.alloc (.cells cO jw)) (by grind) (.inr rfl) (by simp) (λr V=>oN w _ V) (λ_=>by simp) ⟨rfl,rfl,rfl⟩
    (λH κ'=>⟨λh=>(by cases h),λ_=>⟨cO,jw,pP w _,by grind,by grind,by
     have:n<=n*e.size:=Nat.le_mul_of_pos_right _ (Nat.pos_of_ne_zero n3);grind,(adT.BW (pre:=[]) (post:=[]) (by simp)).later (cG.alloc aX.cL _)⟩⟩)
   refine gY au cH ?_;simp only[ay.hP];rw[oV];exact⟨_,F',ba.set h3 a6 ⟨⟨by simp[ay.b'],rfl⟩,λ_ _=>by simp[ay.b',bm.slice,bB.len,jZ.1]⟩⟩
  grind
 ·cases h
theorem RR(nx:Nat):∀ (m:Nat) (l:List Value),l.length=m*nx->((List.range m).map λi=>(l.drop (i*nx)).take nx).flatten=l
 | 0,l,h=>by
  have:l=[]:=List.eq_nil_of_length_eq_zero (by omega);simp[this]
 | m+1,l,h=>by
  rw[Nat.add_mul]at h;have aG:=RR nx m (l.take (m*nx)) (by grind);rw[List.range_succ,List.map_append,List.flatten_append];have e:((List.range m).map λi=>(l.drop (i*nx)).take nx)=((List.range m).map λi=>((l.take (m*nx)).drop (i*nx)).take nx):=by
   refine List.map_congr_left λi G=>?_;have hle:(i+1)*nx<=m*nx:=Nat.mul_le_mul_right _ (by have:=List.mem_range.1 G;omega);rw[Nat.add_mul]at hle;rw[List.drop_take,List.take_take,Nat.min_eq_left (by omega)]
  rw[e,aG];have:(l.drop (m*nx)).take nx=l.drop (m*nx):=List.take_of_length_le (by grind);simp[this]
theorem adV(hT:dw C.P T){ty m:Nat}{e:ae}{ps:Array (Nat×Operand)}(a6:∀ i,o.dst=some i->i<C.nt)(ag:o.op=.build ty ps)(aH:T ty=.array m e)
  (h:((s5 e (ig (ps.toList.map λp=>(p.1,aT C.aL s.aw p.2))) 0 m).cw λ(xs,fl)=>if (fl.isEmpty&&decide ((ig (ps.toList.map λp=>(p.1,aT C.aL s.aw p.2))).map (·.1)).Nodup&&(ig (ps.toList.map λp=>(p.1,aT C.aL s.aw p.2))).all (λp=>decide (p.1<m)))=true then bz (rE (ps.toList.map λp=>(p.1,aT C.aL s.aw p.2))) True (.val (.array m e) xs) else .none).run s.ad=some res):cm C o s res:=by
 obtain⟨ps⟩:=ps;simp only[aq.eG,Option.bind_eq_some_iff]at h;obtain⟨⟨xs,fl⟩,hA,h⟩:=h;have cV:=hT.bS aH (by simp);obtain⟨jw,aC,iK,n3⟩:=cV.a7;obtain⟨i,z,h1,h2,h3,aR,bw,cY⟩:=kc cV.ka;split at h
 ·rename_i hc;simp only[Bool.and_eq_true,decide_eq_true_eq,List.isEmpty_iff,List.all_eq_true]at hc;obtain⟨⟨rfl,ti⟩,Kk⟩:=hc;simp only[bz,aq.bx,Option.some.injEq]at h;subst h;refine cm.pure (by grind) a6 λa w κ F V aY _=>?_;obtain⟨adR,Fm,n2,z2⟩:=uG (P:=C.P) (H:=s.ad) (κ:=κ) (F:=F) (w:=w) (.array m e) bw;rw[List.append_nil]at Fm;have tn:=(BO (.array m e) (P:=C.P) bw).2;have awK:z.cells.size=m*e.size:=tn;have Kl:=JS V ps aY;have jZ:=λ(zero:List Value) (a_:bt C.P e F w zero e.cN)=>Ry V.bn (λ_ h=>h) a_ (ps:=ig (ps.map λp=>(p.1,aT C.aL s.aw p.2))) (qs:=ps.map λp=>(p.1,a.eval p.2)) (by simp[ig]) Kl m 0 hA (λ_ h=>by cases h);have Km:∀ p∈ps,p.1<m:=by
   intro p hp;exact Kk (p.1,(use (aT C.aL s.aw p.2)).2) (by simp only[ig,List.map_map,List.mem_map];grind)
  have Kn:((ps.map λp=>(p.1,a.eval p.2)).map (·.1)).Nodup:=by
   have:(ig (ps.map λp=>(p.1,aT C.aL s.aw p.2))).map (·.1)=(ps.map λp=>(p.1,a.eval p.2)).map (·.1):=by simp[ig]
   grind
  have iX:∀ i,i<m->bt C.P e F w ((z.cells.toList.drop (i*e.size)).take e.size) e.cN:=by
   intro i G;have adW:bt C.P (.array m e) F w z.cells.toList (ae.array m e).cN:=by rw[Fm];exact n2
   obtain⟨p,c,q,aO,aP,bA⟩:=JM adW G;have ai:=ht e bA;have:(ae.cN (.array m e)).getD i e.cN=e.cN:=by
    show (List.replicate m e.cN).getD i e.cN=e.cN;grind
   rw[this]at bA;have:(z.cells.toList.drop (i*e.size)).take e.size=c:=by
    rw[aO,<-aP];simp[ai]
   rw[this];exact bA
  have RS:xs.length=m:=by
   rcases Nat.eq_zero_or_pos m with h0 | h0
   ·subst h0;simp only[s5,aq.bx,Option.some.injEq,Prod.mk.injEq]at hA;rw[<-hA.1];rfl
   ·exact (jZ _ (iX 0 h0)).1
  have RQ:∀ q∈ps.map (λp=>(p.1,a.eval p.2)),q.2.cells.size=e.size/\q.1*e.size+e.size<=z.cells.size:=by
   intro q be;obtain⟨p,hp,rfl⟩:=List.mem_map.1 be;have bZ:=Km p hp;refine⟨?_,by
    have:(p.1+1)*e.size<=m*e.size:=Nat.mul_le_mul_right _ (by omega);grind⟩
   obtain⟨a8,d1,d2⟩:=(jZ _ (iX p.1 bZ)).2 p.1 (by omega);rw[Nat.zero_add]at d2;have uT:(ps.map λp=>(p.1,a.eval p.2)).find? (λr=>r.1 == p.1)=some (p.1,a.eval p.2):=by
    have adS:∀ (l:List (Nat×Value)),(l.map (·.1)).Nodup->∀ q∈l,l.find? (λr=>r.1 == q.1)=some q:=by
     intro l;induction l with
     | nil=>simp
     | cons c l aG=>
      grind
    grind
   rw[uT]at d2;have:=ht e d1;grind
  obtain⟨cO,aO,aP,bA⟩:=Kj (place:=λi=>some (i*e.size,e.size)) (λi=>rfl) (ps.map λp=>(p.1,a.eval p.2)) z.cells RQ Kn;refine⟨.agg cO,?_,⟨cO,rfl,by omega⟩,?_⟩
  ·simp only[execOp,ag,Instr.build,Sem.run_bind,qB h1 aR,Result.andThen_ok,df aC,iK.size];simp_all
  ·refine⟨(List.range m).map λi=>(cO.toList.drop (i*e.size)).take e.size,(RR e.size m cO.toList (by grind)).symm,by simp,RS,λi G dp=>?_⟩;simp only[List.getElem_map,List.getElem_range];have Kh:i<m:=by omega
   have hle:(i+1)*e.size<=m*e.size:=Nat.mul_le_mul_right _ (by omega);rw[Nat.add_mul]at hle;obtain⟨a8,d1,d2⟩:=(jZ _ (iX i Kh)).2 i G;rw[Nat.zero_add]at d2;have:=bA i (by omega);have:(cO.toList.drop (i*e.size)).take e.size=a8:=by
    rw[this];split at d2<;>simp_all
   rw[this];exact d1
 ·cases h
theorem eY.mono{P:Program}{t:ae}{F F':Nat->Prop}{w w':World}{aB:List Value}{x:t.ah}(h:eY P t F w aB x)(bb:∀ r,F r->F' r)(he:cG F w w'):eY P t F' w' aB x:=⟨h.1,eP t bb he h.2⟩
theorem adX{k:FuncId}{cF:List Operand}(a6:∀ i,o.dst=some i->i<C.nt)(ag:o.op=.makeFunc (.func k) #[] ⟨cF⟩){v:EO}(hv:C.aL.sY k=some v)
  (h:((iG (fM (v.cs.map .bq)) ((cF.map (aT C.aL s.aw)).map λv=>(use v).2)).cw λ(y,fl)=>(jr fl).bind λwl=>.ret (some ⟨js (cF.map (aT C.aL s.aw)),True,.val (.fn (fM v.as) v.tr) (λx=>v.sh (EN v.as (v.cs.map .bq) x y)),wl⟩):aq (Option dY)).run s.ad=some res):cm C o s res:=by
 simp only[aq.eG,Option.bind_eq_some_iff,aq.run_bind,aq.bx,Option.some.injEq]at h;obtain⟨⟨y,l⟩,aM,rfl⟩:=h;intro a w κ F Q V aY _;obtain⟨F',f1,aX,f2⟩:=ba.kS (pW _ aM) V;have dA:eY C.P (fM (v.cs.map .bq)) F' w (cF.map a.eval) y:=by
  refine uS V.bn f1 _ aM f2 (by simp) λi G dp=>?_;simp only[List.getElem_map];have c6:i<cF.length:=by grind
  have h1:=rH aY i (by grind);have e1:(cF.map (aT C.aL s.aw)).getD i .undef=aT C.aL s.aw cF[i]:=by grind
  rw[e1]at h1;exact oQ (jU V cF[i]) h1
 obtain⟨hs,wR⟩:=V.jo.sY k v hv;have cH:(execOp a.eval o).run C.P w=.ok (.value (.func (.func k) #[] (cF.map a.eval).toArray)) w:=by simp[execOp,ag,Instr.makeFunc]
 refine gY (by grind) cH ⟨κ,F',?_⟩;simp only[ay.hP];rw[s9];refine ba.set aX a6 ((dx rfl).2 ⟨rfl,_,rfl,⟨rfl,rfl⟩,λdK cI za wS tq wT args x h1 h2 h3=>⟨k,_,rfl,wR.enter,?_⟩⟩);have aC:=QG v.as (v.cs.map .bq) hs (P:=C.P) (F:=dK) (w:=cI) ⟨h1,h2⟩ (dA.mono za wS);have:=wR.iD dK cI _ _ tq wT aC h3;have e:(args++cF.map a.eval).toArray=args.toArray++(cF.map a.eval).toArray:=by simp
 rw[e]at this;exact this.mono λe sU ⟨v,y,e1,e2,⟨aB,e3,e4,dB⟩,kO⟩=>⟨v,y,aB,e1,e2,e3,e4,dB,kO⟩
theorem adY{k:FuncId}{cF:List Operand}(a6:∀ i,o.dst=some i->i<C.nt)(ag:o.op=.makeFunc (.func k) #[] ⟨cF⟩){v:wq}(hv:C.aL.wv k=some v)
  (h:((iG (fM (v.cs.map .bq)) ((cF.map (aT C.aL s.aw)).map λv=>(use v).2)).cw λ(y,fl)=>(jr fl).bind λwl=>.ret (some ⟨js (cF.map (aT C.aL s.aw)),True,.val (.b5 v.aI) (v.S y),wl⟩):aq (Option dY)).run s.ad=some res):cm C o s res:=by
 simp only[aq.eG,Option.bind_eq_some_iff,aq.run_bind,aq.bx,Option.some.injEq]at h;obtain⟨⟨y,l⟩,aM,rfl⟩:=h;intro a w κ F Q V aY _;obtain⟨F',f1,aX,f2⟩:=ba.kS (pW _ aM) V;have dA:eY C.P (fM (v.cs.map .bq)) F' w (cF.map a.eval) y:=by
  refine uS V.bn f1 _ aM f2 (by simp) λi G dp=>?_;simp only[List.getElem_map];have c6:i<cF.length:=by grind
  have h1:=rH aY i (by grind);have e1:(cF.map (aT C.aL s.aw)).getD i .undef=aT C.aL s.aw cF[i]:=by grind
  rw[e1]at h1;exact oQ (jU V cF[i]) h1
 have wR:=V.jo.wv k v hv;have cH:(execOp a.eval o).run C.P w=.ok (.value (.func (.func k) #[] (cF.map a.eval).toArray)) w:=by simp[execOp,ag,Instr.makeFunc]
 refine gY (by grind) cH ⟨κ,F',?_⟩;simp only[ay.hP];rw[s9];refine ba.set aX a6 ((dx rfl).2 ⟨rfl,_,rfl,⟨rfl,rfl⟩,λdK cI za wS tq wT dZ=>⟨k,_,rfl,wR.enter,λl I Y ik i' ee=>?_⟩⟩);exact wR.iD dK cI _ _ tq wT (dA.mono za wS) dZ l I Y ik i' ee
theorem adZ{k:FuncId}{cF:Array Operand}(a6:∀ i,o.dst=some i->i<C.nt)(ag:o.op=.makeFunc (.func k) #[] cF)(h:(bf C.aL T a1 (aT C.aL s.aw) o).run s.ad=some res):cm C o s res:=by
 obtain⟨cF⟩:=cF;simp only[bf,ag,Array.isEmpty_empty,if_true]at h;split at h;case h_1 v hv=>exact adX a6 ag hv h
 split at h;case h_1 v hv=>exact adY a6 ag hv h
 simp only[bz,aq.bx,Option.some.injEq]at h;subst h;refine cm.pure (by grind) a6 λa w κ F V aY _=>?_;refine⟨.func (.func k) #[] (cF.map a.eval).toArray,by simp[execOp,ag,Instr.makeFunc],cF.map a.eval,rfl,by simp,λi G=>?_⟩;have dp:i<cF.length:=by grind
 have h1:(use ((cF.map (aT C.aL s.aw)).getD i .undef)).1:=rH aY i (by omega);have e1:(cF.map (aT C.aL s.aw)).getD i .undef=aT C.aL s.aw cF[i]:=by grind
 rw[e1]at h1;have h2:=oQ (jU V cF[i]) h1;have e2:(cF.map a.eval).getD i Go.undef=a.eval cF[i]:=by grind
 have e3:gM ((cF.map (aT C.aL s.aw)).map λv=>(use v).2) i=(use (aT C.aL s.aw cF[i])).2:=by simp[gM,List.getD_eq_getElem?_getD,dp]
 grind
theorem ad0{k:FuncId}{first cF:Array Operand}(a6:∀ i,o.dst=some i->i<C.nt)(ag:o.op=.makeFunc (.func k) first cF)(ar:first.isEmpty=false)(h:(bf C.aL T a1 (aT C.aL s.aw) o).run s.ad=some res):cm C o s res:=by
 obtain⟨first⟩:=first
 simp only[bf,ag,ar,Bool.false_eq_true,if_false]at h;split at h
 ·rename_i hc;have hc:cF=#[]:=by grind
  subst hc;simp only[bz,aq.bx,Option.some.injEq]at h;subst h;refine cm.pure (by grind) a6 λa w κ F V aY _=>?_;refine⟨.func (.func k) (first.map a.eval).toArray #[],by simp[execOp,ag,Instr.makeFunc],first.map a.eval,rfl,by simp,λi G=>?_⟩;have dp:i<first.length:=by omega
  have h1:(use ((first.map (aT C.aL s.aw)).getD i .undef)).1:=rH aY i (by grind);have e1:(first.map (aT C.aL s.aw)).getD i .undef=aT C.aL s.aw first[i]:=by grind
  rw[e1]at h1;have h2:=oQ (jU V first[i]) h1;have e2:(first.map a.eval).getD i Go.undef=a.eval first[i]:=by grind
  have e3:gM ((first.map (aT C.aL s.aw)).map λv=>(use v).2) i=(use (aT C.aL s.aw first[i])).2:=by simp[gM,List.getD_eq_getElem?_getD,dp]
  grind
 ·cases h
def kW(o:Oper)(nt:Nat):Bool:=
 (match o.dst with | some d=>decide (d<nt) | none=>true)&&(match o.op with | .store _ _ _=>o.dst.isNone | .mapUpdate _ _ _ _=>o.dst.isNone | .insert _ _ _ _=>o.dst.isNone | _=>true)
theorem wU(hT:dw C.P T)(cc:iY C.P a1)(au:kW o C.nt=true)(h:(bf C.aL T a1 (aT C.aL s.aw) o).run s.ad=some res):cm C o s res:=by
 simp only[kW,Bool.and_eq_true]at au;have a6:∀ i,o.dst=some i->i<C.nt:=λi G=>by
  grind
 cases ag:o.op with
 | move x=>exact acj a6 ag h
 | assign x=>exact ack a6 ag h
 | pick c a b=>exact acm a6 ag h
 | binOp op t x y cC=>exact acv hT a6 ag h
 | unOp op t x=>exact acn a6 ag h
 | extract t i=>exact aco a6 ag h
 | nilCheck x=>exact acp a6 ag h
 | fieldAddr t x f=>exact acq hT a6 ag h
 | field t x f=>exact acr hT a6 ag h
 | load t x=>exact acw hT a6 ag h
 | store t x y=>
  have:=au.2;rw[ag]at this;exact acP hT (by grind) ag h
 | alloc t=>
  by_cases aH:T t=.cy
  ·simp only[bf,ag,aH]at h;obtain⟨_,_,ao⟩:=qD h;grind
  ·exact acG hT a6 ag h aH
 | box t x=>exact acI a6 ag h
 | build t ps=>
  by_cases E_:∀ m e,T t≠.array m e
  ·exact acN hT a6 ag E_ h
  ·obtain⟨m,e,aH⟩:∃ m e,T t=.array m e:=by grind
   refine adV hT a6 ag aH ?_;simpa only [bf,ag,aH]using h
 | buildSlice t n ps=>exact adQ hT a6 ag h
 | indexAddr t x i=>exact acV hT a6 ag h
 | index t x i=>exact acy hT a6 ag h
 | convert a b x=>exact adh hT a6 ag h
 | makeFunc fn first cF=>
  cases fn with
  | func k=>
   by_cases ar:first=#[]
   ·subst ar;exact adZ a6 ag h
   ·exact ad0 a6 ag (by grind) h
  | _=>simp[bf,ag,aq.none]at h
 | makeMap t r=>exact adr a6 ag h
 | lookup t m x ok=>exact ads hT a6 ag h
 | mapUpdate t m x y=>
  have:=au.2;rw[ag]at this;exact Kd hT (by grind) (.inl ag) h
 | insert t m x y=>
  have:=au.2;rw[ag]at this;exact Kd hT (by grind) (.inr ag) h
 | makeSlice t l c=>exact adx hT a6 ag h
 | makeInterface t x=>exact RN (by simp[bf,ag,bz]) h
 | panic x=>exact RN (by simp[bf,ag,bz]) h
 | slice t x lo G oP=>
  cases oP with
  | none=>exact acX hT a6 ag h
  | some m=>exact adK hT a6 ag h
 | call c=>
  obtain⟨callee,args,cU⟩:=c;cases callee with
  | value f=>
   cases f with
   | func k=>exact adm cc a6 ag h
   | _=>simp[bf,ag,mq,aq.none]at h
  | invoke r m=>simp[bf,ag,mq,aq.none]at h
  | builtin b=>
   cases b with
   | len=>exact acD hT a6 ag h
   | append=>
    cases hs:wD (aT C.aL s.aw) args.toList with
    | none=>exact ac8 hT a6 ag (by simpa [bf,ag,mq,hs]using h)
    | some p=>exact adO hT a6 ag hs (by simpa [bf,ag,mq,hs]using h)
   | clear=>exact adP hT a6 ag (by simpa [bf,ag,mq]using h)
   | copy=>exact adF hT a6 ag h
   | min=>exact Q' (.inl ⟨rfl,rfl⟩) a6 ag (by simpa [bf,ag,mq]using h)
   | max=>exact Q' (.inr ⟨rfl,rfl⟩) a6 ag (by simpa [bf,ag,mq]using h)
   | cap=>exact acE hT a6 ag (by simpa [bf,ag,mq]using h)
   | _=>simp[bf,ag,mq,aq.none]at h
 | _=>simp[bf,ag,aq.none]at h
end
end Go.Fer
namespace Go.Fer
open Go.RowKit
def aq.cA{aj:Type}(p:aj->Prop):aq aj->Prop
 | .ret a=>p a
 | .ev _ k=>∀ x,(k x).cA p
theorem Kp{aF:Operand->aD}{k:IntKind}:∀ (l:List Operand) {bR:Prop} {hO:z1'},(∀ x∈l,(use (aF x)).1)->mo aF k l=some (bR,hO)->bR
 | [],_,_,_,h=>by cases h
 | [x],bR,hO,hu,h=>by
  simp only[mo]at h;split at h
  ·split at h
   ·cases h;exact hu x (by simp)
   ·cases h
  ·cases h
 | x::y::l,bR,hO,hu,h=>by
  simp only[mo]at h;split at h
  ·rename_i ai;split at h
   ·cases h;exact⟨hu x (by simp),Kp (y::l) (λz a_=>hu z (List.mem_cons_of_mem _ a_)) ai⟩
   ·cases h
  ·cases h
theorem aq.cA.run{aj:Type}{p:aj->Prop}{m:aq aj}(h:m.cA p)(H:Nat->bu):p (m.run H):=by
 induction m with
 | ret a=>exact h
 | ev b k aG=>exact aG _ (h _)
theorem aq.cA.bind{aj β:Type}{p:β->Prop}{m:aq aj}{f:aj->aq β}(h:∀ a,(f a).cA p):(m.bind f).cA p:=by
 induction m with
 | ret a=>exact h a
 | ev b k aG=>exact λx=>aG x
def kX{aj:Type}(p:aj->Prop)(x:Option aj):Prop:=∀ a,x=some a->p a
theorem aq.cA.cw{aj β:Type}{p:β->Prop}{m:aq (Option aj)}{f:aj->aq (Option β)}(h:∀ a,(f a).cA (kX p)):(m.cw f).cA (kX p):=by
 refine aq.cA.bind λa=>?_;cases a with
 | none=>intro a h;cases h
 | some a=>grind
theorem aq.cA.RT{aj β:Type}{q:aj->Prop}{p:β->Prop}{m:aq (Option aj)}{f:aj->aq (Option β)}(an:m.cA (kX q))(h:∀ a,q a->(f a).cA (kX p)):(m.cw f).cA (kX p):=by
 unfold aq.cw;induction m with
 | ret a=>
  cases a with
  | none=>intro b ab;cases ab
  | some a=>exact h a (an a rfl)
 | ev b k aG=>exact λx=>aG x (an x)
theorem aq.cA.bI{aj:Type}{p:aj->Prop}:(aq.none:aq (Option aj)).cA (kX p):=by intro a h;cases h
theorem aq.cA.mA{aj:Type}{p:aj->Prop}{a:aj}(h:p a):(aq.ret (some a)).cA (kX p):=by intro b ab;grind
theorem aq.cA.nil{aj:Type}{p:aj->Prop}:(aq.ret (Option.none:Option aj)).cA (kX p):=by intro b ab;cases ab
theorem aq.cA.bz{p:dY->Prop}{bR c:Prop}{v:aD}(h:p ⟨bR,c,v,[]⟩):(bz bR c v).cA (kX p):=aq.cA.mA h
theorem aq.cA.hN{p:dY->Prop}{d:Option Nat}{k:Nat->Nat->Option dY}(h:∀ b g,kX p (k b g)):(hN d k).cA (kX p):=by
 unfold Go.Fer.hN;split
 ·exact .bI
 ·exact λx=>h _ _
def aD.zb:aD->Bool
 | .hd _ _=>true
 | _=>false
theorem Fo{a:aD}(h:a.zb=false):(use a).1:=by
 cases a<;>first | trivial | cases h
def rS(aF:Operand->aD)(o:Oper):Bool:=o.op.operands.toList.all λx=>!(aF x).zb
def aD.ad1:aD->Bool
 | .fk _ _=>false
 | .val (.map _ _) _=>false
 | _=>true
def Fp(aF:Operand->aD)(b:Builtin)(args:List Operand):Bool:=
 match b with
 | .len=>match args with
  | [x]=>(use (aF x)).2.ad1
  | _=>false
 | .min=>true
 | .max=>true
 | _=>false
def aD.RU:aD->Bool
 | .iE ..=>true
 | _=>false
def mB(aF:Operand->aD)(o:Oper):Bool:=
 match o.op with
 | .move _ | .assign _ | .pick .. | .unOp .. | .extract .. | .fieldAddr .. | .field .. | .alloc .. | .box .. | .build .. | .buildSlice .. | .convert .. | .makeFunc .. | .makeMap .. | .lookup .. | .mapUpdate .. | .insert ..=>true
 | .load _ x=>!(use (aF x)).2.RU
 | .store _ x _=>!(use (aF x)).2.RU
 | .binOp op _ x _ _=>match op with
  | .quo | .rem | .shl | .shr=>false
  | .add=>(use (aF x)).2.lX.isSome
  | _=>true
 | .call c=>match c.callee with
  | .builtin b=>Fp aF b c.args.toList
  | _=>false
 | _=>false
theorem ad2{op:BinOp}{k:IntKind}{a b:Int}{c:Prop}{v:aD}(h:yJ op k a b=some (c,v))(h1:op≠.quo)(h2:op≠.rem):c:=by
 cases op<;>simp only[yJ,Option.some.injEq,Prod.mk.injEq,reduceCtorEq]at h<;>first | (obtain⟨rfl,_⟩:=h;trivial) | contradiction
theorem ad3{op:BinOp}{a b:List UInt8}{c:Prop}{v:aD}(h:Bx op a b=some (c,v))(h1:op≠.add):c:=by
 cases op<;>simp only[Bx,Option.some.injEq,Prod.mk.injEq,reduceCtorEq]at h<;>first | (obtain⟨rfl,_⟩:=h;trivial) | contradiction
theorem ad4{op:BinOp}{t:ae}{x y:aD}:(yK op t x y).cA (kX λr=>r.1):=by
 unfold yK;refine aq.cA.cw λe=>?_;cases op<;>first | exact .mA trivial | exact .nil
section
variable {U:dh} {T:Nat->ae} {a1:Nat->Option aJ} {aF:Operand->aD} {o:Oper}
theorem ad5{op:BinOp}{ty:TypeId}{x y:Operand}{t:TypeId}(ag:o.op=.binOp op ty x y t)(hc:mB aF o=true):(bf U T a1 aF o).cA (kX λr=>r.c):=by
 unfold bf;rw[ag];simp only;simp only[mB,ag]at hc;split
 ·rename_i k a k' b h1 h2;split
  ·cases hc
  ·cases hc
  ·split
   ·split
    ·rename_i c v G;refine .bz (ad2 G ?_ ?_)<;>(grind)
    ·exact .bI
   ·exact .bI
 ·rename_i oZ;split
  ·rename_i a b h1 h2;split
   ·rename_i c v G;refine .bz (ad3 G ?_);intro e;subst e;simp only at hc;generalize (use (aF x)).2=z at hc h1;cases z<;>try (cases h1;done)
    rename_i t d;cases t<;>first | (cases h1;done) | (cases hc;done)
   ·exact .bI
  ·exact aq.cA.RT ad4 λr V=>.bz V
theorem Kq{p:dY->Prop}{ty:TypeId}{m x y:Operand}(h:∀ wl,p ⟨(use (aF m)).1/\(use (aF x)).1/\(use (aF y)).1,True,.undef,wl⟩):(qA T aF ty m x y).cA (kX p):=by
 unfold qA;split
 ·simp only;split
  ·split
   ·refine aq.cA.cw λ_=>aq.cA.cw λ_=>aq.cA.bind λ_=>λz=>?_;intro r V;split at V
    ·split at V
     ·simp only[Option.map_eq_some_iff]at V;grind
     grind
    grind
   ·exact .bI
  ·exact .bI
 ·exact .bI
theorem RV{ty:TypeId}{m x y:Operand}:(qA T aF ty m x y).cA (kX λr=>r.c):=Kq λ_=>trivial
theorem zc(hc:mB aF o=true):(bf U T a1 aF o).cA (kX λr=>r.c):=by
 cases ag:o.op with
 | binOp op ty x y t=>exact ad5 ag hc
 | move x=>unfold bf;rw[ag];exact .bz trivial
 | assign x=>
  unfold bf;rw[ag];simp only;split
  ·exact .hN λb g=>λr V=>by grind
  ·exact .bz trivial
 | pick c a b=>
  unfold bf;rw[ag];simp only;split
  ·split
   ·split
    ·exact .bz trivial
    ·exact .bI
   ·split
    ·exact .bz trivial
    ·exact .bI
   ·exact .bI
  ·exact .bI
 | unOp op t x=>
  unfold bf;rw[ag];simp only;split
  ·exact .bz trivial
  ·exact .bz trivial
  ·exact .bI
 | extract x i=>
  unfold bf;rw[ag];simp only;split
  ·split
   ·exact .bz trivial
   ·exact .bI
  ·exact .bI
 | fieldAddr ty x f=>
  unfold bf;rw[ag];simp only;repeat' first | exact .bI | exact .bz trivial | split
  all_goals first
   | (intro z;intro r V;grind)
 | field ty x f=>
  unfold bf;rw[ag];simp only;repeat' first | exact .bI | exact .bz trivial | split
 | load ty x=>
  simp only[mB,ag]at hc;unfold bf;rw[ag];simp only;split
  ·rename_i hx;rw[hx]at hc;cases hc
  ·exact aq.cA.cw λ_=>.bz trivial
 | store ty x y=>
  simp only[mB,ag]at hc;unfold bf;rw[ag];simp only;split
  ·rename_i hx;rw[hx]at hc;cases hc
  ·exact aq.cA.cw λ_=>.mA trivial
 | alloc ty=>
  unfold bf;rw[ag];simp only;exact .hN λb g=>λr V=>by grind
 | box ty x=>
  unfold bf;rw[ag];simp only;split
  ·exact .hN λb g=>λr V=>by grind
  ·exact .bI
 | build ty ps=>
  unfold bf;rw[ag];simp only;repeat' first | exact .bI | exact .bz trivial | refine aq.cA.cw λ_=>?_ | split
 | buildSlice ty n ps=>
  unfold bf;rw[ag];simp only;split
  ·refine aq.cA.cw λ_=>aq.cA.bind λ_=>.hN λb g=>λr V=>by grind
  ·exact .bI
 | convert a b x=>
  unfold bf;rw[ag];simp only;repeat' first | exact .bI | exact .bz trivial | exact aq.cA.cw λ_=>.bz trivial | split
 | makeFunc fn first cF=>
  unfold bf;rw[ag];simp only;split
  ·split
   ·split
    ·exact aq.cA.cw λ_=>aq.cA.bind λ_=>.mA trivial
    ·split
     ·exact aq.cA.cw λ_=>aq.cA.bind λ_=>.mA trivial
     ·exact .bz trivial
   ·split
    ·exact .bz trivial
    ·exact .bI
  ·exact .bI
 | makeMap ty r=>
  unfold bf;rw[ag];simp only;split
  ·exact .bI
  ·split
   ·exact .hN λb g=>λr V=>by grind
   ·exact .bI
 | lookup ty m x ok=>
  unfold bf;rw[ag];simp only;unfold yN;split
  ·simp only;split
   ·exact aq.cA.cw λ_=>aq.cA.cw λ_=>.bz trivial
   ·exact .bI
  ·exact .bI
 | mapUpdate ty m x y=>
  unfold bf;rw[ag];exact RV
 | insert ty m x y=>
  unfold bf;rw[ag];exact RV
 | call c=>
  obtain⟨callee,args,cU⟩:=c;simp only[mB,ag]at hc;unfold bf;rw[ag];simp only;unfold mq;cases callee with
  | builtin b=>
   simp only at hc ⊢;cases b with
   | len=>
    simp only[Bz];split
    ·rename_i x t e1 e2;simp only[Fp,e1]at hc;generalize use (aF x)=u at hc;obtain⟨cd,dC⟩:=u;simp only at hc ⊢;refine aq.cA.RT (q:=λr:Prop×Int=>r.1) ?_ λr V=>.bz V;generalize T t=ty;cases ty<;>simp only[ET]<;>first | exact .bI | skip
     ·cases dC<;>first | exact .bI | skip
      ·rename_i cC d;cases cC<;>first | exact .bI | exact .mA trivial
     ·cases dC<;>first | exact .bI | exact .mA trivial | skip
      ·rename_i cC d;cases cC<;>first | exact .bI | exact .mA trivial
      ·intro z r V;grind
      ·intro z r V;grind
     ·cases dC<;>first | exact .bI | (cases hc;done) | skip
      ·rename_i cC d;cases cC<;>first | exact .bI | cases hc
    ·exact .bI
   | min=>
    simp only[rF];repeat' first | exact .bz trivial | exact .bI | split
   | max=>
    simp only[rF];repeat' first | exact .bz trivial | exact .bI | split
   | _=>simp[Fp]at hc
  | _=>cases hc
 | _=>simp[mB,ag]at hc
theorem B9:∀ {l:List aD},(∀ v∈l,(use v).1)->js l
 | [],_=>trivial
 | v::l,h=>by
  have h1:=h v (by simp);have h2:=B9 (l:=l) λu hu=>h u (by grind);cases v<;>first | exact h2 | exact⟨h1,h2⟩
theorem Kr:∀ {l:List (Nat×aD)},(∀ v∈l,(use v.2).1)->rE l
 | [],_=>trivial
 | (i,v)::l,h=>by
  have h1:=h (i,v) (by simp);have h2:=Kr (l:=l) λu hu=>h u (by grind);cases v<;>first | exact h2 | exact⟨h1,h2⟩
theorem B_{x:Option Operand}{p:Prop}{n:Option Int}(h:kQ aF x=some (p,n))(hx:∀ y,x=some y->(use (aF y)).1):p:=by
 unfold kQ at h;grind
def qK(aF:Operand->aD)(o:Oper):Prop:=∀ x∈o.op.operands.toList,(use (aF x)).1
theorem Ks{aF:Operand->aD}{o:Oper}(h:rS aF o=true):qK aF o:=λx hx=>Fo (by simpa using List.all_eq_true.1 h x hx)
theorem qK.use{aF:Operand->aD}{o:Oper}(h:qK aF o){x:Operand}(hx:x∈o.op.operands.toList){bR:Prop}{v:aD}(hu:use (aF x)=(bR,v)):bR:=by
 have:=h x hx;grind
theorem RW(ff:qK aF o):(bf U T a1 aF o).cA (kX λr=>r.bR):=by
 unfold qK at ff;have ar:∀ x∈o.op.operands.toList,(use (aF x)).1:=ff;have hu:∀ x∈o.op.operands.toList,∀ {bR:Prop} {v:aD},use (aF x)=(bR,v)->bR:=λx hx bR v h=>qK.use ff hx h;cases ag:o.op with
 | move x=>unfold bf;rw[ag];exact .bz trivial
 | assign x=>
  unfold bf;rw[ag];simp only;split
  ·exact .hN λb g=>λr V=>by grind
  ·exact .bz trivial
 | pick c a b=>
  rw[ag]at hu;unfold bf;rw[ag];simp only;split
  ·rename_i oc iI lA;have h1:=hu c (by simp[Op.operands]) lA;split
   ·split
    ·rename_i yO av aU;exact .bz ⟨h1,λ_=>hu a (by simp[Op.operands]) aU⟩
    ·exact .bI
   ·split
    ·rename_i yO av aU;exact .bz ⟨h1,λ_=>hu b (by simp[Op.operands]) aU⟩
    ·exact .bI
   ·exact .bI
  ·exact .bI
 | binOp op ty x y t=>
  rw[ag]at ff;have h:=And.intro (ff x (by simp[Op.operands])) (ff y (by simp[Op.operands]));unfold bf;rw[ag];simp only;split
  ·split
   ·split
    ·exact .bz h
    ·exact .bI
   ·split
    ·exact .bz h
    ·exact .bI
   ·split
    ·split
     ·exact .bz h
     ·exact .bI
    ·exact .bI
  ·split
   ·split
    ·exact .bz h
    ·exact .bI
   ·exact aq.cA.cw λ_=>.bz h
 | unOp op t x=>
  rw[ag]at hu;unfold bf;rw[ag];simp only;split
  ·rename_i hx;exact .bz (hu x (by simp[Op.operands]) hx)
  ·rename_i hx;exact .bz (hu x (by simp[Op.operands]) hx)
  ·exact .bI
 | extract x i=>
  rw[ag]at hu;unfold bf;rw[ag];simp only;split
  ·rename_i hx;split
   ·exact .bz (hu x (by simp[Op.operands]) hx)
   ·exact .bI
  ·exact .bI
 | nilCheck x=>
  rw[ag]at hu;unfold bf;rw[ag];simp only;split
  ·rename_i hx;intro z r V;split at V<;>cases V;exact hu x (by simp[Op.operands]) hx
  ·rename_i hx;exact .bz (hu x (by simp[Op.operands]) hx)
  ·rename_i hx;exact .bz (hu x (by simp[Op.operands]) hx)
  ·rename_i hx;intro z r V;split at V<;>cases V;exact hu x (by simp[Op.operands]) hx
  ·exact .bI
 | fieldAddr ty x f=>
  rw[ag]at hu;unfold bf;rw[ag];simp only;split
  ·split
   ·split
    ·rename_i hx;intro z r V;split at V<;>cases V;exact hu x (by simp[Op.operands]) hx
    ·rename_i hx;intro z r V;split at V<;>cases V;exact hu x (by simp[Op.operands]) hx
    ·rename_i hx;intro z r V;split at V<;>cases V;exact hu x (by simp[Op.operands]) hx
    ·rename_i hx;split
     ·split
      ·exact .bz (hu x (by simp[Op.operands]) hx)
      ·exact .bI
     ·exact .bI
    ·exact .bI
   ·exact .bI
  ·exact .bI
 | field ty x f=>
  rw[ag]at hu;unfold bf;rw[ag];simp only;split
  ·split
   ·rename_i hx;split
    ·split
     ·exact .bz (hu x (by simp[Op.operands]) hx)
     ·exact .bI
    ·exact .bI
   ·exact .bI
  ·exact .bI
 | load ty x=>
  rw[ag]at hu;unfold bf;rw[ag];simp only;split
  ·rename_i hx;have h:=hu x (by simp[Op.operands]) hx;intro z r V;repeat' split at V
   all_goals first | (cases V;exact h) | cases V
  ·rename_i hx;exact aq.cA.cw λ_=>.bz (hu x (by simp[Op.operands]) hx)
 | store ty x y=>
  rw[ag]at hu ff;unfold bf;rw[ag];simp only;split
  ·rename_i hx;have h:=hu x (by simp[Op.operands]) hx;have cZ:=ff y (by simp[Op.operands]);unfold JE;split
   ·intro z r V;repeat' split at V
    all_goals first | (cases V;exact⟨h,cZ⟩) | cases V
   ·exact .bI
  ·rename_i hx;exact aq.cA.cw λ_=>.mA ⟨hu x (by simp[Op.operands]) hx,ff y (by simp[Op.operands])⟩
 | alloc ty=>
  unfold bf;rw[ag];simp only;exact .hN λb g=>λr V=>by grind
 | box ty x=>
  rw[ag]at ff;unfold bf;rw[ag];simp only;split
  ·exact .hN λb g=>λr V=>by split at V<;>cases V;exact ff x (by simp[Op.operands])
  ·exact .bI
 | build ty ps=>
  rw[ag]at ar;have h:rE (ps.toList.map λp=>(p.1,aF p.2)):=Kr λv hv=>by
   simp only[List.mem_map]at hv;obtain⟨p,hp,rfl⟩:=hv;exact ar p.2 (by simp only[Op.operands,List.mem_map];grind)
  unfold bf;rw[ag];simp only;repeat' first | exact .bI | exact .bz h | refine aq.cA.cw λ_=>?_ | split
 | buildSlice ty n ps=>
  rw[ag]at ar;have h:rE (ps.toList.map λp=>(p.1,aF p.2)):=Kr λv hv=>by
   simp only[List.mem_map]at hv;obtain⟨p,hp,rfl⟩:=hv;exact ar p.2 (by simp only[Op.operands,List.mem_map];grind)
  unfold bf;rw[ag];simp only;split
  ·refine aq.cA.cw λ_=>aq.cA.bind λ_=>.hN λb g=>λr V=>by grind
  ·exact .bI
 | indexAddr ty x i=>
  rw[ag]at ff;have h:=And.intro (ff x (by simp[Op.operands])) (ff i (by simp[Op.operands]));unfold bf;rw[ag];simp only;split
  ·exact aq.cA.cw λ_=>.bz h
  ·split
   ·split
    ·exact .bz h
    ·exact .bI
   ·intro z r V;grind
   ·exact .bI
  ·exact .bI
 | index ty x i=>
  rw[ag]at ff;have h:=And.intro (ff x (by simp[Op.operands])) (ff i (by simp[Op.operands]));unfold bf;rw[ag];simp only;split
  ·exact .bz h
  ·split
   ·split
    ·exact .bz h
    ·exact .bI
   ·split
    ·exact .bz h
    ·exact .bI
   ·exact .bI
  ·exact .bI
 | convert a b x=>
  rw[ag]at ff;unfold bf;rw[ag];simp only;split
  ·exact .bz (ff x (by simp[Op.operands]))
  ·exact aq.cA.cw λ_=>.bz (ff x (by simp[Op.operands]))
  ·exact .bI
 | makeFunc fn first cF=>
  rw[ag]at ar;have h:js (cF.toList.map aF):=B9 λv hv=>by
   simp only[List.mem_map]at hv;obtain⟨p,hp,rfl⟩:=hv;exact ar p (by simp[Op.operands];simp_all)
  have h2:js (first.toList.map aF):=B9 λv hv=>by
   simp only[List.mem_map]at hv;obtain⟨p,hp,rfl⟩:=hv;exact ar p (by simp[Op.operands];simp_all)
  unfold bf;rw[ag];simp only;split
  ·split
   ·split
    ·exact aq.cA.cw λ_=>aq.cA.bind λ_=>.mA h
    ·split
     ·exact aq.cA.cw λ_=>aq.cA.bind λ_=>.mA h
     ·exact .bz h
   ·split
    ·exact .bz h2
    ·exact .bI
  ·exact .bI
 | slice ty x lo G oP=>
  rw[ag]at ar ff;unfold bf;rw[ag];simp only;split
  ·unfold EW;simp only;split
   ·rename_i ol l qz h uH m ai cz an;have aY:=And.intro (ff x (by simp[Op.operands])) (And.intro (B_ ai λy aM=>ar y (by subst aM;simp[Op.operands])) (And.intro (B_ cz λy aM=>ar y (by subst aM;simp[Op.operands])) (B_ an λy aM=>ar y (by subst aM;simp[Op.operands]))));split
    ·exact aq.cA.cw λ_=>.mA aY
    ·exact .bI
   ·exact .bI
  ·unfold EV;simp only;split
   ·rename_i ol l qz h ai cz;have aY:=And.intro (ff x (by simp[Op.operands])) (And.intro (B_ ai λy aM=>ar y (by subst aM;simp[Op.operands])) (B_ cz λy aM=>ar y (by subst aM;simp[Op.operands])));split
    ·exact aq.cA.cw λ_=>.mA aY
    ·split
     ·exact .bz aY
     ·exact .bI
    ·exact .bI
   ·exact .bI
 | call c=>
  rw[ag]at ar ff;obtain⟨callee,args,cU⟩:=c;have dA:∀ x∈args.toList,(use (aF x)).1:=λx hx=>ar x (by simp[Op.operands,Call.operands];simp_all);have o0:∀ x∈args.toList,(use (aF x)).1:=dA;have fj:js (args.toList.map aF):=B9 λv hv=>by
   grind
  unfold bf;rw[ag];simp only;unfold mq;simp only;split
  ·split
   ·unfold Bz;split
    ·rename_i x t e1 e2;exact aq.cA.cw λ_=>.bz (o0 x (by grind))
    ·exact .bI
   ·split
    ·unfold BE;split
     ·rename_i x y t u e1 e2;have h:=And.intro (o0 x (by grind)) (o0 y (by grind));split
      ·simp only;refine aq.cA.cw λ_=>λz=>?_;intro r V;grind
      ·exact .bI
     ·exact .bI
    unfold BA;split
    ·rename_i x y t u e1 e2;have h:=And.intro (o0 x (by grind)) (o0 y (by grind));split
     ·simp only;unfold JC;split
      ·intro z;dsimp only;split
       ·split
        ·exact aq.cA.cw λ_=>.mA h
        ·exact .bI
       ·exact .bI
      ·intro z;dsimp only;split
       ·split
        ·exact aq.cA.cw λ_=>.mA h
        ·exact .bI
       ·exact .bI
      ·exact aq.cA.cw λ_=>.hN λb g=>λr V=>by grind
      ·split
       ·exact aq.cA.cw λ_=>.hN λb g=>λr V=>by grind
       ·exact .bI
      ·exact .bI
     ·exact .bI
    ·exact .bI
   ·unfold BF;split
    ·rename_i x t e1 e2;have h:=o0 x (by grind);split
     ·simp only;split
      ·intro z;intro r V;grind
      ·exact .bI
     ·exact .bI
    ·exact .bI
   ·unfold EZ;split
    ·rename_i x y t u e1 e2;have h:=And.intro (o0 x (by grind)) (o0 y (by grind));split
     ·simp only;split
      ·refine aq.cA.cw λ_=>λz=>?_;intro r V;grind
      ·exact .bI
     ·exact .bI
    ·exact .bI
   ·unfold rF;split
    ·rename_i x y l e1;split
     ·split
      ·rename_i ai;exact .bz ⟨o0 x (by grind),Kp (y::l) (λp hp=>o0 p (by rw[e1];exact List.mem_cons_of_mem _ hp)) ai⟩
      ·exact .bI
     ·exact .bI
    ·exact .bI
   ·unfold rF;split
    ·rename_i x y l e1;split
     ·split
      ·rename_i ai;exact .bz ⟨o0 x (by grind),Kp (y::l) (λp hp=>o0 p (by rw[e1];exact List.mem_cons_of_mem _ hp)) ai⟩
      ·exact .bI
     ·exact .bI
    ·exact .bI
   ·unfold BB;split
    ·rename_i x t e1 e2;have h:=o0 x (by grind);split
     ·rename_i e3;exact .bz (by grind)
     ·exact .bI
    ·exact .bI
   ·exact .bI
  ·split
   ·unfold EX;simp only;split
    ·refine aq.cA.cw λ_=>?_;split
     ·refine aq.cA.bind λ_=>.hN λb g=>λr V=>?_;split at V
      ·cases V
      ·cases V;exact fj
     ·exact aq.cA.bind λ_=>.mA fj
    ·exact .bI
   ·exact .bI
  ·exact .bI
 | makeMap ty r=>
  unfold bf;rw[ag];simp only;split
  ·exact .bI
  ·split
   ·exact .hN λb g=>λr V=>by grind
   ·exact .bI
 | lookup ty m x ok=>
  rw[ag]at ff;have h:=And.intro (ff m (by simp[Op.operands])) (ff x (by simp[Op.operands]));unfold bf;rw[ag];simp only;unfold yN;split
  ·simp only;split
   ·exact aq.cA.cw λ_=>aq.cA.cw λ_=>.bz h
   ·exact .bI
  ·exact .bI
 | mapUpdate ty m x y=>
  rw[ag]at ff;unfold bf;rw[ag];exact Kq λ_=>⟨ff m (by simp[Op.operands]),ff x (by simp[Op.operands]),ff y (by simp[Op.operands])⟩
 | insert ty m x y=>
  rw[ag]at ff;unfold bf;rw[ag];exact Kq λ_=>⟨ff m (by simp[Op.operands]),ff x (by simp[Op.operands]),ff y (by simp[Op.operands])⟩
 | makeSlice ty l c=>
  rw[ag]at ff;have h:=And.intro (ff l (by simp[Op.operands])) (ff c (by simp[Op.operands]));unfold bf;rw[ag];simp only;unfold EY;split
  ·simp only;split
   ·exact .hN λb g=>λr V=>by grind
   ·exact .bI
  ·exact .bI
 | makeInterface t x=>unfold bf;rw[ag];exact .bz trivial
 | panic x=>unfold bf;rw[ag];exact .bz trivial
 | _=>unfold bf;rw[ag];exact .bI
theorem RX(hc:rS aF o=true):(bf U T a1 aF o).cA (kX λr=>r.bR):=RW (Ks hc)
end
end Go.Fer
namespace Go.Fer
open Go.RowKit
theorem Kt{aF ja:Operand->aD}{k:IntKind}:∀ (l:List Operand),(∀ x∈l,aF x=ja x)->mo aF k l=mo ja k l
 | [],_=>rfl
 | [x],h=>by simp only[mo,h x (by simp)]
 | x::y::l,h=>by simp only[mo,h x (by simp),Kt (y::l) λz a_=>h z (List.mem_cons_of_mem _ a_)]
section
variable {U:dh} {T:Nat->ae} {a1:Nat->Option aJ} {aF ja:Operand->aD} {o:Oper}
theorem Ku{x:Option Operand}(h:∀ y,x=some y->aF y=ja y):kQ aF x=kQ ja x:=by
 cases x with
 | none=>rfl
 | some y=>have:=h y rfl;unfold kQ;grind
theorem ad6(h:∀ x∈o.op.operands.toList,aF x=ja x):bf U T a1 aF o=bf U T a1 ja o:=by
 cases ag:o.op with
 | move x=>rw[ag]at h;have h1:=h x (by simp[Op.operands]);unfold bf;simp_all
 | assign x=>rw[ag]at h;have h1:=h x (by simp[Op.operands]);unfold bf;simp_all
 | pick c a b=>
  rw[ag]at h;have h1:=h c (by simp[Op.operands]);have h2:=h a (by simp[Op.operands]);have h3:=h b (by simp[Op.operands]);unfold bf;simp_all
 | binOp op ty x y t=>
  rw[ag]at h;have h1:=h x (by simp[Op.operands]);have h2:=h y (by simp[Op.operands]);unfold bf;simp_all
 | unOp op t x=>rw[ag]at h;have h1:=h x (by simp[Op.operands]);unfold bf;simp_all
 | extract x i=>rw[ag]at h;have h1:=h x (by simp[Op.operands]);unfold bf;simp_all
 | nilCheck x=>rw[ag]at h;have h1:=h x (by simp[Op.operands]);unfold bf;simp_all
 | fieldAddr ty x f=>rw[ag]at h;have h1:=h x (by simp[Op.operands]);unfold bf;simp_all
 | field ty x f=>rw[ag]at h;have h1:=h x (by simp[Op.operands]);unfold bf;simp_all
 | load ty x=>rw[ag]at h;have h1:=h x (by simp[Op.operands]);unfold bf;simp_all
 | store ty x y=>
  rw[ag]at h;have h1:=h x (by simp[Op.operands]);have h2:=h y (by simp[Op.operands]);unfold bf;simp_all
 | alloc ty=>unfold bf;rw[ag]
 | box ty x=>rw[ag]at h;have h1:=h x (by simp[Op.operands]);unfold bf;simp_all
 | build ty ps=>
  rw[ag]at h;have h1:ps.toList.map (λp=>(p.1,aF p.2))=ps.toList.map (λp=>(p.1,ja p.2)):=List.map_congr_left λp hp=>by rw[h p.2 (by simp only[Op.operands,List.mem_map];grind)]
  unfold bf;rw[ag];simp only[h1]
 | buildSlice ty n ps=>
  rw[ag]at h;have h1:ps.toList.map (λp=>(p.1,aF p.2))=ps.toList.map (λp=>(p.1,ja p.2)):=List.map_congr_left λp hp=>by rw[h p.2 (by simp only[Op.operands,List.mem_map];grind)]
  unfold bf;rw[ag];simp only[h1]
 | indexAddr ty x i=>
  rw[ag]at h;have h1:=h x (by simp[Op.operands]);have h2:=h i (by simp[Op.operands]);unfold bf;simp_all
 | index ty x i=>
  rw[ag]at h;have h1:=h x (by simp[Op.operands]);have h2:=h i (by simp[Op.operands]);unfold bf;simp_all
 | convert a b x=>rw[ag]at h;have h1:=h x (by simp[Op.operands]);unfold bf;simp_all
 | makeFunc fn first cF=>
  rw[ag]at h;have h1:cF.toList.map aF=cF.toList.map ja:=List.map_congr_left λp hp=>h p (by simp[Op.operands];simp_all);have h2:first.toList.map aF=first.toList.map ja:=List.map_congr_left λp hp=>h p (by simp[Op.operands];simp_all)
  unfold bf;rw[ag];simp only[h1,h2]
 | lookup ty m x ok=>
  rw[ag]at h;have h1:=h m (by simp[Op.operands]);have h2:=h x (by simp[Op.operands]);unfold bf;rw[ag];simp only[yN,h1,h2]
 | mapUpdate ty m x y=>
  rw[ag]at h;have h1:=h m (by simp[Op.operands]);have h2:=h x (by simp[Op.operands]);have h3:=h y (by simp[Op.operands]);unfold bf;rw[ag];simp only[qA,h1,h2,h3]
 | insert ty m x y=>
  rw[ag]at h;have h1:=h m (by simp[Op.operands]);have h2:=h x (by simp[Op.operands]);have h3:=h y (by simp[Op.operands]);unfold bf;rw[ag];simp only[qA,h1,h2,h3]
 | makeSlice ty l c=>
  rw[ag]at h;have h1:=h l (by simp[Op.operands]);have h2:=h c (by simp[Op.operands]);unfold bf;rw[ag];simp only[EY,h1,h2]
 | slice ty x lo G oP=>
  rw[ag]at h;have h1:=h x (by simp[Op.operands]);have h2:kQ aF lo=kQ ja lo:=Ku λy aM=>h y (by subst aM;simp[Op.operands]);have h3:kQ aF G=kQ ja G:=Ku λy aM=>h y (by subst aM;simp[Op.operands]);have aR:kQ aF oP=kQ ja oP:=Ku λy aM=>h y (by subst aM;simp[Op.operands]);unfold bf;rw[ag];simp only[EV,EW,h1,h2,h3,aR]
 | call c=>
  rw[ag]at h;obtain⟨callee,args,cU⟩:=c;have dA:∀ x∈args.toList,aF x=ja x:=λx hx=>h x (by simp[Op.operands,Call.operands];simp_all);have ai:args.toList.map aF=args.toList.map ja:=List.map_congr_left dA;unfold bf;rw[ag];simp only;unfold mq;simp only;split
  ·split
   ·unfold Bz;grind
   ·have qL:wD aF args.toList=wD ja args.toList:=by
     unfold wD;grind
    rw[qL];split
    ·unfold BE;split
     ·rename_i x y t u e1 e2;rw[dA x (by simp[e1]),dA y (by simp[e1])]
     ·rfl
    ·unfold BA;grind
   ·unfold BF;split
    ·rename_i x t e1 e2;rw[dA x (by simp[e1])]
    ·rfl
   ·unfold EZ;split
    ·rename_i x y t u e1 e2;rw[dA x (by grind),dA y (by grind)]
    ·rfl
   ·unfold rF;split
    ·rename_i x y l e1;have ai:∀ k,mo aF k (y::l)=mo ja k (y::l):=λk=>Kt (y::l) λp hp=>dA p (by rw[e1];exact List.mem_cons_of_mem _ hp);simp only[dA x (by simp[e1]),ai]
    ·rfl
   ·unfold rF;split
    ·rename_i x y l e1;have ai:∀ k,mo aF k (y::l)=mo ja k (y::l):=λk=>Kt (y::l) λp hp=>dA p (by rw[e1];exact List.mem_cons_of_mem _ hp);simp only[dA x (by simp[e1]),ai]
    ·rfl
   ·unfold BB;grind
   ·rfl
  ·split
   ·unfold EX;simp only[ai]
   ·rfl
  ·rfl
 | _=>unfold bf;rw[ag]
end
end Go.Fer
namespace Go.Fer
open Go.RowKit
def Fq(want b:Bool):Bool:=match want with | true=>b | false=>!b
def kh(s:Nat->aD)(ops:Array Oper):Option (Nat×Bool)->Option (Option Bool)
 | none=>some none
 | some (j,want)=>match ops[j]? with
  | some o=>match o.dst with
   | some d=>match s d with
    | .val .bool b=>some (some (Fq want b))
    | .hd g (.val .bool b)=>some (some (g&&Fq want b))
    | _=>none
   | none=>none
  | none=>none
def Fs(ops:Array Oper):Option (Nat×Bool)->List Nat
 | none=>[]
 | some (j,_)=>match ops[j]? with
  | some o=>o.dst.toList
  | none=>[]
def ad7(l:List Operand):List Nat:=l.filterMap fun | .tmp t=>some t | _=>none
def B'(ops:Array Oper)(o:Oper):List Nat:=Fs ops o.guard++ad7 o.op.operands.toList
structure eo where
 cs:List Prop
 dst:Option Nat
 eJ:aD
 hg:List (Nat×bu)
 ki:List Nat
 tt:List Nat
def eo.hQ(r:eo)(s:ay):ay:=(s.fH r.hg).set r.dst r.eJ
def eo.ny(r:eo):List Nat:=r.dst.toList
def eo.mC(r:eo):List Nat:=r.hg.map (·.1)
def Ca(c_ q2:Bool)(bR c:Prop):List Prop:=(match c_ with | true=>[] | false=>[bR])++(match q2 with | true=>[] | false=>[c])
def uU(U:dh)(T:Nat->ae)(a1:Nat->Option aJ)(ops:Array Oper)(s:ay)(o:Oper):Option eo:=
 match kh s.aw ops o.guard with
 | none=>none
 | some g=>match (bf U T a1 (aT U s.aw) o).run s.ad with
  | none=>none
  | some res=>match g with
   | none=>some ⟨Ca (rS (aT U s.aw) o) (mB (aT U s.aw) o) res.bR res.c,o.dst,res.eJ,res.hg,B' ops o,(bf U T a1 (aT U s.aw) o).looks s.ad⟩
   | some b=>match res.hg with
    | []=>some ⟨Ca (rS (aT U s.aw) o&&(mB (aT U s.aw) o&&!res.eJ.zb)) true (b=true->res.bR/\(res.c/\(use res.eJ).1)) True,o.dst,.hd b (use res.eJ).2,[],B' ops o,(bf U T a1 (aT U s.aw) o).looks s.ad⟩
    | _=>none
def wV(U:dh)(T:Nat->ae)(a1:Nat->Option aJ)(ops:Array Oper):List Oper->ay->Option (List eo×ay)
 | [],s=>some ([],s)
 | o::os,s=>match uU U T a1 ops s o with
  | none=>none
  | some r=>match wV U T a1 ops os (r.hQ s) with
   | none=>none
   | some (l,s')=>some (r::l,s')
def Cb(a b:List Nat):Bool:=a.all λx=>!b.contains x
def eo.apart(a b:eo):Bool:=Cb a.ny (b.ki++b.ny)&&Cb a.ki b.ny&&Cb a.mC (b.tt++b.mC)&&Cb a.tt b.mC
def hR(o:Oper):List Nat:=o.after.toList.filterMap λe=>if Region.binds .any e then some e.on else none
def Cc(acc:List Nat):List Nat->List Nat
 | []=>acc
 | x::l=>match acc.contains x with | true=>Cc acc l | false=>Cc (x::acc) l
theorem Kv{x:Nat}:∀ {l acc:List Nat},x∈Cc acc l->x∈acc\/x∈l
 | [],acc,h=>.inl h
 | y::l,acc,h=>by
  unfold Cc at h;split at h
  ·exact (Kv h).imp_right (List.mem_cons_of_mem _)
  ·rcases Kv h with h | h
   ·rcases List.mem_cons.1 h with h | h
    ·exact .inr (h ▸ List.mem_cons_self)
    ·exact .inl h
   ·exact .inr (List.mem_cons_of_mem _ h)
def zd(acc:List (List Nat))(o:Oper):List (List Nat):=acc++[Cc [] ((hR o).flatMap λj=>j::acc.getD j [])]
def h4(ops:List Oper):List (List Nat):=ops.foldl zd []
def ad8(cl:List (List Nat))(l:List eo):Bool:=
 (List.range l.length).all λj=>(List.range j).all λi=>match l[i]?,l[j]? with
  | some a,some b=>(cl.getD j []).contains i||a.apart b
  | _,_=>false
def Cd(ops:List Oper):Bool:=(List.range ops.length).all λj=>match ops[j]? with
 | some o=>(hR o).all λi=>decide (i<j)
 | none=>false
def ze(ops:List Oper)(l:List eo):Bool:=Cd ops&&ad8 (h4 ops) l
def wW(R:List Nat)(s s':ay):Prop:=∀ t∈R,s.aw t=s'.aw t
def wX(B:List Nat)(s s':ay):Prop:=∀ b∈B,s.ad b=s'.ad b
theorem Ft{a b:List Nat}(h:Cb a b=true){x:Nat}(hx:x∈a):x ∉ b:=by
 have:=List.all_eq_true.1 h x hx;grind
theorem zf(s:ay):∀ (l:List (Nat×bu)),(s.fH l).aw=s.aw:=by
 intro l;induction l generalizing s with
 | nil=>rfl
 | cons p l aG=>simp only[ay.fH];rw[aG];rfl
theorem Kw{b:Nat}:∀ (l:List (Nat×bu)) (s:ay),b ∉ l.map (·.1)->(s.fH l).ad b=s.ad b:=by
 intro l;induction l with
 | nil=>intro s _;rfl
 | cons p l aG=>
  intro s h;simp only[List.map_cons,List.mem_cons,not_or]at h;simp only[ay.fH];rw[aG _ h.2];simp[ay.b',h.1]
theorem Kx{b:Nat}:∀ (l:List (Nat×bu)) (s s':ay),b∈l.map (·.1)->(s.fH l).ad b=(s'.fH l).ad b:=by
 intro l;induction l with
 | nil=>simp
 | cons p l aG=>
  intro s s' h;simp only[ay.fH];by_cases ab:b∈l.map (·.1)
  ·grind
  ·rw[Kw l _ ab,Kw l _ ab];have:b=p.1:=by grind
   simp[ay.b',this]
theorem ad9(s:ay)(d:Option Nat)(v:aD):(s.set d v).ad=s.ad:=by cases d<;>rfl
theorem Fu(r:eo)(s:ay)(t:Nat):(r.hQ s).aw t=if t∈r.ny then r.eJ else s.aw t:=by
 unfold eo.hQ eo.ny;cases h:r.dst with
 | none=>simp[ay.set,zf]
 | some d=>simp[ay.set,zf,eq_comm]
theorem wY(r:eo)(s:ay)(b:Nat):(r.hQ s).ad b=(s.fH r.hg).ad b:=by unfold eo.hQ;rw[ad9]
theorem RY{r:eo}{s:ay}{t:Nat}(h:t ∉ r.ny):(r.hQ s).aw t=s.aw t:=by rw[Fu,if_neg h]
theorem tu{r:eo}{s:ay}{b:Nat}(h:b ∉ r.mC):(r.hQ s).ad b=s.ad b:=by rw[wY];exact Kw _ _ h
theorem ay.ext'{s s':ay}(h1:∀ t,s.aw t=s'.aw t)(h2:∀ b,s.ad b=s'.ad b):s=s':=by
 obtain⟨a,b⟩:=s;obtain⟨a',aZ⟩:=s';rw[show a=a' from funext h1,show b=aZ from funext h2]
theorem ad_{a b:eo}(h1:∀ t∈a.ny,t ∉ b.ny)(h2:∀ x∈a.mC,x ∉ b.mC)(s:ay):a.hQ (b.hQ s)=b.hQ (a.hQ s):=by
 apply ay.ext'
 ·intro t;simp only[Fu];grind
 ·intro x;by_cases aU:x∈a.mC
  ·have ab:=h2 x aU;rw[tu ab,wY,wY];exact Kx _ _ _ aU
  ·rw[tu aU];by_cases ab:x∈b.mC
   ·rw[wY,wY];exact Kx _ _ _ ab
   ·rw[tu ab,tu ab,tu aU]
def jx(l:List eo)(s:ay):ay:=l.foldl (λs r=>r.hQ s) s
theorem ad'{R B:List Nat}:∀ (l:List eo) (s:ay),(∀ r∈l,(∀ t∈R,t ∉ r.ny)/\∀ b∈B,b ∉ r.mC)->wW R (jx l s) s/\wX B (jx l s) s:=by
 intro l;induction l with
 | nil=>intro s _;exact⟨λ_ _=>rfl,λ_ _=>rfl⟩
 | cons r l aG=>
  intro s h;obtain⟨h1,h2⟩:=aG (r.hQ s) λpM aX=>h pM (List.mem_cons_of_mem _ aX);have V:=h r (List.mem_cons_self);exact⟨λt aH=>(h1 t aH).trans (RY (V.1 t aH)),λb ab=>(h2 b ab).trans (tu (V.2 b ab))⟩
theorem aea{R B:List Nat}{r:eo}{s s':ay}(h1:wW R s s')(h2:wX B s s'):wW R (r.hQ s) (r.hQ s')/\wX B (r.hQ s) (r.hQ s'):=by
 refine⟨λt aH=>?_,λb ab=>?_⟩
 ·rw[Fu,Fu];split
  ·rfl
  ·exact h1 t aH
 ·by_cases hw:b∈r.mC
  ·rw[wY,wY];exact Kx _ _ _ hw
  ·rw[tu hw,tu hw];exact h2 b ab
theorem aeb{R B:List Nat}(p:Nat×eo->Bool):∀ (l:List (Nat×eo)) (s s':ay),wW R s s'->wX B s s'->(∀ r∈l,p r=false->(∀ t∈R,t ∉ r.2.ny)/\∀ b∈B,b ∉ r.2.mC)->
  wW R (jx ((l.filter p).map (·.2)) s) (jx (l.map (·.2)) s')/\wX B (jx ((l.filter p).map (·.2)) s) (jx (l.map (·.2)) s'):=by
 intro l;induction l with
 | nil=>intro s s' h1 h2 _;exact⟨h1,h2⟩
 | cons r l aG=>
  intro s s' h1 h2 h;have ai:=λpM aX=>h pM (List.mem_cons_of_mem _ aX);cases hp:p r with
  | true=>
   rw[List.filter_cons_of_pos hp];obtain⟨aO,aP⟩:=aea (r:=r.2) h1 h2;exact aG _ _ aO aP ai
  | false=>
   rw[List.filter_cons_of_neg (by grind)];have V:=h r (List.mem_cons_self) hp;exact aG _ _ (λt aH=>(h1 t aH).trans (RY (V.1 t aH)).symm) (λb ab=>(h2 b ab).trans (tu (V.2 b ab)).symm) ai
theorem aec{r:eo}:∀ (l:List eo) (s:ay),(∀ x∈l,(∀ t∈r.ny,t ∉ x.ny)/\∀ b∈r.mC,b ∉ x.mC)->jx l (r.hQ s)=r.hQ (jx l s):=by
 intro l;induction l with
 | nil=>intro s _;rfl
 | cons x l aG=>
  intro s h;have hx:=h x (List.mem_cons_self);show jx l (x.hQ (r.hQ s))=r.hQ (jx l (x.hQ s));rw[<-ad_ hx.1 hx.2 s];grind
def il:Nat->List eo->List (Nat×eo)
 | _,[]=>[]
 | n,r::l=>(n,r)::il (n+1) l
theorem RZ:∀ (l m:List eo) (n:Nat),il n (l++m)=il n l++il (n+l.length) m
 | [],m,n=>by rfl
 | r::l,m,n=>by simp only[List.cons_append,il,RZ l m (n+1),List.length_cons];grind
theorem Ce:∀ (l:List eo) (n:Nat),(il n l).map (·.2)=l
 | [],_=>rfl
 | r::l,n=>by simp only[il,List.map_cons,Ce l (n+1)]
theorem zg:∀ {l:List eo} {n j:Nat} {x:eo},(j,x)∈il n l->n<=j/\l[j - n]?=some x
 | r::l,n,j,x,h=>by
  simp only[il,List.mem_cons,Prod.mk.injEq]at h;rcases h with⟨rfl,rfl⟩ | h
  ·simp
  ·obtain⟨h1,h2⟩:=zg h;grind
 | [],_,_,_,h=>by cases h
def jb(l:List eo)(s:ay)(f:Nat->Bool):ay:=jx (((il 0 l).filter λp=>f p.1).map (·.2)) s
theorem R0(l m:List eo)(s:ay):jx (l++m) s=jx m (jx l s):=by simp[jx]
theorem Ky{a b:eo}(h:a.apart b=true):(∀ t∈a.ny,t ∉ b.ki/\t ∉ b.ny)/\(∀ t∈a.ki,t ∉ b.ny)/\(∀ x∈a.mC,x ∉ b.tt/\x ∉ b.mC)/\∀ x∈a.tt,x ∉ b.mC:=by
 simp only[eo.apart,Bool.and_eq_true]at h;obtain⟨⟨⟨h1,h2⟩,h3⟩,aR⟩:=h;refine⟨λt aH=>?_,λt aH=>Ft h2 aH,λx hx=>?_,λx hx=>Ft aR hx⟩
 ·have:=Ft h1 aH;grind
 ·have:=Ft h3 hx;grind
theorem R1{l:List eo}{s:ay}{f:Nat->Bool}{i:Nat}{r:eo}(G:l[i]?=some r)(ar:f i=false)
  (gm:∀ j x,j<i->l[j]?=some x->f j=false->x.apart r=true) (tv:∀ j x,i<j->l[j]?=some x->f j=true->r.apart x=true) :
  wW r.ki (jb l s f) (jx (l.take i) s)/\wX r.tt (jb l s f) (jx (l.take i) s)/\jb l s (λj=>if j=i then true else f j)=r.hQ (jb l s f):=by
 obtain⟨bZ,eA⟩:=List.getElem?_eq_some_iff.1 G;have hlen:(l.take i).length=i:=by grind
 have R2:il 0 l=il 0 (l.take i)++(i,r)::il (i+1) (l.drop (i+1)):=by
  have h1:l=l.take i++r::l.drop (i+1):=by
   have:=List.take_append_drop i l;rw[List.drop_eq_getElem_cons bZ,eA]at this;grind
  have h2:=RZ (l.take i) (r::l.drop (i+1)) 0;rw[<-h1,hlen]at h2;simpa [il]using h2
 have aed:∀ p∈il 0 (l.take i),p.1<i/\l[p.1]?=some p.2:=by
  rintro⟨j,x⟩ hp;obtain⟨_,h2⟩:=zg hp;grind
 have awL:∀ p∈il (i+1) (l.drop (i+1)),i<p.1/\l[p.1]?=some p.2:=by
  rintro⟨j,x⟩ hp;obtain⟨h1,h2⟩:=zg hp;grind
 have R3:∀ x∈((il (i+1) (l.drop (i+1))).filter λp=>f p.1).map (·.2),r.apart x=true:=by
  grind
 have h5:jb l s f=jx (((il (i+1) (l.drop (i+1))).filter λp=>f p.1).map (·.2)) (jx (((il 0 (l.take i)).filter λp=>f p.1).map (·.2)) s):=by
  unfold jb;rw[R2,List.filter_append,List.filter_cons_of_neg (by grind),List.map_append,R0]
 have qL:=ad' (R:=r.ki) (B:=r.tt) (((il (i+1) (l.drop (i+1))).filter λp=>f p.1).map (·.2)) (jx (((il 0 (l.take i)).filter λp=>f p.1).map (·.2)) s)
  (λx hx=>by
   have:=Ky (R3 x hx);grind)
 have qM:=aeb (R:=r.ki) (B:=r.tt) (λp=>f p.1) (il 0 (l.take i)) s s (λ_ _=>rfl) (λ_ _=>rfl) (λp hp aee=>by
  obtain⟨h1,h2⟩:=aed p hp;have:=Ky (gm p.1 p.2 h1 h2 aee);grind)
 rw[Ce]at qM;refine⟨λt aH=>by rw[h5];exact (qL.1 t aH).trans (qM.1 t aH),λb ab=>by rw[h5];exact (qL.2 b ab).trans (qM.2 b ab),?_⟩;rw[h5];unfold jb;have e1:(il 0 (l.take i)).filter (λp=>if p.1=i then true else f p.1)=(il 0 (l.take i)).filter λp=>f p.1:=by
  apply List.filter_congr;grind
 have e2:(il (i+1) (l.drop (i+1))).filter (λp=>if p.1=i then true else f p.1)=(il (i+1) (l.drop (i+1))).filter λp=>f p.1:=by
  apply List.filter_congr;grind
 rw[R2,List.filter_append,List.filter_cons_of_pos (by simp),e1,e2,List.map_append,R0];show jx _ (r.hQ _)=_;refine aec _ _ λx hx=>?_;have:=Ky (R3 x hx);grind
theorem wZ{p:Nat->Prop}:∀ (ops:List Oper) (acc:List (List Nat)),(∀ j i,i∈acc.getD j []->p j->p i)->(∀ j o,ops[j]?=some o->∀ i∈hR o,p (acc.length+j)->p i)->
  ∀ j i,i∈(ops.foldl zd acc).getD j []->p j->p i:=by
 intro ops;induction ops with
 | nil=>simp
 | cons o ops aG=>
  intro acc h au;refine aG (zd acc o) (λj i G aC=>?_) λj hz j0 i G aC=>au (j+1) hz (by grind) i G (by
   have:(zd acc o).length=acc.length+1:=by simp[zd]
   grind)
  unfold zd at G;rw[List.getD_eq_getElem?_getD,List.getElem?_append]at G;split at G
  ·grind
  ·rename_i bZ;by_cases e:j=acc.length
   ·subst e;simp only[Nat.sub_self,List.getElem?_cons_zero,Option.getD_some]at G;have G:=(Kv G).resolve_left (by simp);simp only[List.mem_flatMap,List.mem_cons]at G;obtain⟨k,ao,G⟩:=G;have uV:=au 0 o (by simp) k ao (by omega);grind
   grind
theorem R4{U:dh}{T:Nat->ae}{a1:Nat->Option aJ}{ops:Array Oper}:∀ (os:List Oper) (s:ay) {l:List eo} {s':ay},wV U T a1 ops os s=some (l,s')->
  l.length=os.length/\s'=jx l s/\∀ i o,os[i]?=some o->∃ r,l[i]?=some r/\uU U T a1 ops (jx (l.take i) s) o=some r:=by
 intro os;induction os with
 | nil=>intro s l s' h;cases h;exact⟨rfl,rfl,λi o h=>by cases h⟩
 | cons o os aG=>
  intro s l s' h;simp only[wV]at h;split at h
  ·cases h
  ·rename_i r V;split at h
   ·cases h
   ·rename_i l' awM ai;cases h;obtain⟨h1,h2,h3⟩:=aG _ ai;refine⟨by grind,h2,λi hz j0=>?_⟩;cases i with
    | zero=>
     simp only[List.getElem?_cons_zero,Option.some.injEq]at j0;subst j0;exact⟨r,by simp,V⟩
    | succ i=>
     obtain⟨pM,aO,aP⟩:=h3 i hz (by grind);exact⟨pM,by grind,aP⟩
theorem Kz{ops:Array Oper}{f ih:Nat->aD}{g:Option (Nat×Bool)}(h:∀ t∈Fs ops g,f t=ih t):kh f ops g=kh ih ops g:=by
 unfold kh;cases g with
 | none=>rfl
 | some p=>
  obtain⟨j,want⟩:=p;simp only;cases aC:ops[j]? with
  | none=>rfl
  | some o=>
   simp only;cases au:o.dst with
   | none=>rfl
   | some d=>
    simp only;rw[h d (by simp[Fs,aC,au])]
theorem R5{U:dh}{T:Nat->ae}{a1:Nat->Option aJ}{ops:Array Oper}{s s':ay}{o:Oper}{r:eo}(h:uU U T a1 ops s o=some r)(h1:wW r.ki s' s)(h2:wX r.tt s' s):uU U T a1 ops s' o=some r:=by
 have R6:r.ki=B' ops o/\r.tt=(bf U T a1 (aT U s.aw) o).looks s.ad:=by
  unfold uU at h;grind
 rw[R6.1]at h1;rw[R6.2]at h2;have ky:∀ x∈o.op.operands.toList,aT U s'.aw x=aT U s.aw x:=by
  intro x hx;cases x with
  | tmp t=>
   refine h1 t ?_;simp only[B',List.mem_append];exact .inr (List.mem_filterMap.2 ⟨.tmp t,hx,rfl⟩)
  | _=>rfl
 have e1:kh s'.aw ops o.guard=kh s.aw ops o.guard:=Kz λt aH=>h1 t (by simp[B',aH]);have e2:bf U T a1 (aT U s'.aw) o=bf U T a1 (aT U s.aw) o:=ad6 ky;have e3:=aq.QH (H:=s.ad) (H':=s'.ad) (bf U T a1 (aT U s.aw) o) h2;have e4:rS (aT U s'.aw) o=rS (aT U s.aw) o:=by
  unfold rS;grind
 have dB:mB (aT U s'.aw) o=mB (aT U s.aw) o:=by
  unfold mB;cases ag:o.op with
  | binOp op ty x y t=>
   rw[ag]at ky;simp only;rw[ky x (by simp[Op.operands])]
  | load ty x=>rw[ag]at ky;simp only;rw[ky x (by simp[Op.operands])]
  | store ty x y=>rw[ag]at ky;simp only;rw[ky x (by simp[Op.operands])]
  | call c=>
   obtain⟨callee,args,cU⟩:=c;rw[ag]at ky;cases callee with
   | builtin b=>
    have cz:∀ x∈args.toList,aT U s'.aw x=aT U s.aw x:=λx hx=>ky x (by simp[Op.operands,Call.operands];simp_all);simp only;unfold Fp;grind
   | _=>rfl
  | _=>rfl
 unfold uU at h ⊢;simp_all
universe u
def M.fail{β:Type}:M β:=⟨False,λ_=>False⟩
inductive bH where
 | undef
 | val (t:ae)
 | dy (t:ae)
 | loc (b off:Nat)
 | own (b:Nat)
 | sub (b:Nat)
 | fk (b:Nat)
 | jP (b:Nat)
 | cR
 | h' (k:FuncId) (fC:z8')
 | tr (aI:ae)
 | gK
 | hi (bs:List Nat)
 | iE (b:Nat)
 deriving DecidableEq
inductive bN where
 | cells (t:ae) (l:List bH)
 | a7 (e:ae)
 | hf (e:ae)
 | mp (k v:ae)
 | iU (k v:ae)
 | fI (t:ae)
 | gi (t:ae)
 | b5 (k v:ae)
 | fN (e:ae) (t:bH)
def bH.cons(t:bH)(R:Type):Type:=
 match t with
 | .val t=>t.ah×R
 | .dy t=>t.ah×R
 | .sub _=>(Nat×Nat)×R
 | .tr aI=>(Nat×(List aI.ah->Prop)×List aI.ah×Bool)×R
 | .gK=>Nat×R
 | .iE _=>Nat×R
 | _=>R
def pZ:List bH->Type->Type
 | [],R=>R
 | t::l,R=>t.cons (pZ l R)
def bN.cons(t:bN)(R:Type):Type:=
 match t with
 | .cells _ l=>pZ l R
 | .a7 e=>List e.ah×R
 | .hf e=>List e.ah×R
 | .mp k v=>List (k.ah×v.ah)×R
 | .iU k v=>List (k.ah×v.ah)×R
 | .fI t=>t.ah×R
 | .gi t=>t.ah×R
 | .b5 k v=>(Option (k.ah×v.ah)×List (k.ah×v.ah))×R
 | .fN e t=>(List e.ah×Nat)×t.cons R
def bN.Cf:bN->Bool
 | .cells _ _ | .a7 _ | .mp _ _ | .fI _ | .b5 _ _ | .fN _ _=>true
 | _=>false
def bN.Fv(t u:bN):Bool:=
 match t,u with
 | .cells _ _,.cells _ _ | .cells _ _,.fI _ | .fI _,.cells _ _ | .fI _,.fI _ | .gi _,.cells _ _ | .gi _,.fI _=>true
 | .mp _ _,.mp _ _ | .iU _ _,.mp _ _=>true
 | .a7 e,.a7 aS=>decide (e=aS)
 | .hf _,.a7 _=>true
 | _,_=>false
structure dj where
 bE:List (Nat×bH)
 bn:List (Nat×bN)
def o2:List (Nat×bN)->Type
 | []=>Unit
 | p::l=>p.2.cons (o2 l)
def n7:List (Nat×bH)->Type->Type
 | [],R=>R
 | p::l,R=>p.2.cons (n7 l R)
def dj.ah(sh:dj):Type:=n7 sh.bE (o2 sh.bn)
def uW(g:Nat->Nat×Nat)(fC:z8'):Nat->aD:=gM (fC.map λp=>.loc (g p.1).1 (g p.1).2 p.2)
def uX(g:Nat->Nat×Nat)(bs:List Nat):Nat->aD:=gM (bs.map λb=>.own (g b).1 (g b).2)
def bH.av(g:Nat->Nat×Nat)(t:bH){R:Type}(x:t.cons R):aD×R:=
 match t,x with
 | .undef,x=>(.undef,x)
 | .val t,x=>(.val t x.1,x.2)
 | .dy t,x=>(.dy t x.1,x.2)
 | .loc b off,x=>(.loc (g b).1 (g b).2 off,x)
 | .own b,x=>(.own (g b).1 (g b).2,x)
 | .sub b,x=>(.sub (g b).1 (g b).2 x.1.1 x.1.2,x.2)
 | .fk b,x=>(.fk (g b).1 (g b).2,x)
 | .jP b,x=>(.jP (g b).1 (g b).2,x)
 | .cR,x=>(.cR,x)
 | .h' k fC,x=>(.h' k fC.length (uW g fC),x)
 | .tr aI,x=>(.tr x.1.1 aI x.1.2.1 x.1.2.2.1 x.1.2.2.2,x.2)
 | .gK,x=>(.gK x.1,x.2)
 | .hi bs,x=>(.agg bs.length (uX g bs),x)
 | .iE b,x=>(.iE (g b).1 (g b).2 x.1,x.2)
def o3(g:Nat->Nat×Nat):(l:List bH)->{R:Type}->pZ l R->List aD×R
 | [],_,x=>([],x)
 | t::l,_,x=>let (a,y):=t.av g x;let (as,z):=o3 g l y;(a::as,z)
def bN.body(g:Nat->Nat×Nat)(t:bN){R:Type}(x:t.cons R):bB×R:=
 match t,x with
 | .cells t l,x=>let (as,y):=o3 g l x;(.cells t (gM as),y)
 | .a7 e,x=>(.a7 e x.1,x.2)
 | .hf e,x=>(.hf e x.1,x.2)
 | .mp k v,x=>(.mp k v x.1,x.2)
 | .iU k v,x=>(.iU k v x.1,x.2)
 | .fI t,x=>(.cells t (gM (nl t x.1)),x.2)
 | .gi t,x=>(.gi t x.1,x.2)
 | .b5 k v,x=>(.b5 k v x.1.1 x.1.2,x.2)
 | .fN e t,x=>let (a,y):=t.av g x.2;(.fN e x.1.1 x.1.2 a,y)
def d_(g:Nat->Nat×Nat):(l:List (Nat×bH))->{R:Type}->n7 l R->List (Nat×aD)×R
 | [],_,x=>([],x)
 | p::l,_,x=>let (a,y):=p.2.av g x;let (as,z):=d_ g l y;((p.1,a)::as,z)
def gP(g:Nat->Nat×Nat):(l:List (Nat×bN))->o2 l->List (Nat×bB)
 | [],_=>[]
 | p::l,x=>let (a,y):=p.2.body g x;(p.1,a)::gP g l y
def e5:List (Nat×aD)->Nat->aD
 | [],_=>.undef
 | p::l,i=>if i=p.1 then p.2 else e5 l i
def et:List (Nat×bB)->Nat->bu
 | [],_=>⟨0,.fb⟩
 | p::l,i=>if i=p.1 then ⟨0,p.2⟩ else et l i
def R7(aef:List (Nat×aD))(bs:List (Nat×bB)):ay:=⟨e5 aef,et bs⟩
def cJ(b:Nat):Nat×Nat:=(b,0)
def dj.st(sh:dj)(A:sh.ah):ay:=
 R7 (d_ cJ sh.bE A).1 (gP cJ sh.bn (d_ cJ sh.bE A).2)
def w1(H:Nat->bu)(t:ae)(av:aD){R:Type}(r:Option (R×List Nat)):Option ((t.ah×R)×List Nat):=
 match (dc t av).run H with
 | some (x,l)=>match r with
  | some (y,m)=>some ((x,y),l++m)
  | none=>none
 | none=>none
def KA(t:ae)(av:aD){R:Type}(r:Option (R×List Nat)):Option ((t.ah×R)×List Nat):=
 match av with
 | .dy cC x=>match r with
  | some (y,m)=>if h:cC=t then some ((h ▸ x,y),m) else none
  | none=>none
 | _=>none
def KB(H:Nat->bu)(b:Nat)(av:aD){R:Type}(r:Option (R×List Nat)):Option (((Nat×Nat)×R)×List Nat):=
 match r with
 | some (y,m)=>match av with
  | .own aZ g=>if (aZ == b&&g == (H b).gen&&(H b).body.eR)=true then some (((0,(H b).body.len),y),m) else none
  | .sub aZ g lo G=>if (aZ == b&&g == (H b).gen)=true then some (((lo,G),y),m) else none
  | _=>none
 | none=>none
def KC(aI:ae)(av:aD){R:Type}(r:Option (R×List Nat)):Option (((Nat×(List aI.ah->Prop)×List aI.ah×Bool)×R)×List Nat):=
 match av with
 | .tr l kj L n st=>match r with
  | some (y,m)=>if h:kj=aI then some (((l,h ▸ L,h ▸ n,st),y),m) else none
  | none=>none
 | _=>none
def KD(av:aD){R:Type}(r:Option (R×List Nat)):Option ((Nat×R)×List Nat):=
 match av with
 | .gK l=>match r with
  | some (y,m)=>some ((l,y),m)
  | none=>none
 | _=>none
def KE(H:Nat->bu)(b:Nat)(av:aD){R:Type}(r:Option (R×List Nat)):Option ((Nat×R)×List Nat):=
 match av with
 | .iE aZ g i=>match r with
  | some (y,m)=>if (aZ == b&&g == (H b).gen)=true then some ((i,y),m) else none
  | none=>none
 | _=>none
def Fw(H:Nat->bu)(b off:Nat)(av:aD):Bool:=
 match av with
 | .loc aZ g aeg=>aZ == b&&aeg == off&&g == (H b).gen
 | _=>false
def Fx(H:Nat->bu)(b:Nat)(av:aD):Bool:=
 match av with
 | .own aZ g=>aZ == b&&g == (H b).gen
 | _=>false
def KF(H:Nat->bu)(b:Nat)(av:aD):Bool:=
 match av with
 | .fk aZ g=>aZ == b&&g == (H b).gen
 | _=>false
def KG(H:Nat->bu)(b:Nat)(av:aD):Bool:=
 match av with
 | .jP aZ g=>aZ == b&&g == (H b).gen
 | _=>false
def KH(av:aD):Bool:=
 match av with
 | .cR=>true
 | _=>false
def KI(H:Nat->bu)(f:Nat->Nat)(k:FuncId)(fC:z8')(av:aD):Bool:=
 match av with
 | .h' k' n cF=>k' == k&&n == fC.length&&(List.range n).all λi=>match fC[i]? with
  | some p=>Fw H (f p.1) p.2 (cF i)
  | none=>false
 | _=>false
def KJ(H:Nat->bu)(f:Nat->Nat)(bs:List Nat)(av:aD):Bool:=
 match av with
 | .agg n h=>n == bs.length&&(List.range n).all λi=>match bs[i]? with
  | some b=>Fx H (f b) (h i)
  | none=>false
 | _=>false
def uY{aj:Type}(b:Bool)(r:Option aj):Option aj:=match b with | true=>r | false=>none
def bH.iL(H:Nat->bu)(f:Nat->Nat)(t:bH)(av:aD){R:Type}(r:Option (R×List Nat)):Option (t.cons R×List Nat):=
 match t with
 | .undef=>r
 | .val t=>w1 H t av r
 | .dy t=>KA t av r
 | .loc b off=>uY (Fw H (f b) off av) r
 | .own b=>uY (Fx H (f b) av) r
 | .sub b=>KB H (f b) av r
 | .fk b=>uY (KF H (f b) av) r
 | .jP b=>uY (KG H (f b) av) r
 | .cR=>uY (KH av) r
 | .h' k fC=>uY (KI H f k fC av) r
 | .tr aI=>KC aI av r
 | .gK=>KD av r
 | .hi bs=>uY (KJ H f bs av) r
 | .iE b=>KE H (f b) av r
def zh(H:Nat->bu)(f:Nat->Nat):(l:List bH)->(Nat->aD)->Nat->{R:Type}->Option (R×List Nat)->Option (pZ l R×List Nat)
 | [],_,_,_,r=>r
 | t::l,c,i,_,r=>t.iL H f (c i) (zh H f l c (i+1) r)
def KK(H:Nat->bu)(f:Nat->Nat)(t:ae)(l:List bH)(b:bB){R:Type}(r:Option (R×List Nat)):Option (pZ l R×List Nat):=
 match b with
 | .cells cC c=>if cC=t/\t.size=l.length then zh H f l c 0 r else none
 | _=>none
def KL(e:ae)(b:bB){R:Type}(r:Option (R×List Nat)):Option ((List e.ah×R)×List Nat):=
 match b with
 | .a7 aS xs=>match r with
  | some (y,m)=>if h:aS=e then some ((h ▸ xs,y),m) else none
  | none=>none
 | _=>none
def KM(k v:ae)(b:bB){R:Type}(r:Option (R×List Nat)):Option ((List (k.ah×v.ah)×R)×List Nat):=
 match b with
 | .mp k' hM es=>match r with
  | some (y,m)=>if h:k'=k/\hM=v then some ((h.1 ▸ h.2 ▸ es,y),m) else none
  | none=>none
 | _=>none
def KN(k v:ae)(b:bB){R:Type}(r:Option (R×List Nat)):Option (((Option (k.ah×v.ah)×List (k.ah×v.ah))×R)×List Nat):=
 match b with
 | .b5 k' hM c es=>match r with
  | some (y,m)=>if h:k'=k/\hM=v then some (((h.1 ▸ h.2 ▸ c,h.1 ▸ h.2 ▸ es),y),m) else none
  | none=>none
 | _=>none
def KO(H:Nat->bu)(f:Nat->Nat)(e:ae)(t:bH)(b:bB){R:Type}(r:Option (R×List Nat)):Option (((List e.ah×Nat)×t.cons R)×List Nat):=
 match b with
 | .fN aS xs i v=>match t.iL H f v r with
  | some (y,m)=>if h:aS=e then some (((h ▸ xs,i),y),m) else none
  | none=>none
 | _=>none
def KP(H:Nat->bu)(t:ae)(b:bB){R:Type}(r:Option (R×List Nat)):Option ((t.ah×R)×List Nat):=
 match b with
 | .cells cC f=>if cC=t then w1 H t (.agg t.size f) r else none
 | _=>none
def KQ(H:Nat->bu)(t:ae)(b:Nat){R:Type}(r:Option (R×List Nat)):Option ((t.ah×R)×List Nat):=
 match (dc (.bq t) (.loc b (H b).gen 0)).run H with
 | some (some x,l)=>match r with
  | some (y,m)=>some ((x,y),l++m)
  | none=>none
 | _=>none
def bN.iL(H:Nat->bu)(f:Nat->Nat)(t:bN)(b:Nat){R:Type}(r:Option (R×List Nat)):Option (t.cons R×List Nat):=
 match t with
 | .cells t l=>KK H f t l (H b).body r
 | .a7 e=>KL e (H b).body r
 | .hf e=>w1 H (.slice e) (.own b (H b).gen) r
 | .mp k v=>KM k v (H b).body r
 | .iU k v=>w1 H (.map k v) (.fk b (H b).gen) r
 | .fI t=>KP H t (H b).body r
 | .gi t=>KQ H t b r
 | .b5 k v=>KN k v (H b).body r
 | .fN e t=>KO H f e t (H b).body r
def w2(H:Nat->bu)(f:Nat->Nat):(l:List (Nat×bN))->Option (o2 l×List Nat)
 | []=>some ((),[])
 | p::l=>p.2.iL H f (f p.1) (w2 H f l)
def w3(H:Nat->bu)(f:Nat->Nat):(l:List (Nat×bH))->(Nat->aD)->{R:Type}->Option (R×List Nat)->Option (n7 l R×List Nat)
 | [],_,_,r=>r
 | p::l,c,_,r=>p.2.iL H f (c p.1) (w3 H f l c r)
def dj.n8(sh:dj):List Nat:=sh.bn.filterMap λp=>if p.2.Cf then some p.1 else none
def dj.zi(sh:dj)(f:Nat->Nat)(s:ay):Option (sh.ah×List Nat):=
 match w3 s.ad f sh.bE s.aw (w2 s.ad f sh.bn) with
 | some (A,fl)=>if sh.n8.all (λb=>!fl.contains (f b))=true then some (A,fl) else none
 | none=>none
def KR:List (Nat×bN)->Nat->Option bN
 | [],_=>none
 | p::l,b=>if b=p.1 then some p.2 else KR l b
def KS(s:ay)(i b aZ g':Nat):ay:=
 match decide (aZ≠b/\g'=(s.ad aZ).gen),(s.ad aZ).body with
 | true,.a7 e xs=>⟨λj=>if j=i then .own b ((s.ad b).gen+1) else s.aw j,λj=>if j=b then ⟨(s.ad b).gen+1,.a7 e xs⟩ else if j=aZ then ⟨(s.ad aZ).gen+1,.fb⟩ else s.ad j⟩
 | _,_=>s
def KT(bs:List (Nat×bN))(s:ay)(i b:Nat):ay:=
 match s.aw i,KR bs b with
 | .cR,some (.a7 e)=>⟨λj=>if j=i then .own b ((s.ad b).gen+1) else s.aw j,(s.b' b ⟨(s.ad b).gen+1,.a7 e []⟩).ad⟩
 | .own aZ g',some (.a7 _)=>KS s i b aZ g'
 | _,_=>s
def KU(bs:List (Nat×bN))(s:ay)(c j b:Nat):ay:=
 match (s.ad c).body with
 | .cells t f=>match f j,(s.ad b).body,KR bs b with
  | .cR,.fb,some (.a7 e)=>(s.b' b ⟨(s.ad b).gen+1,.a7 e []⟩).b' c ⟨(s.ad c).gen,.cells t λq=>if q=j then .own b ((s.ad b).gen+1) else f q⟩
  | _,_,_=>s
 | _=>s
def Fy(bs:List (Nat×bN)):List (Nat×bH)->ay->ay
 | [],s=>s
 | p::l,s=>Fy bs l (match p.2 with | .own b=>KT bs s p.1 b | _=>s)
def Fz(bs:List (Nat×bN))(c:Nat):List bH->Nat->ay->ay
 | [],_,s=>s
 | t::l,j,s=>Fz bs c l (j+1) (match t with | .own b=>KU bs s c j b | _=>s)
def FA(bs:List (Nat×bN)):List (Nat×bN)->ay->ay
 | [],s=>s
 | p::l,s=>FA bs l (match p.2 with | .cells _ ts=>Fz bs p.1 ts 0 s | _=>s)
def dj.FB(sh:dj)(s:ay):ay:=FA sh.bn sh.bn (Fy sh.bn sh.bE s)
def bN.R8:bN->Bool
 | .a7 _ | .hf _ | .fN _ _=>true
 | _=>false
def dj.FC(sh:dj)(s:ay):Bool:=sh.bn.all λp=>!(decide (wz<=p.1)&&p.2.R8)||decide ((s.ad p.1).gen=0)
def dj.iL(sh:dj)(s:ay):Option (sh.ah):=
 match sh.FC (sh.FB s) with
 | true=>(sh.zi (λb=>b) (sh.FB s)).map (·.1)
 | false=>none
def dj.mD{β:Type}(sh:dj)(s:ay)(k:sh.ah->M β):M β:=
 match sh.iL s with
 | some A=>k A
 | none=>M.fail
def bH.w4(t:bH){R:Type}(r:R):t.cons R:=
 match t with
 | .val t=>(t.cN,r)
 | .dy t=>(t.cN,r)
 | .sub _=>((0,0),r)
 | .tr _=>((0,λ_=>False,[],false),r)
 | .gK=>(0,r)
 | .iE _=>(0,r)
 | .undef | .loc _ _ | .own _ | .fk _ | .jP _ | .cR | .h' _ _ | .hi _=>r
def R9:(l:List bH)->{R:Type}->R->pZ l R
 | [],_,r=>r
 | t::l,_,r=>t.w4 (R9 l r)
def bN.w4(t:bN){R:Type}(r:R):t.cons R:=
 match t with
 | .cells _ l=>R9 l r
 | .a7 _=>([],r)
 | .hf _=>([],r)
 | .mp _ _=>([],r)
 | .iU _ _=>([],r)
 | .fI t=>(t.cN,r)
 | .gi t=>(t.cN,r)
 | .b5 _ _=>((none,[]),r)
 | .fN _ t=>(([],0),t.w4 r)
def R_:(l:List (Nat×bN))->o2 l
 | []=>()
 | p::l=>p.2.w4 (R_ l)
def R':(l:List (Nat×bH))->{R:Type}->R->n7 l R
 | [],_,r=>r
 | p::l,_,r=>p.2.w4 (R' l r)
def dj.w4(sh:dj):sh.ah:=R' sh.bE (R_ sh.bn)
structure SC where
 ts:ae
 tr:ae
 sh:ts.ah->M tr.ah
 du:Bool
def aJ.c7(c:aJ):SC:=⟨c.ts,c.tr,c.sh,true⟩
def M.Cg{aj:Type}(m:M aj):Prop:=∀ x y,m.bC x->m.bC y->x=y
open Classical in
def M.val{aj:Type}(m:M aj)(d:aj):aj:=if h:∃ x,m.bC x then h.choose else d
def SC.fc(c:SC):aJ:=⟨c.ts,c.tr,λx=>(c.sh x).b8,λx=>(c.sh x).val c.tr.cN⟩
structure IOC where
 b2:dj
 bC:dj
 kk:z9'
 j1:Nat
 sh:b2.ah->M bC.ah
structure ITC where
 ts:ae
 aI:ae
 pre:ts.ah->Prop
 seq:ts.ah->List aI.ah
inductive eH where
 | c7 (c:SC)
 | io (c:IOC)
 | b5 (c:ITC)
 | KV (c:SC)
 | FD (c:IOC) (sh:Nat->c.b2.ah->M c.bC.ah) (ids:List Nat)
 | ow (c:aJ)
def FE(a1:Nat->Option aJ)(Ψ:Nat->Option eH)(k:Nat):Option aJ:=
 match Ψ k with
 | some (.c7 c)=>match c.du&&!nn c.tr with
  | true=>some c.fc
  | false=>none
 | some (.ow c)=>some c
 | some _=>none
 | none=>a1 k
def KW(a1:Nat->Option aJ)(Ψ:Nat->Option eH)(k:Nat):Option SC:=
 match Ψ k with
 | some (.c7 c)=>some c
 | some _=>none
 | none=>(a1 k).bind λc=>if nn c.tr=true then none else some c.c7
structure hC where
 aj:Type
 d:aj
 bR:Prop
 m:M aj
 st:aj->ay
 Ch:Option (Bool->aj->ay)
def qN(s:ay)(o:Oper)(tr:ae)(fl:List Nat)(v:aD):ay:=(if tr.pure then s else s.cb fl).set o.dst v
def Ci(U:dh)(s:ay)(o:Oper)(args:List Operand)(c7:SC):Option hC:=
 match (iG c7.ts ((args.map (aT U s.aw)).map λv=>(use v).2)).run s.ad with
 | some (x,fl)=>some ⟨c7.tr.ah,c7.tr.cN,js (args.map (aT U s.aw)),c7.sh x,λy=>qN s o c7.tr fl (qy c7.tr y),some λg y=>qN s o c7.tr fl (.hd g (qy c7.tr y))⟩
 | none=>none
def FF(U:dh)(s:ay)(o:Oper)(args:List Operand)(c7:SC):Option hC:=
 match (iG c7.ts ((args.map (aT U s.aw)).map λv=>(use v).2)).run s.ad with
 | some (x,_)=>some ⟨c7.tr.ah,c7.tr.cN,js (args.map (aT U s.aw)),c7.sh x,λy=>s.set o.dst (qy c7.tr y),none⟩
 | none=>none
def Cj(U:dh)(s:ay)(o:Oper)(t:Nat)(args:List Operand):Option hC:=
 match use (s.aw t) with
 | (bR,.val (.fn a b) f)=>match (iG a ((args.map (aT U s.aw)).map λv=>(use v).2)).run s.ad with
  | some (x,fl)=>some ⟨b.ah,b.cN,bR/\js (args.map (aT U s.aw)),f x,λy=>qN s o b fl (qy b y),some λg y=>qN s o b fl (.hd g (qy b y))⟩
  | none=>none
 | _=>none
def Sa(t:bH)(av:aD):z8':=
 match t,av with
 | .loc aZ _,.loc b _ _=>[(aZ,b)]
 | .own aZ,.own b _=>[(aZ,b)]
 | .sub aZ,.own b _=>[(aZ,b)]
 | .sub aZ,.sub b _ _ _=>[(aZ,b)]
 | .fk aZ,.fk b _=>[(aZ,b)]
 | .jP aZ,.jP b _=>[(aZ,b)]
 | .h' _ fC,.h' _ _ cF=>(List.range fC.length).filterMap λi=>match fC[i]?,cF i with
  | some p,.loc b _ _=>some (p.1,b)
  | _,_=>none
 | _,_=>[]
def Sb:List bH->(Nat->aD)->Nat->z8'
 | [],_,_=>[]
 | t::l,c,i=>Sa t (c i)++Sb l c (i+1)
def KX:z8'->Nat->Option Nat
 | [],_=>none
 | p::l,b=>if b=p.1 then some p.2 else KX l b
def Sc(H:Nat->bu):List (Nat×bN)->z8'->z8'
 | [],m=>m
 | p::l,m=>Sc H l (m++match p.2,KX m p.1 with
  | .cells _ ts,some b=>(match (H b).body with | .cells _ c=>Sb ts c 0 | _=>[])
  | _,_=>[])
def aeh(sh:dj)(s:ay):z8':=Sc s.ad sh.bn (sh.bE.flatMap λp=>Sa p.2 (s.aw p.1))
def rT(s:ay)(avs:List aD):ay:=⟨λi=>if i=TRS then s.aw TRS else if i<avs.length then avs.getD i .undef else .undef,s.ad⟩
def mE:Nat:=99999
def rU(s:ay)(d:Nat)(f:Nat->Nat)(ins:List Nat):List (Nat×bN)->Nat->z6'
 | [],_=>[]
 | p::l,j=>(if ins.contains p.1 then (p.1,(f p.1,match p.2 with
   | .cells _ _ | .fI _ | .mp _ _ | .gi _ | .iU _ _=>(s.ad (f p.1)).gen
   | .a7 _=>if wz<=p.1 then (s.ad (f p.1)).gen else (s.ad (f p.1)).gen+1
   | _=>(s.ad (f p.1)).gen+1)) else (p.1,(50000+10*d+j,(s.ad (50000+10*d+j)).gen+1)))::rU s d f ins l (j+1)
def hE:z6'->Nat->Nat×Nat
 | [],_=>(mE,0)
 | p::l,b=>if b=p.1 then p.2 else hE l b
def o4:z9'->(Nat->aD)->Nat->List aD
 | [],_,_=>[]
 | none::l,c,i=>c i::o4 l c (i+1)
 | some n::l,c,i=>.agg n (λj=>c (i+j))::o4 l c (i+n)
def KY(l:List aD):aD:=
 match l with
 | [v]=>v
 | l=>.pN l.length (gM l)
def w5(s:ay)(c:IOC)(f:Nat->Nat)(bV:z6')(τ:c.bC.ah):ay:=
 ⟨λi=>if i=TRS then (if c.bC.bE.any (λp=>p.1 == TRS) then e5 (d_ (hE bV) c.bC.bE τ).1 TRS else if c.b2.bE.any (λp=>p.1 == TRS) then .undef else s.aw TRS) else s.aw i,λb=>match bV.find? (λp=>p.2.1 == b) with
  | some p=>⟨p.2.2,(et (gP (hE bV) c.bC.bn (d_ (hE bV) c.bC.bE τ).2) p.1).body⟩
  | none=>if (c.b2.n8.map f).contains b then ⟨(s.ad b).gen+1,.fb⟩ else s.ad b⟩
def aei(s:ay)(o:Oper)(c:IOC)(f:Nat->Nat)(bV:z6')(τ:c.bC.ah):ay:=
 ay.set (w5 s c f bV τ) o.dst (KY (o4 c.kk (e5 (d_ (hE bV) c.bC.bE τ).1) 0))
def FG(l:List Nat):Bool:=decide l.Nodup
def Ck(c:IOC)(f:Nat->Nat)(dr:ay)(bV:z6')(d n:Nat):Bool:=
  decide (d < 4000) && decide (c.bC.bn.length <= 10) && FG (c.b2.bn.map (·.1)) && FG (c.b2.bn.map λp => f p.1) && FG (bV.map (·.1)) && FG (bV.map (·.2.1)) && (c.b2.bn.map (·.1)).all (λb => decide (eu <= b))
        &&!(bV.map (·.2.1)).contains mE&&(match (dr.ad mE).body with | .fb=>true | _=>false)&&c.bC.bn.all (λp=>c.b2.bn.all λq=>!(p.1 == q.1&&q.2.Cf)||p.2.Fv q.2)&&(decide (n=c.j1)&&decide (n<=eu))
def qO(U:dh)(s:ay)(args:List Operand):List aD:=(args.map (aT U s.aw)).map λv=>(use v).2
def qP(c:IOC)(ed:ay)(b:Nat):Nat:=(KX (aeh c.b2 ed) b).getD mE
def w6(U:dh)(s:ay)(o:Oper)(args:List Operand)(c:IOC):Option hC:=
 match c.b2.zi (qP c (rT s (qO U s args))) (rT s (qO U s args)) with
 | some (A,fl)=>match Ck c (qP c (rT s (qO U s args))) (s.cb fl) (rU (s.cb fl) (o.dst.getD 0) (qP c (rT s (qO U s args))) c.b2.n8 c.bC.bn 0) (o.dst.getD 0) args.length with
  | true=>some ⟨c.bC.ah,c.bC.w4,js (args.map (aT U s.aw)),c.sh A,λτ=>aei (s.cb fl) o c (qP c (rT s (qO U s args))) (rU (s.cb fl) (o.dst.getD 0) (qP c (rT s (qO U s args))) c.b2.n8 c.bC.bn 0) τ,none⟩
  | false=>none
 | none=>none
def Sd:Nat:=999999
def Se(c:IOC)(sh:Nat->c.b2.ah->M c.bC.ah)(ids:List Nat)(n:Option Nat):IOC:={ c with sh:=λA=>M.af (∃ k∈ids,n=some k) (sh (n.getD 0) A) }
def FH(U:dh)(Ψ:Nat->Option eH)(s:ay)(o:Oper)(t:Nat)(args:List Operand):Option hC:=
 match s.aw t with
 | .val .dO n=>match Ψ Sd with
  | some (.FD c sh ids)=>w6 U s o args (Se c sh ids n)
  | _=>none
 | _=>none
def FI(U:dh)(s:ay)(o:Oper)(t:Nat)(args:List Operand):Option hC:=
 match s.aw t,s.aw TRS with
 | .gK l',.tr l aI L n st=>match (iG aI ((args.map (aT U s.aw)).map λv=>(use v).2)).run s.ad with
  | some (x,fl)=>some ⟨Bool,false,js (args.map (aT U s.aw)),M.af (l'=l/\st=false/\∃ T,L (n++x::T)) (M.any λ_=>True),λb=>ay.set ⟨λi=>if i=TRS then .tr l aI L (n++[x]) (!b) else s.aw i,(s.cb fl).ad⟩ o.dst (.val .bool b),none⟩
  | none=>none
 | _,_=>none
def FJ(U:dh)(T:Nat->ae)(s:ay)(o:Oper)(ty:TypeId)(x:Operand):Option hC:=
 match T ty,o.dst with
 | .map k v,some d=>match use (aT U s.aw x) with
  | (bR,av)=>match (dc (.map k v) av).run s.ad with
   | some (es,fl)=>if fl.contains d then none else
    some ⟨Unit,(),bR,M.pure (),λ_=>((s.cb fl).b' d ⟨(s.ad d).gen+1,.b5 k v none es⟩).set o.dst (.jP d ((s.ad d).gen+1)),none⟩
   | none=>none
 | _,_=>none
def FK{aj:Type}(l:List aj):M (Option Nat):=⟨True,λx=>match x with | none=>l=[] | some i=>i<l.length⟩
def Sf(i:Option Nat):Nat:=match i with | none=>0 | some _=>2
def nz{aj:Type}(c:Option aj)(bY:List aj)(i:Option Nat):Option aj:=match i with | none=>c | some i=>bY[i]?
def Cl{aj:Type}(bY:List aj)(i:Option Nat):List aj:=match i with | none=>bY | some i=>bY.eraseIdx i
def FL(U:dh)(s:ay)(o:Oper)(x:Operand)(str:Bool):Option hC:=
 match str,aT U s.aw x with
 | false,.jP b g=>if (s.ad b).gen=g then (match (s.ad b).body with
  | .b5 k v c bY=>some ⟨Option Nat,none,True,FK bY,λi=>(s.b' b ⟨g,.b5 k v (nz c bY i) (Cl bY i)⟩).set o.dst (.pN (Nat.succ (Sf i)) (gM [.val .bool i.isSome])),none⟩
  | _=>none) else none
 | _,_=>none
def FM(U:dh)(s:ay)(o:Oper)(x:Operand):Option hC:=
 match aT U s.aw x with
 | .jP b g=>if (s.ad b).gen=g then (match (s.ad b).body with
  | .b5 k v c _=>some ⟨Unit,(),True,M.af (c.isSome=true) (M.pure ()),λ_=>s.set o.dst (.pN 2 (gM [.val k ((c.map (·.1)).getD k.cN),.val v ((c.map (·.2)).getD v.cN)])),none⟩
  | _=>none) else none
 | _=>none
def Cm(U:dh)(T:Nat->ae)(s:ay)(o:Oper)(op:BinOp)(ty:TypeId)(x y:Operand):Option hC:=
 match T ty,aT U s.aw y with
 | .slice e,.cR=>match (dc (.slice e) (use (aT U s.aw x)).2).run s.ad with
  | some (xs,_)=>match op with
   | .eql=>some ⟨Bool,false,(use (aT U s.aw x)).1,M.any λb=>b=true->xs=[],λb=>s.set o.dst (.val .bool b),none⟩
   | .neq=>some ⟨Bool,false,(use (aT U s.aw x)).1,M.any λb=>b=true->xs=[],λb=>s.set o.dst (.val .bool (!b)),none⟩
   | _=>none
  | none=>none
 | _,_=>none
def qQ(U:dh)(T:Nat->ae)(a1:Nat->Option aJ)(Ψ:Nat->Option eH)(s:ay)(o:Oper):Option hC:=
 match o.op with
 | .call c=>match c.callee with
  | .value f=>match f with
   | .func k=>match Ψ k with
    | some (.io c')=>w6 U s o c.args.toList c'
    | some (.KV c')=>FF U s o c.args.toList c'
    | _=>match KW a1 Ψ k with
     | some c7=>Ci U s o c.args.toList c7
     | none=>none
   | .tmp t=>match Cj U s o t c.args.toList with
    | some r=>some r
    | none=>match FH U Ψ s o t c.args.toList with
     | some r=>some r
     | none=>FI U s o t c.args.toList
   | _=>none
  | _=>none
 | .range ty x=>FJ U T s o ty x
 | .next x str=>FL U s o x str
 | .entry x=>FM U s o x
 | .binOp op ty x y _=>Cm U T s o op ty x y
 | _=>none
def b3{aj:Type}(g:Bool)(m:M aj)(d:aj):M aj:=if g=true then m else M.pure d
def rV{β:Type}(b:Bool)(p:Prop)(m:M β):M β:=match b with | true=>m | false=>M.af p m
def Cn(o:Oper)(eJ:aD)(l:List (Nat×bu)):Option (List (Nat×bu)×aD):=
 match l with
 | []=>some ([],eJ)
 | p::l'=>match o.op with
  | .makeFunc ..=>some (p::l',eJ)
  | .buildSlice _ n _=>match l',eJ,p.2.body with
   | [],.own aZ g',.a7 e xs=>if (aZ=p.1/\g'=p.2.gen)/\n≠0 then some ([(p.1,⟨p.2.gen,.fb⟩)],.val (.slice e) xs) else none
   | _,_,_=>none
  | _=>none
def Sg(hg:List (Nat×bu))(eJ:aD):aD:=
 match eJ with
 | .own b _=>match hg.find? (λp=>p.1 == b) with
  | some (_,⟨_,.a7 e xs⟩)=>.val (.slice e) xs
  | _=>eJ
 | _=>eJ
abbrev o5:=List (Nat×(Nat×Bool))
def rW(ops:Array Oper)(j d:Nat):Bool:=match ops[j]? with | some o=>(match o.dst with | some e=>e == d | none=>false) | none=>false
def aej(tg:o5)(t:Nat)(k:Nat×Bool):Bool:=tg.any λp=>p.1 == t&&(p.2.1 == k.1&&p.2.2 == k.2)
def w7(ops:Array Oper)(tg:o5)(o:Oper):o5:=
 match o.dst with
 | none=>tg
 | some d=>match o.guard with
  | some k=>if rW ops k.1 d=true then tg.filter λp=>p.1 != d&&!rW ops p.2.1 d else (d,k)::tg.filter λp=>p.1 != d&&!rW ops p.2.1 d
  | none=>tg.filter λp=>p.1 != d&&!rW ops p.2.1 d
def w8(aF:Operand->aD)(tg:o5)(gk:Option (Nat×Bool))(x:Operand):Bool:=
 !(aF x).zb||(match x,gk with | .tmp t,some k=>aej tg t k | _,_=>false)
def FN(ops:Array Oper)(tg:o5)(c x:Operand)(want:Bool):Bool:=
 match c,x with
 | .tmp c,.tmp t=>tg.any λp=>p.1 == t&&(rW ops p.2.1 c&&p.2.2 == want)
 | _,_=>false
def KZ(aF:Operand->aD)(tg:o5)(gk:Option (Nat×Bool))(o:Oper):Bool:=o.op.operands.toList.all (w8 aF tg gk)
def zj(aF:Operand->aD)(ops:Array Oper)(tg:o5)(gk:Option (Nat×Bool))(o:Oper):Bool:=
 match o.op with
 | .pick c a b=>w8 aF tg gk c&&((w8 aF tg gk a||FN ops tg c a true)&&(w8 aF tg gk b||FN ops tg c b false))
 | _=>KZ aF tg gk o
def K1(aF:Operand->aD)(tg:o5)(gk:Option (Nat×Bool))(o:Oper)(eJ:aD):Bool:=
 !eJ.zb||(match o.op with | .move x=>w8 aF tg gk x | _=>false)
def hS:Operand->Option Nat
 | .tmp t=>some t
 | _=>none
def zk(o f' kA:Oper):Option (Oper×Nat×Nat):=
 match o.op with
 | .mapEntry ty m x=>match f'.op with
  | .extract e 1=>match kA.op with
   | .entryStore mr c8 aS y=>match o.dst,f'.dst,kA.dst with
    | some d1,some d2,none=>if hS e=some d1/\hS aS=some d2/\mr=ty/\(hS c8).isSome=true/\hS c8=hS m/\(hS y).isSome=true/\hS m≠some d1/\hS m≠some d2/\hS y≠some d1/\hS y≠some d2/\o.guard.isNone=true/\f'.guard.isNone=true/\kA.guard.isNone=true
     then some ({ kA with op:=.mapUpdate ty m x y },d1,d2) else none
    | _,_,_=>none
   | _=>none
  | _=>none
 | _=>none
def zl(o:Oper)(os:List Oper):Option (Oper×Nat×Nat):=
 match os with
 | f'::kA::_=>zk o f' kA
 | _=>none
def FO{β:Type}:Nat->Int->(Nat->M β)->M β
 | 0,_,_=>M.fail
 | 1,_,k=>k 0
 | n+2,v,k=>if v=((n+1:Nat):Int) then k (n+1) else FO (n+1) v k
theorem Sh{β:Type}{O:β->Prop}{k:Nat->M β}{v:Int}:∀ {n:Nat},M.b_ (FO n v k) O->0<=v->v<(n:Int)->M.b_ (k v.toNat) O
 | 0,h,_,_=>h.1.elim
 | 1,h,h0,h1=>by
  have:v.toNat=0:=by omega
  rw[this];exact h
 | n+2,h,h0,h1=>by
  unfold FO at h;split at h
  ·grind
  ·exact Sh h h0 (by omega)
def l2{β:Type}(U:dh)(T:Nat->ae)(a1:Nat->Option aJ)(Ψ:Nat->Option eH)(ops:Array Oper):List Oper->o5->ay->(ay->M β)->M β
 | [],_,s,k=>k s
 | o::os,tg,s,k=>
  match zl o os with
  | some (oU,d1,d2)=>match os with
   | _::_::aek=>match (bf U T a1 (aT U s.aw) oU).run s.ad with
    | some res=>M.af res.bR (M.af res.c (l2 U T a1 Ψ ops aek [] (((s.hP none res).set (some d1) .undef).set (some d2) .undef) k))
    | none=>M.fail
   | _=>M.fail
  | none=>
  match kh s.aw ops o.guard with
  | none=>M.fail
  | some none=>match (bf U T a1 (aT U s.aw) o).run s.ad with
   | some res=>rV (zj (aT U s.aw) ops tg none o) res.bR (rV (mB (aT U s.aw) o) res.c (l2 U T a1 Ψ ops os (w7 ops tg o) (s.hP o.dst res) k))
   | none=>match qQ U T a1 Ψ s o with
    | some pr=>rV (rS (aT U s.aw) o) pr.bR (M.bind pr.m λy=>l2 U T a1 Ψ ops os [] (pr.st y) k)
    | none=>M.fail
  | some (some g)=>match (bf U T a1 (aT U s.aw) o).run s.ad with
   | some ⟨bR,c,eJ,hg⟩=>match Cn o eJ hg with
    | some (w9,rX)=>rV (zj (aT U s.aw) ops tg o.guard o&&(mB (aT U s.aw) o&&K1 (aT U s.aw) tg o.guard o rX)) (g=true->bR/\(c/\(use rX).1)) (l2 U T a1 Ψ ops os (w7 ops tg o) ((s.fH w9).set o.dst (.hd g (use rX).2)) k)
    | none=>if g=true then M.af bR (M.af c (l2 U T a1 Ψ ops os [] (s.hP o.dst ⟨bR,c,eJ,hg⟩) k)) else l2 U T a1 Ψ ops os [] (s.set o.dst (.hd false (Sg hg (use eJ).2))) k
   | none=>match qQ U T a1 Ψ s o with
    | some pr=>match pr.Ch with
     | some gs=>rV (KZ (aT U s.aw) tg o.guard o) (g=true->pr.bR) (M.bind (b3 g pr.m pr.d) λy=>l2 U T a1 Ψ ops os (w7 ops tg o) (gs g y) k)
     | none=>if g=true then M.af pr.bR (M.bind pr.m λy=>l2 U T a1 Ψ ops os [] (pr.st y) k) else l2 U T a1 Ψ ops os [] (s.set o.dst (.hd false (use ((pr.st pr.d).aw (o.dst.getD 0))).2)) k
    | none=>M.fail
def Co{β:Type}:List Prop->M β->M β
 | [],m=>m
 | p::l,m=>M.af p (Co l m)
def zm(cl:List (List Nat)):Nat->Nat
 | 0=>0
 | n+1=>if (List.range n).all (λi=>(cl.getD n []).contains i)=true then zm cl n else n+1
def K2(gb h6 hj im lB:Oper):Bool:=
 match gb.op,h6.op,hj.op with
 | .lookup ty m x false,.binOp .add _ (.tmp t) (.const (.int k c)) _,.mapEntry mr c8 dn=>match gb.dst,h6.dst,zk hj im lB with
  | some dH,some fo,some (_,d1,d2)=>decide (t=dH/\mr=ty/\fy k c/\hS c8=hS m/\hS dn=hS x/\dH≠fo/\dH≠d1/\dH≠d2/\fo≠d1/\fo≠d2/\d1≠d2/\
    (hS m).isSome=true/\(hS x).isSome=true/\hS m≠some dH/\hS m≠some fo/\hS m≠some d1/\hS m≠some d2/\hS x≠some dH/\hS x≠some fo/\hS x≠some d1/\hS x≠some d2/\gb.guard.isNone=true/\h6.guard.isNone=true)
  | _,_,_=>false
 | _,_,_=>false
def FP(ops:List Oper):Bool:=
 match ops.drop (ops.length - 5) with
 | [gb,h6,hj,im,lB]=>K2 gb h6 hj im lB&&(Cd ops&&((List.range 5).all λq=>(List.range (ops.length - 5)).all λi=>((h4 ops).getD (ops.length - 5+q) []).contains i)&&
   ((h4 ops).getD (ops.length - 5+1) []).contains (ops.length - 5)&&((h4 ops).getD (ops.length - 5+3) []).contains (ops.length - 5+2)&&((List.range 4).all λq=>((h4 ops).getD (ops.length - 5+4) []).contains (ops.length - 5+q))&&
   (hR hj).all (λi=>decide (i<ops.length - 5))&&(hR im).all (λi=>decide (i<ops.length - 5)||decide (i=ops.length - 5+2)))
 | _=>false
def lC(ops:List Oper):Nat:=if FP ops=true then ops.length - 5 else zm (h4 ops) ops.length
def M.ael{aj:Type}(l:List (M aj)):M aj:=⟨∀ m∈l,m.b8,λx=>∃ m∈l,m.bC x⟩
def uZ(ops:List Oper)(done:List Nat):List Nat:=(List.range ops.length).filter λi=>!done.contains i&&match ops[i]? with | some o=>(hR o).all λj=>done.contains j | none=>false
def qR(ops:List Oper):Nat->List Nat->List (List Nat)
 | 0,_=>[[]]
 | f+1,done=>match uZ ops done with
  | []=>[[]]
  | l=>l.flatMap λi=>(qR ops f (i::done)).map (i::·)
def FQ(ops:List Oper):Nat->List Nat->Bool
 | 0,done=>(uZ ops done).isEmpty
 | f+1,done=>(uZ ops done).all λi=>FQ ops f (i::done)
def FR{β:Type}(U:dh)(T:Nat->ae)(a1:Nat->Option aJ)(Ψ:Nat->Option eH)(ops:Array Oper)(o:Oper)(s:ay)(k:ay->M β):M β:=
 match o.guard with
 | some _=>M.fail
 | none=>match (bf U T a1 (aT U s.aw) o).run s.ad with
  | some res=>rV (zj (aT U s.aw) ops [] none o) res.bR (rV (mB (aT U s.aw) o) res.c (k (s.hP o.dst res)))
  | none=>match qQ U T a1 Ψ s o with
   | some pr=>rV (rS (aT U s.aw) o) pr.bR (M.bind pr.m λy=>k (pr.st y))
   | none=>M.fail
def zn{β:Type}(U:dh)(T:Nat->ae)(a1:Nat->Option aJ)(Ψ:Nat->Option eH)(ops:Array Oper):List Nat->ay->(ay->M β)->M β
 | [],s,k=>k s
 | i::bS,s,k=>match ops[i]? with
  | some o=>FR U T a1 Ψ ops o s λs'=>zn U T a1 Ψ ops bS s' k
  | none=>M.fail
def Si{β:Type}(U:dh)(T:Nat->ae)(a1:Nat->Option aJ)(Ψ:Nat->Option eH)(ops:Array Oper)(s:ay)(k:ay->M β):M β:=
 match FQ ops.toList ops.size [] with
 | true=>M.ael ((qR ops.toList ops.size []).map λl=>zn U T a1 Ψ ops l s k)
 | false=>M.fail
def zo{β:Type}(U:dh)(T:Nat->ae)(a1:Nat->Option aJ)(Ψ:Nat->Option eH)(ops:Array Oper)(s:ay)(k:ay->M β):M β:=
 match wV U T a1 ops ops.toList s with
 | some (l,s')=>match ze ops.toList l with
  | true=>Co (l.flatMap eo.cs) (k s')
  | false=>M.fail
 | none=>match wV U T a1 ops (ops.toList.take (lC ops.toList)) s with
  | some (l,s')=>match ze (ops.toList.take (lC ops.toList)) l&&Cd ops.toList with
   | true=>Co (l.flatMap eo.cs) (l2 U T a1 Ψ ops (ops.toList.drop (lC ops.toList)) [] s' k)
   | false=>M.fail
  | none=>Si U T a1 Ψ ops s k
def kY(ops:List Oper):List Oper:=
 match ops with
 | []=>[]
 | o::l=>o::l.map λp=>{ p with after:=p.after.push ⟨0,.phase⟩ }
def K3(ops:Array Oper):Bool:=
 match ops.toList with
 | []=>false
 | o::l=>(match o.op with | .move _=>true | _=>false)&&(o.guard.isNone&&(o.after.isEmpty&&(Region.noSelect ops&&l.all λp=>(hR p).contains 0||o.apart ops p)))
inductive cf where
 | ek
 | seq (a b:cf)
 | join (sh:dj) (a b:cf)
 | cond (a b:cf)
 | block (a:cf)
 | loop (sh:dj) (a:cf)
 | scope (a:cf)
 | range (sh rin rout:dj) (a b:cf)
 | nA (a b:cf)
 | split (i off n:Nat) (a:cf)
 | num (i n:Nat) (a:cf)
 | nv (i:Nat) (a:cf)
 | FT (b:Nat) (a:cf)
 | FU
def cf.dI:cf->Bool
 | .ek=>true
 | .seq a b=>a.dI&&b.dI
 | .join _ a b=>a.dI&&b.dI
 | .cond a b=>a.dI&&b.dI
 | .block a=>a.dI
 | .loop _ a=>a.dI
 | .scope a=>a.dI
 | .range ..=>false
 | .nA a b=>a.dI&&b.dI
 | .split _ _ _ a=>a.dI
 | .num _ _ a=>a.dI
 | .nv _ a=>a.dI
 | .FT _ a=>a.dI
 | .FU=>false
def cf.n9:cf->Bool
 | .nA ..=>true
 | .ek=>true
 | _=>false
inductive cP where
 | normal
 | exit (id:Nat)
 | ret
def cP.o6:cP->Exit
 | .normal=>.normal
 | .exit id=>.exit id
 | .ret=>.ret
open M (aa)
def Sj{β:Type}(k:cP->ay->M β)(f:ay->M β)(e:cP)(s:ay):M β:=
 match e with
 | .normal=>f s
 | .exit id=>k (.exit id) s
 | .ret=>k .ret s
def w_{A β:Type}(k:cP->ay->M β)(f:ay->M (aa A β))(e:cP)(s:ay):M (aa A β):=
 match e with
 | .normal=>f s
 | .exit id=>M.bind (k (.exit id) s) λr=>M.pure (.done r)
 | .ret=>M.bind (k .ret s) λr=>M.pure (.done r)
def Sk{β:Type}(id:Nat)(k:cP->ay->M β)(e:cP)(s:ay):M β:=
 match e with
 | .normal=>k .normal s
 | .exit FV=>if FV=id then k .normal s else k (.exit FV) s
 | .ret=>k .ret s
def aa.bl{A β:Type}(f:A->M β)(st:aa A β):M β:=
 match st with
 | .next x=>f x
 | .done r=>M.pure r
def Sl{β:Type}(v:aD)(m n:M β):M β:=
 match v with
 | .val .bool t=>if t=true then m else n
 | .hd g (.val .bool t)=>M.af (g=true) (if t=true then m else n)
 | _=>M.fail
def p0(s:ay)(i off:Nat):Option (Int×(Nat->ay)):=
 match s.aw i with
 | .loc b _ o=>match (s.ad b).body with
  | .cells t f=>match f (o+off) with
   | .val (.int tw) x=>some (x,λj=>⟨s.aw,λaZ=>if aZ=b then ⟨(s.ad b).gen,.cells t λq=>if q=o+off then .val (.int tw) (j:Int) else f q⟩ else s.ad aZ⟩)
   | _=>none
  | _=>none
 | _=>none
theorem aem{s:ay}{i off:Nat}{x:Int}{f:Nat->ay}(h:p0 s i off=some (x,f))(h0:0<=x):f x.toNat=s:=by
 unfold p0 at h;split at h
 ·rename_i b g o hs;split at h
  ·rename_i t ih ab;split at h
   ·rename_i tw dn hx;simp only[Option.some.injEq,Prod.mk.injEq]at h;obtain⟨rfl,rfl⟩:=h;have e0:((dn.toNat:Nat):Int)=dn:=by omega
    have e1:(λq=>if q=o+off then aD.val (.int tw) (show (ae.int tw).ah from ((dn.toNat:Nat):Int)) else ih q)=ih:=by
     grind
    have e2:(λaZ=>if aZ=b then (⟨(s.ad b).gen,.cells t ih⟩:bu) else s.ad aZ)=s.ad:=by
     funext q;split
     ·rename_i e;rw[e,<-ab]
     ·rfl
    simp_all
   grind
  grind
 grind
def qS(s:ay)(i:Nat):Option (Int×(Nat->ay)):=
 match s.aw i with
 | .val (.int tw) x=>some (x,λn=>⟨λj=>if j=i then .val (.int tw) (n:Int) else s.aw j,s.ad⟩)
 | _=>none
theorem aen{s:ay}{i n:Nat}{x:Int}{f:Nat->ay}(h:qS s i=some (x,f))(h0:x=(n:Int)):f n=s:=by
 unfold qS at h;split at h
 ·rename_i tw dn hs;simp only[Option.some.injEq,Prod.mk.injEq]at h;obtain⟨rfl,rfl⟩:=h;have e1:(λj=>if j=i then aD.val (.int tw) (show (ae.int tw).ah from (n:Int)) else s.aw j)=s.aw:=by
   grind
  simp_all
 grind
def K4(s:ay)(i:Nat):Option ay:=
 match s.aw i with
 | .nW b g n off=>match (s.ad b).body,off with
  | .a7 (.st (.slice e)) xs,0=>if g=(s.ad b).gen then some ⟨λj=>if j=i then .iE b g n else s.aw j,λaZ=>if aZ=b then ⟨g,.fN (.st (.slice e)) xs n (.val (.slice e) (xs.getD n []))⟩ else s.ad aZ⟩ else none
  | _,_=>none
 | _=>none
def K5(s:ay)(b:Nat):Option ay:=
 match (s.ad b).body with
 | .fN (.st (.slice e)) xs n v=>match (dc (.slice e) v).run s.ad with
  | some (y,fl)=>if fl.contains b then none else some ((s.cb fl).b' b ⟨(s.ad b).gen,.a7 (.st (.slice e)) (xs.set n y)⟩)
  | none=>none
 | _=>none
def jy{A aj:Type}(body:A->aj->M (cP×A)):List aj->A->M (cP×A)
 | [],A=>M.pure (.normal,A)
 | x::xs,A=>M.bind (body A x) λp=>match p.1 with
  | .normal=>jy body xs p.2
  | .exit id=>M.pure (.exit id,p.2)
  | .ret=>M.pure (.ret,p.2)
def zp(aI:ae)(x:aI.ah):List Tmp->Nat->(Nat->aD)->Nat->aD
 | [],_,f=>f
 | p::ps,i,f=>zp aI x ps (i+1) (λj=>if j=p then kd aI x i else f j)
def xa(s:ay)(aI:ae)(x:aI.ah)(ps:List Tmp):ay:=⟨λi=>if i=TRS then s.aw TRS else zp aI x ps 0 s.aw i,s.ad⟩
def u0(rin rout:dj):IOC:=⟨rin,rout,[],0,λ_=>M.fail⟩
def tx{τ:Type}(sh rin rout:dj)(aI:ae)(ps:List Tmp)(A:sh.ah)(x:aI.ah)(run:ay->M (τ×rout.ah)):M (τ×sh.ah):=
 match rin.zi (qP (u0 rin rout) (xa (sh.st A) aI x ps)) (xa (sh.st A) aI x ps) with
 | some (aF,fl)=>match Ck (u0 rin rout) (qP (u0 rin rout) (xa (sh.st A) aI x ps)) ((sh.st A).cb fl) (rU ((sh.st A).cb fl) 0 (qP (u0 rin rout) (xa (sh.st A) aI x ps)) rin.n8 rout.bn 0) 0 0 with
  | true=>M.bind (run (rin.st aF)) λp=>sh.mD (w5 ((sh.st A).cb fl) (u0 rin rout) (qP (u0 rin rout) (xa (sh.st A) aI x ps)) (rU ((sh.st A).cb fl) 0 (qP (u0 rin rout) (xa (sh.st A) aI x ps)) rin.n8 rout.bn 0) p.2) λiq=>M.pure (p.1,iq)
  | false=>M.fail
 | none=>M.fail
def nB(sh rout:dj)(aI:ae)(ps:List Tmp)(nt:Nat):Bool:=
 rout.bE.isEmpty&&!sh.bE.any (λp=>p.1 == TRS)&&decide (aI≠.cy)&&decide (ps.length=jS aI)&&ps.all λp=>decide (p<nt)
def FW{β:Type}(f:ay->M β)(e:cP)(s:ay):M β:=
 match e with
 | .normal=>f s
 | .exit _=>M.fail
 | .ret=>M.fail
def rY{β:Type}(n:M β)(x:Nat->M β)(r:M β)(e:cP):M β:=
 match e with
 | .normal=>n
 | .exit id=>x id
 | .ret=>r
def K6{β:Type}(k:cP->ay->M β)(e:cP)(s:ay):M β:=rY (k .normal s) (λid=>k (.exit id) s) (k .ret s) e
theorem Sm{β:Type}(k:cP->ay->M β)(e:cP)(s:ay):K6 k e s=k e s:=by cases e<;>rfl
def ef(U:dh)(T:Nat->ae)(a1:Nat->Option aJ)(Ψ:Nat->Option eH):cf->{β:Type}->Code->ay->(cP->ay->M β)->M β
 | .seq a b,_,c,s,k=>match c with
  | .seq x y=>ef U T a1 Ψ a x s (Sj k λs'=>ef U T a1 Ψ b y s' k)
  | _=>M.fail
 | .join sh a b,β,c,s,k=>match c with
  | .seq x y=>M.bind (ef U T a1 Ψ a (β:=aa sh.ah β) x s (w_ k λs'=>sh.mD s' λA=>M.pure (.next A))) (aa.bl λA=>ef U T a1 Ψ b y (sh.st A) k)
  | _=>M.fail
 | .cond a b,_,c,s,k=>match c with
  | .cond c x y=>Sl (aT U s.aw c) (ef U T a1 Ψ a x s k) (ef U T a1 Ψ b y s k)
  | _=>M.fail
 | .block a,_,c,s,k=>match c with
  | .block id c=>ef U T a1 Ψ a c s (Sk id k)
  | _=>M.fail
 | .loop sh a,β,c,s,k=>match c with
  | .loop c=>sh.mD s λA=>M.loop (λA=>ef U T a1 Ψ a (β:=aa sh.ah β) c (sh.st A) (w_ k λs'=>sh.mD s' λiq=>M.pure (.next iq))) A
  | _=>M.fail
 | .nA a b,_,c,s,k=>match c with
  | .loop x=>match b.n9 with
   | true=>ef U T a1 Ψ a x s (Sj k λs'=>ef U T a1 Ψ b (.loop x) s' k)
   | false=>M.fail
  | _=>M.fail
 | .scope a,_,c,s,k=>match c with
  | .scope c=>ef U T a1 Ψ a c s k
  | _=>M.fail
 | .num i n a,_,c,s,k=>match qS s i with
  | some (x,f)=>M.af (x=(n:Int)) (ef U T a1 Ψ a c (f n) k)
  | none=>M.fail
 | .nv i a,_,c,s,k=>match K4 s i with
  | some s'=>ef U T a1 Ψ a c s' k
  | none=>M.fail
 | .FT b a,_,c,s,k=>match K5 s b with
  | some s'=>ef U T a1 Ψ a c s' k
  | none=>M.fail
 | .split i off n a,_,c,s,k=>match p0 s i off with
  | some (x,f)=>M.af (0<=x/\x<(n:Int)) (FO n x λj=>ef U T a1 Ψ a c (f j) k)
  | none=>M.fail
 | .range sh rin rout a b,_,c,s,k=>match c with
  | .rangeFunc g ps assign body=>match aT U s.aw g with
   | .rB qT n ez=>match Ψ qT with
    | some (.b5 ic)=>match (iG ic.ts ((List.range n).map ez)).run s.ad with
     | some (x,fl)=>match nB sh rout ic.aI ps.toList eu&&(a.dI&&b.dI) with
      | true=>sh.mD (s.cb fl) λA=>M.af (ic.pre x) (M.bind (jy (λA y=>tx sh rin rout ic.aI ps.toList A y λed=>
       ef U T a1 Ψ a (β:=cP×rout.ah) assign ed (FW λdr=>ef U T a1 Ψ b body dr λe eg=>rout.mD eg λτ=>M.pure (e,τ))) (ic.seq x) A) λp=>K6 k p.1 (sh.st p.2))
      | false=>M.fail
     | none=>M.fail
    | _=>M.fail
   | .val (.b5 aI) S=>match nB sh rout aI ps.toList eu&&(a.dI&&b.dI) with
    | true=>sh.mD s λA=>M.bind (M.any S) λL=>M.bind (jy (λA y=>tx sh rin rout aI ps.toList A y λed=>
     ef U T a1 Ψ a (β:=cP×rout.ah) assign ed (FW λdr=>ef U T a1 Ψ b body dr λe eg=>rout.mD eg λτ=>M.pure (e,τ))) L A) λp=>K6 k p.1 (sh.st p.2)
    | false=>M.fail
   | _=>M.fail
  | _=>M.fail
 | .FU,_,c,s,k=>match c with
  | .region _ ops draw=>match draw&&K3 ops with
   | true=>zo U T (FE a1 Ψ) Ψ (kY ops.toList).toArray s (k .normal)
   | false=>M.fail
  | _=>M.fail
 | .ek,_,c,s,k=>match c with
  | .region _ ops draw=>match draw with
   | true=>zo U T (FE a1 Ψ) Ψ ops s (k .normal)
   | false=>l2 U T a1 Ψ ops ops.toList [] s (k .normal)
  | .skip=>k .normal s
  | .label _=>k .normal s
  | .exit id=>k (.exit id) s
  | .ret=>k .ret s
  | _=>M.fail
def kZ(nt:Nat):Code->Bool
 | .region _ ops _=>ops.toList.all λo=>kW o nt
 | .seq a b=>kZ nt a&&kZ nt b
 | .cond _ a b=>kZ nt a&&kZ nt b
 | .block _ a=>kZ nt a
 | .loop a=>kZ nt a
 | .scope a=>kZ nt a
 | .rangeFunc _ ps a b=>ps.toList.all (λp=>decide (p<nt))&&(kZ nt a&&kZ nt b)
 | .skip=>true
 | .label _=>true
 | .exit _=>true
 | .ret=>true
 | _=>false
end Go.Fer
