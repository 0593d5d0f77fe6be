/- Part 2 of the proof of TopSlips: shallow programs of Go functions, and what they compute. No condition. -/
import Derived.Test.YtplfnoecifjgeaaGreatDoorTopSlipsA
import Derived.Laws.BytesString
noncomputable section
set_option linter.unusedVariables false
set_option linter.unusedSimpArgs false
namespace Go.Fer
open Go.RowKit
theorem Cr{p:Addr}(h:p.spot=none)(n:Nat):p.add n=⟨p.block,p.off+n,none⟩:=by
 obtain⟨b,o,sp⟩:=p;simp only at h;subst h;exact vf b o n
theorem Kx{e:ad}{xs:List e.aj}{i:Int}(E:0<=i)(U:i<(xs.length:Int)):kS e xs i=xs[i.toNat]'(by omega):=by
 unfold kS;grind
section
variable {C:b_} {T:Nat->ad} {bf:Nat->Option aO} {o:Oper} {s:aC} {res:eC}
theorem Ky{P:Program}{w:World}{e:ad}{ty:TypeId}(h:b9 P (.slice e) ty){p:Addr}(aq:p.spot=none){n cap:Nat}{k:IntKind}{i:Int}(E:0<=i)(U:i<(n:Int)) :
  (Instr.indexAt ty (.slice (some p) n cap) (.int k i)).run P w=.ok (.pointer (some ⟨p.block,p.off+i.toNat*e.size,none⟩)) w:=by
 obtain⟨j,aG,jb,_⟩:=h.sl;simp[Instr.indexAt,asIntOf,dD aG,E,U,jb.size,Cr aq]
theorem adY(aV:dT C.P T){ty:TypeId}{x i:Operand}(bg:∀ i,o.dst=some i->i<C.nt)(ag:o.op=.indexAddr ty x i)(h:(bu C.aP T bf (a8 C.aP s.aA) o).run s.ab=some res):cJ C o s res:=by
 simp only[bu,ag]at h;split at h
 ·rename_i bH k n aF G;have dq:=aV.cb aF (by simp);simp only[bP,ar.e6,Option.bind_eq_some_iff,ar.bO,Option.some.injEq]at h;obtain⟨⟨c,v⟩,hj,rfl⟩:=h;refine cJ.pure (by grind) bg λa w κ F M bc hc=>?_;have ai:bA C.P s.ab κ F w (use (a8 C.aP s.aA x)).2 (a.eval x):=cQ M x rfl bc.1;have U:=oC (cQ M i rfl bc.2) G;have zA:∀ (xs:List bH.aj),bI C.P (.slice bH) F w [a.eval x] xs->0<=n/\n<(xs.length:Int)->∃ r,(execOp a.eval o).run C.P w=.ok (.value r) w/\bA C.P s.ab κ F w (.dV bH (kS bH xs n)) r:=by
   intro xs hX ax;obtain⟨a',cap,az,m1,m2,m3,m4⟩:=hX;have az:=(List.cons.inj az).1;cases a' with
   | none=>grind
   | some p=>
    obtain⟨dZ,dP,hZ⟩:=m4 p rfl (by omega);obtain⟨bk,d1,d2⟩:=hZ n.toNat (by omega);refine⟨_,by simp[execOp,ag,az,U.1,Ky dq dP ax.1 ax.2],⟨p.block,p.off+n.toNat*bH.size,none⟩,bk,rfl,d1,?_⟩;rw[Kx ax.1 ax.2];exact d2
  unfold RG at hj;split at hj
  ·rename_i e xs fa;simp only[ar.bO]at hj;split at hj
   ·rename_i he;subst he;simp only[Option.some.injEq,Prod.mk.injEq]at hj;obtain⟨rfl,rfl⟩:=hj;rw[fa]at ai;exact zA xs ((dU rfl).1 ai).2 hc
   grind
  ·rename_i b g fa;rw[fa]at ai;simp only[ar.e5,ar.bO]at hj;split at hj
   ·rename_i ay;have aU:=M.bD b;unfold cG at aU;split at hj
    ·rename_i e xs bT;split at hj
     ·rename_i he;subst he;simp only[Option.some.injEq,Prod.mk.injEq]at hj;obtain⟨rfl,rfl⟩:=hj;have af:=ai.2 ay.symm (by rw[bT];rfl);rw[bT]at af aU;have vm:(κ b).e_=false:=by
       cases ax:(κ b).e_ with
       | false=>rfl
       | true=>rw[aU.1 ax]at hc;grind
      simp only[bB.slice,vm,Bool.false_eq_true,if_false,bS.len]at af;refine⟨_,by simp[execOp,ag,af,U.1,Ky dq (p:=⟨(κ b).ab,(κ b).off,none⟩) rfl hc.1 hc.2];rfl,⟨ai.1.1,rfl⟩,λ_ _=>?_⟩;rw[bT];exact⟨by simp only[bS.len];omega,vm,rfl⟩
     grind
    ·rename_i e xs bT;split at hj
     ·rename_i he;subst he;simp only[Option.some.injEq,Prod.mk.injEq]at hj;obtain⟨rfl,rfl⟩:=hj;have af:=ai.2 ay.symm (by rw[bT];rfl);rw[bT]at af aU;simp only[bS.len]at af;refine zA xs ?_ hc;rw[af];exact aU
     grind
    grind
   grind
  ·rename_i b g a1 G fa;rw[fa]at ai;simp only[ar.e5,ar.bO]at hj;split at hj
   ·rename_i ay;have aU:=M.bD b;unfold cG at aU;split at hj
    ·rename_i e xs bT;split at hj
     ·rename_i he;subst he;simp only[Option.some.injEq,Prod.mk.injEq]at hj;obtain⟨rfl,rfl⟩:=hj;obtain⟨⟨aQ,aS⟩,bN⟩:=ai.2 ay.symm (by rw[bT];rfl);rw[bT]at aS bN aU;simp only[bS.len,bS.e4]at aS bN;rcases bN with⟨ax,_⟩ | ⟨ax,mx,af,hV,gF⟩
      ·rw[aU.1 ax]at aS;grind
      ·obtain⟨cs,hY,bE,c2,c3,c4,c5⟩:=aU.2 ax;refine⟨_,by simp[execOp,ag,af,U.1,Ky dq (p:=⟨(κ b).ab,mx,none⟩) rfl hc.1 hc.2];rfl,⟨ai.1.1,rfl⟩,λ_ _=>?_⟩;rw[bT];refine⟨by simp only[bS.len];omega,ax,?_⟩;rw[gF (by omega)];simp only[bS.e4,Nat.add_mul];grind
     grind
    ·rename_i e xs bT;split at hj
     ·rename_i he;subst he;simp only[Option.some.injEq,Prod.mk.injEq]at hj;obtain⟨rfl,rfl⟩:=hj;obtain⟨⟨aQ,aS⟩,bN⟩:=ai.2 ay.symm (by rw[bT];rfl);rw[bT]at aS bN aU;simp only[bS.len,bS.e4]at aS bN;have hlen:((xs.take G).drop a1).length=G - a1:=by grind
      obtain⟨r,b8,cw⟩:=zA ((xs.take G).drop a1) (FD aU aQ aS bN) (by omega);refine⟨r,b8,?_⟩;have az:kS e ((xs.take G).drop a1) n=kS e xs ((a1:Int)+n):=by
       rw[Kx hc.1 (by omega),Kx (by omega) (by omega)];grind
      grind
     grind
    grind
   grind
  ·simp_all
  ·cases hj
 ·rename_i m bH k n aF G;split at h
  ·rename_i dA a7 xs fa;split at h
   ·rename_i he;obtain⟨rfl,rfl⟩:=he;simp only[bP,ar.bO,Option.some.injEq]at h;subst h;refine cJ.pure (by grind) bg λa w κ F M bc hc=>?_;have ai:bA C.P s.ab κ F w (use (a8 C.aP s.aA x)).2 (a.eval x):=cQ M x rfl bc.1;rw[fa]at ai;have U:=oC (cQ M i rfl bc.2) G;obtain⟨j,aG,q6,_⟩:=(aV.cb aF (by simp)).bh;obtain⟨p,bk,af,cV,nW⟩:=ai;obtain⟨bE,c2,c3,rfl,aN,cL⟩:=Kl nW (i:=n.toNat) (by omega);refine⟨.pointer (some ⟨p.block,p.off+n.toNat*a7.size,none⟩),?_,⟨p.block,p.off+n.toNat*a7.size,none⟩,c2,rfl,⟨cV.1,rfl,λq bt=>?_⟩,cL⟩
    ·simp[execOp,ag,Instr.indexAt,af,U.1,asIntOf,dD aG,hc.1,hc.2,q6.size,Cr cV.2.1,Instr.sureAddr]
    ·have:=cV.2.2 (bE.length+q) (by grind);grind
   ·cases h
  ·rename_i b g off fa;simp only[ar.e5,ar.bO]at h;split at h
   ·rename_i bj;simp only[Bool.and_eq_true,decide_eq_true_eq]at bj;simp only[Option.some.injEq]at h;subst h;refine cJ.pure (by grind) bg λa w κ F M bc hc=>?_;have E:bA C.P s.ab κ F w (use (a8 C.aP s.aA x)).2 (a.eval x):=cQ M x rfl bc.1;rw[fa]at E;have U:=oC (cQ M i rfl bc.2) G;have ah:=E.2 bj.1.symm bj.2;obtain⟨j,aG,q6,_⟩:=(aV.cb aF (by simp)).bh;exact⟨_,by simp[execOp,ag,Instr.indexAt,ah,U.1,asIntOf,dD aG,hc.1,hc.2,q6.size,Cr (p:=⟨(κ b).ab,off,none⟩) rfl,Instr.sureAddr],⟨E.1.1,rfl⟩,λ_ _=>rfl⟩
   grind
  ·cases h
 ·cases h
theorem Cs{a:Act}{w:World}{κ:Nat->bB}{F:Nat->Prop}(M:bm C s a w κ F){x:Option Operand}{p:Prop}{n:Option Int}(h:ln (a8 C.aP s.aA) x=some (p,n))(aq:p) :
  (x=none/\n=none)\/∃ y k m,x=some y/\n=some m/\a.eval y=.int k m:=by
 cases x with
 | none=>simp only[ln,Option.some.injEq,Prod.mk.injEq]at h;grind
 | some y=>
  simp only[ln]at h;split at h
  ·rename_i q k m hu;simp only[Option.some.injEq,Prod.mk.injEq]at h;obtain⟨rfl,rfl⟩:=h;exact .inr ⟨y,k,m,rfl,rfl,(gW.1 (cQ M y hu aq)).1⟩
  grind
theorem R_{P:Program}{w:World}{isS:Bool}{len cap:Nat}{a1 G:Option Value}{l h:Option Int}(al:(a1=none/\l=none)\/∃ k m,a1=some (.int k m)/\l=some m)(cV:(G=none/\h=none)\/∃ k m,G=some (.int k m)/\h=some m)
  (E:0<=du l) (U:du l<=fE len h) (ah:fE len h<=(cap:Int)) (_h4:len<=cap):(Instr.sliceBounds isS len cap a1 G none).run P w=.ok ((du l).toNat,(fE len h).toNat,cap) w:=by
 rcases al with⟨rfl,rfl⟩ | ⟨k,m,rfl,rfl⟩<;>rcases cV with⟨rfl,rfl⟩ | ⟨k',dA,rfl,rfl⟩<;>simp only[du,fE]at E U ah ⊢
 ·rfl
 ·have:0<=dA/\dA<=(cap:Int):=by omega
  simp[Instr.sliceBounds,Instr.sliceBound,asIntOf,this]
 ·have:0<=m/\m<=(len:Int):=by omega
  simp[Instr.sliceBounds,Instr.sliceBound,asIntOf,this]
 ·have az:0<=dA/\dA<=(cap:Int):=by omega
  have aN:0<=m/\m<=dA:=by omega
  have cL:max dA 0=dA:=by omega
  simp[Instr.sliceBounds,Instr.sliceBound,asIntOf,az,aN,cL]
theorem adZ{l h:Option Int}{n m:Nat}(R':n<=m):B9 l h n m<=m:=by
 unfold B9;grind
theorem ad0(aV:dT C.P T){ty:TypeId}{x:Operand}{a1 G:Option Operand}(bg:∀ i,o.dst=some i->i<C.nt)(ag:o.op=.slice ty x a1 G none)(h:(bu C.aP T bf (a8 C.aP s.aA) o).run s.ab=some res):cJ C o s res:=by
 simp only[bu,ag,Option.isSome_none,Bool.false_eq_true,if_false,FG]at h;split at h
 ·rename_i ol l q1 l0 si Kz;have au:∀ c,o.op≠.defer c:=by grind
  have r9:∀ (a:Act) (w:World) κ F,bm C s a w κ F->ol->q1->((a1.map a.eval=none/\l=none)\/∃ k m,a1.map a.eval=some (.int k m)/\l=some m)/\((G.map a.eval=none/\l0=none)\/∃ k m,G.map a.eval=some (.int k m)/\l0=some m):=by
   intro a w κ F M Ct Cu;constructor
   ·rcases Cs M si Ct with⟨rfl,rfl⟩ | ⟨y,k,m,rfl,rfl,e⟩
    ·exact .inl ⟨rfl,rfl⟩
    ·exact .inr ⟨k,m,by simp[e],rfl⟩
   ·rcases Cs M Kz Cu with⟨rfl,rfl⟩ | ⟨y,k,m,rfl,rfl,e⟩
    ·exact .inl ⟨rfl,rfl⟩
    ·exact .inr ⟨k,m,by simp[e],rfl⟩
  split at h
  ·rename_i bH aF;have dq:=aV.cb aF (by simp);obtain⟨j,aG,jb,oG⟩:=dq.sl;simp only[ar.e6,Option.bind_eq_some_iff]at h;obtain⟨⟨c,v⟩,fW,h⟩:=h;simp only[bP,ar.bO,Option.some.injEq]at h;subst h;have runs:∀ (a:Act) (w:World) κ F,bm C s a w κ F->ol->q1->∀ (q:Option Addr) (n cap:Nat),a.eval x=.slice q n cap->n<=cap->0<=du l/\du l<=fE n l0/\fE n l0<=(cap:Int)->
     (execOp a.eval o).run C.P w=.ok (.value (.slice (if cap=(du l).toNat then q else q.map (·.add ((du l).toNat*bH.size))) ((fE n l0).toNat - (du l).toNat) (cap - (du l).toNat))) w:=by
    intro a w κ F M Ct Cu q n cap af ax hc;obtain⟨dO,e3⟩:=r9 a w κ F M Ct Cu;have:=R_ (P:=C.P) (w:=w) (isS:=true) dO e3 hc.1 hc.2.1 hc.2.2 ax;simp[execOp,ag,af,Instr.sliceAt,Instr.slice,dD aG,this,jb.size]
   unfold RH at fW;split at fW
   ·rename_i e xs fa;simp only[ar.bO]at fW;split at fW
    ·rename_i he;subst he;simp only[Option.some.injEq,Prod.mk.injEq]at fW;obtain⟨rfl,rfl⟩:=fW;refine cJ.pure au bg λa w κ F M bc hc=>?_;have ai:bA C.P s.ab κ F w (use (a8 C.aP s.aA x)).2 (a.eval x):=cQ M x rfl bc.1;rw[fa]at ai;obtain⟨_,a',cap,az,m1,m2,m3,m4⟩:=(dU rfl).1 ai;have az:=(List.cons.inj az).1;refine⟨_,runs a w κ F M bc.2.1 bc.2.2 a' xs.length cap az m1 ⟨hc.1,hc.2.1,by omega⟩,(dU rfl).2 ⟨rfl,?_⟩⟩;have hlen:((xs.take (fE xs.length l0).toNat).drop (du l).toNat).length=(fE xs.length l0).toNat - (du l).toNat:=by
      simp;omega
     refine⟨_,_,by rw[hlen],by omega,by omega,?_,λp aq va=>?_⟩
     ·intro ax;split at ax
      ·omega
      ·cases a' with
       | none=>have:=m3 rfl;omega
       | some q=>cases ax
     ·cases a' with
      | none=>split at aq<;>cases aq
      | some q=>
       obtain⟨dZ,dP,hZ⟩:=m4 q rfl (by omega);have bt:∃ d,p=⟨q.block,q.off+d,none⟩/\(d=(du l).toNat*e.size\/cap=(du l).toNat):=by
        split at aq
        ·omega
        ·simp only[Option.map_some,Option.some.injEq]at aq;rw[Cr dP]at aq;grind
       obtain⟨d,rfl,w_⟩:=bt;refine⟨dZ,rfl,λi G=>?_⟩;rw[hlen]at G;obtain⟨bk,d1,d2⟩:=hZ ((du l).toNat+i) (by omega);rcases w_ with rfl | xl
       ·refine⟨bk,⟨d1.1,rfl,λk ak=>?_⟩,?_⟩
        ·have:=d1.2.2 k ak;rw[Nat.add_mul]at this;rw[show q.off+(du l).toNat*e.size+i*e.size=q.off+((du l).toNat*e.size+i*e.size) from by omega];exact this
        ·have aN:((xs.take (fE xs.length l0).toNat).drop (du l).toNat)[i]'(by rw[hlen];exact G)=xs[(du l).toNat+i]'(by omega):=by simp
         rw[aN];exact d2
       ·omega
    grind
   ·rename_i fa;simp only[ar.bO,Option.some.injEq,Prod.mk.injEq]at fW;obtain⟨rfl,rfl⟩:=fW;refine cJ.pure au bg λa w κ F M bc hc=>?_;have ai:bA C.P s.ab κ F w (use (a8 C.aP s.aA x)).2 (a.eval x):=cQ M x rfl bc.1;rw[fa]at ai;simp only[bA]at ai;have jO:0<=du l/\du l<=fE 0 l0/\fE 0 l0<=((0:Nat):Int):=hc;have c_:=runs a w κ F M bc.2.1 bc.2.2 none 0 0 ai (Nat.le_refl _) jO;have aY:(fE 0 l0).toNat=0:=by omega
    rw[aY]at c_;refine⟨_,c_,?_⟩;simp only[bA];simp
   ·rename_i b g fa;simp only[ar.e5,ar.bO]at fW;split at fW
    ·rename_i bj;simp only[Bool.and_eq_true,decide_eq_true_eq,beq_iff_eq]at bj;obtain⟨⟨ay,fb⟩,Cj⟩:=bj;simp only[Option.some.injEq,Prod.mk.injEq]at fW;obtain⟨rfl,rfl⟩:=fW;refine cJ.pure au bg λa w κ F M bc hc=>?_;have ai:bA C.P s.ab κ F w (use (a8 C.aP s.aA x)).2 (a.eval x):=cQ M x rfl bc.1;rw[fa]at ai;have af:=ai.2 ay.symm fb;obtain⟨dZ,dP⟩:=zv M fb;cases ax:(κ b).e_ with
     | true=>
      have aY:=dZ ax;simp only[bB.slice,ax,if_true]at af;rw[aY]at hc;have c_:=runs a w κ F M bc.2.1 bc.2.2 none 0 0 af (Nat.le_refl _) hc;refine⟨_,c_,⟨ai.1.1,by rfl⟩,λ_ _=>⟨by grind,.inl ⟨ax,?_⟩⟩⟩;grind
     | false=>
      have xl:=Km M fb ax;simp only[bB.slice,ax,Bool.false_eq_true,if_false]at af;have c_:=runs a w κ F M bc.2.1 bc.2.2 _ _ _ af xl ⟨hc.1,hc.2.1,by omega⟩;refine⟨_,c_,⟨ai.1.1,by rfl⟩,λ_ _=>⟨by omega,.inr ⟨ax,?_⟩⟩⟩;rw[<-Cj];by_cases lX:(κ b).cap=(du l).toNat
      ·grind
      ·rw[if_neg lX];simp only[Option.map_some,vf];simp
    grind
   ·rename_i b g fj aY fa;simp only[ar.e5,ar.bO]at fW;split at fW
    ·rename_i bj;simp only[Bool.and_eq_true,decide_eq_true_eq,beq_iff_eq]at bj;obtain⟨⟨ay,fb⟩,Cj⟩:=bj;simp only[Option.some.injEq,Prod.mk.injEq]at fW;obtain⟨rfl,rfl⟩:=fW;refine cJ.pure au bg λa w κ F M bc hc=>?_;have ai:bA C.P s.ab κ F w (use (a8 C.aP s.aA x)).2 (a.eval x):=cQ M x rfl bc.1;rw[fa]at ai;obtain⟨⟨aQ,aS⟩,bN⟩:=ai.2 ay.symm fb;obtain⟨dZ,dP⟩:=zv M fb;have sj:B9 l l0 (aY - fj) ((s.ab b).body.len - fj)<=(s.ab b).body.len - fj:=adZ (by omega);revert hc sj;generalize B9 l l0 (aY - fj) ((s.ab b).body.len - fj)=lim;intro hc sj;rcases bN with⟨ax,af⟩ | ⟨ax,mx,af,hV,gF⟩
     ·have KA:=dZ ax;have bH:aY - fj=0:=by omega
      have elim:lim=0:=by omega
      rw[bH,elim]at hc;grind
     ·have xl:=Km M fb ax;have c_:=runs a w κ F M bc.2.1 bc.2.2 _ _ _ af (by omega) ⟨hc.1,hc.2.1,by omega⟩;refine⟨_,c_,⟨ai.1.1,by rfl⟩,λ_ _=>⟨by omega,.inr ⟨ax,?_⟩⟩⟩;rw[<-Cj];rw[<-Cj]at c_;have az:(fE (aY - fj) l0).toNat - (du l).toNat=fj+(fE (aY - fj) l0).toNat - (fj+(du l).toNat):=by omega
      have aN:(κ b).cap - fj - (du l).toNat=(κ b).cap - (fj+(du l).toNat):=by omega
      rw[az,aN];have cL:(fj+(du l).toNat)*(s.ab b).body.e4=fj*(s.ab b).body.e4+(du l).toNat*(s.ab b).body.e4:=Nat.add_mul _ _ _;by_cases lX:(κ b).cap - fj=(du l).toNat
      ·rw[if_pos lX];exact⟨_,rfl,by omega,λh=>by omega⟩
      ·rw[if_neg lX];simp only[Option.map_some,vf];exact⟨_,rfl,by omega,λh=>by omega⟩
    grind
   ·cases fW
  ·rename_i aF;have dq:=(aV.cb aF (by simp)).str;split at h
   ·rename_i c v fW;simp only[bP,ar.bO,Option.some.injEq]at h;subst h;unfold RI at fW;split at fW
    ·rename_i xs fa;simp only[Option.some.injEq,Prod.mk.injEq]at fW;obtain⟨rfl,rfl⟩:=fW;refine cJ.pure au bg λa w κ F M bc hc=>?_;have ai:bA C.P s.ab κ F w (use (a8 C.aP s.aA x)).2 (a.eval x):=cQ M x rfl bc.1;rw[fa]at ai;obtain⟨af,ch⟩:=ml.1 ai;obtain⟨dO,e3⟩:=r9 a w κ F M bc.2.1 bc.2.2;have aD:ByteArray.size ⟨xs.toArray⟩=xs.length:=by rfl
     have:=R_ (P:=C.P) (w:=w) (isS:=false) (len:=xs.length) (cap:=xs.length) dO e3 hc.1 hc.2.1 hc.2.2 (Nat.le_refl _);refine⟨.string ⟨((xs.take (fE xs.length l0).toNat).drop (du l).toNat).toArray⟩,?_,ml.2 ⟨rfl,by grind⟩⟩;simp only[execOp,ag,af,Instr.sliceAt,Instr.slice,Sem.run_bind,dD dq,Result.andThen_ok,Option.map_none,Option.isSome_none,Bool.false_eq_true,if_false,aD,this,Sem.run_pure];have he:ByteArray.extract ⟨xs.toArray⟩ (du l).toNat (fE xs.length l0).toNat=⟨((xs.take (fE xs.length l0).toNat).drop (du l).toNat).toArray⟩:=by
      apply ByteArray.ext;rw[ByteArray.data_extract];grind
     rw[he]
    grind
   ·cases h
  ·cases h
 ·cases h
end
end Go.Fer
namespace Go.Fer
open Go.RowKit
def gx(P:Program)(e:ad)(F:Nat->Prop)(w:World)(all:List Value)(xs:List e.aj):Prop:=
 all.length=xs.length*e.size/\∀ i (h:i<xs.length),bI P e F w ((all.drop (i*e.size)).take e.size) xs[i]
theorem gx.append{P:Program}{e:ad}{F:Nat->Prop}{w:World}{l m:List Value}{xs ys:List e.aj}(h:gx P e F w l xs)(k:gx P e F w m ys):gx P e F w (l++m) (xs++ys):=by
 refine⟨by simp[h.1,k.1,Nat.add_mul],λi G=>?_⟩;by_cases ai:i<xs.length
 ·have az:(xs++ys)[i]=xs[i]:=List.getElem_append_left ai;rw[az];have hle:(i+1)*e.size<=xs.length*e.size:=Nat.mul_le_mul_right _ (by omega);rw[Nat.add_mul,Nat.one_mul]at hle;have:((l++m).drop (i*e.size)).take e.size=(l.drop (i*e.size)).take e.size:=by
   rw[List.drop_append_of_le_length (by rw[h.1];omega),List.take_append_of_le_length (by simp[h.1];omega)]
  rw[this];exact h.2 i ai
 ·have dM:i - xs.length<ys.length:=by grind
  have az:(xs++ys)[i]=ys[i - xs.length]:=List.getElem_append_right (by omega);rw[az];have hm:i*e.size=xs.length*e.size+(i - xs.length)*e.size:=by rw[<-Nat.add_mul];grind
  have:(l++m).drop (i*e.size)=m.drop ((i - xs.length)*e.size):=by
   rw[hm,<-h.1,List.drop_append,List.drop_of_length_le (by omega)];simp
  rw[this];exact k.2 _ dM
theorem gx.Cv{P:Program}{e:ad}{F:Nat->Prop}{w:World}{all pre post:List Value}{cs:Array Value}{xs:List e.aj}(h:gx P e F w all xs)(hc:cs.toList=pre++(all++post)):lR P e F w cs pre.length xs:=by
 intro i G;have hle:(i+1)*e.size<=xs.length*e.size:=Nat.mul_le_mul_right _ (by omega);rw[Nat.add_mul,Nat.one_mul]at hle;refine⟨_,λj aG=>?_,h.2 i G⟩;have fV:j<e.size:=by grind
 rw[<-Array.getElem?_toList,hc,List.getElem?_append_right (by omega),List.getElem?_append_left (by grind)];grind
theorem FZ{P:Program}{e:ad}{F:Nat->Prop}{w:World}:∀ {xs:List e.aj} {p:Addr},(0<xs.length->p.spot=none)->(∀ i (h:i<xs.length),∃ bk,kA w ⟨p.block,p.off+i*e.size,none⟩ bk/\bI P e F w bk xs[i])->
  ∃ all,gx P e F w all xs/\kA w p all
 | [],p,aq,_=>⟨[],⟨by simp,λi G=>by grind⟩,λh=>by grind,λj aG=>by grind⟩
 | x::xs,p,aq,h=>by
  obtain⟨bk,d1,d2⟩:=h 0 (by simp);have vl:=hT e d2;obtain⟨all,b6,a2⟩:=FZ (P:=P) (F:=F) (w:=w) (xs:=xs) (p:=⟨p.block,p.off+e.size,none⟩) (λ_=>rfl) (λi G=>by
   obtain⟨R9,aQ,aS⟩:=h (i+1) (by grind);grind)
  refine⟨bk++all,?_,λ_=>aq (by simp),λj aG=>?_⟩
  ·have E:gx P e F w bk [x]:=⟨by grind,λi G=>by
    have:i=0:=by grind
    subst this;grind⟩
   exact E.append b6
  ·rcases Nat.lt_or_ge j bk.length with E | E
   ·rw[List.getElem_append_left E];have:=d1.2 j E;grind
   ·rw[List.getElem_append_right E];have:=a2.2 (j - bk.length) (by grind);grind
section
variable {C:b_} {T:Nat->ad} {bf:Nat->Option aO} {o:Oper} {s:aC} {res:eC}
theorem sk{a:Act}{w:World}{κ:Nat->bB}{F:Nat->Prop}(M:bm C s a w κ F){e:ad}{av:aI}{v:Value}{ys:List e.aj}{l:List Nat}(h:(dC (.slice e) av).run s.ab=some (ys,l))(af:bA C.P s.ab κ F w av v) :
  ∃ q cap,v=.slice q ys.length cap/\((q=none/\ys=[]/\cap=0)\/∃ p all,q=some p/\gx C.P e F w all ys/\kA w p all):=by
 have zA:∀ {xs:List e.aj},bI C.P (.slice e) F w [v] xs->∃ q cap,v=.slice q xs.length cap/\((q=none/\xs=[]/\cap=0)\/∃ p all,q=some p/\gx C.P e F w all xs/\kA w p all):=by
  intro xs ai;obtain⟨q,cap,az,m1,m2,m3,m4⟩:=ai;refine⟨q,cap,(List.cons.inj az).1,?_⟩;cases q with
  | none=>
   simp_all
  | some p=>
   obtain⟨all,b6,a2⟩:=FZ (P:=C.P) (F:=F) (w:=w) (xs:=xs) (p:=p) (λh=>(m4 p rfl (by omega)).2.1) (λi G=>let ⟨bk,d1,d2⟩:=(m4 p rfl (by omega)).2.2 i G;⟨bk,d1.Kd,d2⟩);grind
 cases av with
 | val cZ y=>
  simp only[dC,ar.bO,Option.map_eq_some_iff,Prod.mk.injEq]at h;obtain⟨z,bj,rfl,_⟩:=h;exact zA (((dU rfl).1 (FC bj af)).2)
 | cx=>
  simp only[dC,ku,ad.eG,if_true,dW,ar.bO,Option.some.injEq,Prod.mk.injEq]at h;obtain⟨rfl,_⟩:=h;simp only[bA]at af;grind
 | own b g=>
  simp only[dC,ku,ad.eG,if_true,dW,ar.e5,ar.bO]at h;split at h
  ·rename_i ay;have aU:=M.bD b;unfold cG at aU;split at h
   ·rename_i a7 xs bT;simp only[Option.map_eq_some_iff,Prod.mk.injEq]at h;obtain⟨z,bj,rfl,_⟩:=h;obtain⟨q7,rfl⟩:=kR bj;cases q7;have tM:=af.2 ay.symm (by rw[bT];rfl);rw[bT]at tM aU;simp only[bS.len]at tM;cases ax:(κ b).e_ with
    | true=>
     have hX:=aU.1 ax;subst hX;simp only[bB.slice,ax,if_true]at tM;grind
    | false=>
     obtain⟨cs,hY,bE,c2,c3,c4,c5⟩:=aU.2 ax;simp only[bB.slice,ax,Bool.false_eq_true,if_false]at tM;obtain⟨all,b6,a2⟩:=FZ (P:=C.P) (F:=F) (w:=w) (xs:=xs) (p:=⟨(κ b).ab,(κ b).off,none⟩) (λ_=>rfl) (λi G=>by
      obtain⟨bk,d1,d2⟩:=c5 i G;exact⟨bk,⟨λ_=>rfl,λj aG=>by rw[vh bE];grind⟩,d2⟩)
     grind
   ·rename_i a7 xs bT;simp only[Option.map_eq_some_iff,Prod.mk.injEq]at h;obtain⟨z,bj,rfl,_⟩:=h;obtain⟨q7,rfl⟩:=kR bj;cases q7;have tM:=af.2 ay.symm (by rw[bT];rfl);rw[bT]at tM aU;simp only[bS.len]at tM;simp only[jH]at aU;grind
   grind
  grind
 | sub b g a1 G=>
  simp only[dC,ku,ad.eG,if_true,dW,ar.e5,ar.bO]at h;split at h
  ·rename_i ay;have aU:=M.bD b;unfold cG at aU;split at h
   ·rename_i a7 xs bT;simp only[Option.map_eq_some_iff,Prod.mk.injEq]at h;obtain⟨z,bj,rfl,_⟩:=h;obtain⟨q7,rfl⟩:=kR bj;cases q7;obtain⟨⟨aQ,aS⟩,bN⟩:=af.2 ay.symm (by rw[bT];rfl);rw[bT]at aS bN aU;simp only[bS.len,bS.e4]at aS bN;have hlen:((xs.take G).drop a1).length=G - a1:=by grind
    rcases bN with⟨ax,tM⟩ | ⟨ax,mx,tM,hV,gF⟩
    ·have hX:=aU.1 ax;grind
    ·obtain⟨cs,hY,bE,c2,c3,c4,c5⟩:=aU.2 ax;obtain⟨all,b6,a2⟩:=FZ (P:=C.P) (F:=F) (w:=w) (xs:=(xs.take G).drop a1) (p:=⟨(κ b).ab,mx,none⟩) (λ_=>rfl) (λi dM=>by
      rw[hlen]at dM;obtain⟨bk,d1,d2⟩:=c5 (a1+i) (by omega);refine⟨bk,⟨λ_=>rfl,λj aG=>?_⟩,?_⟩
      ·rw[vh bE,<-d1 j aG];grind
      grind)
     grind
   ·rename_i a7 xs bT;simp only[Option.map_eq_some_iff,Prod.mk.injEq]at h;obtain⟨z,bj,rfl,_⟩:=h;obtain⟨q7,rfl⟩:=kR bj;cases q7;obtain⟨⟨aQ,aS⟩,bN⟩:=af.2 ay.symm (by rw[bT];rfl);rw[bT]at aS bN aU;exact zA (FD aU aQ aS bN)
   grind
  grind
 | dV cZ y=>simp[dC,ku,ad.eG,dW,ar.none]at h
 | jG u=>simp[dC,ku,ad.eG,dW,B5]at h
 | _=>simp[dC,ku,ad.eG,dW,ar.none]at h
theorem zB{P:Program}{w:World}{e:ad}{q:Option Addr}{n cap:Nat}{xs:List e.aj}{F:Nat->Prop}(ax:n=xs.length)(h:(q=none/\xs=[]/\cap=0)\/∃ p all,q=some p/\gx P e F w all xs/\kA w p all) :
  ∃ all,(Builtin.firstCells e.size n (.slice q n cap)).run P w=.ok all.toArray w/\gx P e F w all xs:=by
 subst ax;rcases h with⟨rfl,rfl,rfl⟩ | ⟨p,all,rfl,b6,a2⟩
 ·exact⟨[],by rfl,by simp[gx]⟩
 ·refine⟨all,?_,b6⟩;simp only[Builtin.firstCells];rw[<-b6.1];exact FN a2
theorem ad1(n:Nat):∀ (k c:Nat),Builtin.growBy n k c<=max c (2*n+768):=by
 intro k;induction k with
 | zero=>intro c;simp only[Builtin.growBy];omega
 | succ k aL=>
  intro c;simp only[Builtin.growBy];grind
theorem ad2{F1 cap:Nat}(h:cap<F1):Builtin.nextslicecap F1 cap<=2*F1+768:=by
 unfold Builtin.nextslicecap;split
 ·omega
 ·split
  ·omega
  ·have:=ad1 F1 4 cap;omega
theorem ad3{z:Array Value}{n k:Nat}(h:z.size=k):(Builtin.zeroCells z n).size=n*k:=by simp[Builtin.zeroCells,h]
theorem ad4{P:Program}{w:World}{e:ad}{ty mX:TypeId}{F:Nat->Prop}(h:b9 P (.slice e) ty)(dw:b9 P (.slice e) mX\/∃ a7,b9 P (.slice a7) mX){q q':Option Addr}{cap cap':Nat}{xs ys:List e.aj}
  (ai:(q=none/\xs=[]/\cap=0)\/∃ p all,q=some p/\gx P e F w all xs/\kA w p all) (aT:(q'=none/\ys=[]/\cap'=0)\/∃ p all,q'=some p/\gx P e F w all ys/\kA w p all)
  (hc:cap<xs.length+ys.length) (al:bQ (xs.length+ys.length)) (rt:TypeId) :
  ∃ jP q8 cs,(Builtin.append_ #[ty,mX] rt #[.slice q xs.length cap,.slice q' ys.length cap']).run P w=.ok (.slice (some ⟨w.heap.size,0,none⟩) (xs.length+ys.length) q8) (w.drew.alloc (.cells cs jP))/\
   q8<2 ^ 63/\xs.length+ys.length<=q8/\cs.size=q8*e.size/\lR P e F w cs 0 (xs++ys):=by
 obtain⟨jP,aG,jb,oG⟩:=h.sl;obtain⟨kc,fV⟩:∃ kc,P.underlying mX=some (.slice kc):=by
  rcases dw with dw | ⟨a7,dw⟩
  ·obtain⟨kc,k,_⟩:=dw.sl;grind
  ·obtain⟨kc,k,_⟩:=dw.sl;grind
 obtain⟨i,z,i1,i2,i3,i4,i5,i6⟩:=kx jb.kv;have bj:=(Cn e (P:=P) i5).2;have ad5:∀ t:Nat,xs.length+ys.length<=xs.length+ys.length+t % (2 ^ 63 - (xs.length+ys.length))/\xs.length+ys.length+t % (2 ^ 63 - (xs.length+ys.length))<2 ^ 63:=by
  intro t;unfold bQ at al;have:t % (2 ^ 63 - (xs.length+ys.length))<2 ^ 63 - (xs.length+ys.length):=Nat.mod_lt _ (by omega);omega
 generalize KB:xs.length+ys.length+(w.tape w.drawn (.appendCap (xs.length+ys.length) cap jP)) % (2 ^ 63 - (xs.length+ys.length))=q8;have KC:=ad5 (w.tape w.drawn (.appendCap (xs.length+ys.length) cap jP));rw[KB]at KC;have Sa:∀ {p:Addr} {all:List Value},kA w p all->kA w.drew p all:=λh=>h;have Sb:∀ {all:List Value} {zs:List e.aj},gx P e F w all zs->gx P e F w.drew all zs:=λh=>⟨h.1,λi G=>fg e (F:=F) (F':=F) (w:=w) (w':=w.drew) (λ_ M=>M) ⟨Nat.le_refl _,λ_ _=>rfl⟩ (h.2 i G)⟩
 have nV:(q=none/\xs=[]/\cap=0)\/∃ p all,q=some p/\gx P e F w.drew all xs/\kA w.drew p all:=ai.imp id λ⟨p,all,a,b,c⟩=>⟨p,all,a,Sb b,Sa c⟩
 have Cw:(q'=none/\ys=[]/\cap'=0)\/∃ p all,q'=some p/\gx P e F w.drew all ys/\kA w.drew p all:=aT.imp id λ⟨p,all,a,b,c⟩=>⟨p,all,a,Sb b,Sa c⟩
 obtain⟨vn,hV,gF⟩:=zB (P:=P) (w:=w.drew) (cap:=cap) rfl nV;obtain⟨eA,dZ,dP⟩:=zB (P:=P) (w:=w.drew) (cap:=cap') rfl Cw;refine⟨jP,q8,vn.toArray++eA.toArray++Builtin.zeroCells z.cells (q8 - (xs.length+ys.length)),?_,KC.2,KC.1,?_,?_⟩
 ·have aa:=ad2 hc;have q9:Builtin.nextslicecap (xs.length+ys.length) cap*i.bytes<=281474976710656:=by
   unfold bQ at al;calc Builtin.nextslicecap (xs.length+ys.length) cap*i.bytes<=(2*4294967296+768)*1024:=Nat.mul_le_mul (by omega) i3
    _<=281474976710656:=by decide
  have zC:¬((xs.length+ys.length:Nat):Int) > IntKind.i64.max:=by
   unfold bQ at al;have:IntKind.i64.max=9223372036854775807:=by decide
   omega
  have ad6:¬Builtin.nextslicecap (xs.length+ys.length) cap*i.bytes > 2 ^ 48:=by
   omega
  have Sc:(Question.appendCap (xs.length+ys.length) cap jP).cut (w.tape w.drawn (.appendCap (xs.length+ys.length) cap jP))=q8:=by
   rw[<-KB];rfl
  have ad7:(Question.appendCap (xs.length+ys.length) cap jP).forced=false:=rfl;simp only[Builtin.append_,List.getElem?_toArray,List.getElem?_cons_zero,List.getElem?_cons_succ,Sem.run_bind,dD aG,dD fV,Result.andThen_ok,sc i1,i2,Sem.run_pure,Builtin.lenOf,Bool.false_eq_true,if_false,if_neg (show ¬xs.length+ys.length<=cap by omega),zC,false_and,FL i1,ad6,run_choose,ad7,Sc,run_askRoom,Bool.not_false,if_true,World.drew_eq,hV,dZ,q3 i1 i4];rfl
 ·have E:=gF.1;have U:=dP.1;simp only[Array.size_append,List.size_toArray,ad3 bj,E,U];rw[<-Nat.add_mul,<-Nat.add_mul];grind
 ·have jn:=gF.append dP;have ad8:gx P e F w (vn++eA) (xs++ys):=⟨jn.1,λi G=>fg e (F:=F) (F':=F) (w:=w.drew) (w':=w) (λ_ M=>M) ⟨Nat.le_refl _,λ_ _=>rfl⟩ (jn.2 i G)⟩
  exact ad8.Cv (pre:=[]) (post:=(Builtin.zeroCells z.cells (q8 - (xs.length+ys.length))).toList) (by simp)
end
end Go.Fer
namespace Go.Fer
open Go.RowKit
section
variable {C:b_} {T:Nat->ad} {bf:Nat->Option aO} {o:Oper} {s:aC} {res:eC}
theorem bm.Cx{a:Act}{w w':World}{κ:Nat->bB}{F:Nat->Prop}(h:bm C s a w κ F){b g:Nat}{e:ad}{zs:List e.aj}{k:bB}(ay:(s.ab b).gen<g)(ls:k.e_=true\/k.ab=w.heap.size)(cd:w.heap.size<=w'.heap.size)
  (nY:∀ r,r<w.heap.size->w'.heap[r]?=w.heap[r]?) (ch:k.e_=false->k.ab<w'.heap.size) (hc:de w w')
  (bT:∀ H κ',jH C.P H κ' F w' k (.bh e zs)):bm C (s.cz b ⟨g,.bh e zs⟩) a w' (λi=>if i=b then k else κ i) F:=by
 have al:fs s.ab κ (λi=>if i=b then (⟨g,.bh e zs⟩:bK) else s.ab i) (λi=>if i=b then k else κ i):=zd ay λbe cY=>by grind
 have he:c8 F w w':=⟨cd,λr M=>nY r (h.dd r M)⟩
 refine h.move (H':=λi=>if i=b then (⟨g,.bh e zs⟩:bK) else s.ab i) al (λ_ M=>M) (λ_ M=>.inl M) cd (λr M _=>nY r M) hc (λ_=>?_) ?_ ?_ (λr M=>Nat.lt_of_lt_of_le (h.dd r M) cd) (ze (.inr ⟨rfl,rfl⟩) λbe cY=>by grind)
 ·intro i;by_cases G:i=b
  ·subst G;simp only[cG,if_true];grind
  ·exact cG.ll (h.bD i) al (λ_ M=>M) he (by grind) (by grind) λag=>nY _ (h.own i ag).1
 ·intro i G;by_cases eO:i=b
  ·subst eO;simp only[if_true,bS.b1,Bool.not_eq_true']at G ⊢;have ak:=ls.resolve_left (by grind);refine⟨ch G,λao=>?_,.inr (by omega)⟩;have:=h.dd _ ao;omega
  ·simp only[if_neg eO]at G ⊢;have:=h.own i G;grind
 ·intro i j G aG a7;by_cases eO:i=b<;>by_cases mn:j=b
  ·omega
  ·simp only[if_pos eO,if_neg mn,bS.b1,Bool.not_eq_true']at G aG a7;have ak:=ls.resolve_left (by grind);have:=(h.own j aG).1;omega
  ·simp only[if_neg eO,if_pos mn,bS.b1,Bool.not_eq_true']at G aG a7;have ak:=ls.resolve_left (by grind);have:=(h.own i G).1;omega
  ·simp only[if_neg eO,if_neg mn]at G aG a7;exact h.inj i j G aG a7
theorem ad9(s:aC)(b:Nat)(x y:bK):(s.cz b x).cz b y=s.cz b y:=by
 unfold aC.cz;grind
theorem bm.ad_{a:Act}{w:World}{κ:Nat->bB}{F:Nat->Prop}(h:bm C s a w κ F){b:Nat}{e:ad}{xs:List e.aj}(aa:(s.ab b).body=.bh e xs){a1 G:Nat}(E:a1<=G)(U:G<=xs.length){v:Value}(aD:FB (κ b) e.size a1 G v) :
  ∃ κ',bm C (s.cz b ⟨(s.ab b).gen+1,.bh e ((xs.take G).drop a1)⟩) a w κ' F/\v=(κ' b).slice ((xs.take G).drop a1).length:=by
 have hlen:((xs.take G).drop a1).length=G - a1:=by grind
 have gw:∀ κ':Nat->bB,(∀ be,be≠b->κ' be=κ be)->fs s.ab κ (λi=>if i=b then (⟨(s.ab b).gen+1,.bh e ((xs.take G).drop a1)⟩:bK) else s.ab i) κ':=
  λκ' B3=>zd (Nat.lt_succ_self _) B3
 have aU:=h.bD b;unfold cG at aU;rw[aa]at aU;rcases aD with⟨ax,rfl⟩ | ⟨ax,o,rfl,hV,gF⟩
 ·have hX:=aU.1 ax;subst hX;refine⟨κ,?_,by simp[bB.slice,ax]⟩;refine h.move (H':=λi=>if i=b then (⟨(s.ab b).gen+1,.bh e ((([]:List e.aj).take G).drop a1)⟩:bK) else s.ab i) (gw κ λ_ _=>rfl) (λ_ M=>M) (λ_ M=>.inl M) (Nat.le_refl _) (λ_ _ _=>rfl) (de.refl _) (λ_=>?_) ?_ ?_ h.dd (ze (.inr ⟨rfl,rfl⟩) λ_ _=>rfl)
  ·intro i;by_cases G:i=b
   ·subst G;simp only[cG,if_true];exact⟨λ_=>by simp,λh=>by grind⟩
   ·exact cG.ll (h.bD i) (gw κ λ_ _=>rfl) (λ_ M=>M) (c8.refl _ _) (by grind) rfl λ_=>rfl
  ·intro i G;by_cases eO:i=b
   ·subst eO;simp[bS.b1,ax]at G
   ·simp only[if_neg eO]at G;exact⟨(h.own i G).1,(h.own i G).2.1,.inl ⟨i,G,rfl⟩⟩
  ·intro i j G aG a7;by_cases eO:i=b
   ·subst eO;simp[bS.b1,ax]at G
   ·by_cases mn:j=b
    ·subst mn;simp[bS.b1,ax]at aG
    ·simp only[if_neg eO,if_neg mn]at G aG;exact h.inj i j G aG a7
 ·obtain⟨cs,hY,bE,c2,c3,c4,c5⟩:=aU.2 ax;let k':bB:=⟨(κ b).ab,o,(κ b).cap - a1,false⟩
  let κ':Nat->bB:=λi=>if i=b then k' else κ i
  have Cy:∀ be,be≠b->κ' be=κ be:=λbe h=>if_neg h;have zD:κ' b=k':=if_pos rfl;have gr:=h.own b (by rw[aa];simp[bS.b1,ax]);refine⟨κ',?_,by rw[zD,hlen];rfl⟩;refine h.move (H':=λi=>if i=b then (⟨(s.ab b).gen+1,.bh e ((xs.take G).drop a1)⟩:bK) else s.ab i) (gw κ' Cy) (λ_ M=>M) (λ_ M=>.inl M) (Nat.le_refl _) (λ_ _ _=>rfl) (de.refl _) (λ_=>?_) ?_ ?_ h.dd (ze (.inr ⟨rfl,rfl⟩) Cy)
  ·intro i;by_cases dM:i=b
   ·subst dM;simp only[cG,if_true,zD];have hmul:a1*e.size<=(κ i).cap*e.size:=Nat.mul_le_mul_right _ (by omega);refine⟨λh=>(by cases h),λ_=>⟨cs,hY,bE,?_,by grind,by grind,λj aG=>?_⟩⟩
    ·simp only[k'];rw[Nat.sub_mul];omega
    ·rw[hlen]at aG;obtain⟨bk,d1,d2⟩:=c5 (a1+j) (by omega);grind
   ·exact cG.ll (h.bD i) (gw κ' Cy) (λ_ M=>M) (c8.refl _ _) (by grind) (Cy i dM) λ_=>rfl
  ·intro i dM;by_cases eO:i=b
   ·subst eO;rw[zD];exact⟨gr.1,gr.2.1,.inl ⟨i,by rw[aa];simp[bS.b1,ax],rfl⟩⟩
   ·simp only[if_neg eO]at dM;rw[Cy i eO]at dM ⊢;exact⟨(h.own i dM).1,(h.own i dM).2.1,.inl ⟨i,dM,rfl⟩⟩
  ·intro i j dM aG a7;have Sd:∀ i,(κ' i).ab=(κ i).ab:=λi=>by
    grind
   have ca:∀ i,((if i=b then (⟨(s.ab b).gen+1,.bh e ((xs.take G).drop a1)⟩:bK) else s.ab i).body.b1 (κ' i)=true)->(s.ab i).body.b1 (κ i)=true:=λi G=>by
    by_cases eO:i=b
    ·subst eO;rw[aa];simp[bS.b1,ax]
    grind
   rw[Sd,Sd]at a7;exact h.inj i j (ca i dM) (ca j aG) a7
theorem lR.later{P:Program}{e:ad}{F:Nat->Prop}{w w':World}{cs:Array Value}{off:Nat}{xs:List e.aj}(h:lR P e F w cs off xs)(he:c8 F w w'):lR P e F w' cs off xs:=h.mono (λ_ M=>M) he
theorem ad'(aV:dT C.P T){args:Array Operand}{dp:Array TypeId}(bg:∀ i,o.dst=some i->i<C.nt)(ag:o.op=.call { callee:=.builtin .append,args:=args,argTypes:=dp })(h:(B' T (a8 C.aP s.aA) o.dst args.toList dp.toList).run s.ab=some res):cJ C o s res:=by
 obtain⟨args⟩:=args;obtain⟨dp⟩:=dp;have au:∀ c,o.op≠.defer c:=by grind
 simp only[B']at h;split at h
 ·rename_i x y t u;split at h
  ·rename_i e aN aF hu;have dq:=aV.cb aF (by simp);have vj:=aV.cb hu (by simp);obtain⟨jP,aG,jb,oG⟩:=dq.sl;obtain⟨aea,fV,_⟩:=vj.sl;obtain⟨inf,z,i1,i2,i3,i4,i5,i6⟩:=kx jb.kv;have mY:∀ (a:Act) (w w':World) v,(Builtin.append_ #[t,u] o.type #[a.eval x,a.eval y]).run C.P w=.ok v w'->(execOp a.eval o).run C.P w=.ok (.value v) w':=by
    intro a w w' v af;refine xi ag ?_;simp[builtin,af]
   have main:∀ (s:aC) (a:Act) (w:World) (κ:Nat->bB) (F:Nat->Prop) (Q:Exit->Act->World->Prop) (b g:Nat) (xs ys:List e.aj),bm C s a w κ F->
     (∃ q cap,a.eval y=.slice q ys.length cap/\((q=none/\ys=[]/\cap=0)\/∃ p all,q=some p/\gx C.P e F w all ys/\kA w p all))->
     (s.ab b).gen<g->(∃ q cap,a.eval x=.slice q xs.length cap/\((q=none/\xs=[]/\cap=0)\/∃ p all,q=some p/\gx C.P e F w all xs/\kA w p all))->
     (∀ q cap,a.eval x=.slice q xs.length cap->q≠none->xs.length+ys.length<=cap->(s.ab b).body=.bh e xs/\(κ b).e_=false/\q=some ⟨(κ b).ab,(κ b).off,none⟩/\cap=(κ b).cap)->bQ (xs.length+ys.length)->
     o.wpIn (dS C.r) 0 C.P a w (λa' w'=>cv C ((s.cz b ⟨g,.bh e (xs++ys)⟩).set o.dst (.own b g)) a' w') Q:=by
    intro s a w κ F Q b g xs ys M nZ KD sn aeb hlen;obtain⟨q,cap,sn,KE⟩:=sn;obtain⟨q',cap',tN,nZ⟩:=nZ;have KF:∀ (κ':Nat->bB) (v:Value) (w':World),bm C (s.cz b ⟨g,.bh e (xs++ys)⟩) a w' κ' F->v=(κ' b).slice (xs++ys).length->cv C ((s.cz b ⟨g,.bh e (xs++ys)⟩).set o.dst (.own b g)) (a.put o.dst v) w':=by
     intro κ' v w' bb af;refine⟨κ',F,bm.set bb bg ⟨⟨by simp[aC.cz],?_⟩,λ_ _=>?_⟩⟩
     ·rw[af];unfold bB.slice;split<;>rfl
     ·rw[af];simp[aC.cz,bS.len]
    by_cases xm:xs.length+ys.length<=cap
    ·cases bt:q with
     | none=>
      subst bt;obtain⟨aec,va⟩:xs=[]/\cap=0:=by
       grind
      subst aec;subst va;have KG:ys=[]:=by grind
      subst KG;obtain⟨eA,dZ,dP⟩:=zB (P:=C.P) (w:=w) (cap:=cap') rfl nZ;have c_:(Builtin.append_ #[t,u] o.type #[a.eval x,a.eval y]).run C.P w=.ok (.slice none 0 0) w:=by
       rw[sn,tN];simp only[List.length_nil]at dZ ⊢;simp[Builtin.append_,dD aG,dD fV,sc i1,Builtin.lenOf];rw[i2,dZ];simp
      refine hy au (mY a w w _ c_) (KF _ _ _ (M.Cx (k:=⟨0,0,0,true⟩) KD (.inl rfl) (Nat.le_refl _) (λ_ _=>rfl) (λh=>by cases h) (de.refl _) λH κ'=>⟨λ_=>rfl,λh=>by cases h⟩) ?_);simp[bB.slice]
     | some F2=>
      obtain⟨aa,vm,aq,xl⟩:=aeb q cap sn (by grind) xm;rw[bt]at aq;have aq:=Option.some.inj aq;subst aq;subst xl;have aU:=M.bD b;unfold cG at aU;rw[aa]at aU;obtain⟨cs,hY,bE,c2,c3,c4,c5⟩:=aU.2 vm;obtain⟨eA,dZ,dP⟩:=zB (P:=C.P) (w:=w) (cap:=cap') rfl nZ;have pn:=dP.1;have nX:∀ v∈eA,v.oneCell'=true:=by
       intro v af;obtain⟨j,aG,rfl⟩:=List.mem_iff_getElem.1 af;have lr:0<e.size:=Nat.pos_of_ne_zero oG;have hdiv:j / e.size<ys.length:=(Nat.div_lt_iff_lt_mul lr).2 (by omega);have nW:=dP.2 (j / e.size) hdiv;have iE:=zh (P:=C.P) (H:=λ_=>⟨0,.fD⟩) (κ:=λ_=>⟨0,0,0,true⟩) e nW;have zE:=Nat.mod_lt j lr;have aed:j / e.size*e.size+j % e.size=j:=Nat.div_add_mod' j e.size;have Cz:((eA.drop (j / e.size*e.size)).take e.size).length=e.size:=hT e nW;have:=(iE.kS (j % e.size) (by rw[iE.len,Cz];omega)).2;grind
      have aee:(κ b).off+xs.length*e.size+0+eA.length<=cs.size:=by
       rw[pn];have:(xs.length+ys.length)*e.size<=(κ b).cap*e.size:=Nat.mul_le_mul_right _ xm;grind
      obtain⟨w',dh,b8,cw,ef,lq,kB,mu⟩:=vi (P:=C.P) eA ((κ b).off+xs.length*e.size) 0 w cs bE aee nX;have c_:(Builtin.append_ #[t,u] o.type #[a.eval x,a.eval y]).run C.P w=.ok (.slice (some ⟨(κ b).ab,(κ b).off,none⟩) (xs.length+ys.length) (κ b).cap) w':=by
       rw[sn,tN,bt];simp only[Builtin.append_,List.getElem?_toArray,List.getElem?_cons_zero,List.getElem?_cons_succ,Sem.run_bind,dD aG,dD fV,Result.andThen_ok,sc i1,i2,Sem.run_pure,Builtin.lenOf,Bool.false_eq_true,if_false,if_pos xm,Bool.not_false,if_true,dZ,vf];simp only[b8,Result.andThen_ok]
      have gw:fs s.ab κ (λi=>if i=b then (⟨g,.bh e (xs++ys)⟩:bK) else s.ab i) κ:=zd KD λ_ _=>rfl;refine hy au (mY a w w' _ c_) (KF κ _ _ (M.pe (b:=b) (by rw[aa];simp[bS.b1,vm]) (by simp[bS.b1,vm]) gw (λh=>by cases h) (λh=>by cases h) lq kB mu λH m_ ch he=>?_) (by simp[bB.slice,vm]));refine⟨λh=>(by grind),λ_=>?_⟩;have FX:dh.size=cs.size:=by
       rw[<-Array.length_toList,ef];grind
      refine⟨dh,hY,cw,by omega,by grind,c4,λi G=>?_⟩;simp only[Nat.add_zero]at ef;have gO:(cs.toList.take ((κ b).off+xs.length*e.size)).length=(κ b).off+xs.length*e.size:=by grind
      by_cases Se:i<xs.length
      ·obtain⟨bk,d1,d2⟩:=c5 i Se;have az:(xs++ys)[i]=xs[i]:=List.getElem_append_left Se;rw[az];refine⟨bk,λk ak=>?_,fg e (λ_ M=>M) he d2⟩;have Sf:=hT e d2;have hle:(i+1)*e.size<=xs.length*e.size:=Nat.mul_le_mul_right _ (by omega);rw[Nat.add_mul]at hle;rw[<-Array.getElem?_toList,ef,List.getElem?_append_left (by omega),List.getElem?_take,if_pos (by omega)];grind
      ·have dM:i - xs.length<ys.length:=by grind
       have az:(xs++ys)[i]=ys[i - xs.length]:=List.getElem_append_right (by omega);rw[az];have CA:=dP.Cv (pre:=cs.toList.take ((κ b).off+xs.length*e.size)) (post:=cs.toList.drop ((κ b).off+xs.length*e.size+eA.length)) ef;obtain⟨bk,d1,d2⟩:=CA (i - xs.length) dM;refine⟨bk,λk ak=>?_,fg e (λ_ M=>M) he d2⟩;have:=d1 k ak;rw[gO]at this;rw[<-this];congr 1;have:i*e.size=xs.length*e.size+(i - xs.length)*e.size:=by rw[<-Nat.add_mul];grind
       omega
    ·obtain⟨aef,q8,cs,b8,cw,ef,lq,kB⟩:=ad4 (P:=C.P) (w:=w) (F:=F) (cap:=cap) (cap':=cap') dq (.inr ⟨aN,vj⟩) KE nZ (by omega) hlen o.type;rw[<-sn,<-tN]at b8;refine hy au (mY a w _ _ b8) (KF _ _ _ (M.Cx (k:=⟨w.heap.size,0,q8,false⟩) KD (.inr rfl) (by simp) (λr M=>?_) (λ_=>by simp) ⟨rfl,rfl,rfl⟩ λH κ'=>⟨λh=>(by cases h),λ_=>⟨cs,aef,?_,by grind,by grind,cw,?_⟩⟩) ?_)
     ·exact pd w.drew _ M
     ·exact qa w.drew _
     ·exact kB.later ⟨by simp,λr bb=>pd w.drew _ (M.dd r bb)⟩
     ·simp[bB.slice]
   simp only[J']at h;split at h
   ·rename_i b g fa;simp only[ar.e5]at h;split at h
    ·rename_i a7 xs bT;split at h
     ·rename_i q_;subst q_;simp only[ar.e6,Option.bind_eq_some_iff,ar.bO,Option.some.injEq]at h;obtain⟨⟨ys,l⟩,ka,rfl⟩:=h;have ay:(s.ab b).gen=g/\(s.ab b).body=.bh a7 xs:=by
       grind
      intro a w κ F Q M bc hc;have ai:bA C.P s.ab κ F w (use (a8 C.aP s.aA x)).2 (a.eval x):=cQ M x rfl bc.1;have nV:=ai;rw[fa]at nV;have af:=nV.2 ay.1.symm (by rw[ay.2];rfl);rw[ay.2]at af;simp only[bS.len]at af;have hX:(dC (.slice a7) (use (a8 C.aP s.aA x)).2).run s.ab=some (xs,[b]):=by
       rw[fa];simp[dC,ku,ad.eG,dW,ay.1,ay.2,eV]
      refine main s a w κ F Q b (g+1) xs ys M (sk M ka (cQ M y rfl bc.2)) (by omega) (sk M hX ai) (λq cap bt KH _=>?_) hc;rw[af]at bt;cases ax:(κ b).e_ with
      | true=>
       simp only[bB.slice,ax,if_true,Value.slice.injEq]at bt;grind
      | false=>
       simp only[bB.slice,ax,Bool.false_eq_true,if_false,Value.slice.injEq]at bt;grind
     ·cases h
    ·cases h
   ·rename_i b g a1 G fa;simp only[ar.e5]at h;split at h
    ·rename_i a7 xs bT;split at h
     ·rename_i q_;subst q_;simp only[ar.e6,Option.bind_eq_some_iff,ar.bO,Option.some.injEq]at h;obtain⟨⟨ys,l⟩,ka,rfl⟩:=h;have ay:(s.ab b).gen=g/\(s.ab b).body=.bh a7 xs:=by
       grind
      intro a w κ F Q M bc hc;have ai:bA C.P s.ab κ F w (use (a8 C.aP s.aA x)).2 (a.eval x):=cQ M x rfl bc.1;rw[fa]at ai;obtain⟨⟨aQ,aS⟩,bN⟩:=ai.2 ay.1.symm (by rw[ay.2];rfl);rw[ay.2]at aS bN;simp only[bS.len,bS.e4]at aS bN;obtain⟨κ',bb,af⟩:=M.ad_ ay.2 aQ aS bN;have nZ:=sk M ka (cQ M y rfl bc.2);have Sg:(s.cz b ⟨(s.ab b).gen+1,.bh a7 ((xs.take G).drop a1)⟩).ab b=⟨(s.ab b).gen+1,.bh a7 ((xs.take G).drop a1)⟩:=by simp[aC.cz]
      have hX:(dC (.slice a7) (.own b (g+1))).run (s.cz b ⟨(s.ab b).gen+1,.bh a7 ((xs.take G).drop a1)⟩).ab=some ((xs.take G).drop a1,[b]):=by
       simp[dC,ku,ad.eG,dW,aC.cz,ay.1,eV]
      have KE:bA C.P (s.cz b ⟨(s.ab b).gen+1,.bh a7 ((xs.take G).drop a1)⟩).ab κ' F w (.own b (g+1)) (a.eval x):=by
       refine⟨⟨by grind,ai.1.2⟩,λ_ _=>?_⟩;rw[Sg];exact af
      have:=main (s.cz b ⟨(s.ab b).gen+1,.bh a7 ((xs.take G).drop a1)⟩) a w κ' F Q b (g+2) ((xs.take G).drop a1) ys bb nZ (by grind) (sk bb hX KE) (λq cap bt KH _=>?_) hc
      ·rw[ad9]at this;exact this
      ·rw[af]at bt;cases ax:(κ' b).e_ with
       | true=>
        simp only[bB.slice,ax,if_true,Value.slice.injEq]at bt;grind
       | false=>
        simp only[bB.slice,ax,Bool.false_eq_true,if_false,Value.slice.injEq]at bt;grind
     ·cases h
    ·cases h
   ·rename_i fa;simp only[ar.e6,Option.bind_eq_some_iff]at h;obtain⟨⟨ys,l⟩,ka,h⟩:=h;obtain⟨b,aa,ak⟩:=q5 h;simp only[Option.some.injEq]at ak;subst ak;intro a w κ F Q M bc hc;have ai:bA C.P s.ab κ F w (use (a8 C.aP s.aA x)).2 (a.eval x):=cQ M x rfl bc.1;rw[fa]at ai;simp only[bA]at ai;have:=main s a w κ F Q b ((s.ab b).gen+1) [] ys M (sk M ka (cQ M y rfl bc.2)) (Nat.lt_succ_self _) ⟨none,0,ai,.inl ⟨rfl,rfl,rfl⟩⟩ (λq cap bt KH _=>by grind) (by grind);exact this
   ·rename_i a7 xs fa;split at h
    ·rename_i q_;subst q_;simp only[ar.e6,Option.bind_eq_some_iff]at h;obtain⟨⟨ys,l⟩,ka,h⟩:=h;obtain⟨b,aa,ak⟩:=q5 h;simp only[Option.some.injEq]at ak;subst ak;intro a w κ F Q M bc hc;have ai:bA C.P s.ab κ F w (use (a8 C.aP s.aA x)).2 (a.eval x):=cQ M x rfl bc.1;rw[fa]at ai;obtain⟨Ku,Cl,FY⟩:=ai;have hX:(dC (.slice a7) (.val (.slice a7) xs)).run s.ab=some (xs,[]):=by
      simp[dC,eV]
     exact main s a w κ F Q b ((s.ab b).gen+1) xs ys M (sk M ka (cQ M y rfl bc.2)) (Nat.lt_succ_self _) (sk M hX Ku) (λq cap bt KH xm=>by
      grind) hc.2
    ·cases h
   ·cases h
  ·cases h
 ·cases h
theorem aeg{P:Program}{F:Nat->Prop}{w:World}{all:List Value}{ys:z1'}(h:gx P (.int .u8) F w all ys):all=ys.map (Value.int .u8):=by
 obtain⟨E,U⟩:=h;have E:all.length=ys.length:=E.trans (Nat.mul_one _);apply List.ext_getElem (by simpa using E);intro i G dM;have ds:i<ys.length:=by omega
 obtain⟨e,_⟩:=U i ds;have aD:ad.size (.int .u8)=1:=rfl;rw[aD,Nat.mul_one,List.drop_eq_getElem_cons G]at e;have:=(List.cons.inj e).1;rw[this];simp
theorem Sh:∀ (ys:z1') (s:ByteArray),ys.foldl (λr n=>r.push (UInt8.ofNat n.toNat)) s=⟨s.data++(ve ys).toArray⟩
 | [],s=>by simp[ve]
 | y::ys,s=>by
  rw[List.foldl_cons,Sh ys];refine congrArg ByteArray.mk ?_;apply Array.ext';simp[ve,ByteArray.push]
theorem aeh(ys:z1'):ys.foldl (λr n=>r.push (UInt8.ofNat n.toNat)) ByteArray.empty=⟨(ve ys).toArray⟩:=by
 rw[Sh];refine congrArg ByteArray.mk ?_;apply Array.ext';simp[ByteArray.empty,ByteArray.emptyWithCapacity];rfl
theorem aei(aV:dT C.P T){KI KJ:TypeId}{x:Operand}(bg:∀ i,o.dst=some i->i<C.nt)(ag:o.op=.convert KI KJ x)(h:(bu C.aP T bf (a8 C.aP s.aA) o).run s.ab=some res):cJ C o s res:=by
 simp only[bu,ag]at h;split at h
 ·rename_i aQ k aS n t1 t2 ai;simp only[bP,ar.bO,Option.some.injEq]at h;subst h;refine cJ.pure (by grind) bg λa w κ F M bc _=>?_;have E:=oC (cQ M x rfl bc) ai;have az:=(aV.cb t1 (by simp)).int;have aN:=(aV.cb t2 (by simp)).int;refine⟨.int k (k.wrap n),?_,gW.2 ⟨rfl,qe _ _⟩⟩;simp[execOp,ag,convert,dD az,dD aN,E.1,Conv.intToInt]
 ·rename_i t1 t2;simp only[ar.e6,Option.bind_eq_some_iff,bP,ar.bO,Option.some.injEq]at h;obtain⟨⟨ys,l⟩,ka,rfl⟩:=h;refine cJ.pure (by grind) bg λa w κ F M bc _=>?_;have hu:=cQ M x rfl bc;obtain⟨q,cap,af,nZ⟩:=sk M ka hu;have ch:ys.length<2 ^ 63:=by
   have E:=mq (F':=λ_=>True) M.bD (λ_ _=>trivial) ka (λ_ _ _=>trivial) hu;obtain⟨_,U⟩:=(dU rfl).1 E;obtain⟨q',cap',az,m1,m2,_⟩:=U;have aN:=(List.cons.inj (az.symm.trans rfl)).1;omega
  obtain⟨jP,aG,jb,_⟩:=(aV.cb t1 (by simp)).sl;have az:=jb.int;have aN:=(aV.cb t2 (by simp)).str;refine⟨.string ⟨(ve ys).toArray⟩,?_,ml.2 ⟨rfl,by simpa [ve]using ch⟩⟩;have hc:(convert KI KJ (a.eval x)).run C.P w=.ok (.string ⟨(ve ys).toArray⟩) w:=by
   rw[af,run_convert_bytes_string w KI KJ jP q ys.length cap aG az aN];rcases nZ with⟨rfl,rfl,rfl⟩ | ⟨p,all,rfl,a_,oH⟩
   ·rfl
   ·have fT:all=ys.map (Value.int .u8):=aeg a_;have al:=FN (P:=C.P) oH;rw[fT,List.length_map]at al;rw[run_bytesToString w p ys.length cap ys al];refine congrArg (λs=>Result.ok (Value.string s) w) ?_;exact aeh ys
  simp[execOp,ag,hc]
 ·cases h
end
end Go.Fer
namespace Go.Fer
open Go.RowKit
theorem h8.zg{P:Program}{k:FuncId}{ts aW:ad}{sh Si:ts.aj->A aW.aj}(h:h8 P k ts aW sh)(aD:∀ x,A.le (sh x) (Si x)):h8 P k ts aW Si where
 enter:=h.enter
 iY:=λF w args x bo gu a_ ra=>by
  obtain⟨E,U⟩:=aD x ra;exact (h.iY F w args x bo gu a_ E).mono λe w' ⟨v,y,az,aN,cL⟩=>⟨v,y,az,U y aN,cL⟩
def aO.sh(c:aO)(x:c.ts.aj):A c.aW.aj:=A.dR (c.pre x) (c.g x)
def aej(P:Program)(k:FuncId)(ts:ad)(x:ts.aj)(e:ad)(ys:List e.aj):Prop:=
 ∀ (F:Nat->Prop) (w:World) (args:List Value),(∀ r,F r->r<w.heap.size)->nQ P F w->fr P ts F w args x->Calls P k args.toArray w λz w'=>∃ (b:bB) (F':Nat->Prop),z=.returned (b.slice ys.length)/\(∀ r,F r->F' r)/\(∀ r,F' r->F r\/(w.heap.size<=r/\r<w'.heap.size))/\
  (b.e_=true->ys=[])/\(b.e_=false->(w.heap.size<=b.ab/\b.ab<w'.heap.size/\¬F' b.ab)/\∃ cs T,w'.heap[b.ab]?=some (.cells cs T (0,0))/\b.off+b.cap*e.size<=cs.size/\ys.length<=b.cap/\b.cap<2 ^ 63/\lR P e F' w' cs b.off ys)/\Below w.heap.size w w'
def CB(P:Program)(k:FuncId)(c:aO):Prop:=(∀ args w,(callFunc k args).run P w=.ok (.enter k args) w)/\∀ x,c.pre x->∀ y,Cb c.aW (c.g x)=some y->aej P k c.ts x y.1 y.2
def jq(P:Program)(bf:Nat->Option aO):Prop:=∀ k c,bf k=some c->(nT c.aW=false->h8 P k c.ts c.aW c.sh)/\(nT c.aW=true->CB P k c)
theorem aek{t:ad}{y:t.aj}{z:(e:ad)×List e.aj}(h:Cb t y=some z):nT t=true:=by
 unfold Cb at h;unfold nT;split at h<;>simp_all
theorem ael{t:ad}{y:t.aj}(h:Cb t y=none):nT t=false:=by
 cases hc:nT t with
 | false=>rfl
 | true=>
  unfold nT at hc;split at hc
  ·cases h
  ·cases hc
theorem kd{t:ad}(aF:t.gE=true)(avs:List aI):i_ t avs=(match avs with | [v]=>dC t v | _=>.none:ar (Option (t.aj×List Nat))):=by
 cases t<;>first
  | (cases aF;done)
  | (rcases avs with _ | ⟨v,_ | ⟨u,aE⟩⟩<;>rfl)
theorem vo{P:Program}{H:Nat->bK}{κ:Nat->bB}{F F':Nat->Prop}{w:World}(aU:∀ b,cG P H κ F w b)(bo:∀ r,F r->F' r):∀ (t:ad) {avs:List aI} {aE:List Value} {x:t.aj} {l:List Nat},(i_ t avs).run H=some (x,l)->
  iZ H κ F' l->avs.length=aE.length->(∀ i (h:i<avs.length) (dw:i<aE.length),bA P H κ F w avs[i] aE[i])->fr P t F' w aE x:=by
 have gE:∀ (t:ad),t.gE=true->∀ {avs:List aI} {aE:List Value} {x:t.aj} {l:List Nat},(match avs with | [v]=>dC t v | _=>.none:ar (Option (t.aj×List Nat))).run H=some (x,l)->
   iZ H κ F' l->avs.length=aE.length->(∀ i (h:i<avs.length) (dw:i<aE.length),bA P H κ F w avs[i] aE[i])->fr P t F' w aE x:=by
  intro t aF avs aE x l h al hlen fT;split at h
  ·rename_i v;match aE,hlen with
   | [u],_=>
    refine (r7 aF).2 ⟨u,rfl,mq aU bo h al ?_⟩;exact fT 0 (by simp) (by simp)
  ·cases h
 intro t;induction t with
 | aB a b fC eM=>
  intro avs aE x l h al hlen fT;match avs,aE,hlen with
  | [],_,_=>simp[i_,ar.none]at h
  | v::avs,u::aE,hlen=>
   simp only[i_,ar.e6,Option.bind_eq_some_iff,ar.bO,Option.some.injEq,Prod.mk.injEq]at h;obtain⟨⟨y,m⟩,E,⟨z,dA⟩,U,rfl,rfl⟩:=h;refine BZ.2 ⟨mq aU bo E al.left (fT 0 (by simp) (by simp)),?_⟩;exact eM U al.right (by grind) λi G dM=>by
    have:=fT (i+1) (by grind) (by grind);grind
 | cU=>
  intro avs aE x l h al hlen fT;match avs,aE,hlen with
  | [],[],_=>exact⟨rfl,rfl⟩
  | _::_,_,_=>simp[i_,ar.none]at h
 | bool=>intro avs aE x l h;rw[kd rfl]at h;exact gE _ rfl h
 | int k=>intro avs aE x l h;rw[kd rfl]at h;exact gE (.int k) rfl h
 | str=>intro avs aE x l h;rw[kd rfl]at h;exact gE _ rfl h
 | st t _=>intro avs aE x l h;rw[kd rfl]at h;exact gE (.st t) rfl h
 | slice e _=>intro avs aE x l h;rw[kd rfl]at h;exact gE (.slice e) rfl h
 | array n e _=>intro avs aE x l h;rw[kd rfl]at h;exact gE (.array n e) rfl h
 | bG e _=>intro avs aE x l h;rw[kd rfl]at h;exact gE (.bG e) rfl h
 | map k v _ _=>intro avs aE x l h;rw[kd rfl]at h;exact gE (.map k v) rfl h
 | fn a b _ _=>intro avs aE x l h;rw[kd rfl]at h;exact gE (.fn a b) rfl h
 | ct a _=>intro avs aE x l h;rw[kd rfl]at h;exact gE (.ct a) rfl h
 | et=>intro avs aE x l h;rw[kd rfl]at h;exact gE .et rfl h
theorem qi{H:Nat->bK}:∀ (t:ad) {avs:List aI} {x:t.aj} {l:List Nat},(i_ t avs).run H=some (x,l)->gN H l:=by
 have gE:∀ (t:ad),t.gE=true->∀ {avs:List aI} {x:t.aj} {l:List Nat},(match avs with | [v]=>dC t v | _=>.none:ar (Option (t.aj×List Nat))).run H=some (x,l)->gN H l:=by
  intro t _ avs x l h;split at h
  ·exact mZ h
  ·cases h
 intro t;induction t with
 | aB a b fC eM=>
  intro avs x l h;match avs with
  | []=>simp[i_,ar.none]at h
  | v::avs=>
   simp only[i_,ar.e6,Option.bind_eq_some_iff,ar.bO,Option.some.injEq,Prod.mk.injEq]at h;obtain⟨⟨y,m⟩,E,⟨z,dA⟩,U,rfl,rfl⟩:=h;exact (mZ E).append (eM U)
 | cU=>
  intro avs x l h;match avs with
  | []=>
   simp only[i_,ar.bO,Option.some.injEq,Prod.mk.injEq]at h;rw[<-h.2];exact .nil H
  | _::_=>simp[i_,ar.none]at h
 | bool=>intro avs x l h;rw[kd rfl]at h;exact gE _ rfl h
 | int k=>intro avs x l h;rw[kd rfl]at h;exact gE (.int k) rfl h
 | str=>intro avs x l h;rw[kd rfl]at h;exact gE _ rfl h
 | st t _=>intro avs x l h;rw[kd rfl]at h;exact gE (.st t) rfl h
 | slice e _=>intro avs x l h;rw[kd rfl]at h;exact gE (.slice e) rfl h
 | array n e _=>intro avs x l h;rw[kd rfl]at h;exact gE (.array n e) rfl h
 | bG e _=>intro avs x l h;rw[kd rfl]at h;exact gE (.bG e) rfl h
 | map k v _ _=>intro avs x l h;rw[kd rfl]at h;exact gE (.map k v) rfl h
 | fn a b _ _=>intro avs x l h;rw[kd rfl]at h;exact gE (.fn a b) rfl h
 | ct a _=>intro avs x l h;rw[kd rfl]at h;exact gE (.ct a) rfl h
 | et=>intro avs x l h;rw[kd rfl]at h;exact gE .et rfl h
theorem aem{H:Nat->bK}{e:ad}{ps:List (Nat×aI)}:∀ (n i:Nat) {xs:List e.aj} {l:List Nat},(tF e ps i n).run H=some (xs,l)->gN H l:=by
 intro n;induction n with
 | zero=>intro i xs l h;cases h;exact .nil H
 | succ n aL=>
  intro i xs l h;simp only[tF,ar.e6,Option.bind_eq_some_iff,ar.bO,Option.some.injEq,Prod.mk.injEq]at h;obtain⟨⟨x,m⟩,E,⟨ys,dA⟩,U,rfl,rfl⟩:=h;refine gN.append ?_ (aL (i+1) U);split at E
  ·exact mZ E
  ·simp only[ar.bO,Option.some.injEq,Prod.mk.injEq]at E;rw[<-E.2];exact .nil H
theorem Sj{P:Program}{F F':Nat->Prop}{w w':World}{t:ad}{aE:List Value}{x:t.aj}(aF:t.pure=true)(h:fr P t F w aE x):fr P t F' w' aE x:=⟨h.1,ac9 t aF h.2⟩
theorem tO{P:Program}{H:Nat->bK}{κ:Nat->bB}{F:Nat->Prop}{w:World}:∀ (t:ad) {aE:List Value} {y:t.aj},fr P t F w aE y->t≠.cU->aE.length=j9 t/\∀ i,i<j9 t->bA P H κ F w (ky t y i) (aE.getD i Go.undef):=by
 intro t;induction t with
 | aB a b _ eM=>
  intro aE y h _;obtain⟨v,us,rfl,E,U⟩:=Fy h;by_cases aa:b=.cU
  ·subst aa;have:us=[]:=U.1;subst this;refine⟨rfl,λi G=>?_⟩;cases i with
   | zero=>exact E
   | succ i=>simp only[j9]at G;omega
  ·obtain⟨aQ,aS⟩:=eM U aa;refine⟨by simp[j9,aQ],λi G=>?_⟩;cases i with
   | zero=>exact E
   | succ i=>
    have:=aS i (by simp only[j9]at G;omega);simpa [ky]using this
 | cU=>simp
 | _=>
  intro aE y h _;obtain⟨v,rfl,E⟩:=(r7 rfl).1 h;refine⟨rfl,λi G=>?_⟩;simp only[j9]at G;have:i=0:=by omega
  subst this;exact E
theorem CC{P:Program}{H:Nat->bK}{κ:Nat->bB}{F:Nat->Prop}{w:World}{t:ad}{v:Value}{y:t.aj}(h:tz P t F w v y):bA P H κ F w (q0 t y) v:=by
 have p9:=@tO P H κ F w;obtain⟨aE,E,U⟩:=h;cases t with
 | aB a b=>
  simp only[y']at E;obtain⟨aQ,aS⟩:=p9 (.aB a b) U (by simp);exact⟨aE,E,aQ,aS⟩
 | cU=>exact E.1
 | _=>
  obtain⟨u,rfl,hu⟩:=(r7 rfl).1 U;have:v=u:=by simpa [y',eq_comm]using E
  rw[this];exact hu
section
variable {C:b_} {T:Nat->ad} {bf:Nat->Option aO} {o:Oper} {s:aC} {res:eC}
theorem bm.grow{a:Act}{w w':World}{κ:Nat->bB}{F:Nat->Prop}(h:bm C s a w κ F)(aa:Below w.heap.size w w'):bm C s a w' κ (u9 F w w'):=by
 have he:c8 F w w':=⟨aa.size,λr M=>aa.block r (h.dd r M)⟩
 refine h.move (H':=s.ab) (fs.refl _ _) (λ_ M=>.inl M) (λr M=>M.imp id λM=>.inr M.1) aa.size (λr M _=>aa.block r M) ⟨aa.os,aa.tape,aa.output⟩ (λ_=>?_) ?_ h.inj ?_ (λ_ _ h=>⟨rfl,h⟩)
 ·intro b;exact cG.ll (h.bD b) (fs.refl _ _) (λ_ M=>.inl M) he rfl rfl λag=>aa.block _ (h.own b ag).1
 ·intro b ag;have:=h.own b ag;refine⟨Nat.lt_of_lt_of_le this.1 aa.size,λao=>?_,.inl ⟨b,ag,rfl⟩⟩;rcases ao with ao | ⟨ao,_⟩
  ·exact this.2.1 ao
  ·omega
 ·intro r M;rcases M with M | ⟨_,M⟩
  ·exact Nat.lt_of_lt_of_le (h.dd r M) aa.size
  omega
theorem CD{r:Option Nat}{P:Program}{o:Oper}{a:Act}{w:World}{K:Act->World->Prop}{Q:Exit->Act->World->Prop}{f:FuncId}{args:Array Value}{R:Ending->World->Prop}(au:∀ c,o.op≠.defer c)
  (h:(execOp a.eval o).run P w=.ok (.enter f args) w) (hc:Calls P f args w R) (ak:∀ e w',R e w'->∃ v,e=.returned v/\K (a.put o.dst v) w'):o.wpIn (dS r) 0 P a w K Q:=by
 refine⟨λ_ _=>trivial,?_⟩;rw[zq au,h];refine⟨λaD=>(by cases aD),?_⟩;have E:CallsIn Fence.wide 0 P f args w R:=callsIn_wide.2 hc;have U:CallsIn (dS r) 0 P f args w R:=by
  cases r with
  | none=>exact E
  | some l=>exact CallsIn.inRound l E
 refine U.mono λe w' he=>?_;grind
theorem Sk{a:Act}{w:World}{κ:Nat->bB}{F:Nat->Prop}{ts:ad}(M:bm C s a w κ F){args:Array Operand}(bc:jM (args.toList.map (a8 C.aP s.aA))){x:ts.aj}{l:List Nat}
  (ai:(i_ ts ((args.toList.map (a8 C.aP s.aA)).map λv=>(use v).2)).run s.ab=some (x,l)):∃ F',(∀ r,F r->F' r)/\bm C (s.cB l) a w κ F'/\fr C.P ts F' w (args.toList.map a.eval) x:=by
 obtain⟨args⟩:=args;obtain⟨F',f1,bb,f2⟩:=bm.lp (qi ts ai) M;refine⟨F',f1,bb,vo M.bD f1 ts ai f2 (by simp) λi G dM=>?_⟩;simp only[List.getElem_map];have ds:i<args.length:=by grind
 have E:=sd bc i (by grind);have az:(args.map (a8 C.aP s.aA)).getD i .undef=a8 C.aP s.aA args[i]:=by grind
 rw[show (List.map (a8 C.aP s.aA) (⟨args⟩:Array Operand).toList)=args.map (a8 C.aP s.aA) from rfl,az]at E;exact pg (j' M args[i]) E
theorem Sl{a:Act}{w:World}{κ:Nat->bB}{F:Nat->Prop}{Q:Exit->Act->World->Prop}{K:Act->World->Prop}{k:FuncId}{ts aW:ad}{sh:ts.aj->A aW.aj}(M:bm C s a w κ F)(ao:h8 C.P k ts aW sh)
  (bg:∀ i,o.dst=some i->i<C.nt) {args:Array Operand} {dp:Array TypeId} (ag:o.op=.call { callee:=.value (.func k),args:=args,argTypes:=dp }) (bc:jM (args.toList.map (a8 C.aP s.aA))) {x:ts.aj} {l:List Nat}
  (ai:(i_ ts ((args.toList.map (a8 C.aP s.aA)).map λv=>(use v).2)).run s.ab=some (x,l)) (aD:(sh x).cr)
  (ak:∀ y w',(sh x).bM y->∀ v,cv C ((if aW.pure then s else s.cB l).set o.dst (q0 aW y)) (a.put o.dst v) w'->K (a.put o.dst v) w'):o.wpIn (dS C.r) 0 C.P a w K Q:=by
 have au:∀ c,o.op≠.defer c:=by grind
 obtain⟨args⟩:=args;have c_:(execOp a.eval o).run C.P w=.ok (.enter k (args.map a.eval).toArray) w:=by
  simp only[execOp,ag,Sem.run_bind,resolve,Act.eval,Deferred.ofValue,Sem.run_pure,Result.andThen_ok,invoke];have:=ao.enter (args.map a.eval).toArray w;grind
 obtain⟨F',f1,bb,dX⟩:=Sk M bc ai;refine CD au c_ (ao.iY F' w _ x bb.dd bb.iD dX aD) λe w' ⟨v,y,he,aT,gv,aa⟩=>⟨v,he,ak y w' aT v ?_⟩
 by_cases aq:aW.pure=true
 ·rw[if_pos aq];have ay:=M.grow aa;refine⟨κ,_,ay.set bg (CC ?_)⟩;obtain⟨aE,dr,dI⟩:=gv;exact⟨aE,dr,Sj aq dI⟩
 ·rw[if_neg aq];have ay:=bb.grow aa;exact⟨κ,_,ay.set bg (CC gv)⟩
theorem bm.hJ{a:Act}{w w':World}{κ:Nat->bB}{F F':Nat->Prop}(h:bm C s a w κ F){b g:Nat}{e:ad}{ys:List e.aj}{k:bB}(B4:b<eT)(ay:(s.ab b).gen<g)(aa:Below w.heap.size w w')
  (bo:∀ r,F r->F' r) (tx:∀ r,F' r->F r\/(w.heap.size<=r/\r<w'.heap.size)) (E:k.e_=true->ys=[])
  (U:k.e_=false->(w.heap.size<=k.ab/\k.ab<w'.heap.size/\¬F' k.ab)/\∃ cs T,w'.heap[k.ab]?=some (.cells cs T (0,0))/\k.off+k.cap*e.size<=cs.size/\ys.length<=k.cap/\k.cap<2 ^ 63/\lR C.P e F' w' cs k.off ys) :
  bm C (s.cz b ⟨g,.bh e ys⟩) a w' (λi=>if i=b then k else κ i) F':=by
 have al:fs s.ab κ (λi=>if i=b then ⟨g,.bh e ys⟩ else s.ab i) (λi=>if i=b then k else κ i):=zd ay λbe cY=>by grind
 refine h.move (H':=λi=>if i=b then ⟨g,.bh e ys⟩ else s.ab i) al bo (λr M=>(tx r M).imp id λh=>.inr h.1) aa.size (λr M _=>aa.block r M) ⟨aa.os,aa.tape,aa.output⟩ (λhe=>?_) ?_ ?_ ?_ (ze (.inl B4) λbe cY=>by grind)
 ·intro i;by_cases G:i=b
  ·subst G;simp only[cG,if_true];exact⟨E,λax=>(U ax).2⟩
  ·refine cG.ll (h.bD i) al bo he (by grind) (by grind) λag=>?_;exact aa.block _ (h.own i ag).1
 ·intro i G;by_cases eO:i=b
  ·subst eO;simp only[if_true,bS.b1,Bool.not_eq_true']at G ⊢;obtain⟨⟨aQ,aS,bN⟩,_⟩:=U G;exact⟨aS,bN,.inr aQ⟩
  ·simp only[if_neg eO]at G ⊢;have:=h.own i G;refine⟨Nat.lt_of_lt_of_le this.1 aa.size,λao=>?_,.inl ⟨i,G,rfl⟩⟩;rcases tx _ ao with ao | ao
   ·exact this.2.1 ao
   ·omega
 ·intro i j G aG a7;by_cases eO:i=b<;>by_cases mn:j=b
  ·omega
  ·simp only[if_pos eO,if_neg mn,bS.b1,Bool.not_eq_true']at G aG a7;have:=(h.own j aG).1;have:=(U G).1.1;omega
  ·simp only[if_neg eO,if_pos mn,bS.b1,Bool.not_eq_true']at G aG a7;have:=(h.own i G).1;have:=(U aG).1.1;omega
  ·simp only[if_neg eO,if_neg mn]at G aG a7;exact h.inj i j G aG a7
 ·intro r M;rcases tx r M with dw | dw
  ·exact Nat.lt_of_lt_of_le (h.dd r dw) aa.size
  ·exact dw.2
theorem aen(cC:jq C.P bf){k:FuncId}{args:Array Operand}{dp:Array TypeId}(bg:∀ i,o.dst=some i->i<C.nt)(ag:o.op=.call { callee:=.value (.func k),args:=args,argTypes:=dp })(h:(bu C.aP T bf (a8 C.aP s.aA) o).run s.ab=some res):cJ C o s res:=by
 simp only[bu,ag,mW,FI]at h;split at h
 ·rename_i c hc;simp only[ar.e6,Option.bind_eq_some_iff]at h;obtain⟨⟨x,l⟩,ai,h⟩:=h;split at h
  ·rename_i y aT;simp only[ar.run_bind]at h;obtain⟨d,au,h⟩:=q5 h;split at h
   ·cases h
   rename_i tP;cases h;have tP:d ∉ l:=by simpa using tP
   have KK:=bg d au;intro a w κ F Q M bc gO;obtain⟨aQ,aS⟩:=(cC k c hc).2 (aek aT);obtain⟨F',f1,bb,dX⟩:=Sk M bc ai;have c_:(execOp a.eval o).run C.P w=.ok (.enter k (args.map a.eval)) w:=by
    simp only[execOp,ag,Sem.run_bind,resolve,Act.eval,Deferred.ofValue,Sem.run_pure,Result.andThen_ok,invoke];have:=aQ (args.map a.eval) w;grind
   have jr:=aS x gO y aT F' w _ bb.dd bb.iD dX;rw[show (args.toList.map a.eval).toArray=args.map a.eval from by rw[<-Array.toList_map,Array.toArray_toList]]at jr;refine CD (by grind) c_ jr λz w' ⟨b,ej,bj,g1,ew,g3,g4,g5⟩=>⟨_,bj,?_⟩
   have zF:(s.cB l).ab d=s.ab d:=by simp[aC.cB,tP]
   have jn:=bb.hJ (b:=d) (g:=(s.ab d).gen+1) (e:=y.1) (ys:=y.2) (k:=b) (Nat.lt_of_lt_of_le KK M.gq) (by rw[zF];omega) g5 g1 ew g3 g4;refine⟨λi=>if i=d then b else κ i,ej,?_⟩;simp only[aC.ia];rw[Cm,tI];refine jn.set bg ⟨⟨by simp[aC.cz],by unfold bB.slice;split<;>rfl⟩,λ_ _=>by simp[aC.cz,bS.len]⟩
  rename_i aT;simp only[ar.run_bind,ar.bO,Option.some.injEq]at h;subst h;intro a w κ F Q M bc gO;refine Sl M ((cC k c hc).1 (ael aT)) bg ag bc ai gO λy w' aT v ke=>?_;have aT:y=c.g x:=aT;subst aT;have e:∀ (r:ar (List (Nat×bK))),r=(if c.aW.pure then .ret [] else jL l)->s.gf (r.run s.ab)=(if c.aW.pure then s else s.cB l):=by
   intro r M;subst M;split
   ·rfl
   ·exact tI s l
  simp only[aC.ia];grind
 ·cases h
theorem Sm{P:Program}{H:Nat->bK}{κ:Nat->bB}{F F':Nat->Prop}{w:World}(aU:∀ b,cG P H κ F w b)(bo:∀ r,F r->F' r){e:ad}{zero:List Value}(bj:bI P e F' w zero e.df){ps:List (Nat×aI)}{qs:List (Nat×Value)}(hlen:ps.length=qs.length)
  (fT:∀ i (h:i<ps.length) (dw:i<qs.length),ps[i].1=qs[i].1/\bA P H κ F w ps[i].2 qs[i].2):∀ (n i:Nat) {xs:List e.aj} {l:List Nat},(tF e ps i n).run H=some (xs,l)->
  iZ H κ F' l->xs.length=n/\∀ j (h:j<xs.length),∃ bk,bI P e F' w bk xs[j]/\(match qs.find? (λp=>p.1 == i+j) with | some q=>bk=q.2.cells.toList | none=>bk=zero):=by
 have find:∀ (ps:List (Nat×aI)) (qs:List (Nat×Value)),ps.length=qs.length->(∀ i (h:i<ps.length) (dw:i<qs.length),ps[i].1=qs[i].1/\bA P H κ F w ps[i].2 qs[i].2)->∀ i,(ps.find? (λp=>p.1 == i)=none/\qs.find? (λp=>p.1 == i)=none)\/∃ p q,ps.find? (λp=>p.1 == i)=some p/\qs.find? (λp=>p.1 == i)=some q/\bA P H κ F w p.2 q.2:=by
  intro ps;induction ps with
  | nil=>grind
  | cons p ps aL=>
   intro qs al h i;cases qs with
   | nil=>grind
   | cons q qs=>
    have aY:=h 0 (by simp) (by simp);simp only[List.getElem_cons_zero]at aY;by_cases aq:p.1=i
    ·grind
    ·have bt:q.1≠i:=by omega
     have:=aL qs (by grind) (λj aG fV=>by have:=h (j+1) (by grind) (by grind);grind) i;grind
 intro n;induction n with
 | zero=>intro i xs l h _;cases h;simp
 | succ n aL=>
  intro i xs l h al;simp only[tF,ar.e6,Option.bind_eq_some_iff,ar.bO,Option.some.injEq,Prod.mk.injEq]at h;obtain⟨⟨x,m⟩,E,⟨ys,dA⟩,U,rfl,rfl⟩:=h;obtain⟨aQ,aS⟩:=aL (i+1) U al.right;refine⟨by grind,λj aG=>?_⟩;cases j with
  | zero=>
   rcases find ps qs hlen fT i with⟨f1,f2⟩ | ⟨p,q,f1,f2,f3⟩
   ·rw[f1]at E;simp only[ar.bO,Option.some.injEq,Prod.mk.injEq]at E;grind
   ·rw[f1]at E;refine⟨q.2.cells.toList,(mq aU bo E al.left f3).2,?_⟩;grind
  | succ j=>
   obtain⟨bk,d1,d2⟩:=aS j (by grind);grind
end
end Go.Fer
namespace Go.Fer
open Go.RowKit
def so(d:Nat)(em:Bool)(xs:Array Value):List Field->Sem Unit
 | []=>pure ()
 | f::eW=>
  if f.name ≠ "_" then do
   let a <-part f.type xs f.offset
   Instr.checkKey em d f.type a
   so d em xs eW
  else so d em xs eW
theorem aeo{P:Program}(w:World)(em:Bool)(d:Nat)(t:TypeId)(xs:Array Value)(aF:P.underlying t=some (.struct (P.fieldsOf t))) :
  (Instr.checkKey em (d+1) t (.agg xs)).run P w=(so d em xs (P.fieldsOf t).toList).run P w:=by
 simp only[Instr.checkKey,Sem.run_bind,dD aF,Result.andThen_ok];rw[<-Array.forIn_toList];generalize (P.fieldsOf t).toList=eW;clear aF;induction eW generalizing w with
 | nil=>rfl
 | cons f eW aL=>
  simp only[List.forIn_cons,so,Sem.run_bind,Sem.run_ite];split
  ·generalize (part f.type xs f.offset).run P w=b8;cases b8 with
   | ok a ck=>
    simp only[Result.andThen_ok];generalize (Instr.checkKey em d f.type a).run P ck=cw;cases cw with
    | ok b da=>
     simp_all
    | halt x da=>rfl
   | halt x ck=>rfl
  simp_all
theorem CE{P:Program}{F:Nat->Prop}{w:World}{em:Bool}:∀ (t:ad) (d:Nat),t.kT=true->t.j_<=d->
  (∀ {id:TypeId} {v:Value} {x:t.aj},b9 P t id->eu P t F w v x->(Instr.checkKey em d id v).run P w=.ok () w)/\
  (∀ {l:List Field} {off:Nat} {xs:Array Value} {p c q:List Value} {x:t.aj},cH P t (.inr (l,off))=true->xs.toList=p++(c++q)->p.length=off->bI P t F w c x->
   (so d em xs l).run P w=.ok () w):=by
 intro t;induction t with
 | bool=>
  intro d _ au;refine⟨λ{id v x} h E=>?_,λh=>by simp[cH]at h⟩;rw[fh.1 E];obtain⟨d,rfl⟩:∃ e,d=e+1:=⟨d - 1,by simp only[ad.j_]at au;omega⟩
  unfold b9 at h;simp only[cH,Bool.and_eq_true]at h;obtain⟨_,h⟩:=h;split at h
  ·rename_i hu;simp[Instr.checkKey,dD hu]
  grind
 | int k=>
  intro d _ au;refine⟨λ{id v x} h E=>?_,λh=>by simp[cH]at h⟩;rw[(gW.1 E).1];obtain⟨d,rfl⟩:∃ e,d=e+1:=⟨d - 1,by simp only[ad.j_]at au;omega⟩
  simp[Instr.checkKey,dD (b9.int h)]
 | str=>
  intro d _ au;refine⟨λ{id v x} h E=>?_,λh=>by simp[cH]at h⟩;rw[(ml.1 E).1];obtain⟨d,rfl⟩:∃ e,d=e+1:=⟨d - 1,by simp only[ad.j_]at au;omega⟩
  simp[Instr.checkKey,dD (b9.str h)]
 | cU=>intro d h;cases h
 | slice e _=>intro d h;cases h
 | array n e _=>intro d h;cases h
 | bG e _=>intro d h;cases h
 | map k v _ _=>intro d h;cases h
 | fn a b _ _=>intro d h;cases h
 | ct a _=>intro d h;cases h
 | et=>intro d h;cases h
 | aB a b fC eM=>
  intro d hc au;simp only[ad.kT,Bool.and_eq_true]at hc;simp only[ad.j_]at au;have Kh:=fC d hc.1 (by omega);have pb:=eM d hc.2 (by omega);refine⟨λh=>by unfold b9 at h;simp[cH]at h,?_⟩;intro l off xs p c q x h ai aq pj;simp only[bI]at pj;obtain⟨bE,c2,rfl,aQ,aS⟩:=pj;have eF:=hT a aQ;have step : ∀ (f : Field) (cj : List Field), f.offset = off -> b9 P a f.type -> f.name ≠ "_" -> (so d em xs (f :: cj)).run P w = (so d em xs cj).run P w := by
   intro f cj ag ao ax;obtain⟨v,b8,cw⟩:=q4 (cs:=xs) (p:=p) (c:=bE) (q:=c2++q) ao (by grind) aQ;simp only[so,ax,ne_eq,not_false_eq_true,if_true,Sem.run_bind];rw[ag,<-aq,b8,Result.andThen_ok,Kh.1 ao cw,Result.andThen_ok]
  match l,h with
  | [],h=>rfl
  | [f],h=>simp only[cH,Bool.false_eq_true]at h
  | [f,g],h=>
   simp only[cH,Bool.and_eq_true,beq_iff_eq,bne_iff_ne,ne_eq]at h;obtain⟨⟨⟨⟨E,U⟩,ah⟩,a6⟩,⟨⟨⟨bL,dv⟩,gl⟩,jj⟩⟩:=h;rw[step f [g] E U a6];obtain⟨v,b8,cw⟩:=q4 (cs:=xs) (p:=p++bE) (c:=c2) (q:=q) dv (by grind) aS;have az:(p++bE).length=g.offset:=by grind
   rw[az]at b8;simp only[so,jj,ne_eq,not_false_eq_true,if_true,Sem.run_bind,b8,Result.andThen_ok,pb.1 dv cw,Sem.run_pure]
  | f::g::i::l,h=>
   simp only[cH,Bool.and_eq_true,beq_iff_eq,bne_iff_ne,ne_eq]at h;obtain⟨⟨⟨⟨E,U⟩,ah⟩,a6⟩,bL⟩:=h;rw[step f _ E U a6,pb.2 bL (p:=p++bE) (c:=c2) (q:=q) (by grind) (by grind) aS]
 | st t aL=>
  intro d hc au;simp only[ad.j_]at au;obtain⟨d,rfl⟩:∃ e,d=e+1:=⟨d - 1,by omega⟩
  refine⟨λ{id v x} h E=>?_,λh=>by simp[cH]at h⟩;have i:=aL d hc (by omega);obtain⟨az,aN,cL,ee⟩:=h.Cf;obtain⟨⟨xs,rfl,hX⟩,pj⟩:=E;simp only[Value.cells,bI]at pj;rw[aeo w em d id xs ee];rcases cL with cL | ⟨f,cL,hv,jF,kU⟩ | ⟨rfl,cL⟩
  ·exact i.2 cL (p:=[]) (c:=xs.toList) (q:=[]) (by simp) rfl pj
  ·rw[cL];obtain⟨v,b8,cw⟩:=q4 (cs:=xs) (p:=[]) (c:=xs.toList) (q:=[]) jF (by simp) pj;simp only[List.length_nil]at b8;simp only[so,kU,ne_eq,not_false_eq_true,if_true,Sem.run_bind,hv,b8,Result.andThen_ok,i.1 jF cw,Sem.run_pure]
  ·cases hc
theorem KL:∀ (t:ad),t.kT=true->∀ (x y:t.aj),gM t x y=true<->x=y:=by
 intro t;induction t with
 | bool=>intro _ x y;simp[gM]
 | int k=>intro _ x y;simp[gM]
 | str=>intro _ x y;simp[gM]
 | st t aL=>intro h x y;exact aL h x y
 | aB a b fC eM=>
  intro h x y;simp only[ad.kT,Bool.and_eq_true]at h;simp only[gM,Bool.and_eq_true,fC h.1,eM h.2];grind
 | _=>intro h;cases h
def zG{k:ad}{β:Type}(x:k.aj)(es:List MapEntry)(xs:List (k.aj×β))(i:Nat)(r:Option (Nat×Value)):Prop:=
 (r=none/\∀ p∈xs,gM k x p.1=false)\/∃ j e p,es[j]?=some e/\xs[j]?=some p/\gM k x p.1=true/\(∀ kc q,kc<j->xs[kc]?=some q->gM k x q.1=false)/\r=some (i+j,e.val)
theorem zG.next{k:ad}{β:Type}{x:k.aj}{e:MapEntry}{es:List MapEntry}{p:k.aj×β}{xs:List (k.aj×β)}{i:Nat}{r:Option (Nat×Value)}(h:zG x es xs (i+1) r)(aq:gM k x p.1=false):zG x (e::es) (p::xs) i r:=by
 rcases h with⟨E,U⟩ | ⟨j,a7,p',E,U,ah,a6,bL⟩
 ·exact .inl ⟨E,λq bt=>by
   grind⟩
 ·refine .inr ⟨j+1,a7,p',by grind,by grind,ah,λkc q fV bt=>?_,by grind⟩;grind
theorem Sn{P:Program}{F:Nat->Prop}{w:World}{k:ad}{β:Type}(hc:k.kT=true)(ax:k.j_<=10000){lu:TypeId}(ak:b9 P k lu){tQ:Value}{x:k.aj}(ai:eu P k F w tQ x):∀ (es:List MapEntry) (xs:List (k.aj×β)) (i:Nat),es.length=xs.length->(∀ (j:Nat) (e:MapEntry) (p:k.aj×β),es[j]?=some e->xs[j]?=some p->eu P k F w e.key p.1)->∃ r,(Instr.findAsking lu tQ es i).run P w=.ok r w/\zG x es xs i r
 | [],[],i,_,_=>⟨none,rfl,.inl ⟨rfl,λp aq=>by cases aq⟩⟩
 | e::es,p::xs,i,al,h=>by
  have aY:=h 0 e p rfl rfl;have he:=(Kg k 10000 hc ax).1 ak ai aY;obtain⟨r,b8,cw⟩:=Sn (β:=β) hc ax ak ai es xs (i+1) (by grind) λj a7 p' E U=>h (j+1) a7 p' (by grind) (by grind);cases bt:gM k x p.1 with
  | true=>
   refine⟨some (i,e.val),by simp[Instr.findAsking,Op.equal,Op.maxDepth,he,bt],.inr ⟨0,e,p,rfl,rfl,bt,λkc q fV=>by omega,rfl⟩⟩
  | false=>exact⟨r,by simp[Instr.findAsking,Op.equal,Op.maxDepth,he,bt,b8],cw.next bt⟩
theorem Sp{P:Program}{F:Nat->Prop}{w:World}{k:ad}{lu:TypeId}(ak:b9 P k lu){d:TypeDesc}(au:P.underlying lu=some d){u v:Value}{x y:k.aj}(hu:eu P k F w u x)(af:eu P k F w v y){b:Bool}(h:Instr.sameNow d u v=some b):b=gM k x y:=by
 cases k with
 | bool=>
  rw[fh.1 hu,fh.1 af]at h;cases d<;>simp only[Instr.sameNow,Option.some.injEq,reduceCtorEq]at h;rw[<-h];rfl
 | int k=>
  rw[(gW.1 hu).1,(gW.1 af).1]at h;cases d<;>simp only[Instr.sameNow,if_true,Option.some.injEq,reduceCtorEq]at h;rw[<-h];rfl
 | str=>
  rw[(ml.1 hu).1,(ml.1 af).1]at h;cases d<;>simp only[Instr.sameNow,Option.some.injEq,reduceCtorEq]at h;rw[<-h,beq_toListBytes,ByteArray.toList_eq,ByteArray.toList_eq];simp only[gM];grind
 | st t=>
  obtain⟨⟨us,rfl,_⟩,_⟩:=hu;cases d<;>cases v<;>simp[Instr.sameNow]at h
 | array n t=>
  obtain⟨⟨us,rfl,_⟩,_⟩:=hu;cases d<;>cases v<;>simp[Instr.sameNow]at h
 | cU=>exact hu.1.elim
 | aB a b=>exact hu.1.elim
 | slice e=>
  obtain⟨_,a,cap,az,_⟩:=(dU rfl).1 hu;obtain rfl:=(List.cons.inj az).1;cases d<;>simp[Instr.sameNow]at h
 | bG e=>
  obtain⟨_,ai⟩:=(dU rfl).1 hu;rcases ai with⟨az,_⟩ | ⟨p,y,bk,az,_⟩<;>(obtain rfl:=(List.cons.inj az).1;cases d<;>simp[Instr.sameNow]at h)
 | map k' h9=>
  obtain⟨_,ai⟩:=(dU rfl).1 hu;rcases ai with⟨az,_⟩ | ⟨r,es,clk,az,_⟩<;>(obtain rfl:=(List.cons.inj az).1;cases d<;>simp[Instr.sameNow]at h)
 | fn a b=>
  obtain⟨i,z,E,U,ah,a6,bL,dv⟩:=kx ak.kv;unfold b9 at ak;simp only[cH,Bool.and_eq_true,au]at ak;cases d<;>simp[Instr.sameNow]at ak h
 | ct a=>
  obtain⟨i,z,E,U,ah,a6,bL,dv⟩:=kx ak.kv;unfold b9 at ak;simp only[cH,Bool.and_eq_true,au]at ak;cases d<;>simp[Instr.sameNow]at ak h
 | et=>
  obtain⟨i,z,E,U,ah,a6,bL,dv⟩:=kx ak.kv;unfold b9 at ak;simp only[cH,Bool.and_eq_true,au]at ak;cases d<;>simp[Instr.sameNow]at ak h
theorem Sq{P:Program}{F:Nat->Prop}{w:World}{k:ad}{β:Type}{lu:TypeId}(ak:b9 P k lu){d:TypeDesc}(au:P.underlying lu=some d){tQ:Value}{x:k.aj}(ai:eu P k F w tQ x):∀ (es:List MapEntry) (xs:List (k.aj×β)) (i:Nat) {r:Option (Nat×Value)},es.length=xs.length->(∀ (j:Nat) (e:MapEntry) (p:k.aj×β),es[j]?=some e->xs[j]?=some p->eu P k F w e.key p.1)->Instr.findNow d tQ es i=some r->zG x es xs i r
 | [],[],i,r,_,_,h=>by cases h;exact .inl ⟨rfl,λp aq=>by cases aq⟩
 | e::es,p::xs,i,r,al,h,ao=>by
  have aY:=h 0 e p rfl rfl;simp only[Instr.findNow]at ao;split at ao
  ·rename_i aD;have:=Sp ak au ai aY aD;cases ao;exact .inr ⟨0,e,p,rfl,rfl,this.symm,λkc q fV=>by omega,rfl⟩
  ·rename_i aD;have:=Sp ak au ai aY aD;exact (Sq ak au ai es xs (i+1) (by grind) (λj a7 p' E U=>h (j+1) a7 p' (by grind) (by grind)) ao).next this.symm
  grind
theorem b9.aep{P:Program}{t:ad}{id:TypeId}(h:b9 P t id)(hc:t.kT=true):∃ d,P.underlying id=some d:=by
 cases t with
 | bool=>
  unfold b9 at h;simp only[cH,Bool.and_eq_true]at h;grind
 | int k=>exact⟨_,b9.int h⟩
 | str=>exact⟨_,b9.str h⟩
 | st t=>exact⟨_,h.Cf.2.2.2⟩
 | aB a b=>unfold b9 at h;simp[cH]at h
 | _=>cases hc
theorem xn{P:Program}{F:Nat->Prop}{w:World}{k:ad}{β:Type}(hc:tG k=true){lu:TypeId}(ak:b9 P k lu){tQ:Value}{x:k.aj}(ai:eu P k F w tQ x){es:List MapEntry}{xs:List (k.aj×β)}
  (al:es.length=xs.length) (h:∀ (j:Nat) (e:MapEntry) (p:k.aj×β),es[j]?=some e->xs[j]?=some p->eu P k F w e.key p.1):∃ r,(Instr.findKey lu tQ es).run P w=.ok r w/\zG x es xs 0 r:=by
 simp only[tG,Bool.and_eq_true,decide_eq_true_eq]at hc;obtain⟨d,au⟩:=ak.aep hc.1;simp only[Instr.findKey,Sem.run_bind,dD au,Result.andThen_ok];cases ax:Instr.findNow d tQ es 0 with
 | some r=>exact⟨r,rfl,Sq ak au ai es xs 0 al h ax⟩
 | none=>exact Sn hc.1 (by omega) ak ai es xs 0 al h
theorem Sr{k v:ad}{es:List (k.aj×v.aj)}{x:k.aj}:∀ {j:Nat} {p:k.aj×v.aj},es[j]?=some p->gM k x p.1=true->(∀ kc q,kc<j->es[kc]?=some q->gM k x q.1=false)->zl es x=some p.2/\∀ y,lV es x y=es.set j (p.1,y):=by
 induction es with
 | nil=>simp
 | cons q es aL=>
  intro j p E U ah;cases j with
  | zero=>
   simp at E;subst E;exact⟨by simp[zl,U],λy=>by simp[lV,U]⟩
  | succ j=>
   have aY:=ah 0 q (by omega) rfl;obtain⟨aQ,aS⟩:=aL (j:=j) (p:=p) (by grind) U λkc q' fV tL=>ah (kc+1) q' (by omega) (by grind);exact⟨by simpa [zl,List.find?_cons,aY]using aQ,λy=>by simp[lV,aY,aS y]⟩
theorem Ss{k v:ad}{es:List (k.aj×v.aj)}{x:k.aj}(h:∀ p∈es,gM k x p.1=false):zl es x=none/\∀ y,lV es x y=es++[(x,y)]:=by
 induction es with
 | nil=>exact⟨rfl,λ_=>rfl⟩
 | cons q es aL=>
  have aY:=h q (by simp);obtain⟨aQ,aS⟩:=aL λp aq=>h p (by grind);exact⟨by simpa [zl,List.find?_cons,aY]using aQ,λy=>by simp[lV,aY,aS y]⟩
section
variable {C:b_} {T:Nat->ad} {bf:Nat->Option aO} {o:Oper} {s:aC} {res:eC}
theorem aeq{P:Program}{F:Nat->Prop}{w:World}{v:ad}{z:Value}(af:v.eG=true\/v.isAgg=true)(i5:j8 v z.cells.toList=some [])(i6:(∃ cs,z=.agg cs)<->v.isAgg=true):eu P v F w z v.df:=by
 obtain⟨c,e,oE,z2⟩:=vc (P:=P) (H:=λ_=>⟨0,.fD⟩) (κ:=λ_=>⟨0,0,0,true⟩) (F:=F) (w:=w) v i5;rw[List.append_nil]at e;refine⟨?_,by grind⟩;have al:=hT v oE;rcases af with af | af
 ·obtain⟨u,rfl,hu⟩:=B0 af oE;have FW:∀ cs,z≠.agg cs:=λcs bj=>by
   have:=i6.1 ⟨cs,bj⟩;cases v<;>simp[ad.eG,ad.isAgg]at af this
  have bj:z.cells=#[z]:=by
   cases z<;>first | rfl | grind
  cases v<;>simp only[ad.eG,Bool.false_eq_true]at af<;>exact bj
 ·obtain⟨cs,rfl⟩:=i6.2 af;have a7:cs.toList=c:=e;cases v<;>simp only[ad.isAgg,Bool.false_eq_true]at af
  ·exact⟨cs,rfl,by rw[<-Array.length_toList,a7,al];rfl⟩
  ·exact⟨cs,rfl,by rw[<-Array.length_toList,a7,al];rfl⟩
def KM(P:Program)(k v:ad)(F:Nat->Prop)(w:World)(ms:List MapEntry)(xs:List (k.aj×v.aj)):Prop:=
 ms.length=xs.length/\∀ (j:Nat) (e:MapEntry) (p:k.aj×v.aj),ms[j]?=some e->xs[j]?=some p->eu P k F w e.key p.1/\eu P v F w e.val p.2
theorem u_.es{P:Program}{k v:ad}{F:Nat->Prop}{w:World}{ms:Array MapEntry}{clk:Nat}{xs:List (k.aj×v.aj)}(h:u_ P k v F w ms clk xs):KM P k v F w ms.toList xs:=by
 obtain⟨E,U,ah,a6⟩:=h;refine⟨by omega,λj e p he aq=>?_⟩;obtain⟨aG,rfl⟩:=List.getElem?_eq_some_iff.1 aq;obtain⟨fV,rfl⟩:=List.getElem?_eq_some_iff.1 he;obtain⟨a,b,c,d,_⟩:=ah j aG (by omega);exact⟨⟨a,by grind⟩,c,by grind⟩
theorem aer{a:Act}{w:World}{κ:Nat->bB}{F:Nat->Prop}(M:bm C s a w κ F){k v:ad}{av:aI}{u:Value}{xs:List (k.aj×v.aj)}(h:(Cc k v av).run s.ab=some xs)(hu:bA C.P s.ab κ F w av u) :
  (u=.map none/\xs=[])\/∃ r ms clk,u=.map (some r)/\w.heap[r]?=some (.map ms clk)/\KM C.P k v F w ms.toList xs:=by
 have cB:∀ {xs:List (k.aj×v.aj)},bI C.P (.map k v) F w [u] xs->(u=.map none/\xs=[])\/∃ r ms clk,u=.map (some r)/\w.heap[r]?=some (.map ms clk)/\KM C.P k v F w ms.toList xs:=by
  intro xs ai;rcases ai with⟨az,aN⟩ | ⟨r,ms,clk,az,E,U,ah,a6,bL,dv⟩
  ·grind
  ·exact .inr ⟨r,ms,clk,(List.cons.inj az).1,U,u_.es ⟨ah,a6,bL,dv⟩⟩
 cases av with
 | val t es=>
  simp only[Cc,ar.bO]at h;exact cB ((dU rfl).1 (FC h hu)).2
 | jG x=>
  simp only[bA]at hu;subst hu;have ai:u=.map none/\xs=[]:=by
   unfold Cc at h;split at h
   ·grind
   ·simp_all
   ·grind
   ·cases h
  grind
 | fJ b g=>
  simp only[Cc,ar.e5,ar.bO]at h;split at h
  ·rename_i ay;have aU:=M.bD b;unfold cG at aU;split at h
   ·rename_i k' h9 es aa;obtain⟨e,rfl⟩:=kR h;cases e;rw[aa]at aU;obtain⟨ms,clk,E,U⟩:=aU;exact .inr ⟨_,ms,clk,hu.2 ay.symm (by rw[aa];rfl),E,U.es⟩
   ·rename_i k' h9 es aa;obtain⟨e,rfl⟩:=kR h;cases e;rw[aa]at aU;have:=hu.2 ay.symm (by rw[aa];rfl);simp only[jH]at aU;grind
   grind
  grind
 | _=>cases h
theorem aes{ty:TypeId}{r:Option Operand}(bg:∀ i,o.dst=some i->i<C.nt)(ag:o.op=.makeMap ty r)(h:(bu C.aP T bf (a8 C.aP s.aA) o).run s.ab=some res):cJ C o s res:=by
 simp only[bu,ag]at h;split at h
 ·cases h
 ·rename_i St;have St:r=none:=by simp_all
  subst St;split at h
  ·rename_i k v aF;obtain⟨b,au,ak⟩:=q5 h;simp only[Option.some.injEq]at ak;subst ak;intro a w κ F Q M _ _;have c_:(execOp a.eval o).run C.P w=.ok (.value (.map (some w.heap.size))) (w.alloc (.map #[] 0)):=by
    simp[execOp,ag,Instr.makeMap]
   have E:=M.alloc (b:=b) (x:=⟨(s.ab b).gen+1,.mp k v []⟩) (M.gY (bg b au)) (Nat.lt_succ_self _) (o:=.map #[] 0) (k:=⟨w.heap.size,0,0,false⟩) rfl λH κ' _ _ _=>
    ⟨#[],0,qa _ _,rfl,by simp,λi G=>by simp,λi j G=>by simp⟩
   refine hy (by grind) c_ ⟨_,F,bm.set (s:=s.cz b _) E bg ⟨⟨by simp[aC.cz],rfl⟩,λ_ _=>by simp⟩⟩
  ·cases h
theorem aet(aV:dT C.P T){ty:TypeId}{m x:Operand}{ok:Bool}(bg:∀ i,o.dst=some i->i<C.nt)(ag:o.op=.lookup ty m x ok)(h:(bu C.aP T bf (a8 C.aP s.aA) o).run s.ab=some res):cJ C o s res:=by
 simp only[bu,ag,zm]at h;split at h
 ·rename_i k v aF;split at h
  ·rename_i hc;simp only[Bool.and_eq_true,Bool.or_eq_true]at hc;obtain⟨i,j,G,na,hj⟩:=(aV.cb aF (by simp)).mp;simp only[ar.e6,Option.bind_eq_some_iff,bP,ar.bO,Option.some.injEq]at h;obtain⟨es,pk,⟨y,l⟩,aT,rfl⟩:=h;refine cJ.pure (by grind) bg λa w κ F M bc _=>?_;have hm:=cQ M m rfl bc.1;have ai:=Ci M aT (cQ M x rfl bc.2);obtain⟨inf,z,i1,i2,i3,i4,i5,i6⟩:=kx hj.kv;have hzero:eu C.P v F w z v.df:=aeq hc.2 i5 i6;have fin:∀ (u:Value) (q:Option v.aj),eu C.P v F w u (q.getD v.df)->bA C.P s.ab κ F w (RL v q ok) (if ok=true then .tuple #[u,.bool q.isSome] else u):=by
    intro u q ah;cases ok with
    | true=>
     refine⟨[u,.bool q.isSome],rfl,rfl,λi G=>?_⟩;match i,G with
     | 0,_=>exact ah
     | 1,_=>exact fh.2 rfl
    | false=>exact ah
   have mm:tG k=true:=hc.1;have fl:k.kT=true/\k.j_<=100:=by simpa [tG]using mm
   rcases aer M pk hm with⟨hu,ax⟩ | ⟨r,ms,clk,hu,hw,lv⟩
   ·subst ax;have ec:=(CE (em:=true) k 10000 fl.1 (by omega)).1 na ai;obtain⟨f,f1,f2⟩:=xn (β:=v.aj) (xs:=[]) (es:=[]) mm na ai rfl (λj e p h=>by cases h);rcases f2 with⟨rfl,_⟩ | ⟨j,e,p,E,_⟩
    ·refine⟨_,?_,fin z none hzero⟩;simp only[execOp,ag,hu,Instr.lookup,Sem.run_bind,dD G,Result.andThen_ok,Sem.run_pure];simp only[show (#[]:Array MapEntry).isEmpty=true from rfl,ec,Result.andThen_ok,f1];cases ok<;>simp[q3 i1 i4]
    grind
   ·have ec:=(CE (em:=ms.isEmpty) k 10000 fl.1 (by omega)).1 na ai;obtain⟨f,f1,f2⟩:=xn (β:=v.aj) (xs:=es) (es:=ms.toList) mm na ai lv.1 (λj e p E U=>by
     have:=(lv.2 j e p E U).1;exact⟨this.1,fg k (λ_ _=>trivial) (c8.refl F w) this.2⟩)
    have eX:(getObj r).run C.P w=.ok (.map ms clk) w:=by simp[getObj,Sem.run,hw]
    rcases f2 with⟨rfl,eQ⟩ | ⟨j,e,p,E,U,ah,a6,rfl⟩
    ·refine⟨_,?_,by rw[(Ss eQ).1];exact fin z none hzero⟩;simp only[execOp,ag,hu,Instr.lookup,Sem.run_bind,dD G,Result.andThen_ok,Sem.run_pure,eX,ec,f1,q3 i1 i4];rfl
    ·refine⟨_,?_,by rw[(Sr U ah a6).1];exact fin e.val (some p.2) (lv.2 j e p E U).2⟩;simp only[execOp,ag,hu,Instr.lookup,Sem.run_bind,dD G,Result.andThen_ok,Sem.run_pure,eX,ec,f1];rfl
  ·cases h
 ·cases h
theorem KN(P:Program)(w:World)(vn eA:Value):∃ k' w',(Instr.keyThatStays vn eA).run P w=.ok k' w'/\(k'=eA\/k'=vn)/\(w'=w\/w'=w.drew):=by
 unfold Instr.keyThatStays;split
 ·exact⟨eA,w,rfl,.inl rfl,.inl rfl⟩
 ·have ao : (Question.extern "map.whichKeyStays" 2).forced = false := rfl;simp only[Sem.run_bind,run_choose,ao,Bool.false_eq_true,if_false,Result.andThen_ok];split
  ·exact⟨eA,_,rfl,.inl rfl,.inr rfl⟩
  ·exact⟨vn,_,rfl,.inr rfl,.inr rfl⟩
theorem sq{P:Program}{w:World}{r:Nat}{es:Array MapEntry}{clk:Nat}(h:w.heap[r]?=some (.map es clk))(o:Obj):(setObj r o).run P w=.ok () { w with heap:=w.heap.setIfInBounds r o }:=by
 simp[setObj,Sem.run,h]
theorem KO(aV:dT C.P T){ty:TypeId}{m x y:Operand}(KK:o.dst=none)(ag:o.op=.mapUpdate ty m x y\/o.op=.insert ty m x y)(h:(bu C.aP T bf (a8 C.aP s.aA) o).run s.ab=some res):cJ C o s res:=by
 have au:∀ c,o.op≠.defer c:=by grind
 have kW:∀ aJ,bu C.aP T bf aJ o=q2 T aJ ty m x y:=λaJ=>by rcases ag with ag | ag<;>simp only[bu,ag]
 have hex:∀ aJ w,(execOp aJ o).run C.P w=(do Instr.mapUpdate ty (aJ m) (aJ x) (aJ y);pure .skip:Sem Next).run C.P w:=λaJ w=>by rcases ag with ag | ag<;>simp only[execOp,ag]
 rw[kW]at h;simp only[q2]at h;split at h
 ·rename_i k v aF;obtain⟨lu,zH,G,na,hj⟩:=(aV.cb aF (by simp)).mp;split at h
  ·rename_i hc;split at h
   ·rename_i b g tR;simp only[ar.e6,Option.bind_eq_some_iff,ar.run_bind,ar.e5,ar.bO]at h;obtain⟨⟨dL,oA⟩,ai,⟨nb,oB⟩,aT,h⟩:=h;split at h
    ·rename_i ay;obtain⟨ay,qg⟩:=ay;have qg:b ∉ oA++oB:=by
      grind
     split at h
     ·rename_i k' h9 es aa;simp only[Option.map_eq_some_iff]at h;obtain⟨Su,pk,rfl⟩:=h;obtain⟨e,rfl⟩:=kR pk;cases e;intro a w κ F Q M bc _;obtain⟨F',f1,bb,f2⟩:=bm.lp ((mZ ai).append (mZ aT)) M;have hm:bA C.P s.ab κ F w (use (a8 C.aP s.aA m)).2 (a.eval m):=cQ M m rfl bc.1;rw[tR]at hm;have kX:=hm.2 ay.symm (by rw[aa];rfl);have tS:=mq M.bD f1 ai f2.left (cQ M x rfl bc.2.1);have F3:=mq M.bD f1 aT f2.right (cQ M y rfl bc.2.2);have po:(s.cB (oA++oB)).ab b=s.ab b:=by simp only[aC.cB];grind
      have aU:=bb.bD b;unfold cG at aU;rw[po,aa]at aU;obtain⟨ms,clk,hw,sr⟩:=aU;have fl:k.kT=true/\k.j_<=100:=by simpa [tG]using hc
      have ec:=(CE (em:=false) k 10000 fl.1 (by omega)).1 na tS;have lv:=sr.es;obtain⟨f,dr,dI⟩:=xn (β:=v.aj) (xs:=es) (es:=ms.toList) hc na tS lv.1 (λj e p E U=>(lv.2 j e p E U).1);have eX:(getObj (κ b).ab).run C.P w=.ok (.map ms clk) w:=by simp[getObj,Sem.run,hw]
      have m':s.gf ((jL (oA++oB)).run s.ab++[(b,⟨(s.ab b).gen,.mp k v (lV es dL nb)⟩)])=(s.cB (oA++oB)).cz b ⟨(s.ab b).gen,.mp k v (lV es dL nb)⟩:=by
       rw[Cm,tI]
      have gw:fs (s.cB (oA++oB)).ab κ (λi=>if i=b then (⟨(s.ab b).gen,.mp k v (lV es dL nb)⟩:bK) else (s.cB (oA++oB)).ab i) κ:=
       qZ (by rw[po]) (λh=>by cases h) (λh=>by cases h) (λ_=>by rw[po,aa];rfl) (λh=>by cases h)
      obtain⟨hx,KP,F4,Sv⟩:=sr;have done:∀ (ck:World) (F5:Array MapEntry) (F6:Nat),(ck=w\/ck=w.drew)->
        (execOp a.eval o).run C.P w=.ok .skip { ck with heap:=ck.heap.setIfInBounds (κ b).ab (.map F5 F6) }->
        (∀ {w'},c8 F' w w'->u_ C.P k v F' w' F5 F6 (lV es dL nb))->
        o.wpIn (dS C.r) 0 C.P a w (λa' w'=>cv C (s.ia o.dst ⟨(use (a8 C.aP s.aA m)).1/\(use (a8 C.aP s.aA x)).1/\(use (a8 C.aP s.aA y)).1,True,.undef,(jL (oA++oB)).run s.ab++[(b,⟨(s.ab b).gen,.mp k v (lV es dL nb)⟩)]⟩) a' w') Q:=by
       intro ck F5 F6 l1 c_ aeu;have cV:ck.heap=w.heap:=by rcases l1 with rfl | rfl<;>rfl
       have ja:de w ck:=by rcases l1 with rfl | rfl<;>exact⟨rfl,rfl,rfl⟩
       refine FO au c_ ⟨κ,F',?_⟩;simp only[aC.ia];rw[m',KK];refine bb.pe (b:=b) (x:=⟨(s.ab b).gen,.mp k v (lV es dL nb)⟩) (by rw[po,aa];rfl) rfl gw (λh=>by cases h) (λ_=>by rw[po,aa];rfl) (λr KQ=>?_) (by grind) ⟨ja.os,ja.tape,ja.output⟩ λH _ _ he=>?_
       ·grind
       ·have ch:(κ b).ab<w.heap.size:=(Array.getElem?_eq_some_iff.1 hw).1;exact⟨F5,F6,by grind,aeu he⟩
      rcases dI with⟨rfl,eQ⟩ | ⟨j,e,p,E,U,ah,a6,rfl⟩
      ·refine done w (ms.push { key:=a.eval x,val:=a.eval y,born:=clk }) (clk+1) (.inl rfl) ?_ λ{w'} he=>?_
       ·rw[hex];simp only[kX,Instr.mapUpdate,Sem.run_bind,dD G,Result.andThen_ok,eX,ec,dr,sq hw,Sem.run_pure]
       ·rw[(Ss eQ).2];refine⟨by grind,?_,λi G dM=>?_,λi j G aG e=>?_⟩
        ·rw[List.map_append,List.nodup_append];refine⟨KP,by simp,λq bt q' tL=>?_⟩;obtain⟨p,aq,rfl⟩:=List.mem_map.1 bt;simp only[List.map_cons,List.map_nil,List.mem_singleton]at tL;subst tL;intro e;have:=eQ p aq;rw[e,(KL k fl.1 _ _).2 rfl]at this;grind
        ·by_cases qj:i<es.length
         ·obtain⟨aQ,aS,bN,fm,l2⟩:=F4 i qj (by omega);have az:(es++[(dL,nb)])[i]=es[i]:=List.getElem_append_left qj;have aN:(ms.push { key:=a.eval x,val:=a.eval y,born:=clk })[i]=ms[i]'(by omega):=Array.getElem_push_lt (by omega);rw[az,aN];exact⟨aQ,fg k (λ_ h=>h) he aS,bN,fg v (λ_ h=>h) he fm,by omega⟩
         ·have aev:i=es.length:=by grind
          subst aev;have az:(es++[(dL,nb)])[es.length]=(dL,nb):=by simp
          have aN:(ms.push { key:=a.eval x,val:=a.eval y,born:=clk })[es.length]={ key:=a.eval x,val:=a.eval y,born:=clk }:=by
           grind
          rw[az,aN];exact⟨tS.1,fg k (λ_ h=>h) he tS.2,F3.1,fg v (λ_ h=>h) he F3.2,by simp⟩
        ·have born:∀ i (h:i<(ms.push { key:=a.eval x,val:=a.eval y,born:=clk }).size),(∃ dw:i<ms.size,(ms.push { key:=a.eval x,val:=a.eval y,born:=clk })[i]=ms[i])\/(i=ms.size/\((ms.push { key:=a.eval x,val:=a.eval y,born:=clk })[i]).born=clk):=by
          grind
         grind
      ·have aG:j<es.length:=(List.getElem?_eq_some_iff.1 U).1;have xo:j<ms.size:=by omega
       have KR:ms[j]=e:=by
        grind
       have nc:es[j]=p:=(List.getElem?_eq_some_iff.1 U).2;have aew:dL=p.1:=(KL k fl.1 _ _).1 ah;obtain⟨js,ck,b8,cw,ef⟩:=KN C.P w e.key (a.eval x);have l1:ck.heap[(κ b).ab]?=some (.map ms clk):=by rcases ef with rfl | rfl<;>exact hw
       refine done ck (ms.modify j λe=>{ e with key:=js,val:=a.eval y }) clk ef ?_ λ{w'} he=>?_
       ·rw[hex];rw[Nat.zero_add]at dr;simp only[kX,Instr.mapUpdate,Sem.run_bind,dD G,Result.andThen_ok,eX,ec,dr];have nY:((ms[j]?).map (·.key)).getD (a.eval x)=e.key:=by
         grind
        rw[nY,b8];simp only[Result.andThen_ok,sq l1,Sem.run_pure]
       ·rw[(Sr U ah a6).2];refine⟨by grind,?_,λi G dM=>?_,λi kc G fV a7=>?_⟩
        ·have:(es.set j (p.1,nb)).map (·.1)=es.map (·.1):=by
          apply List.ext_getElem?;grind
         grind
        ·have qj:i<es.length:=by grind
         have KS:i<ms.size:=by omega
         obtain⟨aQ,aS,bN,fm,l2⟩:=F4 i qj KS;by_cases zI:j=i
         ·subst zI;have az:(es.set j (p.1,nb))[j]=(p.1,nb):=by simp
          have aN:(ms.modify j λe=>{ e with key:=js,val:=a.eval y })[j]={ key:=js,val:=a.eval y,born:=ms[j].born }:=by grind
          rw[az,aN];have vg:eu C.P k F' w js p.1:=by
           rcases cw with rfl | rfl
           ·grind
           ·rw[<-KR,<-nc];exact⟨aQ,aS⟩
          exact⟨vg.1,fg k (λ_ h=>h) he vg.2,F3.1,fg v (λ_ h=>h) he F3.2,l2⟩
         ·have az:(es.set j (p.1,nb))[i]=es[i]:=by grind
          have aN:(ms.modify j λe=>{ e with key:=js,val:=a.eval y })[i]=ms[i]:=by grind
          rw[az,aN];exact⟨aQ,fg k (λ_ h=>h) he aS,bN,fg v (λ_ h=>h) he fm,l2⟩
        grind
     grind
    grind
   ·cases h
  ·cases h
 ·cases h
end
end Go.Fer
namespace Go.Fer
open Go.RowKit
section
variable {C:b_} {T:Nat->ad} {bf:Nat->Option aO} {o:Oper} {s:aC} {res:eC}
theorem Sw{P:Program}{F:Nat->Prop}{w:World}{e:ad}{z:Value}(bL:j8 e z.cells.toList=some [])(n:Nat) :
  gx P e F w ((Array.range (n*e.size)).map (λi=>z.cells[i % z.cells.size]!)).toList (List.replicate n e.df):=by
 obtain⟨c,zJ,oE,z2⟩:=vc (P:=P) (H:=λ_=>⟨0,.fD⟩) (κ:=λ_=>⟨0,0,0,true⟩) (F:=F) (w:=w) e bL;rw[List.append_nil]at zJ;have tT:z.cells.size=e.size:=by rw[<-Array.length_toList,zJ];exact hT e oE
 refine⟨by simp,λi G=>?_⟩;have dM:i<n:=by grind
 have hle:(i+1)*e.size<=n*e.size:=Nat.mul_le_mul_right _ (by omega);rw[Nat.add_mul]at hle;have:((((Array.range (n*e.size)).map (λi=>z.cells[i % z.cells.size]!)).toList.drop (i*e.size)).take e.size)=z.cells.toList:=by
  apply List.ext_getElem?;intro j;simp only[List.getElem?_take,List.getElem?_drop];split
  ·rename_i aG;have fV:j<z.cells.size:=by omega
   rw[Array.getElem?_toList,Array.getElem?_toList];have zE:(i*e.size+j) % z.cells.size=j:=by rw[tT,Nat.add_comm,Nat.add_mul_mod_self_right,Nat.mod_eq_of_lt aG]
   grind
  grind
 grind
theorem aex{n:Int}(aY:0<=n)(E:n<=4294967296):IntKind.i64.wrap n=n:=by
 simp only[IntKind.wrap,IntKind.signed,IntKind.bits];grind
theorem aey(aV:dT C.P T){ty:TypeId}{l c:Operand}(bg:∀ i,o.dst=some i->i<C.nt)(ag:o.op=.makeSlice ty l c)(h:(bu C.aP T bf (a8 C.aP s.aA) o).run s.ab=some res):cJ C o s res:=by
 simp only[bu,ag,FJ]at h;split at h
 ·rename_i e aF;split at h
  ·rename_i n m al hm;have dq:=aV.cb aF (by simp);obtain⟨jP,aG,jb,oG⟩:=dq.sl;obtain⟨inf,z,i1,i2,i3,i4,i5,i6⟩:=kx jb.kv;obtain⟨b,au,ak⟩:=q5 h;simp only[Option.some.injEq]at ak;subst ak;intro a w κ F Q M bc hc;have aez:=oC (cQ M l rfl bc.1) al;have ja:=oC (cQ M c rfl bc.2) hm;obtain⟨c0,rfl,bE⟩:0<=n/\n=m/\bQ n.toNat:=hc;unfold bQ at bE;obtain⟨k,rfl⟩:∃ k:Nat,n=k:=⟨n.toNat,by omega⟩
   simp only[Int.toNat_natCast]at bE;have hw:IntKind.i64.wrap (k:Int)=k:=aex (by omega) (by omega);let cs:Array Value:=(Array.range (k*e.size)).map (λi=>z.cells[i % z.cells.size]!);have jn:gx C.P e F w cs.toList (List.replicate k e.df):=Sw i5 k;have axF:inf.bytes*k<=2 ^ 47:=by
    calc inf.bytes*k<=1024*4294967296:=Nat.mul_le_mul i3 (by omega)
     _<=2 ^ 47:=by decide
   have c_:(execOp a.eval o).run C.P w=.ok (.value (.slice (some ⟨w.heap.size,0,none⟩) k k)) (w.alloc (.cells cs jP)):=by
    have aeA:¬((inf.bytes:Int)*(k:Int) > 2 ^ 48):=by
     omega
    have nd:¬((k:Int)<0):=by omega
    have xm:¬(k*inf.bytes > roomBytes):=by
     have:roomBytes=2 ^ 47:=rfl;grind
    have vg:¬((k:Int) > (k:Int)):=by omega
    simp only[execOp,ag,Instr.makeSlice,aez.1,ja.1,Sem.run_bind,dD aG,Result.andThen_ok,asInt,asIntOf,Sem.run_pure,FL i1,hw,aeA,nd,vg,decide_false,Bool.or_false,Bool.false_or,Bool.false_eq_true,if_false,run_askRoom,Int.toNat_natCast,sc i1,i2];by_cases ss:k*e.size=0
    ·have aeB:cs=#[]:=Array.eq_empty_of_size_eq_zero (by grind);rw[aeB];have aeC:(Array.map (λ_:Nat=>(default:Value)) (Array.range 0))=#[]:=by simp
     simp[ss,newRow];rw[aeC]
    ·simp[ss,q3 i1 i4,newRow,cs]
   have ah:=M.Cx (b:=b) (g:=(s.ab b).gen+1) (zs:=List.replicate k e.df) (k:=⟨w.heap.size,0,k,false⟩) (w':=w.alloc (.cells cs jP)) (Nat.lt_succ_self _) (.inr rfl) (by simp) (λr M=>pd w _ M) (λ_=>by simp) ⟨rfl,rfl,rfl⟩
    (λH κ'=>⟨λh=>(by cases h),λ_=>⟨cs,jP,qa w _,by grind,by simp,by grind,(jn.Cv (pre:=[]) (post:=[]) (by simp)).later (c8.alloc M.dd _)⟩⟩)
   refine hy (by grind) c_ ⟨_,F,bm.set (s:=s.cz b _) ah bg ⟨⟨by simp[aC.cz],rfl⟩,λ_ _=>by simp[aC.cz,bB.slice,bS.len]⟩⟩
  ·cases h
 ·cases h
theorem gx.take{P:Program}{e:ad}{F:Nat->Prop}{w:World}{all:List Value}{xs:List e.aj}(h:gx P e F w all xs){n:Nat}(ax:n<=xs.length):gx P e F w (all.take (n*e.size)) (xs.take n):=by
 have hle:n*e.size<=xs.length*e.size:=Nat.mul_le_mul_right _ ax;refine⟨by simp only[List.length_take,h.1];simp,λi G=>?_⟩;have dM:i<n:=by grind
 have aeD:(i+1)*e.size<=n*e.size:=Nat.mul_le_mul_right _ (by omega);rw[Nat.add_mul]at aeD;have:((all.take (n*e.size)).drop (i*e.size)).take e.size=(all.drop (i*e.size)).take e.size:=by
  rw[List.drop_take,List.take_take,Nat.min_eq_left (by omega)]
 rw[this];simpa using h.2 i (by omega)
theorem Sx{P:Program}{w:World}{e:ad}{q:Option Addr}{n cap:Nat}{xs:List e.aj}{F:Nat->Prop}(ax:n<=xs.length)(h:(q=none/\xs=[]/\cap=0)\/∃ p all,q=some p/\gx P e F w all xs/\kA w p all) :
  ∃ all,(Builtin.firstCells e.size n (.slice q xs.length cap)).run P w=.ok all.toArray w/\gx P e F w all (xs.take n):=by
 rcases h with⟨rfl,rfl,rfl⟩ | ⟨p,all,rfl,b6,a2⟩
 ·exact⟨[],by rfl,by simp[gx]⟩
 ·have hle:n*e.size<=xs.length*e.size:=Nat.mul_le_mul_right _ ax;refine⟨all.take (n*e.size),?_,b6.take ax⟩;simp only[Builtin.firstCells];have al:(all.take (n*e.size)).length=n*e.size:=by simp only[List.length_take,b6.1];omega
  have M:kA w p (all.take (n*e.size)):=⟨λaY=>a2.1 (by grind),λj aG=>by
   have fV:j<all.length:=by grind
   rw[List.getElem_take];exact a2.2 j fV⟩
  have:=FN (P:=P) M;grind
theorem lR.gm{P:Program}{e:ad}{F:Nat->Prop}{w w':World}{cs dh:Array Value}{off a1:Nat}{xs zs:List e.aj}{eA:List Value}(h:lR P e F w cs off xs)(he:c8 F w w')(ax:gx P e F w eA zs)(al:a1+zs.length<=xs.length)
  (ph:off+xs.length*e.size<=cs.size) (hc:dh.toList=cs.toList.take (off+a1*e.size)++(eA++cs.toList.drop (off+a1*e.size+eA.length))):lR P e F w' dh off (Go.Fer.gm xs a1 zs):=by
 have hlen:(Go.Fer.gm xs a1 zs).length=xs.length:=by simp[Go.Fer.gm];omega
 have aeE:(a1+zs.length)*e.size<=xs.length*e.size:=Nat.mul_le_mul_right _ al;rw[Nat.add_mul]at aeE;have pn:=ax.1;have gO:(cs.toList.take (off+a1*e.size)).length=off+a1*e.size:=by grind
 intro i G;rw[hlen]at G;have aeF:i<a1\/(a1<=i/\i<a1+zs.length)\/a1+zs.length<=i:=by omega
 rcases aeF with E | ⟨E,U⟩ | E
 ·obtain⟨bk,d1,d2⟩:=h i G;have Sf:=hT e d2;have az:(Go.Fer.gm xs a1 zs)[i]'(by omega)=xs[i]:=by
   simp only[Go.Fer.gm,List.append_assoc];grind
  rw[az];refine⟨bk,λj aG=>?_,fg e (λ_ h=>h) he d2⟩;have hle:(i+1)*e.size<=a1*e.size:=Nat.mul_le_mul_right _ (by omega);rw[Nat.add_mul]at hle;rw[<-Array.getElem?_toList,hc,List.getElem?_append_left (by omega),List.getElem?_take,if_pos (by omega),Array.getElem?_toList];grind
 ·have CA:=ax.Cv (pre:=cs.toList.take (off+a1*e.size)) (post:=cs.toList.drop (off+a1*e.size+eA.length)) hc;obtain⟨bk,d1,d2⟩:=CA (i - a1) (by omega);have az:(Go.Fer.gm xs a1 zs)[i]'(by omega)=zs[i - a1]'(by omega):=by
   simp only[Go.Fer.gm,List.append_assoc];grind
  rw[az];refine⟨bk,λj aG=>?_,fg e (λ_ h=>h) he d2⟩;have:=d1 j aG;rw[gO]at this;rw[<-this];congr 1;have:i*e.size=a1*e.size+(i - a1)*e.size:=by rw[<-Nat.add_mul];grind
  omega
 ·obtain⟨bk,d1,d2⟩:=h i G;have Sf:=hT e d2;have az:(Go.Fer.gm xs a1 zs)[i]'(by omega)=xs[i]:=by
   simp only[Go.Fer.gm,List.append_assoc];have gw:(xs.take a1).length=a1:=by grind
   rw[List.getElem_append_right (by omega),List.getElem_append_right (by omega)];grind
  rw[az];refine⟨bk,λj aG=>?_,fg e (λ_ h=>h) he d2⟩;have F7:(a1+zs.length)*e.size<=i*e.size:=Nat.mul_le_mul_right _ E;rw[Nat.add_mul]at F7;rw[<-Array.getElem?_toList,hc,List.getElem?_append_right (by omega),List.getElem?_append_right (by omega),List.getElem?_drop,gO];grind
theorem gx.one{P:Program}{e:ad}{F:Nat->Prop}{w:World}{eA:List Value}{ys:List e.aj}(h:gx P e F w eA ys)(lr:0<e.size):∀ v∈eA,v.oneCell'=true:=by
 intro v af;obtain⟨j,aG,rfl⟩:=List.mem_iff_getElem.1 af;have hdiv:j / e.size<ys.length:=(Nat.div_lt_iff_lt_mul lr).2 (by rw[<-h.1];exact aG);have nW:=h.2 (j / e.size) hdiv;have iE:=zh (P:=P) (H:=λ_=>⟨0,.fD⟩) (κ:=λ_=>⟨0,0,0,true⟩) e nW;have zE:=Nat.mod_lt j lr;have aed:j / e.size*e.size+j % e.size=j:=Nat.div_add_mod' j e.size;have Cz:((eA.drop (j / e.size*e.size)).take e.size).length=e.size:=hT e nW;have:=(iE.kS (j % e.size) (by rw[iE.len,Cz];omega)).2;grind
theorem aeG(aV:dT C.P T){args:Array Operand}{dp:Array TypeId}(bg:∀ i,o.dst=some i->i<C.nt)(ag:o.op=.call { callee:=.builtin .copy,args:=args,argTypes:=dp })(h:(bu C.aP T bf (a8 C.aP s.aA) o).run s.ab=some res):cJ C o s res:=by
 obtain⟨args⟩:=args;obtain⟨dp⟩:=dp;have au:∀ c,o.op≠.defer c:=by grind
 simp only[bu,ag,mW,FK]at h;split at h
 ·rename_i x y t u;split at h
  ·rename_i e aN aF hu;have dq:=aV.cb aF (by simp);obtain⟨jP,aG,jb,oG⟩:=dq.sl;obtain⟨inf,z,i1,i2,i3,i4,i5,i6⟩:=kx jb.kv;have lr:0<e.size:=Nat.pos_of_ne_zero oG;split at h
   ·rename_i b g a1 G CF;simp only[ar.e6,Option.bind_eq_some_iff,ar.e5,ar.bO]at h;obtain⟨⟨ys,l⟩,ka,h⟩:=h;split at h
    ·rename_i ay;split at h
     ·rename_i a7 xs aa;split at h
      ·rename_i q_;subst q_;simp only[Option.some.injEq]at h;subst h;intro a w κ F Q M bc _;obtain⟨q',cap',tN,nZ⟩:=sk M ka (cQ M y rfl bc.2);have ai:bA C.P s.ab κ F w (use (a8 C.aP s.aA x)).2 (a.eval x):=cQ M x rfl bc.1;have aU:=M.bD b;unfold cG at aU;rw[aa]at aU;have place:a1<=G.getD xs.length/\G.getD xs.length<=xs.length/\(((κ b).e_=true/\∃ cap,a.eval x=.slice none 0 cap)\/((κ b).e_=false/\∃ mx cap,a.eval x=.slice (some ⟨(κ b).ab,mx,none⟩) (G.getD xs.length - a1) cap/\(a1<G.getD xs.length->mx=(κ b).off+a1*a7.size))):=by
        split at CF
        ·rename_i be g' fa;simp only[Option.some.injEq,Prod.mk.injEq]at CF;obtain⟨rfl,rfl,rfl,rfl⟩:=CF;rw[fa]at ai;have af:=ai.2 ay.symm (by rw[aa];rfl);rw[aa]at af;simp only[bS.len]at af;refine⟨Nat.zero_le _,Nat.le_refl _,?_⟩;cases ax:(κ be).e_ with
         | true=>exact .inl ⟨rfl,0,by simpa [bB.slice,ax]using af⟩
         | false=>exact .inr ⟨rfl,(κ be).off,(κ be).cap,by simpa [bB.slice,ax]using af,λ_=>by simp⟩
        ·rename_i be g' axG dM fa;simp only[Option.some.injEq,Prod.mk.injEq]at CF;obtain⟨rfl,rfl,rfl,rfl⟩:=CF;rw[fa]at ai;obtain⟨⟨aQ,aS⟩,bN⟩:=ai.2 ay.symm (by rw[aa];rfl);rw[aa]at aS bN;simp only[bS.len,bS.e4]at aS bN;refine⟨aQ,aS,?_⟩;rcases bN with⟨ax,af⟩ | ⟨ax,mx,af,hV,gF⟩
         ·grind
         ·obtain⟨cs,hY,bE,c2,c3,c4,c5⟩:=aU.2 ax;grind
        grind
       obtain⟨jN,qh,mw⟩:=place;have Sy:∀ m:Nat,m<=ys.length->m<=xs.length->fU .i64 (m:Int):=by
        intro m _ hm;have:=zv M (b:=b) (by rw[aa];rfl);rw[aa]at this;simp only[bS.len]at this;exact Ck (by omega)
       generalize Sz:G.getD xs.length=cV at *
       have R':Nat.min ys.length (cV - a1)=min (cV - a1) ys.length:=Nat.min_comm _ _;have aeH:(ys.take (cV - a1)).length=min (cV - a1) ys.length:=by simp
       have zK:(gm xs a1 (ys.take (cV - a1))).length=xs.length:=by simp[gm];omega
       have gw:fs s.ab κ (λi=>if i=b then (⟨(s.ab b).gen,.bh a7 (gm xs a1 (ys.take (cV - a1)))⟩:bK) else s.ab i) κ:=
        qZ rfl (λh=>by cases h) (λ_=>by rw[aa];exact⟨rfl,zK,rfl⟩) (λh=>by cases h) (λh=>by cases h)
       have mY:∀ (w':World) v,(Builtin.copy_ #[t,u] o.type #[a.eval x,a.eval y]).run C.P w=.ok v w'->(execOp a.eval o).run C.P w=.ok (.value v) w':=by
        intro w' v af;refine xi ag ?_;simp[builtin,af]
       rcases mw with⟨ax,cap,sn⟩ | ⟨ax,mx,cap,sn,aeI⟩
       ·have hX:=aU.1 ax;subst hX;have aeJ:cV=0:=by grind
        subst aeJ;have KT:a1=0:=by omega
        subst KT;obtain⟨eA,dZ,dP⟩:=Sx (P:=C.P) (w:=w) (n:=0) (Nat.zero_le _) nZ;have c_:(Builtin.copy_ #[t,u] o.type #[a.eval x,a.eval y]).run C.P w=.ok (.int .i64 ((0:Nat):Int)) w:=by
         simp only[Builtin.copy_,List.getElem?_toArray,List.getElem?_cons_zero,List.getElem?_cons_succ,Sem.run_bind,dD aG,Result.andThen_ok,sn,tN,Builtin.lenOf,Sem.run_pure,sc i1,i2,Nat.min_zero];rw[dZ];rfl
        refine hy au (mY w _ c_) ⟨κ,F,bm.set (s:=s.cz b _) ?_ bg (gW.2 ⟨by simp,Sy _ (by simp) (by simp)⟩)⟩;have bH:gm ([]:List a7.aj) 0 (ys.take (0 - 0))=[]:=by rfl
        have es:s.cz b ⟨(s.ab b).gen,.bh a7 (gm ([]:List a7.aj) 0 (ys.take (0 - 0)))⟩=s:=by
         rw[bH];unfold aC.cz;have:(λi=>if i=b then (⟨(s.ab b).gen,.bh a7 []⟩:bK) else s.ab i)=s.ab:=by
          funext i;by_cases G:i=b
          ·subst G;simp only[if_true];rw[<-aa]
          grind
         rw[this]
        grind
       ·obtain⟨cs,hY,bE,c2,c3,c4,c5⟩:=aU.2 ax;have Co:min (cV - a1) ys.length<=ys.length:=Nat.min_le_right _ _;obtain⟨eA,dZ,dP⟩:=Sx (P:=C.P) (w:=w) Co nZ;have kV:ys.take (min (cV - a1) ys.length)=ys.take (cV - a1):=by
         simp
        rw[kV]at dP;have pn:=dP.1;rw[aeH]at pn;have nX:=dP.one lr;have SA:xs.length*a7.size<=(κ b).cap*a7.size:=Nat.mul_le_mul_right _ c3;have CG:(a1+min (cV - a1) ys.length)*a7.size<=xs.length*a7.size:=Nat.mul_le_mul_right _ (by omega);rw[Nat.add_mul]at CG;obtain⟨w',dh,b8,cw,ef,lq,kB,mu⟩:∃ w' dh,(storeCells ⟨(κ b).ab,mx,none⟩ eA).run C.P w=.ok () w'/\w'.heap[(κ b).ab]?=some (.cells dh hY (0,0))/\dh.toList=cs.toList.take ((κ b).off+a1*a7.size)++(eA++cs.toList.drop ((κ b).off+a1*a7.size+eA.length))/\
          (∀ r,r≠(κ b).ab->w'.heap[r]?=w.heap[r]?)/\w'.heap.size=w.heap.size/\de w w':=by
         by_cases ch:a1<cV
         ·rw[aeI ch];obtain⟨w',dh,b8,cw,ef,lq,kB,mu⟩:=vi (P:=C.P) eA ((κ b).off+a1*a7.size) 0 w cs bE (by omega) nX;grind
         ·have aY:min (cV - a1) ys.length=0:=by omega
          rw[aY,Nat.zero_mul]at pn;have:eA=[]:=List.eq_nil_of_length_eq_zero pn;subst this;exact⟨w,cs,by rfl,bE,by simp,λ_ _=>rfl,rfl,de.refl w⟩
        have c_:(Builtin.copy_ #[t,u] o.type #[a.eval x,a.eval y]).run C.P w=.ok (.int .i64 ((min (cV - a1) ys.length:Nat):Int)) w':=by
         simp only[Builtin.copy_,List.getElem?_toArray,List.getElem?_cons_zero,List.getElem?_cons_succ,Sem.run_bind,dD aG,Result.andThen_ok,sn,tN,Builtin.lenOf,Sem.run_pure,sc i1,i2];rw[R',dZ];simp only[Result.andThen_ok,b8];rfl
        refine hy au (mY w' _ c_) ⟨κ,F,bm.set (s:=s.cz b _) ?_ bg (gW.2 ⟨rfl,Sy _ (by omega) (by omega)⟩)⟩;refine M.pe (b:=b) (by rw[aa];simp[bS.b1,ax]) (by simp[bS.b1,ax]) gw (λh=>by cases h) (λh=>by cases h) lq kB mu λH m_ ch he=>?_;refine⟨λh=>(by grind),λ_=>⟨dh,hY,cw,?_,by omega,c4,?_⟩⟩
        ·have:dh.size=cs.size:=by
          rw[<-Array.length_toList,ef];simp only[List.length_append,List.length_take,List.length_drop,Array.length_toList];omega
         omega
        ·exact c5.gm he dP (by omega) (by omega) ef
      grind
     grind
    grind
   ·cases h
  ·cases h
 ·cases h
theorem SB(ag:(bu C.aP T bf (a8 C.aP s.aA) o).run s.ab=some ⟨True,False,.undef,[]⟩)(h:(bu C.aP T bf (a8 C.aP s.aA) o).run s.ab=some res):cJ C o s res:=by
 rw[ag]at h;cases h;intro a w κ F Q _ _ hc;grind
end
end Go.Fer
namespace Go.Fer
open Go.RowKit
section
variable {C:b_} {T:Nat->ad} {bf:Nat->Option aO} {o:Oper} {s:aC} {res:eC}
theorem aeK{P:Program}{w:World}{len cap:Nat}{a1:Option Value}{l:Option Int}{k k':IntKind}{h m:Int}(al:(a1=none/\l=none)\/∃ k m,a1=some (.int k m)/\l=some m)
  (E:0<=du l) (U:du l<=h) (ah:h<=m) (a6:m<=(cap:Int)):(Instr.sliceBounds true len cap a1 (some (.int k h)) (some (.int k' m))).run P w=.ok ((du l).toNat,h.toNat,m.toNat) w:=by
 rcases al with⟨rfl,rfl⟩ | ⟨k,n,rfl,rfl⟩<;>simp only[du]at E U ⊢
 ·have az:0<=m/\m<=(cap:Int):=by omega
  have aN:0<=h/\h<=m:=by omega
  have cL:max m 0=m:=by omega
  simp[Instr.sliceBounds,Instr.sliceBound,asIntOf,az,aN,cL]
 ·have az:0<=m/\m<=(cap:Int):=by omega
  have aN:0<=h/\h<=m:=by omega
  have cL:max m 0=m:=by omega
  have ee:0<=n/\n<=h:=by omega
  have hv:max h 0=h:=by omega
  simp[Instr.sliceBounds,Instr.sliceBound,asIntOf,az,aN,cL,ee,hv]
theorem aeL(aV:dT C.P T){ty:TypeId}{x:Operand}{a1 G:Option Operand}{pf:Operand}(bg:∀ i,o.dst=some i->i<C.nt)(ag:o.op=.slice ty x a1 G (some pf))(h:(bu C.aP T bf (a8 C.aP s.aA) o).run s.ab=some res):cJ C o s res:=by
 simp only[bu,ag,Option.isSome_some,if_true,FH]at h;split at h
 ·rename_i ol l q1 cV vd m si Kz aeM;have au:∀ c,o.op≠.defer c:=by grind
  split at h
  ·rename_i bH aF;have dq:=aV.cb aF (by simp);obtain⟨j,aG,jb,oG⟩:=dq.sl;simp only[ar.e6,Option.bind_eq_some_iff]at h;obtain⟨⟨c,v⟩,fW,h⟩:=h;simp only[bP,ar.bO,Option.some.injEq]at h;subst h;have runs:∀ (a:Act) (w:World) κ F,bm C s a w κ F->ol->q1->vd->∀ (q:Option Addr) (n cap:Nat),a.eval x=.slice q n cap->0<=du l->du l<=cV->cV<=m->m<=(cap:Int)->
     (execOp a.eval o).run C.P w=.ok (.value (.slice (if m.toNat=(du l).toNat then q else q.map (·.add ((du l).toNat*bH.size))) (cV.toNat - (du l).toNat) (m.toNat - (du l).toNat))) w:=by
    intro a w κ F M Ct Cu aeN q n cap af bE c2 c3 c4;have dO:(a1.map a.eval=none/\l=none)\/∃ k m,a1.map a.eval=some (.int k m)/\l=some m:=by
     rcases Cs M si Ct with⟨rfl,rfl⟩ | ⟨y,k,m,rfl,rfl,e⟩
     ·exact .inl ⟨rfl,rfl⟩
     ·exact .inr ⟨k,m,by simp[e],rfl⟩
    obtain⟨axH,aS,m2,rfl,aN,cL⟩:∃ y k n,G=some y/\cV=n/\a.eval y=.int k n:=by
     rcases Cs M Kz Cu with⟨_,h⟩ | ⟨y,k,m,rfl,h,e⟩
     ·cases h
     ·exact⟨y,k,m,rfl,Option.some.inj h,e⟩
    obtain⟨bN,ee⟩:∃ k,a.eval pf=.int k m:=by
     rcases Cs M aeM aeN with⟨h,_⟩ | ⟨y,k,m,E,U,e⟩
     ·cases h
     ·cases E;cases U;exact⟨k,e⟩
    subst aN;have:=aeK (P:=C.P) (w:=w) (len:=n) (k:=aS) (k':=bN) dO bE c2 c3 c4;simp[execOp,ag,af,Instr.sliceAt,Instr.slice,dD aG,cL,ee,this,jb.size]
   unfold RJ at fW;split at fW
   ·rename_i e xs fa;simp only[ar.bO]at fW;split at fW
    ·rename_i he;subst he;simp only[Option.some.injEq,Prod.mk.injEq]at fW;obtain⟨rfl,rfl⟩:=fW;refine cJ.pure au bg λa w κ F M bc hc=>?_;have ai:bA C.P s.ab κ F w (use (a8 C.aP s.aA x)).2 (a.eval x):=cQ M x rfl bc.1;rw[fa]at ai;obtain⟨_,a',cap,az,m1,m2,m3,m4⟩:=(dU rfl).1 ai;have az:=(List.cons.inj az).1;simp only[fE]at hc;obtain⟨bE,c2,c3,c4⟩:=hc;subst c3;have hlen:((xs.take cV.toNat).drop (du l).toNat).length=cV.toNat - (du l).toNat:=by
      grind
     have axI:(xs.length:Int)<=cap:=by omega
     refine⟨_,runs a w κ F M bc.2.1 bc.2.2.1 bc.2.2.2 a' xs.length cap az bE c2 (Int.le_refl _) (by omega),(dU rfl).2 ⟨rfl,?_⟩,_,by rw[hlen]⟩;refine⟨_,_,by rw[hlen],by omega,by omega,?_,λp aq va=>?_⟩
     ·intro ax;split at ax
      ·omega
      ·cases a' with
       | none=>grind
       | some q=>cases ax
     ·cases a' with
      | none=>grind
      | some q=>
       obtain⟨dZ,dP,hZ⟩:=m4 q rfl (by omega);have bt:p=⟨q.block,q.off+(du l).toNat*e.size,none⟩:=by
        split at aq
        ·omega
        ·simp only[Option.map_some,Option.some.injEq]at aq;rw[Cr dP]at aq;grind
       subst bt;refine⟨dZ,rfl,λi G=>?_⟩;rw[hlen]at G;obtain⟨bk,d1,d2⟩:=hZ ((du l).toNat+i) (by omega);grind
    grind
   ·rename_i fa;simp only[ar.bO,Option.some.injEq,Prod.mk.injEq]at fW;obtain⟨rfl,rfl⟩:=fW;refine cJ.pure au bg λa w κ F M bc hc=>?_;have ai:bA C.P s.ab κ F w (use (a8 C.aP s.aA x)).2 (a.eval x):=cQ M x rfl bc.1;rw[fa]at ai;simp only[bA]at ai;simp only[fE]at hc;obtain⟨bE,c2,c3⟩:=hc;have c_:=runs a w κ F M bc.2.1 bc.2.2.1 bc.2.2.2 none 0 0 ai (by omega) (by omega) (by omega) (by omega);have aY:cV.toNat=0:=by omega
    have E:m.toNat=0:=by omega
    have U:(du l).toNat=0:=by omega
    rw[aY,E,U]at c_;simp only[if_true,Nat.sub_zero]at c_;exact⟨_,c_,(dU rfl).2 ⟨rfl,none,0,rfl,Nat.le_refl _,by decide,λ_=>rfl,λp aq=>by simp⟩,none,rfl⟩
   ·rename_i b g fa;simp only[ar.e5,ar.bO]at fW;split at fW
    ·rename_i bj;simp only[Bool.and_eq_true,decide_eq_true_eq]at bj;obtain⟨ay,fb⟩:=bj;simp only[Option.some.injEq,Prod.mk.injEq]at fW;obtain⟨rfl,rfl⟩:=fW;refine cJ.pure au bg λa w κ F M bc hc=>?_;have ai:bA C.P s.ab κ F w (use (a8 C.aP s.aA x)).2 (a.eval x):=cQ M x rfl bc.1;rw[fa]at ai;have af:=ai.2 ay.symm fb;obtain⟨dZ,dP⟩:=zv M fb;simp only[fE]at hc;obtain⟨bE,c2,c3,c4⟩:=hc;cases ax:(κ b).e_ with
     | true=>
      have aY:=dZ ax;simp only[bB.slice,ax,if_true]at af;exact⟨_,runs a w κ F M bc.2.1 bc.2.2.1 bc.2.2.2 none 0 0 af bE c2 c3 (by omega),trivial⟩
     | false=>
      have xl:=Km M fb ax;simp only[bB.slice,ax,Bool.false_eq_true,if_false]at af;exact⟨_,runs a w κ F M bc.2.1 bc.2.2.1 bc.2.2.2 _ _ _ af bE c2 c3 (by omega),trivial⟩
    grind
   ·cases fW
  ·cases h
 ·cases h
theorem aeO{b:Nat}{e:ad}(aa:(s.ab b).body=.bh e []):s.cz b ⟨(s.ab b).gen,.bh e []⟩=s:=by
 unfold aC.cz;have:(λi=>if i=b then (⟨(s.ab b).gen,.bh e []⟩:bK) else s.ab i)=s.ab:=by
  funext i;by_cases G:i=b
  ·subst G;simp only[if_true];rw[<-aa]
  grind
 rw[this]
theorem aeP(aV:dT C.P T){args:Array Operand}{dp:Array TypeId}(bg:∀ i,o.dst=some i->i<C.nt)(ag:o.op=.call { callee:=.builtin .append,args:=args,argTypes:=dp }){b g a1 G:Nat}(aD:xc (a8 C.aP s.aA) args.toList=some (b,g,a1,G))
  (h:(Cd T (a8 C.aP s.aA) args.toList dp.toList b g a1 G).run s.ab=some res):cJ C o s res:=by
 obtain⟨args⟩:=args;obtain⟨dp⟩:=dp;have au:∀ c,o.op≠.defer c:=by grind
 simp only[Cd]at h;split at h
 ·rename_i x y t u;have fa:(use (a8 C.aP s.aA x)).2=.sub b g a1 G:=by
   simp only[xc]at aD;grind
  split at h
  ·rename_i e aN aF hu;have dq:=aV.cb aF (by simp);have vj:=aV.cb hu (by simp);obtain⟨jP,aG,jb,oG⟩:=dq.sl;obtain⟨aea,fV,_⟩:=vj.sl;obtain⟨inf,z,i1,i2,i3,i4,i5,i6⟩:=kx jb.kv;have lr:0<e.size:=Nat.pos_of_ne_zero oG;simp only[ar.e6,Option.bind_eq_some_iff,ar.e5,ar.bO]at h;obtain⟨⟨ys,l⟩,ka,h⟩:=h;split at h
   ·rename_i ay;split at h
    ·rename_i a7 xs aa;split at h
     ·rename_i q_;subst q_;simp only[Option.some.injEq]at h;subst h;intro a w κ F Q M bc hc;change G+ys.length<=xs.length at hc;obtain⟨q',cap',tN,nZ⟩:=sk M ka (cQ M y rfl bc.2);have ai:bA C.P s.ab κ F w (use (a8 C.aP s.aA x)).2 (a.eval x):=cQ M x rfl bc.1;rw[fa]at ai;have aU:=M.bD b;unfold cG at aU;rw[aa]at aU;obtain⟨⟨aQ,aS⟩,bN⟩:=ai.2 ay.symm (by rw[aa];rfl);rw[aa]at aS bN;simp only[bS.len,bS.e4]at aS bN;have mY:∀ (w':World) v,(Builtin.append_ #[t,u] o.type #[a.eval x,a.eval y]).run C.P w=.ok v w'->(execOp a.eval o).run C.P w=.ok (.value v) w':=by
       intro w' v af;refine xi ag ?_;simp[builtin,af]
      have zK:(gm xs G ys).length=xs.length:=by simp[gm];omega
      have gw:fs s.ab κ (λi=>if i=b then (⟨(s.ab b).gen,.bh a7 (gm xs G ys)⟩:bK) else s.ab i) κ:=
       qZ rfl (λh=>by cases h) (λ_=>by rw[aa];exact⟨rfl,zK,rfl⟩) (λh=>by cases h) (λh=>by cases h)
      rcases bN with⟨ax,af⟩ | ⟨ax,mx,af,hV,gF⟩
      ·have hX:=aU.1 ax;subst hX;have oI:G=0:=by grind
       subst oI;have KT:a1=0:=by omega
       subst KT;have KG:ys=[]:=by grind
       subst KG;obtain⟨eA,dZ,dP⟩:=zB (P:=C.P) (w:=w) (cap:=cap') rfl nZ;have c_:(Builtin.append_ #[t,u] o.type #[a.eval x,a.eval y]).run C.P w=.ok (.slice none 0 0) w:=by
        rw[af,tN];simp only[List.length_nil]at dZ ⊢;simp[Builtin.append_,dD aG,dD fV,sc i1,Builtin.lenOf];simp_all
       have bH:gm ([]:List a7.aj) 0 []=[]:=by rfl
       refine hy au (mY w _ c_) ⟨κ,F,bm.set (s:=s.cz b _) ?_ bg ⟨⟨by simp[aC.cz,ay],rfl⟩,λ_ _=>⟨by simp,.inl ⟨ax,rfl⟩⟩⟩⟩;rw[bH,aeO aa];exact M
      ·obtain⟨cs,hY,bE,c2,c3,c4,c5⟩:=aU.2 ax;obtain⟨eA,dZ,dP⟩:=zB (P:=C.P) (w:=w) (cap:=cap') rfl nZ;have pn:=dP.1;have nX:=dP.one lr;have SA:xs.length*a7.size<=(κ b).cap*a7.size:=Nat.mul_le_mul_right _ c3;have CG:(G+ys.length)*a7.size<=xs.length*a7.size:=Nat.mul_le_mul_right _ hc;rw[Nat.add_mul]at CG;obtain⟨w',dh,b8,cw,ef,lq,kB,mu⟩:∃ w' dh,(storeCells ⟨(κ b).ab,mx+(G - a1)*a7.size,none⟩ eA).run C.P w=.ok () w'/\w'.heap[(κ b).ab]?=some (.cells dh hY (0,0))/\dh.toList=cs.toList.take ((κ b).off+G*a7.size)++(eA++cs.toList.drop ((κ b).off+G*a7.size+eA.length))/\
         (∀ r,r≠(κ b).ab->w'.heap[r]?=w.heap[r]?)/\w'.heap.size=w.heap.size/\de w w':=by
        by_cases ch:a1<(κ b).cap
        ·have tU:mx+(G - a1)*a7.size=(κ b).off+G*a7.size:=by
          rw[gF ch,Nat.add_assoc,<-Nat.add_mul];grind
         rw[tU];obtain⟨w',dh,b8,cw,ef,lq,kB,mu⟩:=vi (P:=C.P) eA ((κ b).off+G*a7.size) 0 w cs bE (by omega) nX;grind
        ·have aY:ys.length=0:=by omega
         rw[aY,Nat.zero_mul]at pn;have:eA=[]:=List.eq_nil_of_length_eq_zero pn;subst this;exact⟨w,cs,by rfl,bE,by simp,λ_ _=>rfl,rfl,de.refl w⟩
       have xm:G - a1+ys.length<=(κ b).cap - a1:=by omega
       have c_:(Builtin.append_ #[t,u] o.type #[a.eval x,a.eval y]).run C.P w=.ok (.slice (some ⟨(κ b).ab,mx,none⟩) (G - a1+ys.length) ((κ b).cap - a1)) w':=by
        rw[af,tN];simp only[Builtin.append_,List.getElem?_toArray,List.getElem?_cons_zero,List.getElem?_cons_succ,Sem.run_bind,dD aG,dD fV,Result.andThen_ok,sc i1,i2,Sem.run_pure,Builtin.lenOf,Bool.false_eq_true,if_false,if_pos xm,Bool.not_false,if_true,dZ,vf];simp_all
       refine hy au (mY w' _ c_) ⟨κ,F,bm.set (s:=s.cz b _) ?_ bg ⟨⟨by simp[aC.cz,ay],rfl⟩,λ_ _=>⟨by simp only[aC.cz,if_true,bS.len,zK];omega,.inr ⟨ax,mx,?_,?_,?_⟩⟩⟩⟩
       ·refine M.pe (b:=b) (by rw[aa];simp[bS.b1,ax]) (by simp[bS.b1,ax]) gw (λh=>by cases h) (λh=>by cases h) lq kB mu λH m_ ch he=>?_;refine⟨λh=>(by grind),λ_=>⟨dh,hY,cw,?_,by omega,c4,?_⟩⟩
        ·have:dh.size=cs.size:=by
          rw[<-Array.length_toList,ef];grind
         omega
        ·exact c5.gm he dP hc (by omega) ef
       ·grind
       ·simp only[aC.cz,if_true,bS.e4];exact hV
       ·simp only[aC.cz,if_true,bS.e4];exact gF
     grind
    grind
   grind
  ·cases h
 ·cases h
theorem aeQ(aV:dT C.P T){args:Array Operand}{dp:Array TypeId}(bg:∀ i,o.dst=some i->i<C.nt)(ag:o.op=.call { callee:=.builtin .clear,args:=args,argTypes:=dp })
  (h:(Ce T (a8 C.aP s.aA) args.toList dp.toList).run s.ab=some res):cJ C o s res:=by
 obtain⟨args⟩:=args;obtain⟨dp⟩:=dp;have au:∀ c,o.op≠.defer c:=by grind
 simp only[Ce]at h;split at h
 ·rename_i x t;split at h
  ·rename_i e aF;have dq:=aV.cb aF (by simp);obtain⟨jP,aG,jb,oG⟩:=dq.sl;obtain⟨inf,z,i1,i2,i3,i4,i5,i6⟩:=kx jb.kv;have lr:0<e.size:=Nat.pos_of_ne_zero oG;split at h
   ·rename_i b g a1 G fa;simp only[ar.e5,ar.bO]at h;split at h
    ·rename_i ay;split at h
     ·rename_i a7 xs aa;split at h
      ·rename_i q_;subst q_;simp only[Option.some.injEq]at h;subst h;intro a w κ F Q M bc _;have ai:bA C.P s.ab κ F w (use (a8 C.aP s.aA x)).2 (a.eval x):=cQ M x rfl bc;rw[fa]at ai;have aU:=M.bD b;unfold cG at aU;rw[aa]at aU;obtain⟨⟨aQ,aS⟩,bN⟩:=ai.2 ay.symm (by rw[aa];rfl);rw[aa]at aS bN;simp only[bS.len,bS.e4]at aS bN;have mY:∀ (w':World) v,(Builtin.clear_ #[t] o.type #[a.eval x]).run C.P w=.ok v w'->(execOp a.eval o).run C.P w=.ok (.value v) w':=by
        intro w' v af;refine xi ag ?_;simp[builtin,af]
       have tV:(List.replicate (G - a1) a7.df).length=G - a1:=by simp
       have zK:(gm xs a1 (List.replicate (G - a1) a7.df)).length=xs.length:=by simp[gm];omega
       have gw:fs s.ab κ (λi=>if i=b then (⟨(s.ab b).gen,.bh a7 (gm xs a1 (List.replicate (G - a1) a7.df))⟩:bK) else s.ab i) κ:=
        qZ rfl (λh=>by cases h) (λ_=>by rw[aa];exact⟨rfl,zK,rfl⟩) (λh=>by cases h) (λh=>by cases h)
       have nothing:G - a1=0->gm xs a1 (List.replicate (G - a1) a7.df)=xs:=λaY=>by rw[aY];simp[gm]
       have hI:G - a1=0->s.cz b ⟨(s.ab b).gen,.bh a7 (gm xs a1 (List.replicate (G - a1) a7.df))⟩=s:=λaY=>by
        rw[nothing aY];unfold aC.cz;have:(λi=>if i=b then (⟨(s.ab b).gen,.bh a7 xs⟩:bK) else s.ab i)=s.ab:=by
         funext i;by_cases G:i=b
         ·subst G;simp only[if_true];rw[<-aa]
         grind
        rw[this]
       rcases bN with⟨ax,af⟩ | ⟨ax,mx,af,hV,gF⟩
       ·have hX:=aU.1 ax;subst hX;have oI:G - a1=0:=by grind
        have c_:(Builtin.clear_ #[t] o.type #[a.eval x]).run C.P w=.ok (.tuple #[]) w:=by
         rw[af];simp[Builtin.clear_,dD aG]
        refine hy au (mY w _ c_) ⟨κ,F,bm.set (s:=s.cz b _) ?_ bg trivial⟩;grind
       ·obtain⟨cs,hY,bE,c2,c3,c4,c5⟩:=aU.2 ax;by_cases aY:G - a1=0
        ·have c_:(Builtin.clear_ #[t] o.type #[a.eval x]).run C.P w=.ok (.tuple #[]) w:=by
          rw[af,aY];simp[Builtin.clear_,dD aG]
         refine hy au (mY w _ c_) ⟨κ,F,bm.set (s:=s.cz b _) ?_ bg trivial⟩;grind
        ·obtain⟨n,qk⟩:∃ n,G - a1=n+1:=⟨G - a1 - 1,by omega⟩
         have jn:gx C.P a7 F w ((Array.range ((G - a1)*a7.size)).map (λi=>z.cells[i % z.cells.size]!)).toList (List.replicate (G - a1) a7.df):=Sw i5 _;have tT:z.cells.size=a7.size:=by
          obtain⟨c,zJ,oE,z2⟩:=vc (P:=C.P) (H:=λ_=>⟨0,.fD⟩) (κ:=λ_=>⟨0,0,0,true⟩) (F:=F) (w:=w) a7 i5;rw[List.append_nil]at zJ;rw[<-Array.length_toList,zJ];exact hT a7 oE
         have pn:=jn.1;rw[tV]at pn;have nX:=jn.one lr;revert jn pn nX;generalize ls:((Array.range ((G - a1)*a7.size)).map (λi=>z.cells[i % z.cells.size]!)).toList=eA;intro jn pn nX;have SA:xs.length*a7.size<=(κ b).cap*a7.size:=Nat.mul_le_mul_right _ c3;have CG:(a1+(G - a1))*a7.size<=xs.length*a7.size:=Nat.mul_le_mul_right _ (by omega);rw[Nat.add_mul]at CG;have tU:mx=(κ b).off+a1*a7.size:=gF (by omega);obtain⟨w',dh,b8,cw,ef,lq,kB,mu⟩:=vi (P:=C.P) eA ((κ b).off+a1*a7.size) 0 w cs bE (by omega) nX;have c_:(Builtin.clear_ #[t] o.type #[a.eval x]).run C.P w=.ok (.tuple #[]) w':=by
          rw[af,tU];have bj:(Builtin.zeroCells z.cells (G - a1)).toList=eA:=by rw[<-ls,<-tT];rfl
          simp only[Builtin.clear_,List.getElem?_toArray,List.getElem?_cons_zero,Sem.run_bind,dD aG,Result.andThen_ok,q3 i1 i4,qk];simp_all
         refine hy au (mY w' _ c_) ⟨κ,F,bm.set (s:=s.cz b _) ?_ bg trivial⟩;refine M.pe (b:=b) (by rw[aa];simp[bS.b1,ax]) (by simp[bS.b1,ax]) gw (λh=>by cases h) (λh=>by cases h) lq kB mu λH m_ ch he=>?_;refine⟨λh=>(by grind),λ_=>⟨dh,hY,cw,?_,by omega,c4,?_⟩⟩
         ·have:dh.size=cs.size:=by
           rw[<-Array.length_toList,ef];grind
          omega
         ·exact c5.gm he jn (by omega) (by omega) (by omega)
      grind
     grind
    grind
   ·cases h
  ·cases h
 ·cases h
end
end Go.Fer
namespace Go.Fer
open Go.RowKit
section
variable {C:b_} {T:Nat->ad} {bf:Nat->Option aO} {o:Oper} {s:aC} {res:eC}
theorem KU{place:Nat->Option (Nat×Nat)}{size:Nat}(aq:∀ i,place i=some (i*size,size)):∀ (qs:List (Nat×Value)) (cs:Array Value),(∀ q∈qs,q.2.cells.size=size/\q.1*size+size<=cs.size)->(qs.map (·.1)).Nodup->
  ∃ dh,Instr.fill place cs qs=some dh/\dh.size=cs.size/\∀ i,i*size+size<=cs.size->(dh.toList.drop (i*size)).take size=(match qs.find? (λp=>p.1 == i) with | some q=>q.2.cells.toList | none=>(cs.toList.drop (i*size)).take size)
 | [],cs,_,_=>⟨cs,rfl,rfl,λi _=>rfl⟩
 | (k,v)::qs,cs,h,ax=>by
  obtain⟨E,U⟩:=h (k,v) (by simp);simp only at E U;have FV:=FT v.cells.toList 0 (k*size) cs (by grind);have e:(v.cells.zipIdx.foldl (λ(cs:Array Value) (p:Value×Nat)=>cs.setIfInBounds (k*size+p.2) p.1) cs)=((v.cells.toList.zipIdx 0).foldl (λ(cs:Array Value) (p:Value×Nat)=>cs.setIfInBounds (k*size+p.2) p.1) cs):=by
   rw[<-Array.foldl_toList];simp
  generalize axJ:(v.cells.zipIdx.foldl (λ(cs:Array Value) (p:Value×Nat)=>cs.setIfInBounds (k*size+p.2) p.1) cs)=F8 at *
  have SC:F8.toList=cs.toList.take (k*size)++(v.cells.toList++cs.toList.drop (k*size+size)):=by
   grind
  have cd:F8.size=cs.size:=by
   rw[<-Array.length_toList,SC];grind
  have CH:(qs.map (·.1)).Nodup/\k ∉ qs.map (·.1):=by
   grind
  obtain⟨dh,aQ,aS,bN⟩:=KU aq qs F8 (λq bt=>by grind) CH.1;refine⟨dh,?_,by omega,λi G=>?_⟩
  ·simp only[Instr.fill,aq];grind
  ·rw[bN i (by omega)];by_cases na:k=i
   ·grind
   ·have:((k,v)::qs).find? (λp=>p.1 == i)=qs.find? (λp=>p.1 == i):=by grind
    rw[this];have jn:(F8.toList.drop (i*size)).take size=(cs.toList.drop (i*size)).take size:=by
     apply List.ext_getElem?;intro j;simp only[List.getElem?_take,List.getElem?_drop];split
     ·rename_i aG;rw[SC];have kV:(List.take (k*size) cs.toList).length=k*size:=by grind
      have xk:v.cells.toList.length=size:=by omega
      rcases Nat.lt_or_ge i k with ah | ah
      ·have:(i+1)*size<=k*size:=Nat.mul_le_mul_right _ (by omega);grind
      ·have:(k+1)*size<=i*size:=Nat.mul_le_mul_right _ (by omega);rw[Nat.add_mul]at this;rw[List.getElem?_append_right (by omega),kV,List.getElem?_append_right (by omega),List.getElem?_drop];congr 1;omega
     ·rfl
    grind
theorem aeR(aV:dT C.P T){ty n:Nat}{ps:Array (Nat×Operand)}(bg:∀ i,o.dst=some i->i<C.nt)(ag:o.op=.buildSlice ty n ps)(h:(bu C.aP T bf (a8 C.aP s.aA) o).run s.ab=some res):cJ C o s res:=by
 obtain⟨ps⟩:=ps;have au:∀ c,o.op≠.defer c:=by grind
 simp only[bu,ag]at h;split at h
 ·rename_i e aF;have dq:=aV.cb aF (by simp);obtain⟨jP,aG,jb,oG⟩:=dq.sl;obtain⟨inf,z,i1,i2,i3,i4,i5,i6⟩:=kx jb.kv;simp only[ar.e6,Option.bind_eq_some_iff,ar.run_bind]at h;obtain⟨⟨xs,bV⟩,hX,h⟩:=h;obtain⟨b,axK,ak⟩:=q5 h;split at ak
  ·rename_i F9;obtain⟨axL,SD⟩:=F9;simp only[Bool.and_eq_true,Bool.not_eq_true',decide_eq_true_eq]at SD;obtain⟨⟨fX,tP⟩,KV⟩:=SD;have qg:b ∉ bV:=by grind
   simp only[Option.some.injEq]at ak;subst ak;intro a w κ F Q M bc _;obtain⟨F',f1,bb,f2⟩:=bm.lp (aem n 0 hX) M;obtain⟨aeS,F_,oE,z2⟩:=vc (P:=C.P) (H:=s.ab) (κ:=κ) (F:=F') (w:=w) e i5;rw[List.append_nil]at F_;have KW:=Kr M ps bc;have kf:=Sm M.bD f1 oE (ps:=iF (ps.map λp=>(p.1,a8 C.aP s.aA p.2))) (qs:=ps.map λp=>(p.1,a.eval p.2)) (by simp[iF]) KW n 0 hX f2;have tT:=(Cn e (P:=C.P) i5).2;have KX:∀ p∈ps,p.1<n:=by
    intro p aq;have:=List.all_eq_true.1 KV (p.1,(use (a8 C.aP s.aA p.2)).2) (by simp only[iF,List.map_map,List.mem_map];grind);grind
   have KY:((ps.map λp=>(p.1,a.eval p.2)).map (·.1)).Nodup:=by
    have:(iF (ps.map λp=>(p.1,a8 C.aP s.aA p.2))).map (·.1)=(ps.map λp=>(p.1,a.eval p.2)).map (·.1):=by simp[iF]
    grind
   have SE:∀ q∈ps.map (λp=>(p.1,a.eval p.2)),q.2.cells.size=e.size/\q.1*e.size+e.size<=n*e.size:=by
    intro q bt;obtain⟨p,aq,rfl⟩:=List.mem_map.1 bt;have ch:=KX p aq;refine⟨?_,by
     have:(p.1+1)*e.size<=n*e.size:=Nat.mul_le_mul_right _ (by omega);grind⟩
    obtain⟨bk,d1,d2⟩:=kf.2 p.1 (by omega);rw[Nat.zero_add]at d2;have vp:(ps.map λp=>(p.1,a.eval p.2)).find? (λr=>r.1 == p.1)=some (p.1,a.eval p.2):=by
     have aeT:∀ (l:List (Nat×Value)),(l.map (·.1)).Nodup->∀ q∈l,l.find? (λr=>r.1 == q.1)=some q:=by
      intro l;induction l with
      | nil=>simp
      | cons c l aL=>
       grind
     grind
    rw[vp]at d2;have:=hT e d1;grind
   have KZ:z.cells.size≠0:=by omega
   let base:Array Value:=(Array.range (n*e.size)).map (λi=>z.cells[i % z.cells.size]!);have axM:base.size=n*e.size:=by grind
   obtain⟨dh,aQ,aS,bN⟩:=KU (place:=λi=>some (i*e.size,e.size)) (λi=>rfl) (ps.map λp=>(p.1,a.eval p.2)) base (by grind) KY;have axN:∀ i,i<n->(base.toList.drop (i*e.size)).take e.size=z.cells.toList:=by
    intro i G;have hle:(i+1)*e.size<=n*e.size:=Nat.mul_le_mul_right _ (by omega);rw[Nat.add_mul]at hle;apply List.ext_getElem?;intro j;simp only[List.getElem?_take,List.getElem?_drop];split
    ·rename_i aG;have fV:j<z.cells.size:=by omega
     rw[Array.getElem?_toList,Array.getElem?_toList];have zE:(i*e.size+j) % z.cells.size=j:=by rw[tT,Nat.add_comm,Nat.add_mul_mod_self_right,Nat.mod_eq_of_lt aG]
     grind
    grind
   have aeU:gx C.P e F' w dh.toList xs:=by
    refine⟨by grind,λi G=>?_⟩;have dM:i<n:=by omega
    have hle:(i+1)*e.size<=n*e.size:=Nat.mul_le_mul_right _ (by omega);grind
   have c_:(execOp a.eval o).run C.P w=.ok (.value (.slice (some ⟨w.heap.size,0,none⟩) n n)) (w.alloc (.cells dh jP)):=by
    have aeV:¬n*e.size > 2 ^ 24:=by omega
    simp only[execOp,ag,Instr.buildSlice,Sem.run_bind,dD aG,Result.andThen_ok,sc i1,i2,aeV,if_false];by_cases ss:n*e.size=0
    ·have zL:base=#[]:=Array.eq_empty_of_size_eq_zero (by omega);rw[zL]at aQ;simp only[ss,if_true,Sem.run_bind,Sem.run_pure,Result.andThen_ok];rw[show ((Array.range 0).map (λi=>(#[]:Array Value)[i % (#[]:Array Value).size]!))=#[] from by simp];simp only[List.map_toArray]at aQ ⊢;rw[show Instr.fill (λi=>some (i*e.size,e.size)) #[] (ps.map λx=>(x.1,a.eval x.2))=some dh from aQ];rfl
    ·simp only[ss,if_false,Sem.run_bind,q3 i1 i4,Result.andThen_ok,Sem.run_pure];simp only[List.map_toArray];rw[show Instr.fill (λi=>some (i*e.size,e.size)) ((Array.range (n*e.size)).map (λi=>z.cells[i % z.cells.size]!)) (ps.map λx=>(x.1,a.eval x.2))=some dh from aQ];rfl
   have m':s.gf ((jL bV).run s.ab++[(b,⟨(s.ab b).gen+1,.bh e xs⟩)])=(s.cB bV).cz b ⟨(s.ab b).gen+1,.bh e xs⟩:=by
    rw[Cm,tI]
   have po:(s.cB bV).ab b=s.ab b:=by simp[aC.cB,qg]
   have ah:=bb.Cx (b:=b) (g:=(s.ab b).gen+1) (zs:=xs) (k:=⟨w.heap.size,0,n,false⟩) (w':=w.alloc (.cells dh jP)) (by grind) (.inr rfl) (by simp) (λr M=>pd w _ M) (λ_=>by simp) ⟨rfl,rfl,rfl⟩
    (λH κ'=>⟨λh=>(by cases h),λ_=>⟨dh,jP,qa w _,by grind,by grind,by
     have:n<=n*e.size:=Nat.le_mul_of_pos_right _ (Nat.pos_of_ne_zero oG);grind,(aeU.Cv (pre:=[]) (post:=[]) (by simp)).later (c8.alloc bb.dd _)⟩⟩)
   refine hy au c_ ?_;simp only[aC.ia];rw[m'];exact⟨_,F',bm.set ah bg ⟨⟨by simp[aC.cz],rfl⟩,λ_ _=>by simp[aC.cz,bB.slice,bS.len,kf.1]⟩⟩
  grind
 ·cases h
theorem SF(n0:Nat):∀ (m:Nat) (l:List Value),l.length=m*n0->((List.range m).map λi=>(l.drop (i*n0)).take n0).flatten=l
 | 0,l,h=>by
  have:l=[]:=List.eq_nil_of_length_eq_zero (by omega);simp[this]
 | m+1,l,h=>by
  rw[Nat.add_mul]at h;have aL:=SF n0 m (l.take (m*n0)) (by grind);rw[List.range_succ,List.map_append,List.flatten_append];have e:((List.range m).map λi=>(l.drop (i*n0)).take n0)=((List.range m).map λi=>((l.take (m*n0)).drop (i*n0)).take n0):=by
   refine List.map_congr_left λi G=>?_;have hle:(i+1)*n0<=m*n0:=Nat.mul_le_mul_right _ (by have:=List.mem_range.1 G;omega);rw[Nat.add_mul]at hle;rw[List.drop_take,List.take_take,Nat.min_eq_left (by omega)]
  rw[e,aL];have:(l.drop (m*n0)).take n0=l.drop (m*n0):=List.take_of_length_le (by grind);simp[this]
theorem aeW(aV:dT C.P T){ty m:Nat}{e:ad}{ps:Array (Nat×Operand)}(bg:∀ i,o.dst=some i->i<C.nt)(ag:o.op=.build ty ps)(aF:T ty=.array m e)
  (h:((tF e (iF (ps.toList.map λp=>(p.1,a8 C.aP s.aA p.2))) 0 m).cR λ(xs,bV)=>if (bV.isEmpty&&decide ((iF (ps.toList.map λp=>(p.1,a8 C.aP s.aA p.2))).map (·.1)).Nodup&&(iF (ps.toList.map λp=>(p.1,a8 C.aP s.aA p.2))).all (λp=>decide (p.1<m)))=true then bP (sa (ps.toList.map λp=>(p.1,a8 C.aP s.aA p.2))) True (.val (.array m e) xs) else .none).run s.ab=some res):cJ C o s res:=by
 obtain⟨ps⟩:=ps;simp only[ar.e6,Option.bind_eq_some_iff]at h;obtain⟨⟨xs,bV⟩,hX,h⟩:=h;have dq:=aV.cb aF (by simp);obtain⟨jP,aG,jb,oG⟩:=dq.bh;obtain⟨i,z,E,U,ah,a6,bL,dv⟩:=kx dq.kv;split at h
 ·rename_i hc;simp only[Bool.and_eq_true,decide_eq_true_eq,List.isEmpty_iff,List.all_eq_true]at hc;obtain⟨⟨rfl,tP⟩,KV⟩:=hc;simp only[bP,ar.bO,Option.some.injEq]at h;subst h;refine cJ.pure (by grind) bg λa w κ F M bc _=>?_;obtain⟨aeS,F_,oE,z2⟩:=vc (P:=C.P) (H:=s.ab) (κ:=κ) (F:=F) (w:=w) (.array m e) bL;rw[List.append_nil]at F_;have tT:=(Cn (.array m e) (P:=C.P) bL).2;have axO:z.cells.size=m*e.size:=tT;have KW:=Kr M ps bc;have kf:=λ(zero:List Value) (bj:bI C.P e F w zero e.df)=>Sm M.bD (λ_ h=>h) bj (ps:=iF (ps.map λp=>(p.1,a8 C.aP s.aA p.2))) (qs:=ps.map λp=>(p.1,a.eval p.2)) (by simp[iF]) KW m 0 hX (λ_ h=>by cases h);have KX:∀ p∈ps,p.1<m:=by
   intro p aq;exact KV (p.1,(use (a8 C.aP s.aA p.2)).2) (by simp only[iF,List.map_map,List.mem_map];grind)
  have KY:((ps.map λp=>(p.1,a.eval p.2)).map (·.1)).Nodup:=by
   have:(iF (ps.map λp=>(p.1,a8 C.aP s.aA p.2))).map (·.1)=(ps.map λp=>(p.1,a.eval p.2)).map (·.1):=by simp[iF]
   grind
  have jn:∀ i,i<m->bI C.P e F w ((z.cells.toList.drop (i*e.size)).take e.size) e.df:=by
   intro i G;have aeX:bI C.P (.array m e) F w z.cells.toList (ad.array m e).df:=by rw[F_];exact oE
   obtain⟨p,c,q,aQ,aS,bN⟩:=Kl aeX G;have al:=hT e bN;have:(ad.df (.array m e)).getD i e.df=e.df:=by
    show (List.replicate m e.df).getD i e.df=e.df;grind
   rw[this]at bN;have:(z.cells.toList.drop (i*e.size)).take e.size=c:=by
    rw[aQ,<-aS];simp[al]
   rw[this];exact bN
  have SG:xs.length=m:=by
   rcases Nat.eq_zero_or_pos m with aY | aY
   ·subst aY;simp only[tF,ar.bO,Option.some.injEq,Prod.mk.injEq]at hX;rw[<-hX.1];rfl
   ·exact (kf _ (jn 0 aY)).1
  have SE:∀ q∈ps.map (λp=>(p.1,a.eval p.2)),q.2.cells.size=e.size/\q.1*e.size+e.size<=z.cells.size:=by
   intro q bt;obtain⟨p,aq,rfl⟩:=List.mem_map.1 bt;have ch:=KX p aq;refine⟨?_,by
    have:(p.1+1)*e.size<=m*e.size:=Nat.mul_le_mul_right _ (by omega);grind⟩
   obtain⟨bk,d1,d2⟩:=(kf _ (jn p.1 ch)).2 p.1 (by omega);rw[Nat.zero_add]at d2;have vp:(ps.map λp=>(p.1,a.eval p.2)).find? (λr=>r.1 == p.1)=some (p.1,a.eval p.2):=by
    have aeT:∀ (l:List (Nat×Value)),(l.map (·.1)).Nodup->∀ q∈l,l.find? (λr=>r.1 == q.1)=some q:=by
     intro l;induction l with
     | nil=>simp
     | cons c l aL=>
      grind
    grind
   rw[vp]at d2;have:=hT e d1;grind
  obtain⟨dh,aQ,aS,bN⟩:=KU (place:=λi=>some (i*e.size,e.size)) (λi=>rfl) (ps.map λp=>(p.1,a.eval p.2)) z.cells SE KY;refine⟨.agg dh,?_,⟨dh,rfl,by omega⟩,?_⟩
  ·simp only[execOp,ag,Instr.build,Sem.run_bind,q3 E a6,Result.andThen_ok,dD aG,jb.size];simp_all
  ·refine⟨(List.range m).map λi=>(dh.toList.drop (i*e.size)).take e.size,(SF e.size m dh.toList (by grind)).symm,by simp,SG,λi G dM=>?_⟩;simp only[List.getElem_map,List.getElem_range];have KS:i<m:=by omega
   have hle:(i+1)*e.size<=m*e.size:=Nat.mul_le_mul_right _ (by omega);rw[Nat.add_mul]at hle;obtain⟨bk,d1,d2⟩:=(kf _ (jn i KS)).2 i G;rw[Nat.zero_add]at d2;have:=bN i (by omega);have:(dh.toList.drop (i*e.size)).take e.size=bk:=by
    rw[this];split at d2<;>simp_all
   rw[this];exact d1
 ·cases h
theorem fr.mono{P:Program}{t:ad}{F F':Nat->Prop}{w w':World}{aE:List Value}{x:t.aj}(h:fr P t F w aE x)(bo:∀ r,F r->F' r)(he:c8 F w w'):fr P t F' w' aE x:=⟨h.1,fg t bo he h.2⟩
theorem aeY{k:FuncId}{c6:List Operand}(bg:∀ i,o.dst=some i->i<C.nt)(ag:o.op=.makeFunc (.func k) #[] ⟨c6⟩){v:FA}(af:C.aP.tB k=some v)
  (h:((i_ (gn (v.cs.map .bG)) ((c6.map (a8 C.aP s.aA)).map λv=>(use v).2)).cR λ(y,bV)=>(jL bV).bind λwl=>.ret (some ⟨jM (c6.map (a8 C.aP s.aA)),True,.val (.fn (gn v.as) v.aW) (λx=>v.sh (Fz v.as (v.cs.map .bG) x y)),wl⟩):ar (Option eC)).run s.ab=some res):cJ C o s res:=by
 simp only[ar.e6,Option.bind_eq_some_iff,ar.run_bind,ar.bO,Option.some.injEq]at h;obtain⟨⟨y,l⟩,aT,rfl⟩:=h;intro a w κ F Q M bc _;obtain⟨F',f1,bb,f2⟩:=bm.lp (qi _ aT) M;have dX:fr C.P (gn (v.cs.map .bG)) F' w (c6.map a.eval) y:=by
  refine vo M.bD f1 _ aT f2 (by simp) λi G dM=>?_;simp only[List.getElem_map];have ds:i<c6.length:=by grind
  have E:=sd bc i (by grind);have az:(c6.map (a8 C.aP s.aA)).getD i .undef=a8 C.aP s.aA c6[i]:=by grind
  rw[az]at E;exact pg (j' M c6[i]) E
 obtain⟨aD,xp⟩:=M.jJ.tB k v af;have c_:(execOp a.eval o).run C.P w=.ok (.value (.func (.func k) #[] (c6.map a.eval).toArray)) w:=by simp[execOp,ag,Instr.makeFunc]
 refine hy (by grind) c_ ⟨κ,F',?_⟩;simp only[aC.ia];rw[tI];refine bm.set bb bg ((dU rfl).2 ⟨rfl,_,rfl,⟨rfl,rfl⟩,λej da zM xq tW rb args x E U ah=>⟨k,_,rfl,xp.enter,?_⟩⟩);have aG:=Ru v.as (v.cs.map .bG) aD (P:=C.P) (F:=ej) (w:=da) ⟨E,U⟩ (dX.mono zM xq);have:=xp.iY ej da _ _ tW rb aG ah;have e:(args++c6.map a.eval).toArray=args.toArray++(c6.map a.eval).toArray:=by simp
 rw[e]at this;exact this.mono λe tw ⟨v,y,az,aN,⟨aE,cL,ee,hv⟩,jF⟩=>⟨v,y,aE,az,aN,cL,ee,hv,jF⟩
theorem aeZ{k:FuncId}{c6:List Operand}(bg:∀ i,o.dst=some i->i<C.nt)(ag:o.op=.makeFunc (.func k) #[] ⟨c6⟩){v:w4}(af:C.aP.w6 k=some v)
  (h:((i_ (gn (v.cs.map .bG)) ((c6.map (a8 C.aP s.aA)).map λv=>(use v).2)).cR λ(y,bV)=>(jL bV).bind λwl=>.ret (some ⟨jM (c6.map (a8 C.aP s.aA)),True,.val (.ct v.aM) (v.S y),wl⟩):ar (Option eC)).run s.ab=some res):cJ C o s res:=by
 simp only[ar.e6,Option.bind_eq_some_iff,ar.run_bind,ar.bO,Option.some.injEq]at h;obtain⟨⟨y,l⟩,aT,rfl⟩:=h;intro a w κ F Q M bc _;obtain⟨F',f1,bb,f2⟩:=bm.lp (qi _ aT) M;have dX:fr C.P (gn (v.cs.map .bG)) F' w (c6.map a.eval) y:=by
  refine vo M.bD f1 _ aT f2 (by simp) λi G dM=>?_;simp only[List.getElem_map];have ds:i<c6.length:=by grind
  have E:=sd bc i (by grind);have az:(c6.map (a8 C.aP s.aA)).getD i .undef=a8 C.aP s.aA c6[i]:=by grind
  rw[az]at E;exact pg (j' M c6[i]) E
 have xp:=M.jJ.w6 k v af;have c_:(execOp a.eval o).run C.P w=.ok (.value (.func (.func k) #[] (c6.map a.eval).toArray)) w:=by simp[execOp,ag,Instr.makeFunc]
 refine hy (by grind) c_ ⟨κ,F',?_⟩;simp only[aC.ia];rw[tI];refine bm.set bb bg ((dU rfl).2 ⟨rfl,_,rfl,⟨rfl,rfl⟩,λej da zM xq tW rb eQ=>⟨k,_,rfl,xp.enter,λl I Y iI jt eB=>?_⟩⟩);exact xp.iY ej da _ _ tW rb (dX.mono zM xq) eQ l I Y iI jt eB
theorem ae0{k:FuncId}{c6:Array Operand}(bg:∀ i,o.dst=some i->i<C.nt)(ag:o.op=.makeFunc (.func k) #[] c6)(h:(bu C.aP T bf (a8 C.aP s.aA) o).run s.ab=some res):cJ C o s res:=by
 obtain⟨c6⟩:=c6;simp only[bu,ag,Array.isEmpty_empty,if_true]at h;split at h;case h_1 v af=>exact aeY bg ag af h
 split at h;case h_1 v af=>exact aeZ bg ag af h
 simp only[bP,ar.bO,Option.some.injEq]at h;subst h;refine cJ.pure (by grind) bg λa w κ F M bc _=>?_;refine⟨.func (.func k) #[] (c6.map a.eval).toArray,by simp[execOp,ag,Instr.makeFunc],c6.map a.eval,rfl,by simp,λi G=>?_⟩;have dM:i<c6.length:=by grind
 have E:(use ((c6.map (a8 C.aP s.aA)).getD i .undef)).1:=sd bc i (by omega);have az:(c6.map (a8 C.aP s.aA)).getD i .undef=a8 C.aP s.aA c6[i]:=by grind
 rw[az]at E;have U:=pg (j' M c6[i]) E;have aN:(c6.map a.eval).getD i Go.undef=a.eval c6[i]:=by grind
 have cL:hi ((c6.map (a8 C.aP s.aA)).map λv=>(use v).2) i=(use (a8 C.aP s.aA c6[i])).2:=by simp[hi,List.getD_eq_getElem?_getD,dM]
 grind
theorem ae1{k:FuncId}{first c6:Array Operand}(bg:∀ i,o.dst=some i->i<C.nt)(ag:o.op=.makeFunc (.func k) first c6)(ao:first.isEmpty=false)(h:(bu C.aP T bf (a8 C.aP s.aA) o).run s.ab=some res):cJ C o s res:=by
 obtain⟨first⟩:=first
 simp only[bu,ag,ao,Bool.false_eq_true,if_false]at h;split at h
 ·rename_i hc;have hc:c6=#[]:=by grind
  subst hc;simp only[bP,ar.bO,Option.some.injEq]at h;subst h;refine cJ.pure (by grind) bg λa w κ F M bc _=>?_;refine⟨.func (.func k) (first.map a.eval).toArray #[],by simp[execOp,ag,Instr.makeFunc],first.map a.eval,rfl,by simp,λi G=>?_⟩;have dM:i<first.length:=by omega
  have E:(use ((first.map (a8 C.aP s.aA)).getD i .undef)).1:=sd bc i (by grind);have az:(first.map (a8 C.aP s.aA)).getD i .undef=a8 C.aP s.aA first[i]:=by grind
  rw[az]at E;have U:=pg (j' M first[i]) E;have aN:(first.map a.eval).getD i Go.undef=a.eval first[i]:=by grind
  have cL:hi ((first.map (a8 C.aP s.aA)).map λv=>(use v).2) i=(use (a8 C.aP s.aA first[i])).2:=by simp[hi,List.getD_eq_getElem?_getD,dM]
  grind
 ·cases h
def lx(o:Oper)(nt:Nat):Bool:=
 (match o.dst with | some d=>decide (d<nt) | none=>true)&&(match o.op with | .store _ _ _=>o.dst.isNone | .mapUpdate _ _ _ _=>o.dst.isNone | .insert _ _ _ _=>o.dst.isNone | _=>true)
theorem xr(aV:dT C.P T)(cC:jq C.P bf)(au:lx o C.nt=true)(h:(bu C.aP T bf (a8 C.aP s.aA) o).run s.ab=some res):cJ C o s res:=by
 simp only[lx,Bool.and_eq_true]at au;have bg:∀ i,o.dst=some i->i<C.nt:=λi G=>by
  grind
 cases ag:o.op with
 | move x=>exact ado bg ag h
 | assign x=>exact adp bg ag h
 | pick c a b=>exact adq bg ag h
 | binOp op t x y cZ=>exact ady aV bg ag h
 | unOp op t x=>exact adr bg ag h
 | extract t i=>exact ads bg ag h
 | nilCheck x=>exact adt bg ag h
 | fieldAddr t x f=>exact adu aV bg ag h
 | field t x f=>exact adv aV bg ag h
 | load t x=>exact adz aV bg ag h
 | store t x y=>
  have:=au.2;rw[ag]at this;exact adS aV (by grind) ag h
 | alloc t=>
  by_cases aF:T t=.cU
  ·simp only[bu,ag,aF]at h;obtain⟨_,_,ak⟩:=q5 h;grind
  ·exact adJ aV bg ag h aF
 | box t x=>exact adL bg ag h
 | build t ps=>
  by_cases FW:∀ m e,T t≠.array m e
  ·exact adQ aV bg ag FW h
  ·obtain⟨m,e,aF⟩:∃ m e,T t=.array m e:=by grind
   refine aeW aV bg ag aF ?_;simpa only [bu,ag,aF]using h
 | buildSlice t n ps=>exact aeR aV bg ag h
 | indexAddr t x i=>exact adY aV bg ag h
 | index t x i=>exact adB aV bg ag h
 | convert a b x=>exact aei aV bg ag h
 | makeFunc fn first c6=>
  cases fn with
  | func k=>
   by_cases ao:first=#[]
   ·subst ao;exact ae0 bg ag h
   ·exact ae1 bg ag (by grind) h
  | _=>simp[bu,ag,ar.none]at h
 | makeMap t r=>exact aes bg ag h
 | lookup t m x ok=>exact aet aV bg ag h
 | mapUpdate t m x y=>
  have:=au.2;rw[ag]at this;exact KO aV (by grind) (.inl ag) h
 | insert t m x y=>
  have:=au.2;rw[ag]at this;exact KO aV (by grind) (.inr ag) h
 | makeSlice t l c=>exact aey aV bg ag h
 | makeInterface t x=>exact SB (by simp[bu,ag,bP]) h
 | panic x=>exact SB (by simp[bu,ag,bP]) h
 | slice t x a1 G pf=>
  cases pf with
  | none=>exact ad0 aV bg ag h
  | some m=>exact aeL aV bg ag h
 | call c=>
  obtain⟨callee,args,dp⟩:=c;cases callee with
  | value f=>
   cases f with
   | func k=>exact aen cC bg ag h
   | _=>simp[bu,ag,mW,ar.none]at h
  | invoke r m=>simp[bu,ag,mW,ar.none]at h
  | builtin b=>
   cases b with
   | len=>exact adG aV bg ag h
   | append=>
    cases aD:xc (a8 C.aP s.aA) args.toList with
    | none=>exact ad' aV bg ag (by simpa [bu,ag,mW,aD]using h)
    | some p=>exact aeP aV bg ag aD (by simpa [bu,ag,mW,aD]using h)
   | clear=>exact aeQ aV bg ag (by simpa [bu,ag,mW]using h)
   | copy=>exact aeG aV bg ag h
   | min=>exact R0 (.inl ⟨rfl,rfl⟩) bg ag (by simpa [bu,ag,mW]using h)
   | max=>exact R0 (.inr ⟨rfl,rfl⟩) bg ag (by simpa [bu,ag,mW]using h)
   | cap=>exact adH aV bg ag (by simpa [bu,ag,mW]using h)
   | _=>simp[bu,ag,mW,ar.none]at h
 | _=>simp[bu,ag,ar.none]at h
end
end Go.Fer
namespace Go.Fer
open Go.RowKit
def ar.cW{an:Type}(p:an->Prop):ar an->Prop
 | .ret a=>p a
 | .eU _ k=>∀ x,(k x).cW p
theorem K1{aJ:Operand->aI}{k:IntKind}:∀ (l:List Operand) {ca:Prop} {h':z1'},(∀ x∈l,(use (aJ x)).1)->mV aJ k l=some (ca,h')->ca
 | [],_,_,_,h=>by cases h
 | [x],ca,h',hu,h=>by
  simp only[mV]at h;split at h
  ·split at h
   ·cases h;exact hu x (by simp)
   ·cases h
  ·cases h
 | x::y::l,ca,h',hu,h=>by
  simp only[mV]at h;split at h
  ·rename_i al;split at h
   ·cases h;exact⟨hu x (by simp),K1 (y::l) (λz bj=>hu z (List.mem_cons_of_mem _ bj)) al⟩
   ·cases h
  ·cases h
theorem ar.cW.run{an:Type}{p:an->Prop}{m:ar an}(h:m.cW p)(H:Nat->bK):p (m.run H):=by
 induction m with
 | ret a=>exact h
 | eU b k aL=>exact aL _ (h _)
theorem ar.cW.bind{an β:Type}{p:β->Prop}{m:ar an}{f:an->ar β}(h:∀ a,(f a).cW p):(m.bind f).cW p:=by
 induction m with
 | ret a=>exact h a
 | eU b k aL=>exact λx=>aL x
def ly{an:Type}(p:an->Prop)(x:Option an):Prop:=∀ a,x=some a->p a
theorem ar.cW.cR{an β:Type}{p:β->Prop}{m:ar (Option an)}{f:an->ar (Option β)}(h:∀ a,(f a).cW (ly p)):(m.cR f).cW (ly p):=by
 refine ar.cW.bind λa=>?_;cases a with
 | none=>intro a h;cases h
 | some a=>grind
theorem ar.cW.SH{an β:Type}{q:an->Prop}{p:β->Prop}{m:ar (Option an)}{f:an->ar (Option β)}(hm:m.cW (ly q))(h:∀ a,q a->(f a).cW (ly p)):(m.cR f).cW (ly p):=by
 unfold ar.cR;induction m with
 | ret a=>
  cases a with
  | none=>intro b aa;cases aa
  | some a=>exact h a (hm a rfl)
 | eU b k aL=>exact λx=>aL x (hm x)
theorem ar.cW.bW{an:Type}{p:an->Prop}:(ar.none:ar (Option an)).cW (ly p):=by intro a h;cases h
theorem ar.cW.nf{an:Type}{p:an->Prop}{a:an}(h:p a):(ar.ret (some a)).cW (ly p):=by intro b aa;grind
theorem ar.cW.nil{an:Type}{p:an->Prop}:(ar.ret (Option.none:Option an)).cW (ly p):=by intro b aa;cases aa
theorem ar.cW.bP{p:eC->Prop}{ca c:Prop}{v:aI}(h:p ⟨ca,c,v,[]⟩):(bP ca c v).cW (ly p):=ar.cW.nf h
theorem ar.cW.h_{p:eC->Prop}{d:Option Nat}{k:Nat->Nat->Option eC}(h:∀ b g,ly p (k b g)):(h_ d k).cW (ly p):=by
 unfold Go.Fer.h_;split
 ·exact .bW
 ·exact λx=>h _ _
def aI.zN:aI->Bool
 | .hF _ _=>true
 | _=>false
theorem Ga{a:aI}(h:a.zN=false):(use a).1:=by
 cases a<;>first | trivial | cases h
def su(aJ:Operand->aI)(o:Oper):Bool:=o.op.operands.toList.all λx=>!(aJ x).zN
def aI.ae2:aI->Bool
 | .fJ _ _=>false
 | .val (.map _ _) _=>false
 | _=>true
def Gb(aJ:Operand->aI)(b:Builtin)(args:List Operand):Bool:=
 match b with
 | .len=>match args with
  | [x]=>(use (aJ x)).2.ae2
  | _=>false
 | .min=>true
 | .max=>true
 | _=>false
def aI.SI:aI->Bool
 | .ik ..=>true
 | _=>false
def ng(aJ:Operand->aI)(o:Oper):Bool:=
 match o.op with
 | .move _ | .assign _ | .pick .. | .unOp .. | .extract .. | .fieldAddr .. | .field .. | .alloc .. | .box .. | .build .. | .buildSlice .. | .convert .. | .makeFunc .. | .makeMap .. | .lookup .. | .mapUpdate .. | .insert ..=>true
 | .load _ x=>!(use (aJ x)).2.SI
 | .store _ x _=>!(use (aJ x)).2.SI
 | .binOp op _ x _ _=>match op with
  | .quo | .rem | .shl | .shr=>false
  | .add=>(use (aJ x)).2.mr.isSome
  | _=>true
 | .call c=>match c.callee with
  | .builtin b=>Gb aJ b c.args.toList
  | _=>false
 | _=>false
theorem ae3{op:BinOp}{k:IntKind}{a b:Int}{c:Prop}{v:aI}(h:zi op k a b=some (c,v))(E:op≠.quo)(U:op≠.rem):c:=by
 cases op<;>simp only[zi,Option.some.injEq,Prod.mk.injEq,reduceCtorEq]at h<;>first | (obtain⟨rfl,_⟩:=h;trivial) | contradiction
theorem ae4{op:BinOp}{a b:List UInt8}{c:Prop}{v:aI}(h:B8 op a b=some (c,v))(E:op≠.add):c:=by
 cases op<;>simp only[B8,Option.some.injEq,Prod.mk.injEq,reduceCtorEq]at h<;>first | (obtain⟨rfl,_⟩:=h;trivial) | contradiction
theorem ae5{op:BinOp}{t:ad}{x y:aI}:(zj op t x y).cW (ly λr=>r.1):=by
 unfold zj;refine ar.cW.cR λe=>?_;cases op<;>first | exact .nf trivial | exact .nil
section
variable {aH:dG} {T:Nat->ad} {bf:Nat->Option aO} {aJ:Operand->aI} {o:Oper}
theorem ae6{op:BinOp}{ty:TypeId}{x y:Operand}{t:TypeId}(ag:o.op=.binOp op ty x y t)(hc:ng aJ o=true):(bu aH T bf aJ o).cW (ly λr=>r.c):=by
 unfold bu;rw[ag];simp only;simp only[ng,ag]at hc;split
 ·rename_i k a k' b E U;split
  ·cases hc
  ·cases hc
  ·split
   ·split
    ·rename_i c v G;refine .bP (ae3 G ?_ ?_)<;>(grind)
    ·exact .bW
   ·exact .bW
 ·rename_i pq;split
  ·rename_i a b E U;split
   ·rename_i c v G;refine .bP (ae4 G ?_);intro e;subst e;simp only at hc;generalize (use (aJ x)).2=z at hc E;cases z<;>try (cases E;done)
    rename_i t d;cases t<;>first | (cases E;done) | (cases hc;done)
   ·exact .bW
  ·exact ar.cW.SH ae5 λr M=>.bP M
theorem K2{p:eC->Prop}{ty:TypeId}{m x y:Operand}(h:∀ wl,p ⟨(use (aJ m)).1/\(use (aJ x)).1/\(use (aJ y)).1,True,.undef,wl⟩):(q2 T aJ ty m x y).cW (ly p):=by
 unfold q2;split
 ·simp only;split
  ·split
   ·refine ar.cW.cR λ_=>ar.cW.cR λ_=>ar.cW.bind λ_=>λz=>?_;intro r M;split at M
    ·split at M
     ·simp only[Option.map_eq_some_iff]at M;grind
     grind
    grind
   ·exact .bW
  ·exact .bW
 ·exact .bW
theorem SJ{ty:TypeId}{m x y:Operand}:(q2 T aJ ty m x y).cW (ly λr=>r.c):=K2 λ_=>trivial
theorem zO(hc:ng aJ o=true):(bu aH T bf aJ o).cW (ly λr=>r.c):=by
 cases ag:o.op with
 | binOp op ty x y t=>exact ae6 ag hc
 | move x=>unfold bu;rw[ag];exact .bP trivial
 | assign x=>
  unfold bu;rw[ag];simp only;split
  ·exact .h_ λb g=>λr M=>by grind
  ·exact .bP trivial
 | pick c a b=>
  unfold bu;rw[ag];simp only;split
  ·split
   ·split
    ·exact .bP trivial
    ·exact .bW
   ·split
    ·exact .bP trivial
    ·exact .bW
   ·exact .bW
  ·exact .bW
 | unOp op t x=>
  unfold bu;rw[ag];simp only;split
  ·exact .bP trivial
  ·exact .bP trivial
  ·exact .bW
 | extract x i=>
  unfold bu;rw[ag];simp only;split
  ·split
   ·exact .bP trivial
   ·exact .bW
  ·exact .bW
 | fieldAddr ty x f=>
  unfold bu;rw[ag];simp only;repeat' first | exact .bW | exact .bP trivial | split
  all_goals first
   | (intro z;intro r M;grind)
 | field ty x f=>
  unfold bu;rw[ag];simp only;repeat' first | exact .bW | exact .bP trivial | split
 | load ty x=>
  simp only[ng,ag]at hc;unfold bu;rw[ag];simp only;split
  ·rename_i ai;rw[ai]at hc;cases hc
  ·exact ar.cW.cR λ_=>.bP trivial
 | store ty x y=>
  simp only[ng,ag]at hc;unfold bu;rw[ag];simp only;split
  ·rename_i ai;rw[ai]at hc;cases hc
  ·exact ar.cW.cR λ_=>.nf trivial
 | alloc ty=>
  unfold bu;rw[ag];simp only;exact .h_ λb g=>λr M=>by grind
 | box ty x=>
  unfold bu;rw[ag];simp only;split
  ·exact .h_ λb g=>λr M=>by grind
  ·exact .bW
 | build ty ps=>
  unfold bu;rw[ag];simp only;repeat' first | exact .bW | exact .bP trivial | refine ar.cW.cR λ_=>?_ | split
 | buildSlice ty n ps=>
  unfold bu;rw[ag];simp only;split
  ·refine ar.cW.cR λ_=>ar.cW.bind λ_=>.h_ λb g=>λr M=>by grind
  ·exact .bW
 | convert a b x=>
  unfold bu;rw[ag];simp only;repeat' first | exact .bW | exact .bP trivial | exact ar.cW.cR λ_=>.bP trivial | split
 | makeFunc fn first c6=>
  unfold bu;rw[ag];simp only;split
  ·split
   ·split
    ·exact ar.cW.cR λ_=>ar.cW.bind λ_=>.nf trivial
    ·split
     ·exact ar.cW.cR λ_=>ar.cW.bind λ_=>.nf trivial
     ·exact .bP trivial
   ·split
    ·exact .bP trivial
    ·exact .bW
  ·exact .bW
 | makeMap ty r=>
  unfold bu;rw[ag];simp only;split
  ·exact .bW
  ·split
   ·exact .h_ λb g=>λr M=>by grind
   ·exact .bW
 | lookup ty m x ok=>
  unfold bu;rw[ag];simp only;unfold zm;split
  ·simp only;split
   ·exact ar.cW.cR λ_=>ar.cW.cR λ_=>.bP trivial
   ·exact .bW
  ·exact .bW
 | mapUpdate ty m x y=>
  unfold bu;rw[ag];exact SJ
 | insert ty m x y=>
  unfold bu;rw[ag];exact SJ
 | call c=>
  obtain⟨callee,args,dp⟩:=c;simp only[ng,ag]at hc;unfold bu;rw[ag];simp only;unfold mW;cases callee with
  | builtin b=>
   simp only at hc ⊢;cases b with
   | len=>
    simp only[B_];split
    ·rename_i x t az aN;simp only[Gb,az]at hc;generalize use (aJ x)=u at hc;obtain⟨cD,dY⟩:=u;simp only at hc ⊢;refine ar.cW.SH (q:=λr:Prop×Int=>r.1) ?_ λr M=>.bP M;generalize T t=ty;cases ty<;>simp only[FE]<;>first | exact .bW | skip
     ·cases dY<;>first | exact .bW | skip
      ·rename_i cZ d;cases cZ<;>first | exact .bW | exact .nf trivial
     ·cases dY<;>first | exact .bW | exact .nf trivial | skip
      ·rename_i cZ d;cases cZ<;>first | exact .bW | exact .nf trivial
      ·intro z r M;grind
      ·intro z r M;grind
     ·cases dY<;>first | exact .bW | (cases hc;done) | skip
      ·rename_i cZ d;cases cZ<;>first | exact .bW | cases hc
    ·exact .bW
   | min=>
    simp only[sb];repeat' first | exact .bP trivial | exact .bW | split
   | max=>
    simp only[sb];repeat' first | exact .bP trivial | exact .bW | split
   | _=>simp[Gb]at hc
  | _=>cases hc
 | _=>simp[ng,ag]at hc
theorem CJ:∀ {l:List aI},(∀ v∈l,(use v).1)->jM l
 | [],_=>trivial
 | v::l,h=>by
  have E:=h v (by simp);have U:=CJ (l:=l) λu hu=>h u (by grind);cases v<;>first | exact U | exact⟨E,U⟩
theorem K3:∀ {l:List (Nat×aI)},(∀ v∈l,(use v.2).1)->sa l
 | [],_=>trivial
 | (i,v)::l,h=>by
  have E:=h (i,v) (by simp);have U:=K3 (l:=l) λu hu=>h u (by grind);cases v<;>first | exact U | exact⟨E,U⟩
theorem CK{x:Option Operand}{p:Prop}{n:Option Int}(h:ln aJ x=some (p,n))(ai:∀ y,x=some y->(use (aJ y)).1):p:=by
 unfold ln at h;grind
def re(aJ:Operand->aI)(o:Oper):Prop:=∀ x∈o.op.operands.toList,(use (aJ x)).1
theorem K4{aJ:Operand->aI}{o:Oper}(h:su aJ o=true):re aJ o:=λx ai=>Ga (by simpa using List.all_eq_true.1 h x ai)
theorem re.use{aJ:Operand->aI}{o:Oper}(h:re aJ o){x:Operand}(ai:x∈o.op.operands.toList){ca:Prop}{v:aI}(hu:use (aJ x)=(ca,v)):ca:=by
 have:=h x ai;grind
theorem SK(fF:re aJ o):(bu aH T bf aJ o).cW (ly λr=>r.ca):=by
 unfold re at fF;have ao:∀ x∈o.op.operands.toList,(use (aJ x)).1:=fF;have hu:∀ x∈o.op.operands.toList,∀ {ca:Prop} {v:aI},use (aJ x)=(ca,v)->ca:=λx ai ca v h=>re.use fF ai h;cases ag:o.op with
 | move x=>unfold bu;rw[ag];exact .bP trivial
 | assign x=>
  unfold bu;rw[ag];simp only;split
  ·exact .h_ λb g=>λr M=>by grind
  ·exact .bP trivial
 | pick c a b=>
  rw[ag]at hu;unfold bu;rw[ag];simp only;split
  ·rename_i qd ir l3;have E:=hu c (by simp[Op.operands]) l3;split
   ·split
    ·rename_i zn av a_;exact .bP ⟨E,λ_=>hu a (by simp[Op.operands]) a_⟩
    ·exact .bW
   ·split
    ·rename_i zn av a_;exact .bP ⟨E,λ_=>hu b (by simp[Op.operands]) a_⟩
    ·exact .bW
   ·exact .bW
  ·exact .bW
 | binOp op ty x y t=>
  rw[ag]at fF;have h:=And.intro (fF x (by simp[Op.operands])) (fF y (by simp[Op.operands]));unfold bu;rw[ag];simp only;split
  ·split
   ·split
    ·exact .bP h
    ·exact .bW
   ·split
    ·exact .bP h
    ·exact .bW
   ·split
    ·split
     ·exact .bP h
     ·exact .bW
    ·exact .bW
  ·split
   ·split
    ·exact .bP h
    ·exact .bW
   ·exact ar.cW.cR λ_=>.bP h
 | unOp op t x=>
  rw[ag]at hu;unfold bu;rw[ag];simp only;split
  ·rename_i ai;exact .bP (hu x (by simp[Op.operands]) ai)
  ·rename_i ai;exact .bP (hu x (by simp[Op.operands]) ai)
  ·exact .bW
 | extract x i=>
  rw[ag]at hu;unfold bu;rw[ag];simp only;split
  ·rename_i ai;split
   ·exact .bP (hu x (by simp[Op.operands]) ai)
   ·exact .bW
  ·exact .bW
 | nilCheck x=>
  rw[ag]at hu;unfold bu;rw[ag];simp only;split
  ·rename_i ai;intro z r M;split at M<;>cases M;exact hu x (by simp[Op.operands]) ai
  ·rename_i ai;exact .bP (hu x (by simp[Op.operands]) ai)
  ·rename_i ai;exact .bP (hu x (by simp[Op.operands]) ai)
  ·rename_i ai;intro z r M;split at M<;>cases M;exact hu x (by simp[Op.operands]) ai
  ·exact .bW
 | fieldAddr ty x f=>
  rw[ag]at hu;unfold bu;rw[ag];simp only;split
  ·split
   ·split
    ·rename_i ai;intro z r M;split at M<;>cases M;exact hu x (by simp[Op.operands]) ai
    ·rename_i ai;intro z r M;split at M<;>cases M;exact hu x (by simp[Op.operands]) ai
    ·rename_i ai;intro z r M;split at M<;>cases M;exact hu x (by simp[Op.operands]) ai
    ·rename_i ai;split
     ·split
      ·exact .bP (hu x (by simp[Op.operands]) ai)
      ·exact .bW
     ·exact .bW
    ·exact .bW
   ·exact .bW
  ·exact .bW
 | field ty x f=>
  rw[ag]at hu;unfold bu;rw[ag];simp only;split
  ·split
   ·rename_i ai;split
    ·split
     ·exact .bP (hu x (by simp[Op.operands]) ai)
     ·exact .bW
    ·exact .bW
   ·exact .bW
  ·exact .bW
 | load ty x=>
  rw[ag]at hu;unfold bu;rw[ag];simp only;split
  ·rename_i ai;have h:=hu x (by simp[Op.operands]) ai;intro z r M;repeat' split at M
   all_goals first | (cases M;exact h) | cases M
  ·rename_i ai;exact ar.cW.cR λ_=>.bP (hu x (by simp[Op.operands]) ai)
 | store ty x y=>
  rw[ag]at hu fF;unfold bu;rw[ag];simp only;split
  ·rename_i ai;have h:=hu x (by simp[Op.operands]) ai;have dw:=fF y (by simp[Op.operands]);unfold Kb;split
   ·intro z r M;repeat' split at M
    all_goals first | (cases M;exact⟨h,dw⟩) | cases M
   ·exact .bW
  ·rename_i ai;exact ar.cW.cR λ_=>.nf ⟨hu x (by simp[Op.operands]) ai,fF y (by simp[Op.operands])⟩
 | alloc ty=>
  unfold bu;rw[ag];simp only;exact .h_ λb g=>λr M=>by grind
 | box ty x=>
  rw[ag]at fF;unfold bu;rw[ag];simp only;split
  ·exact .h_ λb g=>λr M=>by split at M<;>cases M;exact fF x (by simp[Op.operands])
  ·exact .bW
 | build ty ps=>
  rw[ag]at ao;have h:sa (ps.toList.map λp=>(p.1,aJ p.2)):=K3 λv af=>by
   simp only[List.mem_map]at af;obtain⟨p,aq,rfl⟩:=af;exact ao p.2 (by simp only[Op.operands,List.mem_map];grind)
  unfold bu;rw[ag];simp only;repeat' first | exact .bW | exact .bP h | refine ar.cW.cR λ_=>?_ | split
 | buildSlice ty n ps=>
  rw[ag]at ao;have h:sa (ps.toList.map λp=>(p.1,aJ p.2)):=K3 λv af=>by
   simp only[List.mem_map]at af;obtain⟨p,aq,rfl⟩:=af;exact ao p.2 (by simp only[Op.operands,List.mem_map];grind)
  unfold bu;rw[ag];simp only;split
  ·refine ar.cW.cR λ_=>ar.cW.bind λ_=>.h_ λb g=>λr M=>by grind
  ·exact .bW
 | indexAddr ty x i=>
  rw[ag]at fF;have h:=And.intro (fF x (by simp[Op.operands])) (fF i (by simp[Op.operands]));unfold bu;rw[ag];simp only;split
  ·exact ar.cW.cR λ_=>.bP h
  ·split
   ·split
    ·exact .bP h
    ·exact .bW
   ·intro z r M;grind
   ·exact .bW
  ·exact .bW
 | index ty x i=>
  rw[ag]at fF;have h:=And.intro (fF x (by simp[Op.operands])) (fF i (by simp[Op.operands]));unfold bu;rw[ag];simp only;split
  ·exact .bP h
  ·split
   ·split
    ·exact .bP h
    ·exact .bW
   ·split
    ·exact .bP h
    ·exact .bW
   ·exact .bW
  ·exact .bW
 | convert a b x=>
  rw[ag]at fF;unfold bu;rw[ag];simp only;split
  ·exact .bP (fF x (by simp[Op.operands]))
  ·exact ar.cW.cR λ_=>.bP (fF x (by simp[Op.operands]))
  ·exact .bW
 | makeFunc fn first c6=>
  rw[ag]at ao;have h:jM (c6.toList.map aJ):=CJ λv af=>by
   simp only[List.mem_map]at af;obtain⟨p,aq,rfl⟩:=af;exact ao p (by simp[Op.operands];simp_all)
  have U:jM (first.toList.map aJ):=CJ λv af=>by
   simp only[List.mem_map]at af;obtain⟨p,aq,rfl⟩:=af;exact ao p (by simp[Op.operands];simp_all)
  unfold bu;rw[ag];simp only;split
  ·split
   ·split
    ·exact ar.cW.cR λ_=>ar.cW.bind λ_=>.nf h
    ·split
     ·exact ar.cW.cR λ_=>ar.cW.bind λ_=>.nf h
     ·exact .bP h
   ·split
    ·exact .bP U
    ·exact .bW
  ·exact .bW
 | slice ty x a1 G pf=>
  rw[ag]at ao fF;unfold bu;rw[ag];simp only;split
  ·unfold FH;simp only;split
   ·rename_i ol l q1 h vd m al cV hm;have bc:=And.intro (fF x (by simp[Op.operands])) (And.intro (CK al λy aT=>ao y (by subst aT;simp[Op.operands])) (And.intro (CK cV λy aT=>ao y (by subst aT;simp[Op.operands])) (CK hm λy aT=>ao y (by subst aT;simp[Op.operands]))));split
    ·exact ar.cW.cR λ_=>.nf bc
    ·exact .bW
   ·exact .bW
  ·unfold FG;simp only;split
   ·rename_i ol l q1 h al cV;have bc:=And.intro (fF x (by simp[Op.operands])) (And.intro (CK al λy aT=>ao y (by subst aT;simp[Op.operands])) (CK cV λy aT=>ao y (by subst aT;simp[Op.operands])));split
    ·exact ar.cW.cR λ_=>.nf bc
    ·split
     ·exact .bP bc
     ·exact .bW
    ·exact .bW
   ·exact .bW
 | call c=>
  rw[ag]at ao fF;obtain⟨callee,args,dp⟩:=c;have dX:∀ x∈args.toList,(use (aJ x)).1:=λx ai=>ao x (by simp[Op.operands,Call.operands];simp_all);have pr:∀ x∈args.toList,(use (aJ x)).1:=dX;have fT:jM (args.toList.map aJ):=CJ λv af=>by
   grind
  unfold bu;rw[ag];simp only;unfold mW;simp only;split
  ·split
   ·unfold B_;split
    ·rename_i x t az aN;exact ar.cW.cR λ_=>.bP (pr x (by grind))
    ·exact .bW
   ·split
    ·unfold Cd;split
     ·rename_i x y t u az aN;have h:=And.intro (pr x (by grind)) (pr y (by grind));split
      ·simp only;refine ar.cW.cR λ_=>λz=>?_;intro r M;grind
      ·exact .bW
     ·exact .bW
    unfold B';split
    ·rename_i x y t u az aN;have h:=And.intro (pr x (by grind)) (pr y (by grind));split
     ·simp only;unfold J';split
      ·intro z;dsimp only;split
       ·split
        ·exact ar.cW.cR λ_=>.nf h
        ·exact .bW
       ·exact .bW
      ·intro z;dsimp only;split
       ·split
        ·exact ar.cW.cR λ_=>.nf h
        ·exact .bW
       ·exact .bW
      ·exact ar.cW.cR λ_=>.h_ λb g=>λr M=>by grind
      ·split
       ·exact ar.cW.cR λ_=>.h_ λb g=>λr M=>by grind
       ·exact .bW
      ·exact .bW
     ·exact .bW
    ·exact .bW
   ·unfold Ce;split
    ·rename_i x t az aN;have h:=pr x (by grind);split
     ·simp only;split
      ·intro z;intro r M;grind
      ·exact .bW
     ·exact .bW
    ·exact .bW
   ·unfold FK;split
    ·rename_i x y t u az aN;have h:=And.intro (pr x (by grind)) (pr y (by grind));split
     ·simp only;split
      ·refine ar.cW.cR λ_=>λz=>?_;intro r M;grind
      ·exact .bW
     ·exact .bW
    ·exact .bW
   ·unfold sb;split
    ·rename_i x y l az;split
     ·split
      ·rename_i al;exact .bP ⟨pr x (by grind),K1 (y::l) (λp aq=>pr p (by rw[az];exact List.mem_cons_of_mem _ aq)) al⟩
      ·exact .bW
     ·exact .bW
    ·exact .bW
   ·unfold sb;split
    ·rename_i x y l az;split
     ·split
      ·rename_i al;exact .bP ⟨pr x (by grind),K1 (y::l) (λp aq=>pr p (by rw[az];exact List.mem_cons_of_mem _ aq)) al⟩
      ·exact .bW
     ·exact .bW
    ·exact .bW
   ·unfold Ca;split
    ·rename_i x t az aN;have h:=pr x (by grind);split
     ·rename_i cL;exact .bP (by grind)
     ·exact .bW
    ·exact .bW
   ·exact .bW
  ·split
   ·unfold FI;simp only;split
    ·refine ar.cW.cR λ_=>?_;split
     ·refine ar.cW.bind λ_=>.h_ λb g=>λr M=>?_;split at M
      ·cases M
      ·cases M;exact fT
     ·exact ar.cW.bind λ_=>.nf fT
    ·exact .bW
   ·exact .bW
  ·exact .bW
 | makeMap ty r=>
  unfold bu;rw[ag];simp only;split
  ·exact .bW
  ·split
   ·exact .h_ λb g=>λr M=>by grind
   ·exact .bW
 | lookup ty m x ok=>
  rw[ag]at fF;have h:=And.intro (fF m (by simp[Op.operands])) (fF x (by simp[Op.operands]));unfold bu;rw[ag];simp only;unfold zm;split
  ·simp only;split
   ·exact ar.cW.cR λ_=>ar.cW.cR λ_=>.bP h
   ·exact .bW
  ·exact .bW
 | mapUpdate ty m x y=>
  rw[ag]at fF;unfold bu;rw[ag];exact K2 λ_=>⟨fF m (by simp[Op.operands]),fF x (by simp[Op.operands]),fF y (by simp[Op.operands])⟩
 | insert ty m x y=>
  rw[ag]at fF;unfold bu;rw[ag];exact K2 λ_=>⟨fF m (by simp[Op.operands]),fF x (by simp[Op.operands]),fF y (by simp[Op.operands])⟩
 | makeSlice ty l c=>
  rw[ag]at fF;have h:=And.intro (fF l (by simp[Op.operands])) (fF c (by simp[Op.operands]));unfold bu;rw[ag];simp only;unfold FJ;split
  ·simp only;split
   ·exact .h_ λb g=>λr M=>by grind
   ·exact .bW
  ·exact .bW
 | makeInterface t x=>unfold bu;rw[ag];exact .bP trivial
 | panic x=>unfold bu;rw[ag];exact .bP trivial
 | _=>unfold bu;rw[ag];exact .bW
theorem SL(hc:su aJ o=true):(bu aH T bf aJ o).cW (ly λr=>r.ca):=SK (K4 hc)
end
end Go.Fer
namespace Go.Fer
open Go.RowKit
theorem K5{aJ ju:Operand->aI}{k:IntKind}:∀ (l:List Operand),(∀ x∈l,aJ x=ju x)->mV aJ k l=mV ju k l
 | [],_=>rfl
 | [x],h=>by simp only[mV,h x (by simp)]
 | x::y::l,h=>by simp only[mV,h x (by simp),K5 (y::l) λz bj=>h z (List.mem_cons_of_mem _ bj)]
section
variable {aH:dG} {T:Nat->ad} {bf:Nat->Option aO} {aJ ju:Operand->aI} {o:Oper}
theorem K6{x:Option Operand}(h:∀ y,x=some y->aJ y=ju y):ln aJ x=ln ju x:=by
 cases x with
 | none=>rfl
 | some y=>have:=h y rfl;unfold ln;grind
theorem ae7(h:∀ x∈o.op.operands.toList,aJ x=ju x):bu aH T bf aJ o=bu aH T bf ju o:=by
 cases ag:o.op with
 | move x=>rw[ag]at h;have E:=h x (by simp[Op.operands]);unfold bu;simp_all
 | assign x=>rw[ag]at h;have E:=h x (by simp[Op.operands]);unfold bu;simp_all
 | pick c a b=>
  rw[ag]at h;have E:=h c (by simp[Op.operands]);have U:=h a (by simp[Op.operands]);have ah:=h b (by simp[Op.operands]);unfold bu;simp_all
 | binOp op ty x y t=>
  rw[ag]at h;have E:=h x (by simp[Op.operands]);have U:=h y (by simp[Op.operands]);unfold bu;simp_all
 | unOp op t x=>rw[ag]at h;have E:=h x (by simp[Op.operands]);unfold bu;simp_all
 | extract x i=>rw[ag]at h;have E:=h x (by simp[Op.operands]);unfold bu;simp_all
 | nilCheck x=>rw[ag]at h;have E:=h x (by simp[Op.operands]);unfold bu;simp_all
 | fieldAddr ty x f=>rw[ag]at h;have E:=h x (by simp[Op.operands]);unfold bu;simp_all
 | field ty x f=>rw[ag]at h;have E:=h x (by simp[Op.operands]);unfold bu;simp_all
 | load ty x=>rw[ag]at h;have E:=h x (by simp[Op.operands]);unfold bu;simp_all
 | store ty x y=>
  rw[ag]at h;have E:=h x (by simp[Op.operands]);have U:=h y (by simp[Op.operands]);unfold bu;simp_all
 | alloc ty=>unfold bu;rw[ag]
 | box ty x=>rw[ag]at h;have E:=h x (by simp[Op.operands]);unfold bu;simp_all
 | build ty ps=>
  rw[ag]at h;have E:ps.toList.map (λp=>(p.1,aJ p.2))=ps.toList.map (λp=>(p.1,ju p.2)):=List.map_congr_left λp aq=>by rw[h p.2 (by simp only[Op.operands,List.mem_map];grind)]
  unfold bu;rw[ag];simp only[E]
 | buildSlice ty n ps=>
  rw[ag]at h;have E:ps.toList.map (λp=>(p.1,aJ p.2))=ps.toList.map (λp=>(p.1,ju p.2)):=List.map_congr_left λp aq=>by rw[h p.2 (by simp only[Op.operands,List.mem_map];grind)]
  unfold bu;rw[ag];simp only[E]
 | indexAddr ty x i=>
  rw[ag]at h;have E:=h x (by simp[Op.operands]);have U:=h i (by simp[Op.operands]);unfold bu;simp_all
 | index ty x i=>
  rw[ag]at h;have E:=h x (by simp[Op.operands]);have U:=h i (by simp[Op.operands]);unfold bu;simp_all
 | convert a b x=>rw[ag]at h;have E:=h x (by simp[Op.operands]);unfold bu;simp_all
 | makeFunc fn first c6=>
  rw[ag]at h;have E:c6.toList.map aJ=c6.toList.map ju:=List.map_congr_left λp aq=>h p (by simp[Op.operands];simp_all);have U:first.toList.map aJ=first.toList.map ju:=List.map_congr_left λp aq=>h p (by simp[Op.operands];simp_all)
  unfold bu;rw[ag];simp only[E,U]
 | lookup ty m x ok=>
  rw[ag]at h;have E:=h m (by simp[Op.operands]);have U:=h x (by simp[Op.operands]);unfold bu;rw[ag];simp only[zm,E,U]
 | mapUpdate ty m x y=>
  rw[ag]at h;have E:=h m (by simp[Op.operands]);have U:=h x (by simp[Op.operands]);have ah:=h y (by simp[Op.operands]);unfold bu;rw[ag];simp only[q2,E,U,ah]
 | insert ty m x y=>
  rw[ag]at h;have E:=h m (by simp[Op.operands]);have U:=h x (by simp[Op.operands]);have ah:=h y (by simp[Op.operands]);unfold bu;rw[ag];simp only[q2,E,U,ah]
 | makeSlice ty l c=>
  rw[ag]at h;have E:=h l (by simp[Op.operands]);have U:=h c (by simp[Op.operands]);unfold bu;rw[ag];simp only[FJ,E,U]
 | slice ty x a1 G pf=>
  rw[ag]at h;have E:=h x (by simp[Op.operands]);have U:ln aJ a1=ln ju a1:=K6 λy aT=>h y (by subst aT;simp[Op.operands]);have ah:ln aJ G=ln ju G:=K6 λy aT=>h y (by subst aT;simp[Op.operands]);have a6:ln aJ pf=ln ju pf:=K6 λy aT=>h y (by subst aT;simp[Op.operands]);unfold bu;rw[ag];simp only[FG,FH,E,U,ah,a6]
 | call c=>
  rw[ag]at h;obtain⟨callee,args,dp⟩:=c;have dX:∀ x∈args.toList,aJ x=ju x:=λx ai=>h x (by simp[Op.operands,Call.operands];simp_all);have al:args.toList.map aJ=args.toList.map ju:=List.map_congr_left dX;unfold bu;rw[ag];simp only;unfold mW;simp only;split
  ·split
   ·unfold B_;grind
   ·have rf:xc aJ args.toList=xc ju args.toList:=by
     unfold xc;grind
    rw[rf];split
    ·unfold Cd;split
     ·rename_i x y t u az aN;rw[dX x (by simp[az]),dX y (by simp[az])]
     ·rfl
    ·unfold B';grind
   ·unfold Ce;split
    ·rename_i x t az aN;rw[dX x (by simp[az])]
    ·rfl
   ·unfold FK;split
    ·rename_i x y t u az aN;rw[dX x (by grind),dX y (by grind)]
    ·rfl
   ·unfold sb;split
    ·rename_i x y l az;have al:∀ k,mV aJ k (y::l)=mV ju k (y::l):=λk=>K5 (y::l) λp aq=>dX p (by rw[az];exact List.mem_cons_of_mem _ aq);simp only[dX x (by simp[az]),al]
    ·rfl
   ·unfold sb;split
    ·rename_i x y l az;have al:∀ k,mV aJ k (y::l)=mV ju k (y::l):=λk=>K5 (y::l) λp aq=>dX p (by rw[az];exact List.mem_cons_of_mem _ aq);simp only[dX x (by simp[az]),al]
    ·rfl
   ·unfold Ca;grind
   ·rfl
  ·split
   ·unfold FI;simp only[al]
   ·rfl
  ·rfl
 | _=>unfold bu;rw[ag]
end
end Go.Fer
namespace Go.Fer
open Go.RowKit
def Gc(want b:Bool):Bool:=match want with | true=>b | false=>!b
def kC(s:Nat->aI)(ops:Array Oper):Option (Nat×Bool)->Option (Option Bool)
 | none=>some none
 | some (j,want)=>match ops[j]? with
  | some o=>match o.dst with
   | some d=>match s d with
    | .val .bool b=>some (some (Gc want b))
    | .hF g (.val .bool b)=>some (some (g&&Gc want b))
    | _=>none
   | none=>none
  | none=>none
def Gd(ops:Array Oper):Option (Nat×Bool)->List Nat
 | none=>[]
 | some (j,_)=>match ops[j]? with
  | some o=>o.dst.toList
  | none=>[]
def ae8(l:List Operand):List Nat:=l.filterMap fun | .tmp t=>some t | _=>none
def CL(ops:Array Oper)(o:Oper):List Nat:=Gd ops o.guard++ae8 o.op.operands.toList
structure eR where
 cs:List Prop
 dst:Option Nat
 e':aI
 hH:List (Nat×bK)
 kD:List Nat
 tX:List Nat
def eR.ib(r:eR)(s:aC):aC:=(s.gf r.hH).set r.dst r.e'
def eR.n1(r:eR):List Nat:=r.dst.toList
def eR.nh(r:eR):List Nat:=r.hH.map (·.1)
def CM(dr dI:Bool)(ca c:Prop):List Prop:=(match dr with | true=>[] | false=>[ca])++(match dI with | true=>[] | false=>[c])
def vq(aH:dG)(T:Nat->ad)(bf:Nat->Option aO)(ops:Array Oper)(s:aC)(o:Oper):Option eR:=
 match kC s.aA ops o.guard with
 | none=>none
 | some g=>match (bu aH T bf (a8 aH s.aA) o).run s.ab with
  | none=>none
  | some res=>match g with
   | none=>some ⟨CM (su (a8 aH s.aA) o) (ng (a8 aH s.aA) o) res.ca res.c,o.dst,res.e',res.hH,CL ops o,(bu aH T bf (a8 aH s.aA) o).looks s.ab⟩
   | some b=>match res.hH with
    | []=>some ⟨CM (su (a8 aH s.aA) o&&(ng (a8 aH s.aA) o&&!res.e'.zN)) true (b=true->res.ca/\(res.c/\(use res.e').1)) True,o.dst,.hF b (use res.e').2,[],CL ops o,(bu aH T bf (a8 aH s.aA) o).looks s.ab⟩
    | _=>none
def xt(aH:dG)(T:Nat->ad)(bf:Nat->Option aO)(ops:Array Oper):List Oper->aC->Option (List eR×aC)
 | [],s=>some ([],s)
 | o::os,s=>match vq aH T bf ops s o with
  | none=>none
  | some r=>match xt aH T bf ops os (r.ib s) with
   | none=>none
   | some (l,s')=>some (r::l,s')
def CN(a b:List Nat):Bool:=a.all λx=>!b.contains x
def eR.apart(a b:eR):Bool:=CN a.n1 (b.kD++b.n1)&&CN a.kD b.n1&&CN a.nh (b.tX++b.nh)&&CN a.tX b.nh
def ie(o:Oper):List Nat:=o.after.toList.filterMap λe=>if Region.binds .any e then some e.on else none
def CO(acc:List Nat):List Nat->List Nat
 | []=>acc
 | x::l=>match acc.contains x with | true=>CO acc l | false=>CO (x::acc) l
theorem K7{x:Nat}:∀ {l acc:List Nat},x∈CO acc l->x∈acc\/x∈l
 | [],acc,h=>.inl h
 | y::l,acc,h=>by
  unfold CO at h;split at h
  ·exact (K7 h).imp_right (List.mem_cons_of_mem _)
  ·rcases K7 h with h | h
   ·rcases List.mem_cons.1 h with h | h
    ·exact .inr (h ▸ List.mem_cons_self)
    ·exact .inl h
   ·exact .inr (List.mem_cons_of_mem _ h)
def zP(acc:List (List Nat))(o:Oper):List (List Nat):=acc++[CO [] ((ie o).flatMap λj=>j::acc.getD j [])]
def iu(ops:List Oper):List (List Nat):=ops.foldl zP []
def ae9(cl:List (List Nat))(l:List eR):Bool:=
 (List.range l.length).all λj=>(List.range j).all λi=>match l[i]?,l[j]? with
  | some a,some b=>(cl.getD j []).contains i||a.apart b
  | _,_=>false
def CP(ops:List Oper):Bool:=(List.range ops.length).all λj=>match ops[j]? with
 | some o=>(ie o).all λi=>decide (i<j)
 | none=>false
def zQ(ops:List Oper)(l:List eR):Bool:=CP ops&&ae9 (iu ops) l
def xu(R:List Nat)(s s':aC):Prop:=∀ t∈R,s.aA t=s'.aA t
def xv(B:List Nat)(s s':aC):Prop:=∀ b∈B,s.ab b=s'.ab b
theorem Ge{a b:List Nat}(h:CN a b=true){x:Nat}(ai:x∈a):x ∉ b:=by
 have:=List.all_eq_true.1 h x ai;grind
theorem zR(s:aC):∀ (l:List (Nat×bK)),(s.gf l).aA=s.aA:=by
 intro l;induction l generalizing s with
 | nil=>rfl
 | cons p l aL=>simp only[aC.gf];rw[aL];rfl
theorem K8{b:Nat}:∀ (l:List (Nat×bK)) (s:aC),b ∉ l.map (·.1)->(s.gf l).ab b=s.ab b:=by
 intro l;induction l with
 | nil=>intro s _;rfl
 | cons p l aL=>
  intro s h;simp only[List.map_cons,List.mem_cons,not_or]at h;simp only[aC.gf];rw[aL _ h.2];simp[aC.cz,h.1]
theorem K9{b:Nat}:∀ (l:List (Nat×bK)) (s s':aC),b∈l.map (·.1)->(s.gf l).ab b=(s'.gf l).ab b:=by
 intro l;induction l with
 | nil=>simp
 | cons p l aL=>
  intro s s' h;simp only[aC.gf];by_cases aa:b∈l.map (·.1)
  ·grind
  ·rw[K8 l _ aa,K8 l _ aa];have:b=p.1:=by grind
   simp[aC.cz,this]
theorem ae_(s:aC)(d:Option Nat)(v:aI):(s.set d v).ab=s.ab:=by cases d<;>rfl
theorem Gf(r:eR)(s:aC)(t:Nat):(r.ib s).aA t=if t∈r.n1 then r.e' else s.aA t:=by
 unfold eR.ib eR.n1;cases h:r.dst with
 | none=>simp[aC.set,zR]
 | some d=>simp[aC.set,zR,eq_comm]
theorem xw(r:eR)(s:aC)(b:Nat):(r.ib s).ab b=(s.gf r.hH).ab b:=by unfold eR.ib;rw[ae_]
theorem SM{r:eR}{s:aC}{t:Nat}(h:t ∉ r.n1):(r.ib s).aA t=s.aA t:=by rw[Gf,if_neg h]
theorem tY{r:eR}{s:aC}{b:Nat}(h:b ∉ r.nh):(r.ib s).ab b=s.ab b:=by rw[xw];exact K8 _ _ h
theorem aC.ext'{s s':aC}(E:∀ t,s.aA t=s'.aA t)(U:∀ b,s.ab b=s'.ab b):s=s':=by
 obtain⟨a,b⟩:=s;obtain⟨a',be⟩:=s';rw[show a=a' from funext E,show b=be from funext U]
theorem ae'{a b:eR}(E:∀ t∈a.n1,t ∉ b.n1)(U:∀ x∈a.nh,x ∉ b.nh)(s:aC):a.ib (b.ib s)=b.ib (a.ib s):=by
 apply aC.ext'
 ·intro t;simp only[Gf];grind
 ·intro x;by_cases a_:x∈a.nh
  ·have aa:=U x a_;rw[tY aa,xw,xw];exact K9 _ _ _ a_
  ·rw[tY a_];by_cases aa:x∈b.nh
   ·rw[xw,xw];exact K9 _ _ _ aa
   ·rw[tY aa,tY aa,tY a_]
def jQ(l:List eR)(s:aC):aC:=l.foldl (λs r=>r.ib s) s
theorem afa{R B:List Nat}:∀ (l:List eR) (s:aC),(∀ r∈l,(∀ t∈R,t ∉ r.n1)/\∀ b∈B,b ∉ r.nh)->xu R (jQ l s) s/\xv B (jQ l s) s:=by
 intro l;induction l with
 | nil=>intro s _;exact⟨λ_ _=>rfl,λ_ _=>rfl⟩
 | cons r l aL=>
  intro s h;obtain⟨E,U⟩:=aL (r.ib s) λp8 bb=>h p8 (List.mem_cons_of_mem _ bb);have M:=h r (List.mem_cons_self);exact⟨λt aF=>(E t aF).trans (SM (M.1 t aF)),λb aa=>(U b aa).trans (tY (M.2 b aa))⟩
theorem afb{R B:List Nat}{r:eR}{s s':aC}(E:xu R s s')(U:xv B s s'):xu R (r.ib s) (r.ib s')/\xv B (r.ib s) (r.ib s'):=by
 refine⟨λt aF=>?_,λb aa=>?_⟩
 ·rw[Gf,Gf];split
  ·rfl
  ·exact E t aF
 ·by_cases hw:b∈r.nh
  ·rw[xw,xw];exact K9 _ _ _ hw
  ·rw[tY hw,tY hw];exact U b aa
theorem afc{R B:List Nat}(p:Nat×eR->Bool):∀ (l:List (Nat×eR)) (s s':aC),xu R s s'->xv B s s'->(∀ r∈l,p r=false->(∀ t∈R,t ∉ r.2.n1)/\∀ b∈B,b ∉ r.2.nh)->
  xu R (jQ ((l.filter p).map (·.2)) s) (jQ (l.map (·.2)) s')/\xv B (jQ ((l.filter p).map (·.2)) s) (jQ (l.map (·.2)) s'):=by
 intro l;induction l with
 | nil=>intro s s' E U _;exact⟨E,U⟩
 | cons r l aL=>
  intro s s' E U h;have al:=λp8 bb=>h p8 (List.mem_cons_of_mem _ bb);cases aq:p r with
  | true=>
   rw[List.filter_cons_of_pos aq];obtain⟨aQ,aS⟩:=afb (r:=r.2) E U;exact aL _ _ aQ aS al
  | false=>
   rw[List.filter_cons_of_neg (by grind)];have M:=h r (List.mem_cons_self) aq;exact aL _ _ (λt aF=>(E t aF).trans (SM (M.1 t aF)).symm) (λb aa=>(U b aa).trans (tY (M.2 b aa)).symm) al
theorem afd{r:eR}:∀ (l:List eR) (s:aC),(∀ x∈l,(∀ t∈r.n1,t ∉ x.n1)/\∀ b∈r.nh,b ∉ x.nh)->jQ l (r.ib s)=r.ib (jQ l s):=by
 intro l;induction l with
 | nil=>intro s _;rfl
 | cons x l aL=>
  intro s h;have ai:=h x (List.mem_cons_self);show jQ l (x.ib (r.ib s))=r.ib (jQ l (x.ib s));rw[<-ae' ai.1 ai.2 s];grind
def iJ:Nat->List eR->List (Nat×eR)
 | _,[]=>[]
 | n,r::l=>(n,r)::iJ (n+1) l
theorem SN:∀ (l m:List eR) (n:Nat),iJ n (l++m)=iJ n l++iJ (n+l.length) m
 | [],m,n=>by rfl
 | r::l,m,n=>by simp only[List.cons_append,iJ,SN l m (n+1),List.length_cons];grind
theorem CQ:∀ (l:List eR) (n:Nat),(iJ n l).map (·.2)=l
 | [],_=>rfl
 | r::l,n=>by simp only[iJ,List.map_cons,CQ l (n+1)]
theorem zS:∀ {l:List eR} {n j:Nat} {x:eR},(j,x)∈iJ n l->n<=j/\l[j - n]?=some x
 | r::l,n,j,x,h=>by
  simp only[iJ,List.mem_cons,Prod.mk.injEq]at h;rcases h with⟨rfl,rfl⟩ | h
  ·simp
  ·obtain⟨E,U⟩:=zS h;grind
 | [],_,_,_,h=>by cases h
def jv(l:List eR)(s:aC)(f:Nat->Bool):aC:=jQ (((iJ 0 l).filter λp=>f p.1).map (·.2)) s
theorem SO(l m:List eR)(s:aC):jQ (l++m) s=jQ m (jQ l s):=by simp[jQ]
theorem K_{a b:eR}(h:a.apart b=true):(∀ t∈a.n1,t ∉ b.kD/\t ∉ b.n1)/\(∀ t∈a.kD,t ∉ b.n1)/\(∀ x∈a.nh,x ∉ b.tX/\x ∉ b.nh)/\∀ x∈a.tX,x ∉ b.nh:=by
 simp only[eR.apart,Bool.and_eq_true]at h;obtain⟨⟨⟨E,U⟩,ah⟩,a6⟩:=h;refine⟨λt aF=>?_,λt aF=>Ge U aF,λx ai=>?_,λx ai=>Ge a6 ai⟩
 ·have:=Ge E aF;grind
 ·have:=Ge ah ai;grind
theorem SP{l:List eR}{s:aC}{f:Nat->Bool}{i:Nat}{r:eR}(G:l[i]?=some r)(ao:f i=false)
  (gO:∀ j x,j<i->l[j]?=some x->f j=false->x.apart r=true) (tZ:∀ j x,i<j->l[j]?=some x->f j=true->r.apart x=true) :
  xu r.kD (jv l s f) (jQ (l.take i) s)/\xv r.tX (jv l s f) (jQ (l.take i) s)/\jv l s (λj=>if j=i then true else f j)=r.ib (jv l s f):=by
 obtain⟨ch,eX⟩:=List.getElem?_eq_some_iff.1 G;have hlen:(l.take i).length=i:=by grind
 have SQ:iJ 0 l=iJ 0 (l.take i)++(i,r)::iJ (i+1) (l.drop (i+1)):=by
  have E:l=l.take i++r::l.drop (i+1):=by
   have:=List.take_append_drop i l;rw[List.drop_eq_getElem_cons ch,eX]at this;grind
  have U:=SN (l.take i) (r::l.drop (i+1)) 0;rw[<-E,hlen]at U;simpa [iJ]using U
 have afe:∀ p∈iJ 0 (l.take i),p.1<i/\l[p.1]?=some p.2:=by
  rintro⟨j,x⟩ aq;obtain⟨_,U⟩:=zS aq;grind
 have axP:∀ p∈iJ (i+1) (l.drop (i+1)),i<p.1/\l[p.1]?=some p.2:=by
  rintro⟨j,x⟩ aq;obtain⟨E,U⟩:=zS aq;grind
 have SR:∀ x∈((iJ (i+1) (l.drop (i+1))).filter λp=>f p.1).map (·.2),r.apart x=true:=by
  grind
 have iv:jv l s f=jQ (((iJ (i+1) (l.drop (i+1))).filter λp=>f p.1).map (·.2)) (jQ (((iJ 0 (l.take i)).filter λp=>f p.1).map (·.2)) s):=by
  unfold jv;rw[SQ,List.filter_append,List.filter_cons_of_neg (by grind),List.map_append,SO]
 have rf:=afa (R:=r.kD) (B:=r.tX) (((iJ (i+1) (l.drop (i+1))).filter λp=>f p.1).map (·.2)) (jQ (((iJ 0 (l.take i)).filter λp=>f p.1).map (·.2)) s)
  (λx ai=>by
   have:=K_ (SR x ai);grind)
 have rh:=afc (R:=r.kD) (B:=r.tX) (λp=>f p.1) (iJ 0 (l.take i)) s s (λ_ _=>rfl) (λ_ _=>rfl) (λp aq aff=>by
  obtain⟨E,U⟩:=afe p aq;have:=K_ (gO p.1 p.2 E U aff);grind)
 rw[CQ]at rh;refine⟨λt aF=>by rw[iv];exact (rf.1 t aF).trans (rh.1 t aF),λb aa=>by rw[iv];exact (rf.2 b aa).trans (rh.2 b aa),?_⟩;rw[iv];unfold jv;have az:(iJ 0 (l.take i)).filter (λp=>if p.1=i then true else f p.1)=(iJ 0 (l.take i)).filter λp=>f p.1:=by
  apply List.filter_congr;grind
 have aN:(iJ (i+1) (l.drop (i+1))).filter (λp=>if p.1=i then true else f p.1)=(iJ (i+1) (l.drop (i+1))).filter λp=>f p.1:=by
  apply List.filter_congr;grind
 rw[SQ,List.filter_append,List.filter_cons_of_pos (by simp),az,aN,List.map_append,SO];show jQ _ (r.ib _)=_;refine afd _ _ λx ai=>?_;have:=K_ (SR x ai);grind
theorem xx{p:Nat->Prop}:∀ (ops:List Oper) (acc:List (List Nat)),(∀ j i,i∈acc.getD j []->p j->p i)->(∀ j o,ops[j]?=some o->∀ i∈ie o,p (acc.length+j)->p i)->
  ∀ j i,i∈(ops.foldl zP acc).getD j []->p j->p i:=by
 intro ops;induction ops with
 | nil=>simp
 | cons o ops aL=>
  intro acc h au;refine aL (zP acc o) (λj i G aG=>?_) λj hW kg i G aG=>au (j+1) hW (by grind) i G (by
   have:(zP acc o).length=acc.length+1:=by simp[zP]
   grind)
  unfold zP at G;rw[List.getD_eq_getElem?_getD,List.getElem?_append]at G;split at G
  ·grind
  ·rename_i ch;by_cases e:j=acc.length
   ·subst e;simp only[Nat.sub_self,List.getElem?_cons_zero,Option.getD_some]at G;have G:=(K7 G).resolve_left (by simp);simp only[List.mem_flatMap,List.mem_cons]at G;obtain⟨k,ak,G⟩:=G;have vr:=au 0 o (by simp) k ak (by omega);grind
   grind
theorem SS{aH:dG}{T:Nat->ad}{bf:Nat->Option aO}{ops:Array Oper}:∀ (os:List Oper) (s:aC) {l:List eR} {s':aC},xt aH T bf ops os s=some (l,s')->
  l.length=os.length/\s'=jQ l s/\∀ i o,os[i]?=some o->∃ r,l[i]?=some r/\vq aH T bf ops (jQ (l.take i) s) o=some r:=by
 intro os;induction os with
 | nil=>intro s l s' h;cases h;exact⟨rfl,rfl,λi o h=>by cases h⟩
 | cons o os aL=>
  intro s l s' h;simp only[xt]at h;split at h
  ·cases h
  ·rename_i r M;split at h
   ·cases h
   ·rename_i dJ axQ al;cases h;obtain⟨E,U,ah⟩:=aL _ al;refine⟨by grind,U,λi hW kg=>?_⟩;cases i with
    | zero=>
     simp only[List.getElem?_cons_zero,Option.some.injEq]at kg;subst kg;exact⟨r,by simp,M⟩
    | succ i=>
     obtain⟨p8,aQ,aS⟩:=ah i hW (by grind);exact⟨p8,by grind,aS⟩
theorem K'{ops:Array Oper}{f iG:Nat->aI}{g:Option (Nat×Bool)}(h:∀ t∈Gd ops g,f t=iG t):kC f ops g=kC iG ops g:=by
 unfold kC;cases g with
 | none=>rfl
 | some p=>
  obtain⟨j,want⟩:=p;simp only;cases aG:ops[j]? with
  | none=>rfl
  | some o=>
   simp only;cases au:o.dst with
   | none=>rfl
   | some d=>
    simp only;rw[h d (by simp[Gd,aG,au])]
theorem SU{aH:dG}{T:Nat->ad}{bf:Nat->Option aO}{ops:Array Oper}{s s':aC}{o:Oper}{r:eR}(h:vq aH T bf ops s o=some r)(E:xu r.kD s' s)(U:xv r.tX s' s):vq aH T bf ops s' o=some r:=by
 have SV:r.kD=CL ops o/\r.tX=(bu aH T bf (a8 aH s.aA) o).looks s.ab:=by
  unfold vq at h;grind
 rw[SV.1]at E;rw[SV.2]at U;have kW:∀ x∈o.op.operands.toList,a8 aH s'.aA x=a8 aH s.aA x:=by
  intro x ai;cases x with
  | tmp t=>
   refine E t ?_;simp only[CL,List.mem_append];exact .inr (List.mem_filterMap.2 ⟨.tmp t,ai,rfl⟩)
  | _=>rfl
 have az:kC s'.aA ops o.guard=kC s.aA ops o.guard:=K' λt aF=>E t (by simp[CL,aF]);have aN:bu aH T bf (a8 aH s'.aA) o=bu aH T bf (a8 aH s.aA) o:=ae7 kW;have cL:=ar.Rv (H:=s.ab) (H':=s'.ab) (bu aH T bf (a8 aH s.aA) o) U;have ee:su (a8 aH s'.aA) o=su (a8 aH s.aA) o:=by
  unfold su;grind
 have hv:ng (a8 aH s'.aA) o=ng (a8 aH s.aA) o:=by
  unfold ng;cases ag:o.op with
  | binOp op ty x y t=>
   rw[ag]at kW;simp only;rw[kW x (by simp[Op.operands])]
  | load ty x=>rw[ag]at kW;simp only;rw[kW x (by simp[Op.operands])]
  | store ty x y=>rw[ag]at kW;simp only;rw[kW x (by simp[Op.operands])]
  | call c=>
   obtain⟨callee,args,dp⟩:=c;rw[ag]at kW;cases callee with
   | builtin b=>
    have cV:∀ x∈args.toList,a8 aH s'.aA x=a8 aH s.aA x:=λx ai=>kW x (by simp[Op.operands,Call.operands];simp_all);simp only;unfold Gb;grind
   | _=>rfl
  | _=>rfl
 unfold vq at h ⊢;simp_all
universe u
def A.fail{β:Type}:A β:=⟨False,λ_=>False⟩
inductive bY where
 | undef
 | val (t:ad)
 | dV (t:ad)
 | ba (b off:Nat)
 | own (b:Nat)
 | sub (b:Nat)
 | fJ (b:Nat)
 | j6 (b:Nat)
 | cx
 | iC (k:FuncId) (fY:z8')
 | aW (aM:ad)
 | hg
 | hJ (bs:List Nat)
 | ik (b:Nat)
 deriving DecidableEq
inductive b3 where
 | cells (t:ad) (l:List bY)
 | bh (e:ad)
 | hG (e:ad)
 | mp (k v:ad)
 | jk (k v:ad)
 | gg (t:ad)
 | gL (t:ad)
 | ct (k v:ad)
 | gp (e:ad) (t:bY)
def bY.cons(t:bY)(R:Type):Type:=
 match t with
 | .val t=>t.aj×R
 | .dV t=>t.aj×R
 | .sub _=>(Nat×Nat)×R
 | .aW aM=>(Nat×(List aM.aj->Prop)×List aM.aj×Bool)×R
 | .hg=>Nat×R
 | .ik _=>Nat×R
 | _=>R
def ql:List bY->Type->Type
 | [],R=>R
 | t::l,R=>t.cons (ql l R)
def b3.cons(t:b3)(R:Type):Type:=
 match t with
 | .cells _ l=>ql l R
 | .bh e=>List e.aj×R
 | .hG e=>List e.aj×R
 | .mp k v=>List (k.aj×v.aj)×R
 | .jk k v=>List (k.aj×v.aj)×R
 | .gg t=>t.aj×R
 | .gL t=>t.aj×R
 | .ct k v=>(Option (k.aj×v.aj)×List (k.aj×v.aj))×R
 | .gp e t=>(List e.aj×Nat)×t.cons R
def b3.CR:b3->Bool
 | .cells _ _ | .bh _ | .mp _ _ | .gg _ | .ct _ _ | .gp _ _=>true
 | _=>false
def b3.Gg(t u:b3):Bool:=
 match t,u with
 | .cells _ _,.cells _ _ | .cells _ _,.gg _ | .gg _,.cells _ _ | .gg _,.gg _ | .gL _,.cells _ _ | .gL _,.gg _=>true
 | .mp _ _,.mp _ _ | .jk _ _,.mp _ _=>true
 | .bh e,.bh a7=>decide (e=a7)
 | .hG _,.bh _=>true
 | _,_=>false
structure dK where
 bU:List (Nat×bY)
 bD:List (Nat×b3)
def pt:List (Nat×b3)->Type
 | []=>Unit
 | p::l=>p.2.cons (pt l)
def oJ:List (Nat×bY)->Type->Type
 | [],R=>R
 | p::l,R=>p.2.cons (oJ l R)
def dK.aj(sh:dK):Type:=oJ sh.bU (pt sh.bD)
def vs(g:Nat->Nat×Nat)(fY:z8'):Nat->aI:=hi (fY.map λp=>.ba (g p.1).1 (g p.1).2 p.2)
def vt(g:Nat->Nat×Nat)(bs:List Nat):Nat->aI:=hi (bs.map λb=>.own (g b).1 (g b).2)
def bY.av(g:Nat->Nat×Nat)(t:bY){R:Type}(x:t.cons R):aI×R:=
 match t,x with
 | .undef,x=>(.undef,x)
 | .val t,x=>(.val t x.1,x.2)
 | .dV t,x=>(.dV t x.1,x.2)
 | .ba b off,x=>(.ba (g b).1 (g b).2 off,x)
 | .own b,x=>(.own (g b).1 (g b).2,x)
 | .sub b,x=>(.sub (g b).1 (g b).2 x.1.1 x.1.2,x.2)
 | .fJ b,x=>(.fJ (g b).1 (g b).2,x)
 | .j6 b,x=>(.j6 (g b).1 (g b).2,x)
 | .cx,x=>(.cx,x)
 | .iC k fY,x=>(.iC k fY.length (vs g fY),x)
 | .aW aM,x=>(.aW x.1.1 aM x.1.2.1 x.1.2.2.1 x.1.2.2.2,x.2)
 | .hg,x=>(.hg x.1,x.2)
 | .hJ bs,x=>(.agg bs.length (vt g bs),x)
 | .ik b,x=>(.ik (g b).1 (g b).2 x.1,x.2)
def pv(g:Nat->Nat×Nat):(l:List bY)->{R:Type}->ql l R->List aI×R
 | [],_,x=>([],x)
 | t::l,_,x=>let (a,y):=t.av g x;let (as,z):=pv g l y;(a::as,z)
def b3.body(g:Nat->Nat×Nat)(t:b3){R:Type}(x:t.cons R):bS×R:=
 match t,x with
 | .cells t l,x=>let (as,y):=pv g l x;(.cells t (hi as),y)
 | .bh e,x=>(.bh e x.1,x.2)
 | .hG e,x=>(.hG e x.1,x.2)
 | .mp k v,x=>(.mp k v x.1,x.2)
 | .jk k v,x=>(.jk k v x.1,x.2)
 | .gg t,x=>(.cells t (hi (nR t x.1)),x.2)
 | .gL t,x=>(.gL t x.1,x.2)
 | .ct k v,x=>(.ct k v x.1.1 x.1.2,x.2)
 | .gp e t,x=>let (a,y):=t.av g x.2;(.gp e x.1.1 x.1.2 a,y)
def eD(g:Nat->Nat×Nat):(l:List (Nat×bY))->{R:Type}->oJ l R->List (Nat×aI)×R
 | [],_,x=>([],x)
 | p::l,_,x=>let (a,y):=p.2.av g x;let (as,z):=eD g l y;((p.1,a)::as,z)
def hk(g:Nat->Nat×Nat):(l:List (Nat×b3))->pt l->List (Nat×bS)
 | [],_=>[]
 | p::l,x=>let (a,y):=p.2.body g x;(p.1,a)::hk g l y
def ft:List (Nat×aI)->Nat->aI
 | [],_=>.undef
 | p::l,i=>if i=p.1 then p.2 else ft l i
def eS:List (Nat×bS)->Nat->bK
 | [],_=>⟨0,.fD⟩
 | p::l,i=>if i=p.1 then ⟨0,p.2⟩ else eS l i
def SW(afg:List (Nat×aI))(bs:List (Nat×bS)):aC:=⟨ft afg,eS bs⟩
def db(b:Nat):Nat×Nat:=(b,0)
def dK.st(sh:dK)(D:sh.aj):aC:=
 SW (eD db sh.bU D).1 (hk db sh.bD (eD db sh.bU D).2)
def xy(H:Nat->bK)(t:ad)(av:aI){R:Type}(r:Option (R×List Nat)):Option ((t.aj×R)×List Nat):=
 match (dC t av).run H with
 | some (x,l)=>match r with
  | some (y,m)=>some ((x,y),l++m)
  | none=>none
 | none=>none
def La(t:ad)(av:aI){R:Type}(r:Option (R×List Nat)):Option ((t.aj×R)×List Nat):=
 match av with
 | .dV cZ x=>match r with
  | some (y,m)=>if h:cZ=t then some ((h ▸ x,y),m) else none
  | none=>none
 | _=>none
def Lb(H:Nat->bK)(b:Nat)(av:aI){R:Type}(r:Option (R×List Nat)):Option (((Nat×Nat)×R)×List Nat):=
 match r with
 | some (y,m)=>match av with
  | .own be g=>if (be == b&&g == (H b).gen&&(H b).body.fi)=true then some (((0,(H b).body.len),y),m) else none
  | .sub be g a1 G=>if (be == b&&g == (H b).gen)=true then some (((a1,G),y),m) else none
  | _=>none
 | none=>none
def Lc(aM:ad)(av:aI){R:Type}(r:Option (R×List Nat)):Option (((Nat×(List aM.aj->Prop)×List aM.aj×Bool)×R)×List Nat):=
 match av with
 | .aW l kE L n st=>match r with
  | some (y,m)=>if h:kE=aM then some (((l,h ▸ L,h ▸ n,st),y),m) else none
  | none=>none
 | _=>none
def Ld(av:aI){R:Type}(r:Option (R×List Nat)):Option ((Nat×R)×List Nat):=
 match av with
 | .hg l=>match r with
  | some (y,m)=>some ((l,y),m)
  | none=>none
 | _=>none
def Le(H:Nat->bK)(b:Nat)(av:aI){R:Type}(r:Option (R×List Nat)):Option ((Nat×R)×List Nat):=
 match av with
 | .ik be g i=>match r with
  | some (y,m)=>if (be == b&&g == (H b).gen)=true then some ((i,y),m) else none
  | none=>none
 | _=>none
def Gh(H:Nat->bK)(b off:Nat)(av:aI):Bool:=
 match av with
 | .ba be g afh=>be == b&&afh == off&&g == (H b).gen
 | _=>false
def Gi(H:Nat->bK)(b:Nat)(av:aI):Bool:=
 match av with
 | .own be g=>be == b&&g == (H b).gen
 | _=>false
def Lf(H:Nat->bK)(b:Nat)(av:aI):Bool:=
 match av with
 | .fJ be g=>be == b&&g == (H b).gen
 | _=>false
def Lg(H:Nat->bK)(b:Nat)(av:aI):Bool:=
 match av with
 | .j6 be g=>be == b&&g == (H b).gen
 | _=>false
def Lh(av:aI):Bool:=
 match av with
 | .cx=>true
 | _=>false
def Li(H:Nat->bK)(f:Nat->Nat)(k:FuncId)(fY:z8')(av:aI):Bool:=
 match av with
 | .iC k' n c6=>k' == k&&n == fY.length&&(List.range n).all λi=>match fY[i]? with
  | some p=>Gh H (f p.1) p.2 (c6 i)
  | none=>false
 | _=>false
def Lj(H:Nat->bK)(f:Nat->Nat)(bs:List Nat)(av:aI):Bool:=
 match av with
 | .agg n h=>n == bs.length&&(List.range n).all λi=>match bs[i]? with
  | some b=>Gi H (f b) (h i)
  | none=>false
 | _=>false
def vu{an:Type}(b:Bool)(r:Option an):Option an:=match b with | true=>r | false=>none
def bY.jc(H:Nat->bK)(f:Nat->Nat)(t:bY)(av:aI){R:Type}(r:Option (R×List Nat)):Option (t.cons R×List Nat):=
 match t with
 | .undef=>r
 | .val t=>xy H t av r
 | .dV t=>La t av r
 | .ba b off=>vu (Gh H (f b) off av) r
 | .own b=>vu (Gi H (f b) av) r
 | .sub b=>Lb H (f b) av r
 | .fJ b=>vu (Lf H (f b) av) r
 | .j6 b=>vu (Lg H (f b) av) r
 | .cx=>vu (Lh av) r
 | .iC k fY=>vu (Li H f k fY av) r
 | .aW aM=>Lc aM av r
 | .hg=>Ld av r
 | .hJ bs=>vu (Lj H f bs av) r
 | .ik b=>Le H (f b) av r
def zT(H:Nat->bK)(f:Nat->Nat):(l:List bY)->(Nat->aI)->Nat->{R:Type}->Option (R×List Nat)->Option (ql l R×List Nat)
 | [],_,_,_,r=>r
 | t::l,c,i,_,r=>t.jc H f (c i) (zT H f l c (i+1) r)
def Lk(H:Nat->bK)(f:Nat->Nat)(t:ad)(l:List bY)(b:bS){R:Type}(r:Option (R×List Nat)):Option (ql l R×List Nat):=
 match b with
 | .cells cZ c=>if cZ=t/\t.size=l.length then zT H f l c 0 r else none
 | _=>none
def Ll(e:ad)(b:bS){R:Type}(r:Option (R×List Nat)):Option ((List e.aj×R)×List Nat):=
 match b with
 | .bh a7 xs=>match r with
  | some (y,m)=>if h:a7=e then some ((h ▸ xs,y),m) else none
  | none=>none
 | _=>none
def Lm(k v:ad)(b:bS){R:Type}(r:Option (R×List Nat)):Option ((List (k.aj×v.aj)×R)×List Nat):=
 match b with
 | .mp k' h9 es=>match r with
  | some (y,m)=>if h:k'=k/\h9=v then some ((h.1 ▸ h.2 ▸ es,y),m) else none
  | none=>none
 | _=>none
def Ln(k v:ad)(b:bS){R:Type}(r:Option (R×List Nat)):Option (((Option (k.aj×v.aj)×List (k.aj×v.aj))×R)×List Nat):=
 match b with
 | .ct k' h9 c es=>match r with
  | some (y,m)=>if h:k'=k/\h9=v then some (((h.1 ▸ h.2 ▸ c,h.1 ▸ h.2 ▸ es),y),m) else none
  | none=>none
 | _=>none
def Lo(H:Nat->bK)(f:Nat->Nat)(e:ad)(t:bY)(b:bS){R:Type}(r:Option (R×List Nat)):Option (((List e.aj×Nat)×t.cons R)×List Nat):=
 match b with
 | .gp a7 xs i v=>match t.jc H f v r with
  | some (y,m)=>if h:a7=e then some (((h ▸ xs,i),y),m) else none
  | none=>none
 | _=>none
def Lp(H:Nat->bK)(t:ad)(b:bS){R:Type}(r:Option (R×List Nat)):Option ((t.aj×R)×List Nat):=
 match b with
 | .cells cZ f=>if cZ=t then xy H t (.agg t.size f) r else none
 | _=>none
def Lq(H:Nat->bK)(t:ad)(b:Nat){R:Type}(r:Option (R×List Nat)):Option ((t.aj×R)×List Nat):=
 match (dC (.bG t) (.ba b (H b).gen 0)).run H with
 | some (some x,l)=>match r with
  | some (y,m)=>some ((x,y),l++m)
  | none=>none
 | _=>none
def b3.jc(H:Nat->bK)(f:Nat->Nat)(t:b3)(b:Nat){R:Type}(r:Option (R×List Nat)):Option (t.cons R×List Nat):=
 match t with
 | .cells t l=>Lk H f t l (H b).body r
 | .bh e=>Ll e (H b).body r
 | .hG e=>xy H (.slice e) (.own b (H b).gen) r
 | .mp k v=>Lm k v (H b).body r
 | .jk k v=>xy H (.map k v) (.fJ b (H b).gen) r
 | .gg t=>Lp H t (H b).body r
 | .gL t=>Lq H t b r
 | .ct k v=>Ln k v (H b).body r
 | .gp e t=>Lo H f e t (H b).body r
def xz(H:Nat->bK)(f:Nat->Nat):(l:List (Nat×b3))->Option (pt l×List Nat)
 | []=>some ((),[])
 | p::l=>p.2.jc H f (f p.1) (xz H f l)
def xA(H:Nat->bK)(f:Nat->Nat):(l:List (Nat×bY))->(Nat->aI)->{R:Type}->Option (R×List Nat)->Option (oJ l R×List Nat)
 | [],_,_,r=>r
 | p::l,c,_,r=>p.2.jc H f (c p.1) (xA H f l c r)
def dK.oK(sh:dK):List Nat:=sh.bD.filterMap λp=>if p.2.CR then some p.1 else none
def dK.zU(sh:dK)(f:Nat->Nat)(s:aC):Option (sh.aj×List Nat):=
 match xA s.ab f sh.bU s.aA (xz s.ab f sh.bD) with
 | some (D,bV)=>if sh.oK.all (λb=>!bV.contains (f b))=true then some (D,bV) else none
 | none=>none
def Lr:List (Nat×b3)->Nat->Option b3
 | [],_=>none
 | p::l,b=>if b=p.1 then some p.2 else Lr l b
def Ls(s:aC)(i b be g':Nat):aC:=
 match decide (be≠b/\g'=(s.ab be).gen),(s.ab be).body with
 | true,.bh e xs=>⟨λj=>if j=i then .own b ((s.ab b).gen+1) else s.aA j,λj=>if j=b then ⟨(s.ab b).gen+1,.bh e xs⟩ else if j=be then ⟨(s.ab be).gen+1,.fD⟩ else s.ab j⟩
 | _,_=>s
def Lt(bs:List (Nat×b3))(s:aC)(i b:Nat):aC:=
 match s.aA i,Lr bs b with
 | .cx,some (.bh e)=>⟨λj=>if j=i then .own b ((s.ab b).gen+1) else s.aA j,(s.cz b ⟨(s.ab b).gen+1,.bh e []⟩).ab⟩
 | .own be g',some (.bh _)=>Ls s i b be g'
 | _,_=>s
def Lu(bs:List (Nat×b3))(s:aC)(c j b:Nat):aC:=
 match (s.ab c).body with
 | .cells t f=>match f j,(s.ab b).body,Lr bs b with
  | .cx,.fD,some (.bh e)=>(s.cz b ⟨(s.ab b).gen+1,.bh e []⟩).cz c ⟨(s.ab c).gen,.cells t λq=>if q=j then .own b ((s.ab b).gen+1) else f q⟩
  | _,_,_=>s
 | _=>s
def Gj(bs:List (Nat×b3)):List (Nat×bY)->aC->aC
 | [],s=>s
 | p::l,s=>Gj bs l (match p.2 with | .own b=>Lt bs s p.1 b | _=>s)
def Gk(bs:List (Nat×b3))(c:Nat):List bY->Nat->aC->aC
 | [],_,s=>s
 | t::l,j,s=>Gk bs c l (j+1) (match t with | .own b=>Lu bs s c j b | _=>s)
def Gl(bs:List (Nat×b3)):List (Nat×b3)->aC->aC
 | [],s=>s
 | p::l,s=>Gl bs l (match p.2 with | .cells _ ts=>Gk bs p.1 ts 0 s | _=>s)
def dK.Gm(sh:dK)(s:aC):aC:=Gl sh.bD sh.bD (Gj sh.bD sh.bU s)
def b3.SX:b3->Bool
 | .bh _ | .hG _ | .gp _ _=>true
 | _=>false
def dK.Gn(sh:dK)(s:aC):Bool:=sh.bD.all λp=>!(decide (w9<=p.1)&&p.2.SX)||decide ((s.ab p.1).gen=0)
def dK.jc(sh:dK)(s:aC):Option (sh.aj):=
 match sh.Gn (sh.Gm s) with
 | true=>(sh.zU (λb=>b) (sh.Gm s)).map (·.1)
 | false=>none
def dK.ni{β:Type}(sh:dK)(s:aC)(k:sh.aj->A β):A β:=
 match sh.jc s with
 | some D=>k D
 | none=>A.fail
def bY.xB(t:bY){R:Type}(r:R):t.cons R:=
 match t with
 | .val t=>(t.df,r)
 | .dV t=>(t.df,r)
 | .sub _=>((0,0),r)
 | .aW _=>((0,λ_=>False,[],false),r)
 | .hg=>(0,r)
 | .ik _=>(0,r)
 | .undef | .ba _ _ | .own _ | .fJ _ | .j6 _ | .cx | .iC _ _ | .hJ _=>r
def SY:(l:List bY)->{R:Type}->R->ql l R
 | [],_,r=>r
 | t::l,_,r=>t.xB (SY l r)
def b3.xB(t:b3){R:Type}(r:R):t.cons R:=
 match t with
 | .cells _ l=>SY l r
 | .bh _=>([],r)
 | .hG _=>([],r)
 | .mp _ _=>([],r)
 | .jk _ _=>([],r)
 | .gg t=>(t.df,r)
 | .gL t=>(t.df,r)
 | .ct _ _=>((none,[]),r)
 | .gp _ t=>(([],0),t.xB r)
def SZ:(l:List (Nat×b3))->pt l
 | []=>()
 | p::l=>p.2.xB (SZ l)
def S0:(l:List (Nat×bY))->{R:Type}->R->oJ l R
 | [],_,r=>r
 | p::l,_,r=>p.2.xB (S0 l r)
def dK.xB(sh:dK):sh.aj:=S0 sh.bU (SZ sh.bD)
structure hK where
 ts:ad
 aW:ad
 sh:ts.aj->A aW.aj
 dR:Bool
def aO.dx(c:aO):hK:=⟨c.ts,c.aW,c.sh,true⟩
def A.CS{an:Type}(m:A an):Prop:=∀ x y,m.bM x->m.bM y->x=y
open Classical in
def A.val{an:Type}(m:A an)(d:an):an:=if h:∃ x,m.bM x then h.choose else d
def hK.Gp(c:hK):aO:=⟨c.ts,c.aW,λx=>(c.sh x).cr,λx=>(c.sh x).val c.aW.df⟩
structure cM where
 cm:dK
 bM:dK
 kF:z9'
 kh:Nat
 sh:cm.aj->A bM.aj
structure zV where
 ts:ad
 aM:ad
 pre:ts.aj->Prop
 seq:ts.aj->List aM.aj
inductive e7 where
 | dx (c:hK)
 | fc (c:cM)
 | ct (c:zV)
 | Lv (c:hK)
 | Gq (c:cM) (sh:Nat->c.cm.aj->A c.bM.aj) (ids:List Nat)
 | kG (c:aO)
def Gr(bf:Nat->Option aO)(Ψ:Nat->Option e7)(k:Nat):Option aO:=
 match Ψ k with
 | some (.dx c)=>match c.dR&&!nT c.aW with
  | true=>some c.Gp
  | false=>none
 | some (.kG c)=>some c
 | some _=>none
 | none=>bf k
def Lw(bf:Nat->Option aO)(Ψ:Nat->Option e7)(k:Nat):Option hK:=
 match Ψ k with
 | some (.dx c)=>some c
 | some _=>none
 | none=>(bf k).bind λc=>if nT c.aW=true then none else some c.dx
structure h0 where
 an:Type
 d:an
 ca:Prop
 m:A an
 st:an->aC
 CT:Option (Bool->an->aC)
def ri(s:aC)(o:Oper)(aW:ad)(bV:List Nat)(v:aI):aC:=(if aW.pure then s else s.cB bV).set o.dst v
def CU(aH:dG)(s:aC)(o:Oper)(args:List Operand)(dx:hK):Option h0:=
 match (i_ dx.ts ((args.map (a8 aH s.aA)).map λv=>(use v).2)).run s.ab with
 | some (x,bV)=>some ⟨dx.aW.aj,dx.aW.df,jM (args.map (a8 aH s.aA)),dx.sh x,λy=>ri s o dx.aW bV (q0 dx.aW y),some λg y=>ri s o dx.aW bV (.hF g (q0 dx.aW y))⟩
 | none=>none
def Gs(aH:dG)(s:aC)(o:Oper)(args:List Operand)(dx:hK):Option h0:=
 match (i_ dx.ts ((args.map (a8 aH s.aA)).map λv=>(use v).2)).run s.ab with
 | some (x,_)=>some ⟨dx.aW.aj,dx.aW.df,jM (args.map (a8 aH s.aA)),dx.sh x,λy=>s.set o.dst (q0 dx.aW y),none⟩
 | none=>none
def CV(aH:dG)(s:aC)(o:Oper)(t:Nat)(args:List Operand):Option h0:=
 match use (s.aA t) with
 | (ca,.val (.fn a b) f)=>match (i_ a ((args.map (a8 aH s.aA)).map λv=>(use v).2)).run s.ab with
  | some (x,bV)=>some ⟨b.aj,b.df,ca/\jM (args.map (a8 aH s.aA)),f x,λy=>ri s o b bV (q0 b y),some λg y=>ri s o b bV (.hF g (q0 b y))⟩
  | none=>none
 | _=>none
def S1(t:bY)(av:aI):z8':=
 match t,av with
 | .ba be _,.ba b _ _=>[(be,b)]
 | .own be,.own b _=>[(be,b)]
 | .sub be,.own b _=>[(be,b)]
 | .sub be,.sub b _ _ _=>[(be,b)]
 | .fJ be,.fJ b _=>[(be,b)]
 | .j6 be,.j6 b _=>[(be,b)]
 | .iC _ fY,.iC _ _ c6=>(List.range fY.length).filterMap λi=>match fY[i]?,c6 i with
  | some p,.ba b _ _=>some (p.1,b)
  | _,_=>none
 | _,_=>[]
def S2:List bY->(Nat->aI)->Nat->z8'
 | [],_,_=>[]
 | t::l,c,i=>S1 t (c i)++S2 l c (i+1)
def Lx:z8'->Nat->Option Nat
 | [],_=>none
 | p::l,b=>if b=p.1 then some p.2 else Lx l b
def S3(H:Nat->bK):List (Nat×b3)->z8'->z8'
 | [],m=>m
 | p::l,m=>S3 H l (m++match p.2,Lx m p.1 with
  | .cells _ ts,some b=>(match (H b).body with | .cells _ c=>S2 ts c 0 | _=>[])
  | _,_=>[])
def afi(sh:dK)(s:aC):z8':=S3 s.ab sh.bD (sh.bU.flatMap λp=>S1 p.2 (s.aA p.1))
def sv(s:aC)(avs:List aI):aC:=⟨λi=>if i=b5 then s.aA b5 else if i<avs.length then avs.getD i .undef else .undef,s.ab⟩
def nj:Nat:=99999
def sw(s:aC)(d:Nat)(f:Nat->Nat)(ins:List Nat):List (Nat×b3)->Nat->z6'
 | [],_=>[]
 | p::l,j=>(if ins.contains p.1 then (p.1,(f p.1,match p.2 with
   | .cells _ _ | .gg _ | .mp _ _ | .gL _ | .jk _ _=>(s.ab (f p.1)).gen
   | .bh _=>if w9<=p.1 then (s.ab (f p.1)).gen else (s.ab (f p.1)).gen+1
   | _=>(s.ab (f p.1)).gen+1)) else (p.1,(50000+10*d+j,(s.ab (50000+10*d+j)).gen+1)))::sw s d f ins l (j+1)
def h1:z6'->Nat->Nat×Nat
 | [],_=>(nj,0)
 | p::l,b=>if b=p.1 then p.2 else h1 l b
def pw:z9'->(Nat->aI)->Nat->List aI
 | [],_,_=>[]
 | none::l,c,i=>c i::pw l c (i+1)
 | some n::l,c,i=>.agg n (λj=>c (i+j))::pw l c (i+n)
def Ly(l:List aI):aI:=
 match l with
 | [v]=>v
 | l=>.p9 l.length (hi l)
def xC(s:aC)(c:cM)(f:Nat->Nat)(cf:z6')(bn:c.bM.aj):aC:=
 ⟨λi=>if i=b5 then (if c.bM.bU.any (λp=>p.1 == b5) then ft (eD (h1 cf) c.bM.bU bn).1 b5 else if c.cm.bU.any (λp=>p.1 == b5) then .undef else s.aA b5) else s.aA i,λb=>match cf.find? (λp=>p.2.1 == b) with
  | some p=>⟨p.2.2,(eS (hk (h1 cf) c.bM.bD (eD (h1 cf) c.bM.bU bn).2) p.1).body⟩
  | none=>if (c.cm.oK.map f).contains b then ⟨(s.ab b).gen+1,.fD⟩ else s.ab b⟩
def afj(s:aC)(o:Oper)(c:cM)(f:Nat->Nat)(cf:z6')(bn:c.bM.aj):aC:=
 aC.set (xC s c f cf bn) o.dst (Ly (pw c.kF (ft (eD (h1 cf) c.bM.bU bn).1) 0))
def Gt(l:List Nat):Bool:=decide l.Nodup
def CW(c:cM)(f:Nat->Nat)(dN:aC)(cf:z6')(d n:Nat):Bool:=
  decide (d < 4000) && decide (c.bM.bD.length <= 10) && Gt (c.cm.bD.map (·.1)) && Gt (c.cm.bD.map λp => f p.1) && Gt (cf.map (·.1)) && Gt (cf.map (·.2.1)) && (c.cm.bD.map (·.1)).all (λb => decide (eT <= b))
        &&!(cf.map (·.2.1)).contains nj&&(match (dN.ab nj).body with | .fD=>true | _=>false)&&c.bM.bD.all (λp=>c.cm.bD.all λq=>!(p.1 == q.1&&q.2.CR)||p.2.Gg q.2)&&(decide (n=c.kh)&&decide (n<=eT))
def rj(aH:dG)(s:aC)(args:List Operand):List aI:=(args.map (a8 aH s.aA)).map λv=>(use v).2
def rk(c:cM)(eI:aC)(b:Nat):Nat:=(Lx (afi c.cm eI) b).getD nj
def xD(aH:dG)(s:aC)(o:Oper)(args:List Operand)(c:cM):Option h0:=
 match c.cm.zU (rk c (sv s (rj aH s args))) (sv s (rj aH s args)) with
 | some (D,bV)=>match CW c (rk c (sv s (rj aH s args))) (s.cB bV) (sw (s.cB bV) (o.dst.getD 0) (rk c (sv s (rj aH s args))) c.cm.oK c.bM.bD 0) (o.dst.getD 0) args.length with
  | true=>some ⟨c.bM.aj,c.bM.xB,jM (args.map (a8 aH s.aA)),c.sh D,λbn=>afj (s.cB bV) o c (rk c (sv s (rj aH s args))) (sw (s.cB bV) (o.dst.getD 0) (rk c (sv s (rj aH s args))) c.cm.oK c.bM.bD 0) bn,none⟩
  | false=>none
 | none=>none
def S4:Nat:=999999
def S5(c:cM)(sh:Nat->c.cm.aj->A c.bM.aj)(ids:List Nat)(n:Option Nat):cM:={ c with sh:=λD=>A.ae (∃ k∈ids,n=some k) (sh (n.getD 0) D) }
def Gu(aH:dG)(Ψ:Nat->Option e7)(s:aC)(o:Oper)(t:Nat)(args:List Operand):Option h0:=
 match s.aA t with
 | .val .et n=>match Ψ S4 with
  | some (.Gq c sh ids)=>xD aH s o args (S5 c sh ids n)
  | _=>none
 | _=>none
def Gv(aH:dG)(s:aC)(o:Oper)(t:Nat)(args:List Operand):Option h0:=
 match s.aA t,s.aA b5 with
 | .hg dJ,.aW l aM L n st=>match (i_ aM ((args.map (a8 aH s.aA)).map λv=>(use v).2)).run s.ab with
  | some (x,bV)=>some ⟨Bool,false,jM (args.map (a8 aH s.aA)),A.ae (dJ=l/\st=false/\∃ T,L (n++x::T)) (A.any λ_=>True),λb=>aC.set ⟨λi=>if i=b5 then .aW l aM L (n++[x]) (!b) else s.aA i,(s.cB bV).ab⟩ o.dst (.val .bool b),none⟩
  | none=>none
 | _,_=>none
def Gw(aH:dG)(T:Nat->ad)(s:aC)(o:Oper)(ty:TypeId)(x:Operand):Option h0:=
 match T ty,o.dst with
 | .map k v,some d=>match use (a8 aH s.aA x) with
  | (ca,av)=>match (dC (.map k v) av).run s.ab with
   | some (es,bV)=>if bV.contains d then none else
    some ⟨Unit,(),ca,A.pure (),λ_=>((s.cB bV).cz d ⟨(s.ab d).gen+1,.ct k v none es⟩).set o.dst (.j6 d ((s.ab d).gen+1)),none⟩
   | none=>none
 | _,_=>none
def Gx{an:Type}(l:List an):A (Option Nat):=⟨True,λx=>match x with | none=>l=[] | some i=>i<l.length⟩
def S6(i:Option Nat):Nat:=match i with | none=>0 | some _=>2
def n2{an:Type}(c:Option an)(cj:List an)(i:Option Nat):Option an:=match i with | none=>c | some i=>cj[i]?
def CX{an:Type}(cj:List an)(i:Option Nat):List an:=match i with | none=>cj | some i=>cj.eraseIdx i
def Gy(aH:dG)(s:aC)(o:Oper)(x:Operand)(str:Bool):Option h0:=
 match str,a8 aH s.aA x with
 | false,.j6 b g=>if (s.ab b).gen=g then (match (s.ab b).body with
  | .ct k v c cj=>some ⟨Option Nat,none,True,Gx cj,λi=>(s.cz b ⟨g,.ct k v (n2 c cj i) (CX cj i)⟩).set o.dst (.p9 (Nat.succ (S6 i)) (hi [.val .bool i.isSome])),none⟩
  | _=>none) else none
 | _,_=>none
def Gz(aH:dG)(s:aC)(o:Oper)(x:Operand):Option h0:=
 match a8 aH s.aA x with
 | .j6 b g=>if (s.ab b).gen=g then (match (s.ab b).body with
  | .ct k v c _=>some ⟨Unit,(),True,A.ae (c.isSome=true) (A.pure ()),λ_=>s.set o.dst (.p9 2 (hi [.val k ((c.map (·.1)).getD k.df),.val v ((c.map (·.2)).getD v.df)])),none⟩
  | _=>none) else none
 | _=>none
def CY(aH:dG)(T:Nat->ad)(s:aC)(o:Oper)(op:BinOp)(ty:TypeId)(x y:Operand):Option h0:=
 match T ty,a8 aH s.aA y with
 | .slice e,.cx=>match (dC (.slice e) (use (a8 aH s.aA x)).2).run s.ab with
  | some (xs,_)=>match op with
   | .eql=>some ⟨Bool,false,(use (a8 aH s.aA x)).1,A.any λb=>b=true->xs=[],λb=>s.set o.dst (.val .bool b),none⟩
   | .neq=>some ⟨Bool,false,(use (a8 aH s.aA x)).1,A.any λb=>b=true->xs=[],λb=>s.set o.dst (.val .bool (!b)),none⟩
   | _=>none
  | none=>none
 | _,_=>none
def rl(aH:dG)(T:Nat->ad)(bf:Nat->Option aO)(Ψ:Nat->Option e7)(s:aC)(o:Oper):Option h0:=
 match o.op with
 | .call c=>match c.callee with
  | .value f=>match f with
   | .func k=>match Ψ k with
    | some (.fc c')=>xD aH s o c.args.toList c'
    | some (.Lv c')=>Gs aH s o c.args.toList c'
    | _=>match Lw bf Ψ k with
     | some dx=>CU aH s o c.args.toList dx
     | none=>none
   | .tmp t=>match CV aH s o t c.args.toList with
    | some r=>some r
    | none=>match Gu aH Ψ s o t c.args.toList with
     | some r=>some r
     | none=>Gv aH s o t c.args.toList
   | _=>none
  | _=>none
 | .range ty x=>Gw aH T s o ty x
 | .next x str=>Gy aH s o x str
 | .entry x=>Gz aH s o x
 | .binOp op ty x y _=>CY aH T s o op ty x y
 | _=>none
def cu{an:Type}(g:Bool)(m:A an)(d:an):A an:=if g=true then m else A.pure d
def sx{β:Type}(b:Bool)(p:Prop)(m:A β):A β:=match b with | true=>m | false=>A.ae p m
def CZ(o:Oper)(e':aI)(l:List (Nat×bK)):Option (List (Nat×bK)×aI):=
 match l with
 | []=>some ([],e')
 | p::dJ=>match o.op with
  | .makeFunc ..=>some (p::dJ,e')
  | .buildSlice _ n _=>match dJ,e',p.2.body with
   | [],.own be g',.bh e xs=>if (be=p.1/\g'=p.2.gen)/\n≠0 then some ([(p.1,⟨p.2.gen,.fD⟩)],.val (.slice e) xs) else none
   | _,_,_=>none
  | _=>none
def S7(hH:List (Nat×bK))(e':aI):aI:=
 match e' with
 | .own b _=>match hH.find? (λp=>p.1 == b) with
  | some (_,⟨_,.bh e xs⟩)=>.val (.slice e) xs
  | _=>e'
 | _=>e'
abbrev px:=List (Nat×(Nat×Bool))
def sy(ops:Array Oper)(j d:Nat):Bool:=match ops[j]? with | some o=>(match o.dst with | some e=>e == d | none=>false) | none=>false
def afk(tg:px)(t:Nat)(k:Nat×Bool):Bool:=tg.any λp=>p.1 == t&&(p.2.1 == k.1&&p.2.2 == k.2)
def xE(ops:Array Oper)(tg:px)(o:Oper):px:=
 match o.dst with
 | none=>tg
 | some d=>match o.guard with
  | some k=>if sy ops k.1 d=true then tg.filter λp=>p.1 != d&&!sy ops p.2.1 d else (d,k)::tg.filter λp=>p.1 != d&&!sy ops p.2.1 d
  | none=>tg.filter λp=>p.1 != d&&!sy ops p.2.1 d
def xF(aJ:Operand->aI)(tg:px)(gk:Option (Nat×Bool))(x:Operand):Bool:=
 !(aJ x).zN||(match x,gk with | .tmp t,some k=>afk tg t k | _,_=>false)
def GA(ops:Array Oper)(tg:px)(c x:Operand)(want:Bool):Bool:=
 match c,x with
 | .tmp c,.tmp t=>tg.any λp=>p.1 == t&&(sy ops p.2.1 c&&p.2.2 == want)
 | _,_=>false
def rm(aJ:Operand->aI)(tg:px)(gk:Option (Nat×Bool))(o:Oper):Bool:=o.op.operands.toList.all (xF aJ tg gk)
def zW(aJ:Operand->aI)(ops:Array Oper)(tg:px)(gk:Option (Nat×Bool))(o:Oper):Bool:=
 match o.op with
 | .pick c a b=>xF aJ tg gk c&&((xF aJ tg gk a||GA ops tg c a true)&&(xF aJ tg gk b||GA ops tg c b false))
 | _=>rm aJ tg gk o
def Lz(aJ:Operand->aI)(tg:px)(gk:Option (Nat×Bool))(o:Oper)(e':aI):Bool:=
 !e'.zN||(match o.op with | .move x=>xF aJ tg gk x | _=>false)
def ig:Operand->Option Nat
 | .tmp t=>some t
 | _=>none
def zX(o gF kY:Oper):Option (Oper×Nat×Nat):=
 match o.op with
 | .mapEntry ty m x=>match gF.op with
  | .extract e 1=>match kY.op with
   | .entryStore mX dA a7 y=>match o.dst,gF.dst,kY.dst with
    | some d1,some d2,none=>if ig e=some d1/\ig a7=some d2/\mX=ty/\(ig dA).isSome=true/\ig dA=ig m/\(ig y).isSome=true/\ig m≠some d1/\ig m≠some d2/\ig y≠some d1/\ig y≠some d2/\o.guard.isNone=true/\gF.guard.isNone=true/\kY.guard.isNone=true
     then some ({ kY with op:=.mapUpdate ty m x y },d1,d2) else none
    | _,_,_=>none
   | _=>none
  | _=>none
 | _=>none
def zY(o:Oper)(os:List Oper):Option (Oper×Nat×Nat):=
 match os with
 | gF::kY::_=>zX o gF kY
 | _=>none
def GB{β:Type}:Nat->Int->(Nat->A β)->A β
 | 0,_,_=>A.fail
 | 1,_,k=>k 0
 | n+2,v,k=>if v=((n+1:Nat):Int) then k (n+1) else GB (n+1) v k
theorem S8{β:Type}{O:β->Prop}{k:Nat->A β}{v:Int}:∀ {n:Nat},A.cy (GB n v k) O->0<=v->v<(n:Int)->A.cy (k v.toNat) O
 | 0,h,_,_=>h.1.elim
 | 1,h,aY,E=>by
  have:v.toNat=0:=by omega
  rw[this];exact h
 | n+2,h,aY,E=>by
  unfold GB at h;split at h
  ·grind
  ·exact S8 h aY (by omega)
def my{β:Type}(aH:dG)(T:Nat->ad)(bf:Nat->Option aO)(Ψ:Nat->Option e7)(ops:Array Oper):List Oper->px->aC->(aC->A β)->A β
 | [],_,s,k=>k s
 | o::os,tg,s,k=>
  match zY o os with
  | some (ki,d1,d2)=>match os with
   | _::_::afl=>match (bu aH T bf (a8 aH s.aA) ki).run s.ab with
    | some res=>A.ae res.ca (A.ae res.c (my aH T bf Ψ ops afl [] (((s.ia none res).set (some d1) .undef).set (some d2) .undef) k))
    | none=>A.fail
   | _=>A.fail
  | none=>
  match kC s.aA ops o.guard with
  | none=>A.fail
  | some none=>match (bu aH T bf (a8 aH s.aA) o).run s.ab with
   | some res=>sx (zW (a8 aH s.aA) ops tg none o) res.ca (sx (ng (a8 aH s.aA) o) res.c (my aH T bf Ψ ops os (xE ops tg o) (s.ia o.dst res) k))
   | none=>match rl aH T bf Ψ s o with
    | some cc=>sx (su (a8 aH s.aA) o) cc.ca (A.bind cc.m λy=>my aH T bf Ψ ops os [] (cc.st y) k)
    | none=>A.fail
  | some (some g)=>match (bu aH T bf (a8 aH s.aA) o).run s.ab with
   | some ⟨ca,c,e',hH⟩=>match CZ o e' hH with
    | some (xG,sz)=>sx (zW (a8 aH s.aA) ops tg o.guard o&&(ng (a8 aH s.aA) o&&Lz (a8 aH s.aA) tg o.guard o sz)) (g=true->ca/\(c/\(use sz).1)) (my aH T bf Ψ ops os (xE ops tg o) ((s.gf xG).set o.dst (.hF g (use sz).2)) k)
    | none=>if g=true then A.ae ca (A.ae c (my aH T bf Ψ ops os [] (s.ia o.dst ⟨ca,c,e',hH⟩) k)) else my aH T bf Ψ ops os [] (s.set o.dst (.hF false (S7 hH (use e').2))) k
   | none=>match rl aH T bf Ψ s o with
    | some cc=>match cc.CT with
     | some gs=>sx (rm (a8 aH s.aA) tg o.guard o) (g=true->cc.ca) (A.bind (cu g cc.m cc.d) λy=>my aH T bf Ψ ops os (xE ops tg o) (gs g y) k)
     | none=>if g=true then A.ae cc.ca (A.bind cc.m λy=>my aH T bf Ψ ops os [] (cc.st y) k) else my aH T bf Ψ ops os [] (s.set o.dst (.hF false (use ((cc.st cc.d).aA (o.dst.getD 0))).2)) k
    | none=>A.fail
def C0{β:Type}:List Prop->A β->A β
 | [],m=>m
 | p::l,m=>A.ae p (C0 l m)
def zZ(cl:List (List Nat)):Nat->Nat
 | 0=>0
 | n+1=>if (List.range n).all (λi=>(cl.getD n []).contains i)=true then zZ cl n else n+1
def LA(gG iw hL iK l4:Oper):Bool:=
 match gG.op,iw.op,hL.op with
 | .lookup ty m x false,.binOp .add _ (.tmp t) (.const (.int k c)) _,.mapEntry mX dA dL=>match gG.dst,iw.dst,zX hL iK l4 with
  | some eg,some fL,some (_,d1,d2)=>decide (t=eg/\mX=ty/\fU k c/\ig dA=ig m/\ig dL=ig x/\eg≠fL/\eg≠d1/\eg≠d2/\fL≠d1/\fL≠d2/\d1≠d2/\
    (ig m).isSome=true/\(ig x).isSome=true/\ig m≠some eg/\ig m≠some fL/\ig m≠some d1/\ig m≠some d2/\ig x≠some eg/\ig x≠some fL/\ig x≠some d1/\ig x≠some d2/\gG.guard.isNone=true/\iw.guard.isNone=true)
  | _,_,_=>false
 | _,_,_=>false
def GC(ops:List Oper):Bool:=
 match ops.drop (ops.length - 5) with
 | [gG,iw,hL,iK,l4]=>LA gG iw hL iK l4&&(CP ops&&((List.range 5).all λq=>(List.range (ops.length - 5)).all λi=>((iu ops).getD (ops.length - 5+q) []).contains i)&&
   ((iu ops).getD (ops.length - 5+1) []).contains (ops.length - 5)&&((iu ops).getD (ops.length - 5+3) []).contains (ops.length - 5+2)&&((List.range 4).all λq=>((iu ops).getD (ops.length - 5+4) []).contains (ops.length - 5+q))&&
   (ie hL).all (λi=>decide (i<ops.length - 5))&&(ie iK).all (λi=>decide (i<ops.length - 5)||decide (i=ops.length - 5+2)))
 | _=>false
def l5(ops:List Oper):Nat:=if GC ops=true then ops.length - 5 else zZ (iu ops) ops.length
def A.afm{an:Type}(l:List (A an)):A an:=⟨∀ m∈l,m.cr,λx=>∃ m∈l,m.bM x⟩
def vv(ops:List Oper)(done:List Nat):List Nat:=(List.range ops.length).filter λi=>!done.contains i&&match ops[i]? with | some o=>(ie o).all λj=>done.contains j | none=>false
def rn(ops:List Oper):Nat->List Nat->List (List Nat)
 | 0,_=>[[]]
 | f+1,done=>match vv ops done with
  | []=>[[]]
  | l=>l.flatMap λi=>(rn ops f (i::done)).map (i::·)
def GD(ops:List Oper):Nat->List Nat->Bool
 | 0,done=>(vv ops done).isEmpty
 | f+1,done=>(vv ops done).all λi=>GD ops f (i::done)
def GF{β:Type}(aH:dG)(T:Nat->ad)(bf:Nat->Option aO)(Ψ:Nat->Option e7)(ops:Array Oper)(o:Oper)(s:aC)(k:aC->A β):A β:=
 match o.guard with
 | some _=>A.fail
 | none=>match (bu aH T bf (a8 aH s.aA) o).run s.ab with
  | some res=>sx (zW (a8 aH s.aA) ops [] none o) res.ca (sx (ng (a8 aH s.aA) o) res.c (k (s.ia o.dst res)))
  | none=>match rl aH T bf Ψ s o with
   | some cc=>sx (su (a8 aH s.aA) o) cc.ca (A.bind cc.m λy=>k (cc.st y))
   | none=>A.fail
def z1{β:Type}(aH:dG)(T:Nat->ad)(bf:Nat->Option aO)(Ψ:Nat->Option e7)(ops:Array Oper):List Nat->aC->(aC->A β)->A β
 | [],s,k=>k s
 | i::cb,s,k=>match ops[i]? with
  | some o=>GF aH T bf Ψ ops o s λs'=>z1 aH T bf Ψ ops cb s' k
  | none=>A.fail
def S9{β:Type}(aH:dG)(T:Nat->ad)(bf:Nat->Option aO)(Ψ:Nat->Option e7)(ops:Array Oper)(s:aC)(k:aC->A β):A β:=
 match GD ops.toList ops.size [] with
 | true=>A.afm ((rn ops.toList ops.size []).map λl=>z1 aH T bf Ψ ops l s k)
 | false=>A.fail
def z6{β:Type}(aH:dG)(T:Nat->ad)(bf:Nat->Option aO)(Ψ:Nat->Option e7)(ops:Array Oper)(s:aC)(k:aC->A β):A β:=
 match xt aH T bf ops ops.toList s with
 | some (l,s')=>match zQ ops.toList l with
  | true=>C0 (l.flatMap eR.cs) (k s')
  | false=>A.fail
 | none=>match xt aH T bf ops (ops.toList.take (l5 ops.toList)) s with
  | some (l,s')=>match zQ (ops.toList.take (l5 ops.toList)) l&&CP ops.toList with
   | true=>C0 (l.flatMap eR.cs) (my aH T bf Ψ ops (ops.toList.drop (l5 ops.toList)) [] s' k)
   | false=>A.fail
  | none=>S9 aH T bf Ψ ops s k
def lz(ops:List Oper):List Oper:=
 match ops with
 | []=>[]
 | o::l=>o::l.map λp=>{ p with after:=p.after.push ⟨0,.phase⟩ }
def LB(ops:Array Oper):Bool:=
 match ops.toList with
 | []=>false
 | o::l=>(match o.op with | .move _=>true | _=>false)&&(o.guard.isNone&&(o.after.isEmpty&&(Region.noSelect ops&&l.all λp=>(ie p).contains 0||o.apart ops p)))
inductive cE where
 | eP
 | seq (a b:cE)
 | join (sh:dK) (a b:cE)
 | cond (a b:cE)
 | block (a:cE)
 | loop (sh:dK) (a:cE)
 | scope (a:cE)
 | range (sh rin rout:dK) (a b:cE)
 | n3 (a b:cE)
 | split (i off n:Nat) (a:cE)
 | num (i n:Nat) (a:cE)
 | nY (i:Nat) (a:cE)
 | GG (b:Nat) (a:cE)
 | GH
def cE.ei:cE->Bool
 | .eP=>true
 | .seq a b=>a.ei&&b.ei
 | .join _ a b=>a.ei&&b.ei
 | .cond a b=>a.ei&&b.ei
 | .block a=>a.ei
 | .loop _ a=>a.ei
 | .scope a=>a.ei
 | .range ..=>false
 | .n3 a b=>a.ei&&b.ei
 | .split _ _ _ a=>a.ei
 | .num _ _ a=>a.ei
 | .nY _ a=>a.ei
 | .GG _ a=>a.ei
 | .GH=>false
def cE.oL:cE->Bool
 | .n3 ..=>true
 | .eP=>true
 | _=>false
inductive di where
 | normal
 | exit (id:Nat)
 | ret
def di.py:di->Exit
 | .normal=>.normal
 | .exit id=>.exit id
 | .ret=>.ret
open A (W)
def S_{β:Type}(k:di->aC->A β)(f:aC->A β)(e:di)(s:aC):A β:=
 match e with
 | .normal=>f s
 | .exit id=>k (.exit id) s
 | .ret=>k .ret s
def xH{D β:Type}(k:di->aC->A β)(f:aC->A (W D β))(e:di)(s:aC):A (W D β):=
 match e with
 | .normal=>f s
 | .exit id=>A.bind (k (.exit id) s) λr=>A.pure (.done r)
 | .ret=>A.bind (k .ret s) λr=>A.pure (.done r)
def S'{β:Type}(id:Nat)(k:di->aC->A β)(e:di)(s:aC):A β:=
 match e with
 | .normal=>k .normal s
 | .exit GI=>if GI=id then k .normal s else k (.exit GI) s
 | .ret=>k .ret s
def W.bC{D β:Type}(f:D->A β)(st:W D β):A β:=
 match st with
 | .next x=>f x
 | .done r=>A.pure r
def Ta{β:Type}(v:aI)(m n:A β):A β:=
 match v with
 | .val .bool t=>if t=true then m else n
 | .hF g (.val .bool t)=>A.ae (g=true) (if t=true then m else n)
 | _=>A.fail
def qm(s:aC)(i off:Nat):Option (Int×(Nat->aC)):=
 match s.aA i with
 | .ba b _ o=>match (s.ab b).body with
  | .cells t f=>match f (o+off) with
   | .val (.int t_) x=>some (x,λj=>⟨s.aA,λbe=>if be=b then ⟨(s.ab b).gen,.cells t λq=>if q=o+off then .val (.int t_) (j:Int) else f q⟩ else s.ab be⟩)
   | _=>none
  | _=>none
 | _=>none
theorem afn{s:aC}{i off:Nat}{x:Int}{f:Nat->aC}(h:qm s i off=some (x,f))(aY:0<=x):f x.toNat=s:=by
 unfold qm at h;split at h
 ·rename_i b g o aD;split at h
  ·rename_i t iG aa;split at h
   ·rename_i t_ dL ai;simp only[Option.some.injEq,Prod.mk.injEq]at h;obtain⟨rfl,rfl⟩:=h;have bH:((dL.toNat:Nat):Int)=dL:=by omega
    have az:(λq=>if q=o+off then aI.val (.int t_) (show (ad.int t_).aj from ((dL.toNat:Nat):Int)) else iG q)=iG:=by
     grind
    have aN:(λbe=>if be=b then (⟨(s.ab b).gen,.cells t iG⟩:bK) else s.ab be)=s.ab:=by
     funext q;split
     ·rename_i e;rw[e,<-aa]
     ·rfl
    simp_all
   grind
  grind
 grind
def rp(s:aC)(i:Nat):Option (Int×(Nat->aC)):=
 match s.aA i with
 | .val (.int t_) x=>some (x,λn=>⟨λj=>if j=i then .val (.int t_) (n:Int) else s.aA j,s.ab⟩)
 | _=>none
theorem afo{s:aC}{i n:Nat}{x:Int}{f:Nat->aC}(h:rp s i=some (x,f))(aY:x=(n:Int)):f n=s:=by
 unfold rp at h;split at h
 ·rename_i t_ dL aD;simp only[Option.some.injEq,Prod.mk.injEq]at h;obtain⟨rfl,rfl⟩:=h;have az:(λj=>if j=i then aI.val (.int t_) (show (ad.int t_).aj from (n:Int)) else s.aA j)=s.aA:=by
   grind
  simp_all
 grind
def LC(s:aC)(i:Nat):Option aC:=
 match s.aA i with
 | .oy b g n off=>match (s.ab b).body,off with
  | .bh (.st (.slice e)) xs,0=>if g=(s.ab b).gen then some ⟨λj=>if j=i then .ik b g n else s.aA j,λbe=>if be=b then ⟨g,.gp (.st (.slice e)) xs n (.val (.slice e) (xs.getD n []))⟩ else s.ab be⟩ else none
  | _,_=>none
 | _=>none
def LD(s:aC)(b:Nat):Option aC:=
 match (s.ab b).body with
 | .gp (.st (.slice e)) xs n v=>match (dC (.slice e) v).run s.ab with
  | some (y,bV)=>if bV.contains b then none else some ((s.cB bV).cz b ⟨(s.ab b).gen,.bh (.st (.slice e)) (xs.set n y)⟩)
  | none=>none
 | _=>none
def jR{D an:Type}(body:D->an->A (di×D)):List an->D->A (di×D)
 | [],D=>A.pure (.normal,D)
 | x::xs,D=>A.bind (body D x) λp=>match p.1 with
  | .normal=>jR body xs p.2
  | .exit id=>A.pure (.exit id,p.2)
  | .ret=>A.pure (.ret,p.2)
def z7(aM:ad)(x:aM.aj):List Tmp->Nat->(Nat->aI)->Nat->aI
 | [],_,f=>f
 | p::ps,i,f=>z7 aM x ps (i+1) (λj=>if j=p then ky aM x i else f j)
def xI(s:aC)(aM:ad)(x:aM.aj)(ps:List Tmp):aC:=⟨λi=>if i=b5 then s.aA b5 else z7 aM x ps 0 s.aA i,s.ab⟩
def vw(rin rout:dK):cM:=⟨rin,rout,[],0,λ_=>A.fail⟩
def t'{bn:Type}(sh rin rout:dK)(aM:ad)(ps:List Tmp)(D:sh.aj)(x:aM.aj)(run:aC->A (bn×rout.aj)):A (bn×sh.aj):=
 match rin.zU (rk (vw rin rout) (xI (sh.st D) aM x ps)) (xI (sh.st D) aM x ps) with
 | some (aJ,bV)=>match CW (vw rin rout) (rk (vw rin rout) (xI (sh.st D) aM x ps)) ((sh.st D).cB bV) (sw ((sh.st D).cB bV) 0 (rk (vw rin rout) (xI (sh.st D) aM x ps)) rin.oK rout.bD 0) 0 0 with
  | true=>A.bind (run (rin.st aJ)) λp=>sh.ni (xC ((sh.st D).cB bV) (vw rin rout) (rk (vw rin rout) (xI (sh.st D) aM x ps)) (sw ((sh.st D).cB bV) 0 (rk (vw rin rout) (xI (sh.st D) aM x ps)) rin.oK rout.bD 0) p.2) λiL=>A.pure (p.1,iL)
  | false=>A.fail
 | none=>A.fail
def n5(sh rout:dK)(aM:ad)(ps:List Tmp)(nt:Nat):Bool:=
 rout.bU.isEmpty&&!sh.bU.any (λp=>p.1 == b5)&&decide (aM≠.cU)&&decide (ps.length=j9 aM)&&ps.all λp=>decide (p<nt)
def GJ{β:Type}(f:aC->A β)(e:di)(s:aC):A β:=
 match e with
 | .normal=>f s
 | .exit _=>A.fail
 | .ret=>A.fail
def sA{β:Type}(n:A β)(x:Nat->A β)(r:A β)(e:di):A β:=
 match e with
 | .normal=>n
 | .exit id=>x id
 | .ret=>r
def LF{β:Type}(k:di->aC->A β)(e:di)(s:aC):A β:=sA (k .normal s) (λid=>k (.exit id) s) (k .ret s) e
theorem Tb{β:Type}(k:di->aC->A β)(e:di)(s:aC):LF k e s=k e s:=by cases e<;>rfl
def eJ(aH:dG)(T:Nat->ad)(bf:Nat->Option aO)(Ψ:Nat->Option e7):cE->{β:Type}->Code->aC->(di->aC->A β)->A β
 | .seq a b,_,c,s,k=>match c with
  | .seq x y=>eJ aH T bf Ψ a x s (S_ k λs'=>eJ aH T bf Ψ b y s' k)
  | _=>A.fail
 | .join sh a b,β,c,s,k=>match c with
  | .seq x y=>A.bind (eJ aH T bf Ψ a (β:=W sh.aj β) x s (xH k λs'=>sh.ni s' λD=>A.pure (.next D))) (W.bC λD=>eJ aH T bf Ψ b y (sh.st D) k)
  | _=>A.fail
 | .cond a b,_,c,s,k=>match c with
  | .cond c x y=>Ta (a8 aH s.aA c) (eJ aH T bf Ψ a x s k) (eJ aH T bf Ψ b y s k)
  | _=>A.fail
 | .block a,_,c,s,k=>match c with
  | .block id c=>eJ aH T bf Ψ a c s (S' id k)
  | _=>A.fail
 | .loop sh a,β,c,s,k=>match c with
  | .loop c=>sh.ni s λD=>A.loop (λD=>eJ aH T bf Ψ a (β:=W sh.aj β) c (sh.st D) (xH k λs'=>sh.ni s' λiL=>A.pure (.next iL))) D
  | _=>A.fail
 | .n3 a b,_,c,s,k=>match c with
  | .loop x=>match b.oL with
   | true=>eJ aH T bf Ψ a x s (S_ k λs'=>eJ aH T bf Ψ b (.loop x) s' k)
   | false=>A.fail
  | _=>A.fail
 | .scope a,_,c,s,k=>match c with
  | .scope c=>eJ aH T bf Ψ a c s k
  | _=>A.fail
 | .num i n a,_,c,s,k=>match rp s i with
  | some (x,f)=>A.ae (x=(n:Int)) (eJ aH T bf Ψ a c (f n) k)
  | none=>A.fail
 | .nY i a,_,c,s,k=>match LC s i with
  | some s'=>eJ aH T bf Ψ a c s' k
  | none=>A.fail
 | .GG b a,_,c,s,k=>match LD s b with
  | some s'=>eJ aH T bf Ψ a c s' k
  | none=>A.fail
 | .split i off n a,_,c,s,k=>match qm s i off with
  | some (x,f)=>A.ae (0<=x/\x<(n:Int)) (GB n x λj=>eJ aH T bf Ψ a c (f j) k)
  | none=>A.fail
 | .range sh rin rout a b,_,c,s,k=>match c with
  | .rangeFunc g ps assign body=>match a8 aH s.aA g with
   | .r9 rq n eW=>match Ψ rq with
    | some (.ct ic)=>match (i_ ic.ts ((List.range n).map eW)).run s.ab with
     | some (x,bV)=>match n5 sh rout ic.aM ps.toList eT&&(a.ei&&b.ei) with
      | true=>sh.ni (s.cB bV) λD=>A.ae (ic.pre x) (A.bind (jR (λD y=>t' sh rin rout ic.aM ps.toList D y λeI=>
       eJ aH T bf Ψ a (β:=di×rout.aj) assign eI (GJ λdN=>eJ aH T bf Ψ b body dN λe eK=>rout.ni eK λbn=>A.pure (e,bn))) (ic.seq x) D) λp=>LF k p.1 (sh.st p.2))
      | false=>A.fail
     | none=>A.fail
    | _=>A.fail
   | .val (.ct aM) S=>match n5 sh rout aM ps.toList eT&&(a.ei&&b.ei) with
    | true=>sh.ni s λD=>A.bind (A.any S) λL=>A.bind (jR (λD y=>t' sh rin rout aM ps.toList D y λeI=>
     eJ aH T bf Ψ a (β:=di×rout.aj) assign eI (GJ λdN=>eJ aH T bf Ψ b body dN λe eK=>rout.ni eK λbn=>A.pure (e,bn))) L D) λp=>LF k p.1 (sh.st p.2)
    | false=>A.fail
   | _=>A.fail
  | _=>A.fail
 | .GH,_,c,s,k=>match c with
  | .region _ ops draw=>match draw&&LB ops with
   | true=>z6 aH T (Gr bf Ψ) Ψ (lz ops.toList).toArray s (k .normal)
   | false=>A.fail
  | _=>A.fail
 | .eP,_,c,s,k=>match c with
  | .region _ ops draw=>match draw with
   | true=>z6 aH T (Gr bf Ψ) Ψ ops s (k .normal)
   | false=>my aH T bf Ψ ops ops.toList [] s (k .normal)
  | .skip=>k .normal s
  | .label _=>k .normal s
  | .exit id=>k (.exit id) s
  | .ret=>k .ret s
  | _=>A.fail
def lA(nt:Nat):Code->Bool
 | .region _ ops _=>ops.toList.all λo=>lx o nt
 | .seq a b=>lA nt a&&lA nt b
 | .cond _ a b=>lA nt a&&lA nt b
 | .block _ a=>lA nt a
 | .loop a=>lA nt a
 | .scope a=>lA nt a
 | .rangeFunc _ ps a b=>ps.toList.all (λp=>decide (p<nt))&&(lA nt a&&lA nt b)
 | .skip=>true
 | .label _=>true
 | .exit _=>true
 | .ret=>true
 | _=>false
end Go.Fer
