/- Part 2 of the proof of Answers: shallow programs of Go functions, and what they compute. No condition. -/
import Derived.Test.YtplfnoecifjgeaaGreatDoorAnswersA
import Derived.Laws.BytesString
noncomputable section
set_option linter.unusedVariables false
set_option linter.unusedSimpArgs false
namespace Go.Fer
open Go.RowKit
theorem CL{p:Addr}(h:p.spot=none)(n:Nat):p.add n=⟨p.block,p.off+n,none⟩:=by
 obtain⟨b,o,sp⟩:=p;simp only at h;subst h;exact vo b o n
theorem K4{e:ab}{xs:List e.aj}{i:Int}(E:0<=i)(U:i<(xs.length:Int)):kU e xs i=xs[i.toNat]'(by omega):=by
 unfold kU;grind
section
variable {C:b8} {T:Nat->ab} {be:Nat->Option aM} {o:Oper} {s:aA} {res:eA}
theorem K5{P:Program}{w:World}{e:ab}{ty:TypeId}(h:b7 P (.slice e) ty){p:Addr}(an:p.spot=none){n cap:Nat}{k:IntKind}{i:Int}(E:0<=i)(U:i<(n:Int)) :
  (Instr.indexAt ty (.slice (some p) n cap) (.int k i)).run P w=.ok (.pointer (some ⟨p.block,p.off+i.toNat*e.size,none⟩)) w:=by
 obtain⟨j,aE,ja,_⟩:=h.sl;simp[Instr.indexAt,asIntOf,dA aE,E,U,ja.size,CL an]
theorem ad8(aU:dR C.P T){ty:TypeId}{x i:Operand}(bf:∀ i,o.dst=some i->i<C.nt)(af:o.op=.indexAddr ty x i)(h:(br C.aN T be (aZ C.aN s.ay) o).run s.aa=some res):cG C o s res:=by
 simp only[br,af]at h;split at h
 ·rename_i bE k n aL G;have dp:=aU.cb aL (by simp);simp only[bN,ao.e1,Option.bind_eq_some_iff,ao.bL,Option.some.injEq]at h;obtain⟨⟨c,v⟩,hj,rfl⟩:=h;refine cG.pure (by grind) bf λa w κ F M bb hc=>?_;have ah:bx C.P s.aa κ F w (use (aZ C.aN s.ay x)).2 (a.eval x):=cM M x rfl bb.1;have U:=oJ (cM M i rfl bb.2) G;have zQ:∀ (xs:List bE.aj),bH C.P (.slice bE) F w [a.eval x] xs->0<=n/\n<(xs.length:Int)->∃ r,(execOp a.eval o).run C.P w=.ok (.value r) w/\bx C.P s.aa κ F w (.dU bE (kU bE xs n)) r:=by
   intro xs hU au;obtain⟨a',cap,ax,m1,m2,m3,m4⟩:=hU;have ax:=(List.cons.inj ax).1;cases a' with
   | none=>grind
   | some p=>
    obtain⟨dN,ei,jL⟩:=m4 p rfl (by omega);obtain⟨bh,d1,d2⟩:=jL n.toNat (by omega);refine⟨_,by simp[execOp,af,ax,U.1,K5 dp ei au.1 au.2],⟨p.block,p.off+n.toNat*bE.size,none⟩,bh,rfl,d1,?_⟩;rw[K4 au.1 au.2];exact d2
  unfold RI at hj;split at hj
  ·rename_i e xs e7;simp only[ao.bL]at hj;split at hj
   ·rename_i he;subst he;simp only[Option.some.injEq,Prod.mk.injEq]at hj;obtain⟨rfl,rfl⟩:=hj;rw[e7]at ah;exact zQ xs ((dT rfl).1 ah).2 hc
   grind
  ·rename_i b g e7;rw[e7]at ah;simp only[ao.e0,ao.bL]at hj;split at hj
   ·rename_i aB;have aS:=M.bB b;unfold cC at aS;split at hj
    ·rename_i e xs bR;split at hj
     ·rename_i he;subst he;simp only[Option.some.injEq,Prod.mk.injEq]at hj;obtain⟨rfl,rfl⟩:=hj;have ae:=ah.2 aB.symm (by rw[bR];rfl);rw[bR]at ae aS;have vv:(κ b).e5=false:=by
       cases au:(κ b).e5 with
       | false=>rfl
       | true=>rw[aS.1 au]at hc;grind
      simp only[bA.slice,vv,Bool.false_eq_true,if_false,bP.len]at ae;refine⟨_,by simp[execOp,af,ae,U.1,K5 dp (p:=⟨(κ b).aa,(κ b).off,none⟩) rfl hc.1 hc.2];rfl,⟨ah.1.1,rfl⟩,λ_ _=>?_⟩;rw[bR];exact⟨by simp only[bP.len];omega,vv,rfl⟩
     grind
    ·rename_i e xs bR;split at hj
     ·rename_i he;subst he;simp only[Option.some.injEq,Prod.mk.injEq]at hj;obtain⟨rfl,rfl⟩:=hj;have ae:=ah.2 aB.symm (by rw[bR];rfl);rw[bR]at ae aS;simp only[bP.len]at ae;refine zQ xs ?_ hc;rw[ae];exact aS
     grind
    grind
   grind
  ·rename_i b g aX G e7;rw[e7]at ah;simp only[ao.e0,ao.bL]at hj;split at hj
   ·rename_i aB;have aS:=M.bB b;unfold cC at aS;split at hj
    ·rename_i e xs bR;split at hj
     ·rename_i he;subst he;simp only[Option.some.injEq,Prod.mk.injEq]at hj;obtain⟨rfl,rfl⟩:=hj;obtain⟨⟨aQ,aV⟩,bK⟩:=ah.2 aB.symm (by rw[bR];rfl);rw[bR]at aV bK aS;simp only[bP.len,bP.eZ]at aV bK;rcases bK with⟨au,_⟩ | ⟨au,my,ae,gD,gE⟩
      ·rw[aS.1 au]at aV;grind
      ·obtain⟨cs,hV,bC,c2,c3,c4,c5⟩:=aS.2 au;refine⟨_,by simp[execOp,af,ae,U.1,K5 dp (p:=⟨(κ b).aa,my,none⟩) rfl hc.1 hc.2];rfl,⟨ah.1.1,rfl⟩,λ_ _=>?_⟩;rw[bR];refine⟨by simp only[bP.len];omega,au,?_⟩;rw[gE (by omega)];simp only[bP.eZ,Nat.add_mul];grind
     grind
    ·rename_i e xs bR;split at hj
     ·rename_i he;subst he;simp only[Option.some.injEq,Prod.mk.injEq]at hj;obtain⟨rfl,rfl⟩:=hj;obtain⟨⟨aQ,aV⟩,bK⟩:=ah.2 aB.symm (by rw[bR];rfl);rw[bR]at aV bK aS;simp only[bP.len,bP.eZ]at aV bK;have hlen:((xs.take G).drop aX).length=G - aX:=by grind
      obtain⟨r,cf,cI⟩:=zQ ((xs.take G).drop aX) (FW aS aQ aV bK) (by omega);refine⟨r,cf,?_⟩;have ax:kU e ((xs.take G).drop aX) n=kU e xs ((aX:Int)+n):=by
       rw[K4 hc.1 (by omega),K4 (by omega) (by omega)];grind
      grind
     grind
    grind
   grind
  ·simp_all
  ·cases hj
 ·rename_i m bE k n aL G;split at h
  ·rename_i dw aY xs e7;split at h
   ·rename_i he;obtain⟨rfl,rfl⟩:=he;simp only[bN,ao.bL,Option.some.injEq]at h;subst h;refine cG.pure (by grind) bf λa w κ F M bb hc=>?_;have ah:bx C.P s.aa κ F w (use (aZ C.aN s.ay x)).2 (a.eval x):=cM M x rfl bb.1;rw[e7]at ah;have U:=oJ (cM M i rfl bb.2) G;obtain⟨j,aE,rp,_⟩:=(aU.cb aL (by simp)).bg;obtain⟨p,bh,ae,cT,nX⟩:=ah;obtain⟨bC,c2,c3,rfl,aO,cv⟩:=KR nX (i:=n.toNat) (by omega);refine⟨.pointer (some ⟨p.block,p.off+n.toNat*aY.size,none⟩),?_,⟨p.block,p.off+n.toNat*aY.size,none⟩,c2,rfl,⟨cT.1,rfl,λq bp=>?_⟩,cv⟩
    ·simp[execOp,af,Instr.indexAt,ae,U.1,asIntOf,dA aE,hc.1,hc.2,rp.size,CL cT.2.1,Instr.sureAddr]
    ·have:=cT.2.2 (bC.length+q) (by grind);grind
   ·cases h
  ·rename_i b g off e7;simp only[ao.e0,ao.bL]at h;split at h
   ·rename_i bj;simp only[Bool.and_eq_true,decide_eq_true_eq]at bj;simp only[Option.some.injEq]at h;subst h;refine cG.pure (by grind) bf λa w κ F M bb hc=>?_;have E:bx C.P s.aa κ F w (use (aZ C.aN s.ay x)).2 (a.eval x):=cM M x rfl bb.1;rw[e7]at E;have U:=oJ (cM M i rfl bb.2) G;have ag:=E.2 bj.1.symm bj.2;obtain⟨j,aE,rp,_⟩:=(aU.cb aL (by simp)).bg;exact⟨_,by simp[execOp,af,Instr.indexAt,ag,U.1,asIntOf,dA aE,hc.1,hc.2,rp.size,CL (p:=⟨(κ b).aa,off,none⟩) rfl,Instr.sureAddr],⟨E.1.1,rfl⟩,λ_ _=>rfl⟩
   grind
  ·cases h
 ·cases h
theorem CM{a:Act}{w:World}{κ:Nat->bA}{F:Nat->Prop}(M:bk C s a w κ F){x:Option Operand}{p:Prop}{n:Option Int}(h:lh (aZ C.aN s.ay) x=some (p,n))(an:p) :
  (x=none/\n=none)\/∃ y k m,x=some y/\n=some m/\a.eval y=.int k m:=by
 cases x with
 | none=>simp only[lh,Option.some.injEq,Prod.mk.injEq]at h;grind
 | some y=>
  simp only[lh]at h;split at h
  ·rename_i q k m hu;simp only[Option.some.injEq,Prod.mk.injEq]at h;obtain⟨rfl,rfl⟩:=h;exact .inr ⟨y,k,m,rfl,rfl,(gU.1 (cM M y hu an)).1⟩
  grind
theorem Sa{P:Program}{w:World}{isS:Bool}{len cap:Nat}{aX G:Option Value}{l h:Option Int}(ai:(aX=none/\l=none)\/∃ k m,aX=some (.int k m)/\l=some m)(cT:(G=none/\h=none)\/∃ k m,G=some (.int k m)/\h=some m)
  (E:0<=dq l) (U:dq l<=fy len h) (ag:fy len h<=(cap:Int)) (_h4:len<=cap):(Instr.sliceBounds isS len cap aX G none).run P w=.ok ((dq l).toNat,(fy len h).toNat,cap) w:=by
 rcases ai with⟨rfl,rfl⟩ | ⟨k,m,rfl,rfl⟩<;>rcases cT with⟨rfl,rfl⟩ | ⟨k',dw,rfl,rfl⟩<;>simp only[dq,fy]at E U ag ⊢
 ·rfl
 ·have:0<=dw/\dw<=(cap:Int):=by omega
  simp[Instr.sliceBounds,Instr.sliceBound,asIntOf,this]
 ·have:0<=m/\m<=(len:Int):=by omega
  simp[Instr.sliceBounds,Instr.sliceBound,asIntOf,this]
 ·have ax:0<=dw/\dw<=(cap:Int):=by omega
  have aO:0<=m/\m<=dw:=by omega
  have cv:max dw 0=dw:=by omega
  simp[Instr.sliceBounds,Instr.sliceBound,asIntOf,ax,aO,cv]
theorem ad9{l h:Option Int}{n m:Nat}(Sb:n<=m):Cq l h n m<=m:=by
 unfold Cq;grind
theorem ad_(aU:dR C.P T){ty:TypeId}{x:Operand}{aX G:Option Operand}(bf:∀ i,o.dst=some i->i<C.nt)(af:o.op=.slice ty x aX G none)(h:(br C.aN T be (aZ C.aN s.ay) o).run s.aa=some res):cG C o s res:=by
 simp only[br,af,Option.isSome_none,Bool.false_eq_true,if_false,FZ]at h;split at h
 ·rename_i ol l ri lU sv K6;have aq:∀ c,o.op≠.defer c:=by grind
  have sf:∀ (a:Act) (w:World) κ F,bk C s a w κ F->ol->ri->((aX.map a.eval=none/\l=none)\/∃ k m,aX.map a.eval=some (.int k m)/\l=some m)/\((G.map a.eval=none/\lU=none)\/∃ k m,G.map a.eval=some (.int k m)/\lU=some m):=by
   intro a w κ F M CN CO;constructor
   ·rcases CM M sv CN with⟨rfl,rfl⟩ | ⟨y,k,m,rfl,rfl,e⟩
    ·exact .inl ⟨rfl,rfl⟩
    ·exact .inr ⟨k,m,by simp[e],rfl⟩
   ·rcases CM M K6 CO with⟨rfl,rfl⟩ | ⟨y,k,m,rfl,rfl,e⟩
    ·exact .inl ⟨rfl,rfl⟩
    ·exact .inr ⟨k,m,by simp[e],rfl⟩
  split at h
  ·rename_i bE aL;have dp:=aU.cb aL (by simp);obtain⟨j,aE,ja,oL⟩:=dp.sl;simp only[ao.e1,Option.bind_eq_some_iff]at h;obtain⟨⟨c,v⟩,fS,h⟩:=h;simp only[bN,ao.bL,Option.some.injEq]at h;subst h;have runs:∀ (a:Act) (w:World) κ F,bk C s a w κ F->ol->ri->∀ (q:Option Addr) (n cap:Nat),a.eval x=.slice q n cap->n<=cap->0<=dq l/\dq l<=fy n lU/\fy n lU<=(cap:Int)->
     (execOp a.eval o).run C.P w=.ok (.value (.slice (if cap=(dq l).toNat then q else q.map (·.add ((dq l).toNat*bE.size))) ((fy n lU).toNat - (dq l).toNat) (cap - (dq l).toNat))) w:=by
    intro a w κ F M CN CO q n cap ae au hc;obtain⟨dr,eb⟩:=sf a w κ F M CN CO;have:=Sa (P:=C.P) (w:=w) (isS:=true) dr eb hc.1 hc.2.1 hc.2.2 au;simp[execOp,af,ae,Instr.sliceAt,Instr.slice,dA aE,this,ja.size]
   unfold RJ at fS;split at fS
   ·rename_i e xs e7;simp only[ao.bL]at fS;split at fS
    ·rename_i he;subst he;simp only[Option.some.injEq,Prod.mk.injEq]at fS;obtain⟨rfl,rfl⟩:=fS;refine cG.pure aq bf λa w κ F M bb hc=>?_;have ah:bx C.P s.aa κ F w (use (aZ C.aN s.ay x)).2 (a.eval x):=cM M x rfl bb.1;rw[e7]at ah;obtain⟨_,a',cap,ax,m1,m2,m3,m4⟩:=(dT rfl).1 ah;have ax:=(List.cons.inj ax).1;refine⟨_,runs a w κ F M bb.2.1 bb.2.2 a' xs.length cap ax m1 ⟨hc.1,hc.2.1,by omega⟩,(dT rfl).2 ⟨rfl,?_⟩⟩;have hlen:((xs.take (fy xs.length lU).toNat).drop (dq l).toNat).length=(fy xs.length lU).toNat - (dq l).toNat:=by
      simp;omega
     refine⟨_,_,by rw[hlen],by omega,by omega,?_,λp an vj=>?_⟩
     ·intro au;split at au
      ·omega
      ·cases a' with
       | none=>have:=m3 rfl;omega
       | some q=>cases au
     ·cases a' with
      | none=>split at an<;>cases an
      | some q=>
       obtain⟨dN,ei,jL⟩:=m4 q rfl (by omega);have bp:∃ d,p=⟨q.block,q.off+d,none⟩/\(d=(dq l).toNat*e.size\/cap=(dq l).toNat):=by
        split at an
        ·omega
        ·simp only[Option.map_some,Option.some.injEq]at an;rw[CL ei]at an;grind
       obtain⟨d,rfl,xf⟩:=bp;refine⟨dN,rfl,λi G=>?_⟩;rw[hlen]at G;obtain⟨bh,d1,d2⟩:=jL ((dq l).toNat+i) (by omega);rcases xf with rfl | xr
       ·refine⟨bh,⟨d1.1,rfl,λk al=>?_⟩,?_⟩
        ·have:=d1.2.2 k al;rw[Nat.add_mul]at this;rw[show q.off+(dq l).toNat*e.size+i*e.size=q.off+((dq l).toNat*e.size+i*e.size) from by omega];exact this
        ·have aO:((xs.take (fy xs.length lU).toNat).drop (dq l).toNat)[i]'(by rw[hlen];exact G)=xs[(dq l).toNat+i]'(by omega):=by simp
         rw[aO];exact d2
       ·omega
    grind
   ·rename_i e7;simp only[ao.bL,Option.some.injEq,Prod.mk.injEq]at fS;obtain⟨rfl,rfl⟩:=fS;refine cG.pure aq bf λa w κ F M bb hc=>?_;have ah:bx C.P s.aa κ F w (use (aZ C.aN s.ay x)).2 (a.eval x):=cM M x rfl bb.1;rw[e7]at ah;simp only[bx]at ah;have jN:0<=dq l/\dq l<=fy 0 lU/\fy 0 lU<=((0:Nat):Int):=hc;have c6:=runs a w κ F M bb.2.1 bb.2.2 none 0 0 ah (Nat.le_refl _) jN;have aT:(fy 0 lU).toNat=0:=by omega
    rw[aT]at c6;refine⟨_,c6,?_⟩;simp only[bx];simp
   ·rename_i b g e7;simp only[ao.e0,ao.bL]at fS;split at fS
    ·rename_i bj;simp only[Bool.and_eq_true,decide_eq_true_eq,beq_iff_eq]at bj;obtain⟨⟨aB,e8⟩,CC⟩:=bj;simp only[Option.some.injEq,Prod.mk.injEq]at fS;obtain⟨rfl,rfl⟩:=fS;refine cG.pure aq bf λa w κ F M bb hc=>?_;have ah:bx C.P s.aa κ F w (use (aZ C.aN s.ay x)).2 (a.eval x):=cM M x rfl bb.1;rw[e7]at ah;have ae:=ah.2 aB.symm e8;obtain⟨dN,ei⟩:=zL M e8;cases au:(κ b).e5 with
     | true=>
      have aT:=dN au;simp only[bA.slice,au,if_true]at ae;rw[aT]at hc;have c6:=runs a w κ F M bb.2.1 bb.2.2 none 0 0 ae (Nat.le_refl _) hc;refine⟨_,c6,⟨ah.1.1,by rfl⟩,λ_ _=>⟨by grind,.inl ⟨au,?_⟩⟩⟩;grind
     | false=>
      have xr:=KS M e8 au;simp only[bA.slice,au,Bool.false_eq_true,if_false]at ae;have c6:=runs a w κ F M bb.2.1 bb.2.2 _ _ _ ae xr ⟨hc.1,hc.2.1,by omega⟩;refine⟨_,c6,⟨ah.1.1,by rfl⟩,λ_ _=>⟨by omega,.inr ⟨au,?_⟩⟩⟩;rw[<-CC];by_cases lP:(κ b).cap=(dq l).toNat
      ·grind
      ·rw[if_neg lP];simp only[Option.map_some,vo];simp
    grind
   ·rename_i b g ff aT e7;simp only[ao.e0,ao.bL]at fS;split at fS
    ·rename_i bj;simp only[Bool.and_eq_true,decide_eq_true_eq,beq_iff_eq]at bj;obtain⟨⟨aB,e8⟩,CC⟩:=bj;simp only[Option.some.injEq,Prod.mk.injEq]at fS;obtain⟨rfl,rfl⟩:=fS;refine cG.pure aq bf λa w κ F M bb hc=>?_;have ah:bx C.P s.aa κ F w (use (aZ C.aN s.ay x)).2 (a.eval x):=cM M x rfl bb.1;rw[e7]at ah;obtain⟨⟨aQ,aV⟩,bK⟩:=ah.2 aB.symm e8;obtain⟨dN,ei⟩:=zL M e8;have sw:Cq l lU (aT - ff) ((s.aa b).body.len - ff)<=(s.aa b).body.len - ff:=ad9 (by omega);revert hc sw;generalize Cq l lU (aT - ff) ((s.aa b).body.len - ff)=lim;intro hc sw;rcases bK with⟨au,ae⟩ | ⟨au,my,ae,gD,gE⟩
     ·have K7:=dN au;have bE:aT - ff=0:=by omega
      have elim:lim=0:=by omega
      rw[bE,elim]at hc;grind
     ·have xr:=KS M e8 au;have c6:=runs a w κ F M bb.2.1 bb.2.2 _ _ _ ae (by omega) ⟨hc.1,hc.2.1,by omega⟩;refine⟨_,c6,⟨ah.1.1,by rfl⟩,λ_ _=>⟨by omega,.inr ⟨au,?_⟩⟩⟩;rw[<-CC];rw[<-CC]at c6;have ax:(fy (aT - ff) lU).toNat - (dq l).toNat=ff+(fy (aT - ff) lU).toNat - (ff+(dq l).toNat):=by omega
      have aO:(κ b).cap - ff - (dq l).toNat=(κ b).cap - (ff+(dq l).toNat):=by omega
      rw[ax,aO];have cv:(ff+(dq l).toNat)*(s.aa b).body.eZ=ff*(s.aa b).body.eZ+(dq l).toNat*(s.aa b).body.eZ:=Nat.add_mul _ _ _;by_cases lP:(κ b).cap - ff=(dq l).toNat
      ·rw[if_pos lP];exact⟨_,rfl,by omega,λh=>by omega⟩
      ·rw[if_neg lP];simp only[Option.map_some,vo];exact⟨_,rfl,by omega,λh=>by omega⟩
    grind
   ·cases fS
  ·rename_i aL;have dp:=(aU.cb aL (by simp)).str;split at h
   ·rename_i c v fS;simp only[bN,ao.bL,Option.some.injEq]at h;subst h;unfold RL at fS;split at fS
    ·rename_i xs e7;simp only[Option.some.injEq,Prod.mk.injEq]at fS;obtain⟨rfl,rfl⟩:=fS;refine cG.pure aq bf λa w κ F M bb hc=>?_;have ah:bx C.P s.aa κ F w (use (aZ C.aN s.ay x)).2 (a.eval x):=cM M x rfl bb.1;rw[e7]at ah;obtain⟨ae,cj⟩:=mm.1 ah;obtain⟨dr,eb⟩:=sf a w κ F M bb.2.1 bb.2.2;have aD:ByteArray.size ⟨xs.toArray⟩=xs.length:=by rfl
     have:=Sa (P:=C.P) (w:=w) (isS:=false) (len:=xs.length) (cap:=xs.length) dr eb hc.1 hc.2.1 hc.2.2 (Nat.le_refl _);refine⟨.string ⟨((xs.take (fy xs.length lU).toNat).drop (dq l).toNat).toArray⟩,?_,mm.2 ⟨rfl,by grind⟩⟩;simp only[execOp,af,ae,Instr.sliceAt,Instr.slice,Sem.run_bind,dA dp,Result.andThen_ok,Option.map_none,Option.isSome_none,Bool.false_eq_true,if_false,aD,this,Sem.run_pure];have he:ByteArray.extract ⟨xs.toArray⟩ (dq l).toNat (fy xs.length lU).toNat=⟨((xs.take (fy xs.length lU).toNat).drop (dq l).toNat).toArray⟩:=by
      apply ByteArray.ext;rw[ByteArray.data_extract];grind
     rw[he]
    grind
   ·cases h
  ·cases h
 ·cases h
end
end Go.Fer
namespace Go.Fer
open Go.RowKit
def gr(P:Program)(e:ab)(F:Nat->Prop)(w:World)(all:List Value)(xs:List e.aj):Prop:=
 all.length=xs.length*e.size/\∀ i (h:i<xs.length),bH P e F w ((all.drop (i*e.size)).take e.size) xs[i]
theorem gr.append{P:Program}{e:ab}{F:Nat->Prop}{w:World}{l m:List Value}{xs ys:List e.aj}(h:gr P e F w l xs)(k:gr P e F w m ys):gr P e F w (l++m) (xs++ys):=by
 refine⟨by simp[h.1,k.1,Nat.add_mul],λi G=>?_⟩;by_cases ah:i<xs.length
 ·have ax:(xs++ys)[i]=xs[i]:=List.getElem_append_left ah;rw[ax];have hle:(i+1)*e.size<=xs.length*e.size:=Nat.mul_le_mul_right _ (by omega);rw[Nat.add_mul,Nat.one_mul]at hle;have:((l++m).drop (i*e.size)).take e.size=(l.drop (i*e.size)).take e.size:=by
   rw[List.drop_append_of_le_length (by rw[h.1];omega),List.take_append_of_le_length (by simp[h.1];omega)]
  rw[this];exact h.2 i ah
 ·have dI:i - xs.length<ys.length:=by grind
  have ax:(xs++ys)[i]=ys[i - xs.length]:=List.getElem_append_right (by omega);rw[ax];have hm:i*e.size=xs.length*e.size+(i - xs.length)*e.size:=by rw[<-Nat.add_mul];grind
  have:(l++m).drop (i*e.size)=m.drop ((i - xs.length)*e.size):=by
   rw[hm,<-h.1,List.drop_append,List.drop_of_length_le (by omega)];simp
  rw[this];exact k.2 _ dI
theorem gr.CP{P:Program}{e:ab}{F:Nat->Prop}{w:World}{all pre post:List Value}{cs:Array Value}{xs:List e.aj}(h:gr P e F w all xs)(hc:cs.toList=pre++(all++post)):lJ P e F w cs pre.length xs:=by
 intro i G;have hle:(i+1)*e.size<=xs.length*e.size:=Nat.mul_le_mul_right _ (by omega);rw[Nat.add_mul,Nat.one_mul]at hle;refine⟨_,λj aE=>?_,h.2 i G⟩;have fR:j<e.size:=by grind
 rw[<-Array.getElem?_toList,hc,List.getElem?_append_right (by omega),List.getElem?_append_left (by grind)];grind
theorem Gh{P:Program}{e:ab}{F:Nat->Prop}{w:World}:∀ {xs:List e.aj} {p:Addr},(0<xs.length->p.spot=none)->(∀ i (h:i<xs.length),∃ bh,kC w ⟨p.block,p.off+i*e.size,none⟩ bh/\bH P e F w bh xs[i])->
  ∃ all,gr P e F w all xs/\kC w p all
 | [],p,an,_=>⟨[],⟨by simp,λi G=>by grind⟩,λh=>by grind,λj aE=>by grind⟩
 | x::xs,p,an,h=>by
  obtain⟨bh,d1,d2⟩:=h 0 (by simp);have vu:=hR e d2;obtain⟨all,b',a2⟩:=Gh (P:=P) (F:=F) (w:=w) (xs:=xs) (p:=⟨p.block,p.off+e.size,none⟩) (λ_=>rfl) (λi G=>by
   obtain⟨R',aQ,aV⟩:=h (i+1) (by grind);grind)
  refine⟨bh++all,?_,λ_=>an (by simp),λj aE=>?_⟩
  ·have E:gr P e F w bh [x]:=⟨by grind,λi G=>by
    have:i=0:=by grind
    subst this;grind⟩
   exact E.append b'
  ·rcases Nat.lt_or_ge j bh.length with E | E
   ·rw[List.getElem_append_left E];have:=d1.2 j E;grind
   ·rw[List.getElem_append_right E];have:=a2.2 (j - bh.length) (by grind);grind
section
variable {C:b8} {T:Nat->ab} {be:Nat->Option aM} {o:Oper} {s:aA} {res:eA}
theorem sx{a:Act}{w:World}{κ:Nat->bA}{F:Nat->Prop}(M:bk C s a w κ F){e:ab}{av:aG}{v:Value}{ys:List e.aj}{l:List Nat}(h:(dy (.slice e) av).run s.aa=some (ys,l))(ae:bx C.P s.aa κ F w av v) :
  ∃ q cap,v=.slice q ys.length cap/\((q=none/\ys=[]/\cap=0)\/∃ p all,q=some p/\gr C.P e F w all ys/\kC w p all):=by
 have zQ:∀ {xs:List e.aj},bH C.P (.slice e) F w [v] xs->∃ q cap,v=.slice q xs.length cap/\((q=none/\xs=[]/\cap=0)\/∃ p all,q=some p/\gr C.P e F w all xs/\kC w p all):=by
  intro xs ah;obtain⟨q,cap,ax,m1,m2,m3,m4⟩:=ah;refine⟨q,cap,(List.cons.inj ax).1,?_⟩;cases q with
  | none=>
   simp_all
  | some p=>
   obtain⟨all,b',a2⟩:=Gh (P:=C.P) (F:=F) (w:=w) (xs:=xs) (p:=p) (λh=>(m4 p rfl (by omega)).2.1) (λi G=>let ⟨bh,d1,d2⟩:=(m4 p rfl (by omega)).2.2 i G;⟨bh,d1.KK,d2⟩);grind
 cases av with
 | val cV y=>
  simp only[dy,ao.bL,Option.map_eq_some_iff,Prod.mk.injEq]at h;obtain⟨z,bj,rfl,_⟩:=h;exact zQ (((dT rfl).1 (FV bj ae)).2)
 | dm=>
  simp only[dy,kx,ab.eF,if_true,dV,ao.bL,Option.some.injEq,Prod.mk.injEq]at h;obtain⟨rfl,_⟩:=h;simp only[bx]at ae;grind
 | own b g=>
  simp only[dy,kx,ab.eF,if_true,dV,ao.e0,ao.bL]at h;split at h
  ·rename_i aB;have aS:=M.bB b;unfold cC at aS;split at h
   ·rename_i aY xs bR;simp only[Option.map_eq_some_iff,Prod.mk.injEq]at h;obtain⟨z,bj,rfl,_⟩:=h;obtain⟨rq,rfl⟩:=kT bj;cases rq;have t_:=ae.2 aB.symm (by rw[bR];rfl);rw[bR]at t_ aS;simp only[bP.len]at t_;cases au:(κ b).e5 with
    | true=>
     have hU:=aS.1 au;subst hU;simp only[bA.slice,au,if_true]at t_;grind
    | false=>
     obtain⟨cs,hV,bC,c2,c3,c4,c5⟩:=aS.2 au;simp only[bA.slice,au,Bool.false_eq_true,if_false]at t_;obtain⟨all,b',a2⟩:=Gh (P:=C.P) (F:=F) (w:=w) (xs:=xs) (p:=⟨(κ b).aa,(κ b).off,none⟩) (λ_=>rfl) (λi G=>by
      obtain⟨bh,d1,d2⟩:=c5 i G;exact⟨bh,⟨λ_=>rfl,λj aE=>by rw[vq bC];grind⟩,d2⟩)
     grind
   ·rename_i aY xs bR;simp only[Option.map_eq_some_iff,Prod.mk.injEq]at h;obtain⟨z,bj,rfl,_⟩:=h;obtain⟨rq,rfl⟩:=kT bj;cases rq;have t_:=ae.2 aB.symm (by rw[bR];rfl);rw[bR]at t_ aS;simp only[bP.len]at t_;simp only[jF]at aS;grind
   grind
  grind
 | sub b g aX G=>
  simp only[dy,kx,ab.eF,if_true,dV,ao.e0,ao.bL]at h;split at h
  ·rename_i aB;have aS:=M.bB b;unfold cC at aS;split at h
   ·rename_i aY xs bR;simp only[Option.map_eq_some_iff,Prod.mk.injEq]at h;obtain⟨z,bj,rfl,_⟩:=h;obtain⟨rq,rfl⟩:=kT bj;cases rq;obtain⟨⟨aQ,aV⟩,bK⟩:=ae.2 aB.symm (by rw[bR];rfl);rw[bR]at aV bK aS;simp only[bP.len,bP.eZ]at aV bK;have hlen:((xs.take G).drop aX).length=G - aX:=by grind
    rcases bK with⟨au,t_⟩ | ⟨au,my,t_,gD,gE⟩
    ·have hU:=aS.1 au;grind
    ·obtain⟨cs,hV,bC,c2,c3,c4,c5⟩:=aS.2 au;obtain⟨all,b',a2⟩:=Gh (P:=C.P) (F:=F) (w:=w) (xs:=(xs.take G).drop aX) (p:=⟨(κ b).aa,my,none⟩) (λ_=>rfl) (λi dI=>by
      rw[hlen]at dI;obtain⟨bh,d1,d2⟩:=c5 (aX+i) (by omega);refine⟨bh,⟨λ_=>rfl,λj aE=>?_⟩,?_⟩
      ·rw[vq bC,<-d1 j aE];grind
      grind)
     grind
   ·rename_i aY xs bR;simp only[Option.map_eq_some_iff,Prod.mk.injEq]at h;obtain⟨z,bj,rfl,_⟩:=h;obtain⟨rq,rfl⟩:=kT bj;cases rq;obtain⟨⟨aQ,aV⟩,bK⟩:=ae.2 aB.symm (by rw[bR];rfl);rw[bR]at aV bK aS;exact zQ (FW aS aQ aV bK)
   grind
  grind
 | dU cV y=>simp[dy,kx,ab.eF,dV,ao.none]at h
 | jE u=>simp[dy,kx,ab.eF,dV,Cm]at h
 | _=>simp[dy,kx,ab.eF,dV,ao.none]at h
theorem zR{P:Program}{w:World}{e:ab}{q:Option Addr}{n cap:Nat}{xs:List e.aj}{F:Nat->Prop}(au:n=xs.length)(h:(q=none/\xs=[]/\cap=0)\/∃ p all,q=some p/\gr P e F w all xs/\kC w p all) :
  ∃ all,(Builtin.firstCells e.size n (.slice q n cap)).run P w=.ok all.toArray w/\gr P e F w all xs:=by
 subst au;rcases h with⟨rfl,rfl,rfl⟩ | ⟨p,all,rfl,b',a2⟩
 ·exact⟨[],by rfl,by simp[gr]⟩
 ·refine⟨all,?_,b'⟩;simp only[Builtin.firstCells];rw[<-b'.1];exact F7 a2
theorem ad'(n:Nat):∀ (k c:Nat),Builtin.growBy n k c<=max c (2*n+768):=by
 intro k;induction k with
 | zero=>intro c;simp only[Builtin.growBy];omega
 | succ k aH=>
  intro c;simp only[Builtin.growBy];grind
theorem aea{Gi cap:Nat}(h:cap<Gi):Builtin.nextslicecap Gi cap<=2*Gi+768:=by
 unfold Builtin.nextslicecap;split
 ·omega
 ·split
  ·omega
  ·have:=ad' Gi 4 cap;omega
theorem aeb{z:Array Value}{n k:Nat}(h:z.size=k):(Builtin.zeroCells z n).size=n*k:=by simp[Builtin.zeroCells,h]
theorem aec{P:Program}{w:World}{e:ab}{ty mT:TypeId}{F:Nat->Prop}(h:b7 P (.slice e) ty)(ds:b7 P (.slice e) mT\/∃ aY,b7 P (.slice aY) mT){q q':Option Addr}{cap cap':Nat}{xs ys:List e.aj}
  (ah:(q=none/\xs=[]/\cap=0)\/∃ p all,q=some p/\gr P e F w all xs/\kC w p all) (aR:(q'=none/\ys=[]/\cap'=0)\/∃ p all,q'=some p/\gr P e F w all ys/\kC w p all)
  (hc:cap<xs.length+ys.length) (ai:b9 (xs.length+ys.length)) (rt:TypeId) :
  ∃ jO rr cs,(Builtin.append_ #[ty,mT] rt #[.slice q xs.length cap,.slice q' ys.length cap']).run P w=.ok (.slice (some ⟨w.heap.size,0,none⟩) (xs.length+ys.length) rr) (w.drew.alloc (.cells cs jO))/\
   rr<2 ^ 63/\xs.length+ys.length<=rr/\cs.size=rr*e.size/\lJ P e F w cs 0 (xs++ys):=by
 obtain⟨jO,aE,ja,oL⟩:=h.sl;obtain⟨kf,fR⟩:∃ kf,P.underlying mT=some (.slice kf):=by
  rcases ds with ds | ⟨aY,ds⟩
  ·obtain⟨kf,k,_⟩:=ds.sl;grind
  ·obtain⟨kf,k,_⟩:=ds.sl;grind
 obtain⟨i,z,i1,i2,i3,i4,i5,i6⟩:=kz ja.ky;have bj:=(CG e (P:=P) i5).2;have aed:∀ t:Nat,xs.length+ys.length<=xs.length+ys.length+t % (2 ^ 63 - (xs.length+ys.length))/\xs.length+ys.length+t % (2 ^ 63 - (xs.length+ys.length))<2 ^ 63:=by
  intro t;unfold b9 at ai;have:t % (2 ^ 63 - (xs.length+ys.length))<2 ^ 63 - (xs.length+ys.length):=Nat.mod_lt _ (by omega);omega
 generalize K8:xs.length+ys.length+(w.tape w.drawn (.appendCap (xs.length+ys.length) cap jO)) % (2 ^ 63 - (xs.length+ys.length))=rr;have K9:=aed (w.tape w.drawn (.appendCap (xs.length+ys.length) cap jO));rw[K8]at K9;have Sc:∀ {p:Addr} {all:List Value},kC w p all->kC w.drew p all:=λh=>h;have Sd:∀ {all:List Value} {zs:List e.aj},gr P e F w all zs->gr P e F w.drew all zs:=λh=>⟨h.1,λi G=>fb e (F:=F) (F':=F) (w:=w) (w':=w.drew) (λ_ M=>M) ⟨Nat.le_refl _,λ_ _=>rfl⟩ (h.2 i G)⟩
 have nW:(q=none/\xs=[]/\cap=0)\/∃ p all,q=some p/\gr P e F w.drew all xs/\kC w.drew p all:=ah.imp id λ⟨p,all,a,b,c⟩=>⟨p,all,a,Sd b,Sc c⟩
 have CQ:(q'=none/\ys=[]/\cap'=0)\/∃ p all,q'=some p/\gr P e F w.drew all ys/\kC w.drew p all:=aR.imp id λ⟨p,all,a,b,c⟩=>⟨p,all,a,Sd b,Sc c⟩
 obtain⟨vw,gD,gE⟩:=zR (P:=P) (w:=w.drew) (cap:=cap) rfl nW;obtain⟨ew,dN,ei⟩:=zR (P:=P) (w:=w.drew) (cap:=cap') rfl CQ;refine⟨jO,rr,vw.toArray++ew.toArray++Builtin.zeroCells z.cells (rr - (xs.length+ys.length)),?_,K9.2,K9.1,?_,?_⟩
 ·have W:=aea hc;have rs:Builtin.nextslicecap (xs.length+ys.length) cap*i.bytes<=281474976710656:=by
   unfold b9 at ai;calc Builtin.nextslicecap (xs.length+ys.length) cap*i.bytes<=(2*4294967296+768)*1024:=Nat.mul_le_mul (by omega) i3
    _<=281474976710656:=by decide
  have zS:¬((xs.length+ys.length:Nat):Int) > IntKind.i64.max:=by
   unfold b9 at ai;have:IntKind.i64.max=9223372036854775807:=by decide
   omega
  have aee:¬Builtin.nextslicecap (xs.length+ys.length) cap*i.bytes > 2 ^ 48:=by
   omega
  have Se:(Question.appendCap (xs.length+ys.length) cap jO).cut (w.tape w.drawn (.appendCap (xs.length+ys.length) cap jO))=rr:=by
   rw[<-K8];rfl
  have aef:(Question.appendCap (xs.length+ys.length) cap jO).forced=false:=rfl;simp only[Builtin.append_,List.getElem?_toArray,List.getElem?_cons_zero,List.getElem?_cons_succ,Sem.run_bind,dA aE,dA fR,Result.andThen_ok,sn i1,i2,Sem.run_pure,Builtin.lenOf,Bool.false_eq_true,if_false,if_neg (show ¬xs.length+ys.length<=cap by omega),zS,false_and,F5 i1,aee,run_choose,aef,Se,run_askRoom,Bool.not_false,if_true,World.drew_eq,gD,dN,rk i1 i4];rfl
 ·have E:=gE.1;have U:=ei.1;simp only[Array.size_append,List.size_toArray,aeb bj,E,U];rw[<-Nat.add_mul,<-Nat.add_mul];grind
 ·have jn:=gE.append ei;have aeg:gr P e F w (vw++ew) (xs++ys):=⟨jn.1,λi G=>fb e (F:=F) (F':=F) (w:=w.drew) (w':=w) (λ_ M=>M) ⟨Nat.le_refl _,λ_ _=>rfl⟩ (jn.2 i G)⟩
  exact aeg.CP (pre:=[]) (post:=(Builtin.zeroCells z.cells (rr - (xs.length+ys.length))).toList) (by simp)
end
end Go.Fer
namespace Go.Fer
open Go.RowKit
section
variable {C:b8} {T:Nat->ab} {be:Nat->Option aM} {o:Oper} {s:aA} {res:eA}
theorem bk.CR{a:Act}{w w':World}{κ:Nat->bA}{F:Nat->Prop}(h:bk C s a w κ F){b g:Nat}{e:ab}{zs:List e.aj}{k:bA}(aB:(s.aa b).gen<g)(ln:k.e5=true\/k.aa=w.heap.size)(cd:w.heap.size<=w'.heap.size)
  (nZ:∀ r,r<w.heap.size->w'.heap[r]?=w.heap[r]?) (cj:k.e5=false->k.aa<w'.heap.size) (hc:dc w w')
  (bR:∀ H κ',jF C.P H κ' F w' k (.bg e zs)):bk C (s.cw b ⟨g,.bg e zs⟩) a w' (λi=>if i=b then k else κ i) F:=by
 have ai:fp s.aa κ (λi=>if i=b then (⟨g,.bg e zs⟩:bJ) else s.aa i) (λi=>if i=b then k else κ i):=zu aB λbd dd=>by grind
 have he:c1 F w w':=⟨cd,λr M=>nZ r (h.da r M)⟩
 refine h.move (H':=λi=>if i=b then (⟨g,.bg e zs⟩:bJ) else s.aa i) ai (λ_ M=>M) (λ_ M=>.inl M) cd (λr M _=>nZ r M) hc (λ_=>?_) ?_ ?_ (λr M=>Nat.lt_of_lt_of_le (h.da r M) cd) (zv (.inr ⟨rfl,rfl⟩) λbd dd=>by grind)
 ·intro i;by_cases G:i=b
  ·subst G;simp only[cC,if_true];grind
  ·exact cC.lg (h.bB i) ai (λ_ M=>M) he (by grind) (by grind) λaf=>nZ _ (h.own i af).1
 ·intro i G;by_cases eL:i=b
  ·subst eL;simp only[if_true,bP.bY,Bool.not_eq_true']at G ⊢;have al:=ln.resolve_left (by grind);refine⟨cj G,λar=>?_,.inr (by omega)⟩;have:=h.da _ ar;omega
  ·simp only[if_neg eL]at G ⊢;have:=h.own i G;grind
 ·intro i j G aE aY;by_cases eL:i=b<;>by_cases mo:j=b
  ·omega
  ·simp only[if_pos eL,if_neg mo,bP.bY,Bool.not_eq_true']at G aE aY;have al:=ln.resolve_left (by grind);have:=(h.own j aE).1;omega
  ·simp only[if_neg eL,if_pos mo,bP.bY,Bool.not_eq_true']at G aE aY;have al:=ln.resolve_left (by grind);have:=(h.own i G).1;omega
  ·simp only[if_neg eL,if_neg mo]at G aE aY;exact h.inj i j G aE aY
theorem aeh(s:aA)(b:Nat)(x y:bJ):(s.cw b x).cw b y=s.cw b y:=by
 unfold aA.cw;grind
theorem bk.aei{a:Act}{w:World}{κ:Nat->bA}{F:Nat->Prop}(h:bk C s a w κ F){b:Nat}{e:ab}{xs:List e.aj}(W:(s.aa b).body=.bg e xs){aX G:Nat}(E:aX<=G)(U:G<=xs.length){v:Value}(aD:FU (κ b) e.size aX G v) :
  ∃ κ',bk C (s.cw b ⟨(s.aa b).gen+1,.bg e ((xs.take G).drop aX)⟩) a w κ' F/\v=(κ' b).slice ((xs.take G).drop aX).length:=by
 have hlen:((xs.take G).drop aX).length=G - aX:=by grind
 have gq:∀ κ':Nat->bA,(∀ bd,bd≠b->κ' bd=κ bd)->fp s.aa κ (λi=>if i=b then (⟨(s.aa b).gen+1,.bg e ((xs.take G).drop aX)⟩:bJ) else s.aa i) κ':=
  λκ' Ck=>zu (Nat.lt_succ_self _) Ck
 have aS:=h.bB b;unfold cC at aS;rw[W]at aS;rcases aD with⟨au,rfl⟩ | ⟨au,o,rfl,gD,gE⟩
 ·have hU:=aS.1 au;subst hU;refine⟨κ,?_,by simp[bA.slice,au]⟩;refine h.move (H':=λi=>if i=b then (⟨(s.aa b).gen+1,.bg e ((([]:List e.aj).take G).drop aX)⟩:bJ) else s.aa i) (gq κ λ_ _=>rfl) (λ_ M=>M) (λ_ M=>.inl M) (Nat.le_refl _) (λ_ _ _=>rfl) (dc.refl _) (λ_=>?_) ?_ ?_ h.da (zv (.inr ⟨rfl,rfl⟩) λ_ _=>rfl)
  ·intro i;by_cases G:i=b
   ·subst G;simp only[cC,if_true];exact⟨λ_=>by simp,λh=>by grind⟩
   ·exact cC.lg (h.bB i) (gq κ λ_ _=>rfl) (λ_ M=>M) (c1.refl _ _) (by grind) rfl λ_=>rfl
  ·intro i G;by_cases eL:i=b
   ·subst eL;simp[bP.bY,au]at G
   ·simp only[if_neg eL]at G;exact⟨(h.own i G).1,(h.own i G).2.1,.inl ⟨i,G,rfl⟩⟩
  ·intro i j G aE aY;by_cases eL:i=b
   ·subst eL;simp[bP.bY,au]at G
   ·by_cases mo:j=b
    ·subst mo;simp[bP.bY,au]at aE
    ·simp only[if_neg eL,if_neg mo]at G aE;exact h.inj i j G aE aY
 ·obtain⟨cs,hV,bC,c2,c3,c4,c5⟩:=aS.2 au;let k':bA:=⟨(κ b).aa,o,(κ b).cap - aX,false⟩
  let κ':Nat->bA:=λi=>if i=b then k' else κ i
  have CS:∀ bd,bd≠b->κ' bd=κ bd:=λbd h=>if_neg h;have zT:κ' b=k':=if_pos rfl;have gl:=h.own b (by rw[W];simp[bP.bY,au]);refine⟨κ',?_,by rw[zT,hlen];rfl⟩;refine h.move (H':=λi=>if i=b then (⟨(s.aa b).gen+1,.bg e ((xs.take G).drop aX)⟩:bJ) else s.aa i) (gq κ' CS) (λ_ M=>M) (λ_ M=>.inl M) (Nat.le_refl _) (λ_ _ _=>rfl) (dc.refl _) (λ_=>?_) ?_ ?_ h.da (zv (.inr ⟨rfl,rfl⟩) CS)
  ·intro i;by_cases dI:i=b
   ·subst dI;simp only[cC,if_true,zT];have hmul:aX*e.size<=(κ i).cap*e.size:=Nat.mul_le_mul_right _ (by omega);refine⟨λh=>(by cases h),λ_=>⟨cs,hV,bC,?_,by grind,by grind,λj aE=>?_⟩⟩
    ·simp only[k'];rw[Nat.sub_mul];omega
    ·rw[hlen]at aE;obtain⟨bh,d1,d2⟩:=c5 (aX+j) (by omega);grind
   ·exact cC.lg (h.bB i) (gq κ' CS) (λ_ M=>M) (c1.refl _ _) (by grind) (CS i dI) λ_=>rfl
  ·intro i dI;by_cases eL:i=b
   ·subst eL;rw[zT];exact⟨gl.1,gl.2.1,.inl ⟨i,by rw[W];simp[bP.bY,au],rfl⟩⟩
   ·simp only[if_neg eL]at dI;rw[CS i eL]at dI ⊢;exact⟨(h.own i dI).1,(h.own i dI).2.1,.inl ⟨i,dI,rfl⟩⟩
  ·intro i j dI aE aY;have Sf:∀ i,(κ' i).aa=(κ i).aa:=λi=>by
    grind
   have ca:∀ i,((if i=b then (⟨(s.aa b).gen+1,.bg e ((xs.take G).drop aX)⟩:bJ) else s.aa i).body.bY (κ' i)=true)->(s.aa i).body.bY (κ i)=true:=λi G=>by
    by_cases eL:i=b
    ·subst eL;rw[W];simp[bP.bY,au]
    grind
   rw[Sf,Sf]at aY;exact h.inj i j (ca i dI) (ca j aE) aY
theorem lJ.later{P:Program}{e:ab}{F:Nat->Prop}{w w':World}{cs:Array Value}{off:Nat}{xs:List e.aj}(h:lJ P e F w cs off xs)(he:c1 F w w'):lJ P e F w' cs off xs:=h.mono (λ_ M=>M) he
theorem aej(aU:dR C.P T){args:Array Operand}{dn:Array TypeId}(bf:∀ i,o.dst=some i->i<C.nt)(af:o.op=.call { callee:=.builtin .append,args:=args,argTypes:=dn })(h:(Cs T (aZ C.aN s.ay) o.dst args.toList dn.toList).run s.aa=some res):cG C o s res:=by
 obtain⟨args⟩:=args;obtain⟨dn⟩:=dn;have aq:∀ c,o.op≠.defer c:=by grind
 simp only[Cs]at h;split at h
 ·rename_i x y t u;split at h
  ·rename_i e aO aL hu;have dp:=aU.cb aL (by simp);have vs:=aU.cb hu (by simp);obtain⟨jO,aE,ja,oL⟩:=dp.sl;obtain⟨aek,fR,_⟩:=vs.sl;obtain⟨inf,z,i1,i2,i3,i4,i5,i6⟩:=kz ja.ky;have mU:∀ (a:Act) (w w':World) v,(Builtin.append_ #[t,u] o.type #[a.eval x,a.eval y]).run C.P w=.ok v w'->(execOp a.eval o).run C.P w=.ok (.value v) w':=by
    intro a w w' v ae;refine xo af ?_;simp[builtin,ae]
   have main:∀ (s:aA) (a:Act) (w:World) (κ:Nat->bA) (F:Nat->Prop) (Q:Exit->Act->World->Prop) (b g:Nat) (xs ys:List e.aj),bk C s a w κ F->
     (∃ q cap,a.eval y=.slice q ys.length cap/\((q=none/\ys=[]/\cap=0)\/∃ p all,q=some p/\gr C.P e F w all ys/\kC w p all))->
     (s.aa b).gen<g->(∃ q cap,a.eval x=.slice q xs.length cap/\((q=none/\xs=[]/\cap=0)\/∃ p all,q=some p/\gr C.P e F w all xs/\kC w p all))->
     (∀ q cap,a.eval x=.slice q xs.length cap->q≠none->xs.length+ys.length<=cap->(s.aa b).body=.bg e xs/\(κ b).e5=false/\q=some ⟨(κ b).aa,(κ b).off,none⟩/\cap=(κ b).cap)->b9 (xs.length+ys.length)->
     o.wpIn (dQ C.r) 0 C.P a w (λa' w'=>cr C ((s.cw b ⟨g,.bg e (xs++ys)⟩).set o.dst (.own b g)) a' w') Q:=by
    intro s a w κ F Q b g xs ys M n0 K_ sy ael hlen;obtain⟨q,cap,sy,K'⟩:=sy;obtain⟨q',cap',t',n0⟩:=n0;have La:∀ (κ':Nat->bA) (v:Value) (w':World),bk C (s.cw b ⟨g,.bg e (xs++ys)⟩) a w' κ' F->v=(κ' b).slice (xs++ys).length->cr C ((s.cw b ⟨g,.bg e (xs++ys)⟩).set o.dst (.own b g)) (a.put o.dst v) w':=by
     intro κ' v w' a_ ae;refine⟨κ',F,bk.set a_ bf ⟨⟨by simp[aA.cw],?_⟩,λ_ _=>?_⟩⟩
     ·rw[ae];unfold bA.slice;split<;>rfl
     ·rw[ae];simp[aA.cw,bP.len]
    by_cases xt:xs.length+ys.length<=cap
    ·cases bp:q with
     | none=>
      subst bp;obtain⟨aem,vj⟩:xs=[]/\cap=0:=by
       grind
      subst aem;subst vj;have Lb:ys=[]:=by grind
      subst Lb;obtain⟨ew,dN,ei⟩:=zR (P:=C.P) (w:=w) (cap:=cap') rfl n0;have c6:(Builtin.append_ #[t,u] o.type #[a.eval x,a.eval y]).run C.P w=.ok (.slice none 0 0) w:=by
       rw[sy,t'];simp only[List.length_nil]at dN ⊢;simp[Builtin.append_,dA aE,dA fR,sn i1,Builtin.lenOf];rw[i2,dN];simp
      refine hx aq (mU a w w _ c6) (La _ _ _ (M.CR (k:=⟨0,0,0,true⟩) K_ (.inl rfl) (Nat.le_refl _) (λ_ _=>rfl) (λh=>by cases h) (dc.refl _) λH κ'=>⟨λ_=>rfl,λh=>by cases h⟩) ?_);simp[bA.slice]
     | some Gj=>
      obtain⟨W,vv,an,xr⟩:=ael q cap sy (by grind) xt;rw[bp]at an;have an:=Option.some.inj an;subst an;subst xr;have aS:=M.bB b;unfold cC at aS;rw[W]at aS;obtain⟨cs,hV,bC,c2,c3,c4,c5⟩:=aS.2 vv;obtain⟨ew,dN,ei⟩:=zR (P:=C.P) (w:=w) (cap:=cap') rfl n0;have pB:=ei.1;have nY:∀ v∈ew,v.oneCell'=true:=by
       intro v ae;obtain⟨j,aE,rfl⟩:=List.mem_iff_getElem.1 ae;have ll:0<e.size:=Nat.pos_of_ne_zero oL;have hdiv:j / e.size<ys.length:=(Nat.div_lt_iff_lt_mul ll).2 (by omega);have nX:=ei.2 (j / e.size) hdiv;have iD:=zy (P:=C.P) (H:=λ_=>⟨0,.fx⟩) (κ:=λ_=>⟨0,0,0,true⟩) e nX;have zU:=Nat.mod_lt j ll;have aen:j / e.size*e.size+j % e.size=j:=Nat.div_add_mod' j e.size;have CT:((ew.drop (j / e.size*e.size)).take e.size).length=e.size:=hR e nX;have:=(iD.kU (j % e.size) (by rw[iD.len,CT];omega)).2;grind
      have aeo:(κ b).off+xs.length*e.size+0+ew.length<=cs.size:=by
       rw[pB];have:(xs.length+ys.length)*e.size<=(κ b).cap*e.size:=Nat.mul_le_mul_right _ xt;grind
      obtain⟨w',dh,cf,cI,er,lQ,lR,mv⟩:=vr (P:=C.P) ew ((κ b).off+xs.length*e.size) 0 w cs bC aeo nY;have c6:(Builtin.append_ #[t,u] o.type #[a.eval x,a.eval y]).run C.P w=.ok (.slice (some ⟨(κ b).aa,(κ b).off,none⟩) (xs.length+ys.length) (κ b).cap) w':=by
       rw[sy,t',bp];simp only[Builtin.append_,List.getElem?_toArray,List.getElem?_cons_zero,List.getElem?_cons_succ,Sem.run_bind,dA aE,dA fR,Result.andThen_ok,sn i1,i2,Sem.run_pure,Builtin.lenOf,Bool.false_eq_true,if_false,if_pos xt,Bool.not_false,if_true,dN,vo];simp only[cf,Result.andThen_ok]
      have gq:fp s.aa κ (λi=>if i=b then (⟨g,.bg e (xs++ys)⟩:bJ) else s.aa i) κ:=zu K_ λ_ _=>rfl;refine hx aq (mU a w w' _ c6) (La κ _ _ (M.pt (b:=b) (by rw[W];simp[bP.bY,vv]) (by simp[bP.bY,vv]) gq (λh=>by cases h) (λh=>by cases h) lQ lR mv λH mW cj he=>?_) (by simp[bA.slice,vv]));refine⟨λh=>(by grind),λ_=>?_⟩;have Gf:dh.size=cs.size:=by
       rw[<-Array.length_toList,er];grind
      refine⟨dh,hV,cI,by omega,by grind,c4,λi G=>?_⟩;simp only[Nat.add_zero]at er;have gO:(cs.toList.take ((κ b).off+xs.length*e.size)).length=(κ b).off+xs.length*e.size:=by grind
      by_cases Sg:i<xs.length
      ·obtain⟨bh,d1,d2⟩:=c5 i Sg;have ax:(xs++ys)[i]=xs[i]:=List.getElem_append_left Sg;rw[ax];refine⟨bh,λk al=>?_,fb e (λ_ M=>M) he d2⟩;have Sh:=hR e d2;have hle:(i+1)*e.size<=xs.length*e.size:=Nat.mul_le_mul_right _ (by omega);rw[Nat.add_mul]at hle;rw[<-Array.getElem?_toList,er,List.getElem?_append_left (by omega),List.getElem?_take,if_pos (by omega)];grind
      ·have dI:i - xs.length<ys.length:=by grind
       have ax:(xs++ys)[i]=ys[i - xs.length]:=List.getElem_append_right (by omega);rw[ax];have CU:=ei.CP (pre:=cs.toList.take ((κ b).off+xs.length*e.size)) (post:=cs.toList.drop ((κ b).off+xs.length*e.size+ew.length)) er;obtain⟨bh,d1,d2⟩:=CU (i - xs.length) dI;refine⟨bh,λk al=>?_,fb e (λ_ M=>M) he d2⟩;have:=d1 k al;rw[gO]at this;rw[<-this];congr 1;have:i*e.size=xs.length*e.size+(i - xs.length)*e.size:=by rw[<-Nat.add_mul];grind
       omega
    ·obtain⟨aep,rr,cs,cf,cI,er,lQ,lR⟩:=aec (P:=C.P) (w:=w) (F:=F) (cap:=cap) (cap':=cap') dp (.inr ⟨aO,vs⟩) K' n0 (by omega) hlen o.type;rw[<-sy,<-t']at cf;refine hx aq (mU a w _ _ cf) (La _ _ _ (M.CR (k:=⟨w.heap.size,0,rr,false⟩) K_ (.inr rfl) (by simp) (λr M=>?_) (λ_=>by simp) ⟨rfl,rfl,rfl⟩ λH κ'=>⟨λh=>(by cases h),λ_=>⟨cs,aep,?_,by grind,by grind,cI,?_⟩⟩) ?_)
     ·exact pr w.drew _ M
     ·exact qo w.drew _
     ·exact lR.later ⟨by simp,λr a_=>pr w.drew _ (M.da r a_)⟩
     ·simp[bA.slice]
   simp only[KG]at h;split at h
   ·rename_i b g e7;simp only[ao.e0]at h;split at h
    ·rename_i aY xs bR;split at h
     ·rename_i ru;subst ru;simp only[ao.e1,Option.bind_eq_some_iff,ao.bL,Option.some.injEq]at h;obtain⟨⟨ys,l⟩,kd,rfl⟩:=h;have aB:(s.aa b).gen=g/\(s.aa b).body=.bg aY xs:=by
       grind
      intro a w κ F Q M bb hc;have ah:bx C.P s.aa κ F w (use (aZ C.aN s.ay x)).2 (a.eval x):=cM M x rfl bb.1;have nW:=ah;rw[e7]at nW;have ae:=nW.2 aB.1.symm (by rw[aB.2];rfl);rw[aB.2]at ae;simp only[bP.len]at ae;have hU:(dy (.slice aY) (use (aZ C.aN s.ay x)).2).run s.aa=some (xs,[b]):=by
       rw[e7];simp[dy,kx,ab.eF,dV,aB.1,aB.2,eR]
      refine main s a w κ F Q b (g+1) xs ys M (sx M kd (cM M y rfl bb.2)) (by omega) (sx M hU ah) (λq cap bp Lc _=>?_) hc;rw[ae]at bp;cases au:(κ b).e5 with
      | true=>
       simp only[bA.slice,au,if_true,Value.slice.injEq]at bp;grind
      | false=>
       simp only[bA.slice,au,Bool.false_eq_true,if_false,Value.slice.injEq]at bp;grind
     ·cases h
    ·cases h
   ·rename_i b g aX G e7;simp only[ao.e0]at h;split at h
    ·rename_i aY xs bR;split at h
     ·rename_i ru;subst ru;simp only[ao.e1,Option.bind_eq_some_iff,ao.bL,Option.some.injEq]at h;obtain⟨⟨ys,l⟩,kd,rfl⟩:=h;have aB:(s.aa b).gen=g/\(s.aa b).body=.bg aY xs:=by
       grind
      intro a w κ F Q M bb hc;have ah:bx C.P s.aa κ F w (use (aZ C.aN s.ay x)).2 (a.eval x):=cM M x rfl bb.1;rw[e7]at ah;obtain⟨⟨aQ,aV⟩,bK⟩:=ah.2 aB.1.symm (by rw[aB.2];rfl);rw[aB.2]at aV bK;simp only[bP.len,bP.eZ]at aV bK;obtain⟨κ',a_,ae⟩:=M.aei aB.2 aQ aV bK;have n0:=sx M kd (cM M y rfl bb.2);have Si:(s.cw b ⟨(s.aa b).gen+1,.bg aY ((xs.take G).drop aX)⟩).aa b=⟨(s.aa b).gen+1,.bg aY ((xs.take G).drop aX)⟩:=by simp[aA.cw]
      have hU:(dy (.slice aY) (.own b (g+1))).run (s.cw b ⟨(s.aa b).gen+1,.bg aY ((xs.take G).drop aX)⟩).aa=some ((xs.take G).drop aX,[b]):=by
       simp[dy,kx,ab.eF,dV,aA.cw,aB.1,eR]
      have K':bx C.P (s.cw b ⟨(s.aa b).gen+1,.bg aY ((xs.take G).drop aX)⟩).aa κ' F w (.own b (g+1)) (a.eval x):=by
       refine⟨⟨by grind,ah.1.2⟩,λ_ _=>?_⟩;rw[Si];exact ae
      have:=main (s.cw b ⟨(s.aa b).gen+1,.bg aY ((xs.take G).drop aX)⟩) a w κ' F Q b (g+2) ((xs.take G).drop aX) ys a_ n0 (by grind) (sx a_ hU K') (λq cap bp Lc _=>?_) hc
      ·rw[aeh]at this;exact this
      ·rw[ae]at bp;cases au:(κ' b).e5 with
       | true=>
        simp only[bA.slice,au,if_true,Value.slice.injEq]at bp;grind
       | false=>
        simp only[bA.slice,au,Bool.false_eq_true,if_false,Value.slice.injEq]at bp;grind
     ·cases h
    ·cases h
   ·rename_i e7;simp only[ao.e1,Option.bind_eq_some_iff]at h;obtain⟨⟨ys,l⟩,kd,h⟩:=h;obtain⟨b,W,al⟩:=rm h;simp only[Option.some.injEq]at al;subst al;intro a w κ F Q M bb hc;have ah:bx C.P s.aa κ F w (use (aZ C.aN s.ay x)).2 (a.eval x):=cM M x rfl bb.1;rw[e7]at ah;simp only[bx]at ah;have:=main s a w κ F Q b ((s.aa b).gen+1) [] ys M (sx M kd (cM M y rfl bb.2)) (Nat.lt_succ_self _) ⟨none,0,ah,.inl ⟨rfl,rfl,rfl⟩⟩ (λq cap bp Lc _=>by grind) (by grind);exact this
   ·rename_i aY xs e7;split at h
    ·rename_i ru;subst ru;simp only[ao.e1,Option.bind_eq_some_iff]at h;obtain⟨⟨ys,l⟩,kd,h⟩:=h;obtain⟨b,W,al⟩:=rm h;simp only[Option.some.injEq]at al;subst al;intro a w κ F Q M bb hc;have ah:bx C.P s.aa κ F w (use (aZ C.aN s.ay x)).2 (a.eval x):=cM M x rfl bb.1;rw[e7]at ah;obtain⟨K1,CE,Gg⟩:=ah;have hU:(dy (.slice aY) (.val (.slice aY) xs)).run s.aa=some (xs,[]):=by
      simp[dy,eR]
     exact main s a w κ F Q b ((s.aa b).gen+1) xs ys M (sx M kd (cM M y rfl bb.2)) (Nat.lt_succ_self _) (sx M hU K1) (λq cap bp Lc xt=>by
      grind) hc.2
    ·cases h
   ·cases h
  ·cases h
 ·cases h
theorem aeq{P:Program}{F:Nat->Prop}{w:World}{all:List Value}{ys:z1'}(h:gr P (.int .u8) F w all ys):all=ys.map (Value.int .u8):=by
 obtain⟨E,U⟩:=h;have E:all.length=ys.length:=E.trans (Nat.mul_one _);apply List.ext_getElem (by simpa using E);intro i G dI;have dz:i<ys.length:=by omega
 obtain⟨e,_⟩:=U i dz;have aD:ab.size (.int .u8)=1:=rfl;rw[aD,Nat.mul_one,List.drop_eq_getElem_cons G]at e;have:=(List.cons.inj e).1;rw[this];simp
theorem Sj:∀ (ys:z1') (s:ByteArray),ys.foldl (λr n=>r.push (UInt8.ofNat n.toNat)) s=⟨s.data++(vn ys).toArray⟩
 | [],s=>by simp[vn]
 | y::ys,s=>by
  rw[List.foldl_cons,Sj ys];refine congrArg ByteArray.mk ?_;apply Array.ext';simp[vn,ByteArray.push]
theorem aer(ys:z1'):ys.foldl (λr n=>r.push (UInt8.ofNat n.toNat)) ByteArray.empty=⟨(vn ys).toArray⟩:=by
 rw[Sj];refine congrArg ByteArray.mk ?_;apply Array.ext';simp[ByteArray.empty,ByteArray.emptyWithCapacity];rfl
theorem aes(aU:dR C.P T){Ld Le:TypeId}{x:Operand}(bf:∀ i,o.dst=some i->i<C.nt)(af:o.op=.convert Ld Le x)(h:(br C.aN T be (aZ C.aN s.ay) o).run s.aa=some res):cG C o s res:=by
 simp only[br,af]at h;split at h
 ·rename_i aQ k aV n t1 t2 ah;simp only[bN,ao.bL,Option.some.injEq]at h;subst h;refine cG.pure (by grind) bf λa w κ F M bb _=>?_;have E:=oJ (cM M x rfl bb) ah;have ax:=(aU.cb t1 (by simp)).int;have aO:=(aU.cb t2 (by simp)).int;refine⟨.int k (k.wrap n),?_,gU.2 ⟨rfl,qu _ _⟩⟩;simp[execOp,af,convert,dA ax,dA aO,E.1,Conv.intToInt]
 ·rename_i t1 t2;simp only[ao.e1,Option.bind_eq_some_iff,bN,ao.bL,Option.some.injEq]at h;obtain⟨⟨ys,l⟩,kd,rfl⟩:=h;refine cG.pure (by grind) bf λa w κ F M bb _=>?_;have hu:=cM M x rfl bb;obtain⟨q,cap,ae,n0⟩:=sx M kd hu;have cj:ys.length<2 ^ 63:=by
   have E:=mr (F':=λ_=>True) M.bB (λ_ _=>trivial) kd (λ_ _ _=>trivial) hu;obtain⟨_,U⟩:=(dT rfl).1 E;obtain⟨q',cap',ax,m1,m2,_⟩:=U;have aO:=(List.cons.inj (ax.symm.trans rfl)).1;omega
  obtain⟨jO,aE,ja,_⟩:=(aU.cb t1 (by simp)).sl;have ax:=ja.int;have aO:=(aU.cb t2 (by simp)).str;refine⟨.string ⟨(vn ys).toArray⟩,?_,mm.2 ⟨rfl,by simpa [vn]using cj⟩⟩;have hc:(convert Ld Le (a.eval x)).run C.P w=.ok (.string ⟨(vn ys).toArray⟩) w:=by
   rw[ae,run_convert_bytes_string w Ld Le jO q ys.length cap aE ax aO];rcases n0 with⟨rfl,rfl,rfl⟩ | ⟨p,all,rfl,a8,oM⟩
   ·rfl
   ·have fF:all=ys.map (Value.int .u8):=aeq a8;have ai:=F7 (P:=C.P) oM;rw[fF,List.length_map]at ai;rw[run_bytesToString w p ys.length cap ys ai];refine congrArg (λs=>Result.ok (Value.string s) w) ?_;exact aer ys
  simp[execOp,af,hc]
 ·cases h
end
end Go.Fer
namespace Go.Fer
open Go.RowKit
theorem h6.zx{P:Program}{k:FuncId}{ts aW:ab}{sh Sk:ts.aj->A aW.aj}(h:h6 P k ts aW sh)(aD:∀ x,A.le (sh x) (Sk x)):h6 P k ts aW Sk where
 enter:=h.enter
 iV:=λF w args x bm gm a8 rv=>by
  obtain⟨E,U⟩:=aD x rv;exact (h.iV F w args x bm gm a8 E).mono λe w' ⟨v,y,ax,aO,cv⟩=>⟨v,y,ax,U y aO,cv⟩
def aM.sh(c:aM)(x:c.ts.aj):A c.aW.aj:=A.dP (c.pre x) (c.g x)
def aet(P:Program)(k:FuncId)(ts:ab)(x:ts.aj)(e:ab)(ys:List e.aj):Prop:=
 ∀ (F:Nat->Prop) (w:World) (args:List Value),(∀ r,F r->r<w.heap.size)->nR P F w->fo P ts F w args x->Calls P k args.toArray w λz w'=>∃ (b:bA) (F':Nat->Prop),z=.returned (b.slice ys.length)/\(∀ r,F r->F' r)/\(∀ r,F' r->F r\/(w.heap.size<=r/\r<w'.heap.size))/\
  (b.e5=true->ys=[])/\(b.e5=false->(w.heap.size<=b.aa/\b.aa<w'.heap.size/\¬F' b.aa)/\∃ cs T,w'.heap[b.aa]?=some (.cells cs T (0,0))/\b.off+b.cap*e.size<=cs.size/\ys.length<=b.cap/\b.cap<2 ^ 63/\lJ P e F' w' cs b.off ys)/\Below w.heap.size w w'
def CV(P:Program)(k:FuncId)(c:aM):Prop:=(∀ args w,(callFunc k args).run P w=.ok (.enter k args) w)/\∀ x,c.pre x->∀ y,Cu c.aW (c.g x)=some y->aet P k c.ts x y.1 y.2
def jo(P:Program)(be:Nat->Option aM):Prop:=∀ k c,be k=some c->(nU c.aW=false->h6 P k c.ts c.aW c.sh)/\(nU c.aW=true->CV P k c)
theorem aeu{t:ab}{y:t.aj}{z:(e:ab)×List e.aj}(h:Cu t y=some z):nU t=true:=by
 unfold Cu at h;unfold nU;split at h<;>simp_all
theorem aev{t:ab}{y:t.aj}(h:Cu t y=none):nU t=false:=by
 cases hc:nU t with
 | false=>rfl
 | true=>
  unfold nU at hc;split at hc
  ·cases h
  ·cases hc
theorem kg{t:ab}(aL:t.gC=true)(avs:List aG):iY t avs=(match avs with | [v]=>dy t v | _=>.none:ao (Option (t.aj×List Nat))):=by
 cases t<;>first
  | (cases aL;done)
  | (rcases avs with _ | ⟨v,_ | ⟨u,aC⟩⟩<;>rfl)
theorem vx{P:Program}{H:Nat->bJ}{κ:Nat->bA}{F F':Nat->Prop}{w:World}(aS:∀ b,cC P H κ F w b)(bm:∀ r,F r->F' r):∀ (t:ab) {avs:List aG} {aC:List Value} {x:t.aj} {l:List Nat},(iY t avs).run H=some (x,l)->
  iX H κ F' l->avs.length=aC.length->(∀ i (h:i<avs.length) (ds:i<aC.length),bx P H κ F w avs[i] aC[i])->fo P t F' w aC x:=by
 have gC:∀ (t:ab),t.gC=true->∀ {avs:List aG} {aC:List Value} {x:t.aj} {l:List Nat},(match avs with | [v]=>dy t v | _=>.none:ao (Option (t.aj×List Nat))).run H=some (x,l)->
   iX H κ F' l->avs.length=aC.length->(∀ i (h:i<avs.length) (ds:i<aC.length),bx P H κ F w avs[i] aC[i])->fo P t F' w aC x:=by
  intro t aL avs aC x l h ai hlen fF;split at h
  ·rename_i v;match aC,hlen with
   | [u],_=>
    refine (sd aL).2 ⟨u,rfl,mr aS bm h ai ?_⟩;exact fF 0 (by simp) (by simp)
  ·cases h
 intro t;induction t with
 | az a b fw eJ=>
  intro avs aC x l h ai hlen fF;match avs,aC,hlen with
  | [],_,_=>simp[iY,ao.none]at h
  | v::avs,u::aC,hlen=>
   simp only[iY,ao.e1,Option.bind_eq_some_iff,ao.bL,Option.some.injEq,Prod.mk.injEq]at h;obtain⟨⟨y,m⟩,E,⟨z,dw⟩,U,rfl,rfl⟩:=h;refine Cg.2 ⟨mr aS bm E ai.left (fF 0 (by simp) (by simp)),?_⟩;exact eJ U ai.right (by grind) λi G dI=>by
    have:=fF (i+1) (by grind) (by grind);grind
 | cS=>
  intro avs aC x l h ai hlen fF;match avs,aC,hlen with
  | [],[],_=>exact⟨rfl,rfl⟩
  | _::_,_,_=>simp[iY,ao.none]at h
 | bool=>intro avs aC x l h;rw[kg rfl]at h;exact gC _ rfl h
 | int k=>intro avs aC x l h;rw[kg rfl]at h;exact gC (.int k) rfl h
 | str=>intro avs aC x l h;rw[kg rfl]at h;exact gC _ rfl h
 | st t _=>intro avs aC x l h;rw[kg rfl]at h;exact gC (.st t) rfl h
 | slice e _=>intro avs aC x l h;rw[kg rfl]at h;exact gC (.slice e) rfl h
 | array n e _=>intro avs aC x l h;rw[kg rfl]at h;exact gC (.array n e) rfl h
 | bG e _=>intro avs aC x l h;rw[kg rfl]at h;exact gC (.bG e) rfl h
 | map k v _ _=>intro avs aC x l h;rw[kg rfl]at h;exact gC (.map k v) rfl h
 | fn a b _ _=>intro avs aC x l h;rw[kg rfl]at h;exact gC (.fn a b) rfl h
 | cq a _=>intro avs aC x l h;rw[kg rfl]at h;exact gC (.cq a) rfl h
 | en=>intro avs aC x l h;rw[kg rfl]at h;exact gC .en rfl h
theorem qy{H:Nat->bJ}:∀ (t:ab) {avs:List aG} {x:t.aj} {l:List Nat},(iY t avs).run H=some (x,l)->gN H l:=by
 have gC:∀ (t:ab),t.gC=true->∀ {avs:List aG} {x:t.aj} {l:List Nat},(match avs with | [v]=>dy t v | _=>.none:ao (Option (t.aj×List Nat))).run H=some (x,l)->gN H l:=by
  intro t _ avs x l h;split at h
  ·exact mV h
  ·cases h
 intro t;induction t with
 | az a b fw eJ=>
  intro avs x l h;match avs with
  | []=>simp[iY,ao.none]at h
  | v::avs=>
   simp only[iY,ao.e1,Option.bind_eq_some_iff,ao.bL,Option.some.injEq,Prod.mk.injEq]at h;obtain⟨⟨y,m⟩,E,⟨z,dw⟩,U,rfl,rfl⟩:=h;exact (mV E).append (eJ U)
 | cS=>
  intro avs x l h;match avs with
  | []=>
   simp only[iY,ao.bL,Option.some.injEq,Prod.mk.injEq]at h;rw[<-h.2];exact .nil H
  | _::_=>simp[iY,ao.none]at h
 | bool=>intro avs x l h;rw[kg rfl]at h;exact gC _ rfl h
 | int k=>intro avs x l h;rw[kg rfl]at h;exact gC (.int k) rfl h
 | str=>intro avs x l h;rw[kg rfl]at h;exact gC _ rfl h
 | st t _=>intro avs x l h;rw[kg rfl]at h;exact gC (.st t) rfl h
 | slice e _=>intro avs x l h;rw[kg rfl]at h;exact gC (.slice e) rfl h
 | array n e _=>intro avs x l h;rw[kg rfl]at h;exact gC (.array n e) rfl h
 | bG e _=>intro avs x l h;rw[kg rfl]at h;exact gC (.bG e) rfl h
 | map k v _ _=>intro avs x l h;rw[kg rfl]at h;exact gC (.map k v) rfl h
 | fn a b _ _=>intro avs x l h;rw[kg rfl]at h;exact gC (.fn a b) rfl h
 | cq a _=>intro avs x l h;rw[kg rfl]at h;exact gC (.cq a) rfl h
 | en=>intro avs x l h;rw[kg rfl]at h;exact gC .en rfl h
theorem aew{H:Nat->bJ}{e:ab}{ps:List (Nat×aG)}:∀ (n i:Nat) {xs:List e.aj} {l:List Nat},(tT e ps i n).run H=some (xs,l)->gN H l:=by
 intro n;induction n with
 | zero=>intro i xs l h;cases h;exact .nil H
 | succ n aH=>
  intro i xs l h;simp only[tT,ao.e1,Option.bind_eq_some_iff,ao.bL,Option.some.injEq,Prod.mk.injEq]at h;obtain⟨⟨x,m⟩,E,⟨ys,dw⟩,U,rfl,rfl⟩:=h;refine gN.append ?_ (aH (i+1) U);split at E
  ·exact mV E
  ·simp only[ao.bL,Option.some.injEq,Prod.mk.injEq]at E;rw[<-E.2];exact .nil H
theorem Sl{P:Program}{F F':Nat->Prop}{w w':World}{t:ab}{aC:List Value}{x:t.aj}(aL:t.pure=true)(h:fo P t F w aC x):fo P t F' w' aC x:=⟨h.1,adj t aL h.2⟩
theorem ua{P:Program}{H:Nat->bJ}{κ:Nat->bA}{F:Nat->Prop}{w:World}:∀ (t:ab) {aC:List Value} {y:t.aj},fo P t F w aC y->t≠.cS->aC.length=j' t/\∀ i,i<j' t->bx P H κ F w (kA t y i) (aC.getD i Go.undef):=by
 intro t;induction t with
 | az a b _ eJ=>
  intro aC y h _;obtain⟨v,us,rfl,E,U⟩:=FQ h;by_cases W:b=.cS
  ·subst W;have:us=[]:=U.1;subst this;refine⟨rfl,λi G=>?_⟩;cases i with
   | zero=>exact E
   | succ i=>simp only[j']at G;omega
  ·obtain⟨aQ,aV⟩:=eJ U W;refine⟨by simp[j',aQ],λi G=>?_⟩;cases i with
   | zero=>exact E
   | succ i=>
    have:=aV i (by simp only[j']at G;omega);simpa [kA]using this
 | cS=>simp
 | _=>
  intro aC y h _;obtain⟨v,rfl,E⟩:=(sd rfl).1 h;refine⟨rfl,λi G=>?_⟩;simp only[j']at G;have:i=0:=by omega
  subst this;exact E
theorem CW{P:Program}{H:Nat->bJ}{κ:Nat->bA}{F:Nat->Prop}{w:World}{t:ab}{v:Value}{y:t.aj}(h:tN P t F w v y):bx P H κ F w (rh t y) v:=by
 have qm:=@ua P H κ F w;obtain⟨aC,E,U⟩:=h;cases t with
 | az a b=>
  simp only[zp]at E;obtain⟨aQ,aV⟩:=qm (.az a b) U (by simp);exact⟨aC,E,aQ,aV⟩
 | cS=>exact E.1
 | _=>
  obtain⟨u,rfl,hu⟩:=(sd rfl).1 U;have:v=u:=by simpa [zp,eq_comm]using E
  rw[this];exact hu
section
variable {C:b8} {T:Nat->ab} {be:Nat->Option aM} {o:Oper} {s:aA} {res:eA}
theorem bk.grow{a:Act}{w w':World}{κ:Nat->bA}{F:Nat->Prop}(h:bk C s a w κ F)(W:Below w.heap.size w w'):bk C s a w' κ (vg F w w'):=by
 have he:c1 F w w':=⟨W.size,λr M=>W.block r (h.da r M)⟩
 refine h.move (H':=s.aa) (fp.refl _ _) (λ_ M=>.inl M) (λr M=>M.imp id λM=>.inr M.1) W.size (λr M _=>W.block r M) ⟨W.os,W.tape,W.output⟩ (λ_=>?_) ?_ h.inj ?_ (λ_ _ h=>⟨rfl,h⟩)
 ·intro b;exact cC.lg (h.bB b) (fp.refl _ _) (λ_ M=>.inl M) he rfl rfl λaf=>W.block _ (h.own b af).1
 ·intro b af;have:=h.own b af;refine⟨Nat.lt_of_lt_of_le this.1 W.size,λar=>?_,.inl ⟨b,af,rfl⟩⟩;rcases ar with ar | ⟨ar,_⟩
  ·exact this.2.1 ar
  ·omega
 ·intro r M;rcases M with M | ⟨_,M⟩
  ·exact Nat.lt_of_lt_of_le (h.da r M) W.size
  omega
theorem CX{r:Option Nat}{P:Program}{o:Oper}{a:Act}{w:World}{K:Act->World->Prop}{Q:Exit->Act->World->Prop}{f:FuncId}{args:Array Value}{R:Ending->World->Prop}(aq:∀ c,o.op≠.defer c)
  (h:(execOp a.eval o).run P w=.ok (.enter f args) w) (hc:Calls P f args w R) (al:∀ e w',R e w'->∃ v,e=.returned v/\K (a.put o.dst v) w'):o.wpIn (dQ r) 0 P a w K Q:=by
 refine⟨λ_ _=>trivial,?_⟩;rw[zH aq,h];refine⟨λaD=>(by cases aD),?_⟩;have E:CallsIn Fence.wide 0 P f args w R:=callsIn_wide.2 hc;have U:CallsIn (dQ r) 0 P f args w R:=by
  cases r with
  | none=>exact E
  | some l=>exact CallsIn.inRound l E
 refine U.mono λe w' he=>?_;grind
theorem Sm{a:Act}{w:World}{κ:Nat->bA}{F:Nat->Prop}{ts:ab}(M:bk C s a w κ F){args:Array Operand}(bb:jK (args.toList.map (aZ C.aN s.ay))){x:ts.aj}{l:List Nat}
  (ah:(iY ts ((args.toList.map (aZ C.aN s.ay)).map λv=>(use v).2)).run s.aa=some (x,l)):∃ F',(∀ r,F r->F' r)/\bk C (s.cy l) a w κ F'/\fo C.P ts F' w (args.toList.map a.eval) x:=by
 obtain⟨args⟩:=args;obtain⟨F',f1,a_,f2⟩:=bk.lk (qy ts ah) M;refine⟨F',f1,a_,vx M.bB f1 ts ah f2 (by simp) λi G dI=>?_⟩;simp only[List.getElem_map];have dz:i<args.length:=by grind
 have E:=sq bb i (by grind);have ax:(args.map (aZ C.aN s.ay)).getD i .undef=aZ C.aN s.ay args[i]:=by grind
 rw[show (List.map (aZ C.aN s.ay) (⟨args⟩:Array Operand).toList)=args.map (aZ C.aN s.ay) from rfl,ax]at E;exact pw (kc M args[i]) E
theorem Sn{a:Act}{w:World}{κ:Nat->bA}{F:Nat->Prop}{Q:Exit->Act->World->Prop}{K:Act->World->Prop}{k:FuncId}{ts aW:ab}{sh:ts.aj->A aW.aj}(M:bk C s a w κ F)(ar:h6 C.P k ts aW sh)
  (bf:∀ i,o.dst=some i->i<C.nt) {args:Array Operand} {dn:Array TypeId} (af:o.op=.call { callee:=.value (.func k),args:=args,argTypes:=dn }) (bb:jK (args.toList.map (aZ C.aN s.ay))) {x:ts.aj} {l:List Nat}
  (ah:(iY ts ((args.toList.map (aZ C.aN s.ay)).map λv=>(use v).2)).run s.aa=some (x,l)) (aD:(sh x).b1)
  (al:∀ y w',(sh x).bQ y->∀ v,cr C ((if aW.pure then s else s.cy l).set o.dst (rh aW y)) (a.put o.dst v) w'->K (a.put o.dst v) w'):o.wpIn (dQ C.r) 0 C.P a w K Q:=by
 have aq:∀ c,o.op≠.defer c:=by grind
 obtain⟨args⟩:=args;have c6:(execOp a.eval o).run C.P w=.ok (.enter k (args.map a.eval).toArray) w:=by
  simp only[execOp,af,Sem.run_bind,resolve,Act.eval,Deferred.ofValue,Sem.run_pure,Result.andThen_ok,invoke];have:=ar.enter (args.map a.eval).toArray w;grind
 obtain⟨F',f1,a_,dW⟩:=Sm M bb ah;refine CX aq c6 (ar.iV F' w _ x a_.da a_.iC dW aD) λe w' ⟨v,y,he,aR,gn,W⟩=>⟨v,he,al y w' aR v ?_⟩
 by_cases an:aW.pure=true
 ·rw[if_pos an];have aB:=M.grow W;refine⟨κ,_,aB.set bf (CW ?_)⟩;obtain⟨aC,df,dJ⟩:=gn;exact⟨aC,df,Sl an dJ⟩
 ·rw[if_neg an];have aB:=a_.grow W;exact⟨κ,_,aB.set bf (CW gn)⟩
theorem bk.hH{a:Act}{w w':World}{κ:Nat->bA}{F F':Nat->Prop}(h:bk C s a w κ F){b g:Nat}{e:ab}{ys:List e.aj}{k:bA}(Cl:b<eP)(aB:(s.aa b).gen<g)(W:Below w.heap.size w w')
  (bm:∀ r,F r->F' r) (tM:∀ r,F' r->F r\/(w.heap.size<=r/\r<w'.heap.size)) (E:k.e5=true->ys=[])
  (U:k.e5=false->(w.heap.size<=k.aa/\k.aa<w'.heap.size/\¬F' k.aa)/\∃ cs T,w'.heap[k.aa]?=some (.cells cs T (0,0))/\k.off+k.cap*e.size<=cs.size/\ys.length<=k.cap/\k.cap<2 ^ 63/\lJ C.P e F' w' cs k.off ys) :
  bk C (s.cw b ⟨g,.bg e ys⟩) a w' (λi=>if i=b then k else κ i) F':=by
 have ai:fp s.aa κ (λi=>if i=b then ⟨g,.bg e ys⟩ else s.aa i) (λi=>if i=b then k else κ i):=zu aB λbd dd=>by grind
 refine h.move (H':=λi=>if i=b then ⟨g,.bg e ys⟩ else s.aa i) ai bm (λr M=>(tM r M).imp id λh=>.inr h.1) W.size (λr M _=>W.block r M) ⟨W.os,W.tape,W.output⟩ (λhe=>?_) ?_ ?_ ?_ (zv (.inl Cl) λbd dd=>by grind)
 ·intro i;by_cases G:i=b
  ·subst G;simp only[cC,if_true];exact⟨E,λau=>(U au).2⟩
  ·refine cC.lg (h.bB i) ai bm he (by grind) (by grind) λaf=>?_;exact W.block _ (h.own i af).1
 ·intro i G;by_cases eL:i=b
  ·subst eL;simp only[if_true,bP.bY,Bool.not_eq_true']at G ⊢;obtain⟨⟨aQ,aV,bK⟩,_⟩:=U G;exact⟨aV,bK,.inr aQ⟩
  ·simp only[if_neg eL]at G ⊢;have:=h.own i G;refine⟨Nat.lt_of_lt_of_le this.1 W.size,λar=>?_,.inl ⟨i,G,rfl⟩⟩;rcases tM _ ar with ar | ar
   ·exact this.2.1 ar
   ·omega
 ·intro i j G aE aY;by_cases eL:i=b<;>by_cases mo:j=b
  ·omega
  ·simp only[if_pos eL,if_neg mo,bP.bY,Bool.not_eq_true']at G aE aY;have:=(h.own j aE).1;have:=(U G).1.1;omega
  ·simp only[if_neg eL,if_pos mo,bP.bY,Bool.not_eq_true']at G aE aY;have:=(h.own i G).1;have:=(U aE).1.1;omega
  ·simp only[if_neg eL,if_neg mo]at G aE aY;exact h.inj i j G aE aY
 ·intro r M;rcases tM r M with ds | ds
  ·exact Nat.lt_of_lt_of_le (h.da r ds) W.size
  ·exact ds.2
theorem aex(cz:jo C.P be){k:FuncId}{args:Array Operand}{dn:Array TypeId}(bf:∀ i,o.dst=some i->i<C.nt)(af:o.op=.call { callee:=.value (.func k),args:=args,argTypes:=dn })(h:(br C.aN T be (aZ C.aN s.ay) o).run s.aa=some res):cG C o s res:=by
 simp only[br,af,mS,F2]at h;split at h
 ·rename_i c hc;simp only[ao.e1,Option.bind_eq_some_iff]at h;obtain⟨⟨x,l⟩,ah,h⟩:=h;split at h
  ·rename_i y aR;simp only[ao.run_bind]at h;obtain⟨d,aq,h⟩:=rm h;split at h
   ·cases h
   rename_i ub;cases h;have ub:d ∉ l:=by simpa using ub
   have Lf:=bf d aq;intro a w κ F Q M bb gO;obtain⟨aQ,aV⟩:=(cz k c hc).2 (aeu aR);obtain⟨F',f1,a_,dW⟩:=Sm M bb ah;have c6:(execOp a.eval o).run C.P w=.ok (.enter k (args.map a.eval)) w:=by
    simp only[execOp,af,Sem.run_bind,resolve,Act.eval,Deferred.ofValue,Sem.run_pure,Result.andThen_ok,invoke];have:=aQ (args.map a.eval) w;grind
   have jq:=aV x gO y aR F' w _ a_.da a_.iC dW;rw[show (args.toList.map a.eval).toArray=args.map a.eval from by rw[<-Array.toList_map,Array.toArray_toList]]at jq;refine CX (by grind) c6 jq λz w' ⟨b,ej,bj,g1,eh,g3,g4,g5⟩=>⟨_,bj,?_⟩
   have zV:(s.cy l).aa d=s.aa d:=by simp[aA.cy,ub]
   have jn:=a_.hH (b:=d) (g:=(s.aa d).gen+1) (e:=y.1) (ys:=y.2) (k:=b) (Nat.lt_of_lt_of_le Lf M.gj) (by rw[zV];omega) g5 g1 eh g3 g4;refine⟨λi=>if i=d then b else κ i,ej,?_⟩;simp only[aA.h_];rw[CF,tW];refine jn.set bf ⟨⟨by simp[aA.cw],by unfold bA.slice;split<;>rfl⟩,λ_ _=>by simp[aA.cw,bP.len]⟩
  rename_i aR;simp only[ao.run_bind,ao.bL,Option.some.injEq]at h;subst h;intro a w κ F Q M bb gO;refine Sn M ((cz k c hc).1 (aev aR)) bf af bb ah gO λy w' aR v kh=>?_;have aR:y=c.g x:=aR;subst aR;have e:∀ (r:ao (List (Nat×bJ))),r=(if c.aW.pure then .ret [] else jJ l)->s.fZ (r.run s.aa)=(if c.aW.pure then s else s.cy l):=by
   intro r M;subst M;split
   ·rfl
   ·exact tW s l
  simp only[aA.h_];grind
 ·cases h
theorem Sp{P:Program}{H:Nat->bJ}{κ:Nat->bA}{F F':Nat->Prop}{w:World}(aS:∀ b,cC P H κ F w b)(bm:∀ r,F r->F' r){e:ab}{zero:List Value}(bj:bH P e F' w zero e.de){ps:List (Nat×aG)}{qs:List (Nat×Value)}(hlen:ps.length=qs.length)
  (fF:∀ i (h:i<ps.length) (ds:i<qs.length),ps[i].1=qs[i].1/\bx P H κ F w ps[i].2 qs[i].2):∀ (n i:Nat) {xs:List e.aj} {l:List Nat},(tT e ps i n).run H=some (xs,l)->
  iX H κ F' l->xs.length=n/\∀ j (h:j<xs.length),∃ bh,bH P e F' w bh xs[j]/\(match qs.find? (λp=>p.1 == i+j) with | some q=>bh=q.2.cells.toList | none=>bh=zero):=by
 have find:∀ (ps:List (Nat×aG)) (qs:List (Nat×Value)),ps.length=qs.length->(∀ i (h:i<ps.length) (ds:i<qs.length),ps[i].1=qs[i].1/\bx P H κ F w ps[i].2 qs[i].2)->∀ i,(ps.find? (λp=>p.1 == i)=none/\qs.find? (λp=>p.1 == i)=none)\/∃ p q,ps.find? (λp=>p.1 == i)=some p/\qs.find? (λp=>p.1 == i)=some q/\bx P H κ F w p.2 q.2:=by
  intro ps;induction ps with
  | nil=>grind
  | cons p ps aH=>
   intro qs ai h i;cases qs with
   | nil=>grind
   | cons q qs=>
    have aT:=h 0 (by simp) (by simp);simp only[List.getElem_cons_zero]at aT;by_cases an:p.1=i
    ·grind
    ·have bp:q.1≠i:=by omega
     have:=aH qs (by grind) (λj aE fR=>by have:=h (j+1) (by grind) (by grind);grind) i;grind
 intro n;induction n with
 | zero=>intro i xs l h _;cases h;simp
 | succ n aH=>
  intro i xs l h ai;simp only[tT,ao.e1,Option.bind_eq_some_iff,ao.bL,Option.some.injEq,Prod.mk.injEq]at h;obtain⟨⟨x,m⟩,E,⟨ys,dw⟩,U,rfl,rfl⟩:=h;obtain⟨aQ,aV⟩:=aH (i+1) U ai.right;refine⟨by grind,λj aE=>?_⟩;cases j with
  | zero=>
   rcases find ps qs hlen fF i with⟨f1,f2⟩ | ⟨p,q,f1,f2,f3⟩
   ·rw[f1]at E;simp only[ao.bL,Option.some.injEq,Prod.mk.injEq]at E;grind
   ·rw[f1]at E;refine⟨q.2.cells.toList,(mr aS bm E ai.left f3).2,?_⟩;grind
  | succ j=>
   obtain⟨bh,d1,d2⟩:=aV j (by grind);grind
end
end Go.Fer
namespace Go.Fer
open Go.RowKit
def sz(d:Nat)(em:Bool)(xs:Array Value):List Field->Sem Unit
 | []=>pure ()
 | f::eS=>
  if f.name ≠ "_" then do
   let a <-part f.type xs f.offset
   Instr.checkKey em d f.type a
   sz d em xs eS
  else sz d em xs eS
theorem aey{P:Program}(w:World)(em:Bool)(d:Nat)(t:TypeId)(xs:Array Value)(aL:P.underlying t=some (.struct (P.fieldsOf t))) :
  (Instr.checkKey em (d+1) t (.agg xs)).run P w=(sz d em xs (P.fieldsOf t).toList).run P w:=by
 simp only[Instr.checkKey,Sem.run_bind,dA aL,Result.andThen_ok];rw[<-Array.forIn_toList];generalize (P.fieldsOf t).toList=eS;clear aL;induction eS generalizing w with
 | nil=>rfl
 | cons f eS aH=>
  simp only[List.forIn_cons,sz,Sem.run_bind,Sem.run_ite];split
  ·generalize (part f.type xs f.offset).run P w=cf;cases cf with
   | ok a b_=>
    simp only[Result.andThen_ok];generalize (Instr.checkKey em d f.type a).run P b_=cI;cases cI with
    | ok b c7=>
     simp_all
    | halt x c7=>rfl
   | halt x b_=>rfl
  simp_all
theorem CY{P:Program}{F:Nat->Prop}{w:World}{em:Bool}:∀ (t:ab) (d:Nat),t.kV=true->t.ka<=d->
  (∀ {id:TypeId} {v:Value} {x:t.aj},b7 P t id->eo P t F w v x->(Instr.checkKey em d id v).run P w=.ok () w)/\
  (∀ {l:List Field} {off:Nat} {xs:Array Value} {p c q:List Value} {x:t.aj},cD P t (.inr (l,off))=true->xs.toList=p++(c++q)->p.length=off->bH P t F w c x->
   (sz d em xs l).run P w=.ok () w):=by
 intro t;induction t with
 | bool=>
  intro d _ aq;refine⟨λ{id v x} h E=>?_,λh=>by simp[cD]at h⟩;rw[fc.1 E];obtain⟨d,rfl⟩:∃ e,d=e+1:=⟨d - 1,by simp only[ab.ka]at aq;omega⟩
  unfold b7 at h;simp only[cD,Bool.and_eq_true]at h;obtain⟨_,h⟩:=h;split at h
  ·rename_i hu;simp[Instr.checkKey,dA hu]
  grind
 | int k=>
  intro d _ aq;refine⟨λ{id v x} h E=>?_,λh=>by simp[cD]at h⟩;rw[(gU.1 E).1];obtain⟨d,rfl⟩:∃ e,d=e+1:=⟨d - 1,by simp only[ab.ka]at aq;omega⟩
  simp[Instr.checkKey,dA (b7.int h)]
 | str=>
  intro d _ aq;refine⟨λ{id v x} h E=>?_,λh=>by simp[cD]at h⟩;rw[(mm.1 E).1];obtain⟨d,rfl⟩:∃ e,d=e+1:=⟨d - 1,by simp only[ab.ka]at aq;omega⟩
  simp[Instr.checkKey,dA (b7.str h)]
 | cS=>intro d h;cases h
 | slice e _=>intro d h;cases h
 | array n e _=>intro d h;cases h
 | bG e _=>intro d h;cases h
 | map k v _ _=>intro d h;cases h
 | fn a b _ _=>intro d h;cases h
 | cq a _=>intro d h;cases h
 | en=>intro d h;cases h
 | az a b fw eJ=>
  intro d hc aq;simp only[ab.kV,Bool.and_eq_true]at hc;simp only[ab.ka]at aq;have KO:=fw d hc.1 (by omega);have po:=eJ d hc.2 (by omega);refine⟨λh=>by unfold b7 at h;simp[cD]at h,?_⟩;intro l off xs p c q x h ah an py;simp only[bH]at py;obtain⟨bC,c2,rfl,aQ,aV⟩:=py;have ey:=hR a aQ;have step : ∀ (f : Field) (ck : List Field), f.offset = off -> b7 P a f.type -> f.name ≠ "_" -> (sz d em xs (f :: ck)).run P w = (sz d em xs ck).run P w := by
   intro f ck af ar au;obtain⟨v,cf,cI⟩:=rl (cs:=xs) (p:=p) (c:=bC) (q:=c2++q) ar (by grind) aQ;simp only[sz,au,ne_eq,not_false_eq_true,if_true,Sem.run_bind];rw[af,<-an,cf,Result.andThen_ok,KO.1 ar cI,Result.andThen_ok]
  match l,h with
  | [],h=>rfl
  | [f],h=>simp only[cD,Bool.false_eq_true]at h
  | [f,g],h=>
   simp only[cD,Bool.and_eq_true,beq_iff_eq,bne_iff_ne,ne_eq]at h;obtain⟨⟨⟨⟨E,U⟩,ag⟩,a6⟩,⟨⟨⟨bM,dt⟩,gK⟩,iU⟩⟩:=h;rw[step f [g] E U a6];obtain⟨v,cf,cI⟩:=rl (cs:=xs) (p:=p++bC) (c:=c2) (q:=q) dt (by grind) aV;have ax:(p++bC).length=g.offset:=by grind
   rw[ax]at cf;simp only[sz,iU,ne_eq,not_false_eq_true,if_true,Sem.run_bind,cf,Result.andThen_ok,po.1 dt cI,Sem.run_pure]
  | f::g::i::l,h=>
   simp only[cD,Bool.and_eq_true,beq_iff_eq,bne_iff_ne,ne_eq]at h;obtain⟨⟨⟨⟨E,U⟩,ag⟩,a6⟩,bM⟩:=h;rw[step f _ E U a6,po.2 bM (p:=p++bC) (c:=c2) (q:=q) (by grind) (by grind) aV]
 | st t aH=>
  intro d hc aq;simp only[ab.ka]at aq;obtain⟨d,rfl⟩:∃ e,d=e+1:=⟨d - 1,by omega⟩
  refine⟨λ{id v x} h E=>?_,λh=>by simp[cD]at h⟩;have i:=aH d hc (by omega);obtain⟨ax,aO,cv,ec⟩:=h.Cy;obtain⟨⟨xs,rfl,hU⟩,py⟩:=E;simp only[Value.cells,bH]at py;rw[aey w em d id xs ec];rcases cv with cv | ⟨f,cv,gV,j7,so⟩ | ⟨rfl,cv⟩
  ·exact i.2 cv (p:=[]) (c:=xs.toList) (q:=[]) (by simp) rfl py
  ·rw[cv];obtain⟨v,cf,cI⟩:=rl (cs:=xs) (p:=[]) (c:=xs.toList) (q:=[]) j7 (by simp) py;simp only[List.length_nil]at cf;simp only[sz,so,ne_eq,not_false_eq_true,if_true,Sem.run_bind,gV,cf,Result.andThen_ok,i.1 j7 cI,Sem.run_pure]
  ·cases hc
theorem Lg:∀ (t:ab),t.kV=true->∀ (x y:t.aj),gM t x y=true<->x=y:=by
 intro t;induction t with
 | bool=>intro _ x y;simp[gM]
 | int k=>intro _ x y;simp[gM]
 | str=>intro _ x y;simp[gM]
 | st t aH=>intro h x y;exact aH h x y
 | az a b fw eJ=>
  intro h x y;simp only[ab.kV,Bool.and_eq_true]at h;simp only[gM,Bool.and_eq_true,fw h.1,eJ h.2];grind
 | _=>intro h;cases h
def zW{k:ab}{β:Type}(x:k.aj)(es:List MapEntry)(xs:List (k.aj×β))(i:Nat)(r:Option (Nat×Value)):Prop:=
 (r=none/\∀ p∈xs,gM k x p.1=false)\/∃ j e p,es[j]?=some e/\xs[j]?=some p/\gM k x p.1=true/\(∀ kf q,kf<j->xs[kf]?=some q->gM k x q.1=false)/\r=some (i+j,e.val)
theorem zW.next{k:ab}{β:Type}{x:k.aj}{e:MapEntry}{es:List MapEntry}{p:k.aj×β}{xs:List (k.aj×β)}{i:Nat}{r:Option (Nat×Value)}(h:zW x es xs (i+1) r)(an:gM k x p.1=false):zW x (e::es) (p::xs) i r:=by
 rcases h with⟨E,U⟩ | ⟨j,aY,p',E,U,ag,a6,bM⟩
 ·exact .inl ⟨E,λq bp=>by
   grind⟩
 ·refine .inr ⟨j+1,aY,p',by grind,by grind,ag,λkf q fR bp=>?_,by grind⟩;grind
theorem Sq{P:Program}{F:Nat->Prop}{w:World}{k:ab}{β:Type}(hc:k.kV=true)(au:k.ka<=10000){lo:TypeId}(al:b7 P k lo){uc:Value}{x:k.aj}(ah:eo P k F w uc x):∀ (es:List MapEntry) (xs:List (k.aj×β)) (i:Nat),es.length=xs.length->(∀ (j:Nat) (e:MapEntry) (p:k.aj×β),es[j]?=some e->xs[j]?=some p->eo P k F w e.key p.1)->∃ r,(Instr.findAsking lo uc es i).run P w=.ok r w/\zW x es xs i r
 | [],[],i,_,_=>⟨none,rfl,.inl ⟨rfl,λp an=>by cases an⟩⟩
 | e::es,p::xs,i,ai,h=>by
  have aT:=h 0 e p rfl rfl;have he:=(KN k 10000 hc au).1 al ah aT;obtain⟨r,cf,cI⟩:=Sq (β:=β) hc au al ah es xs (i+1) (by grind) λj aY p' E U=>h (j+1) aY p' (by grind) (by grind);cases bp:gM k x p.1 with
  | true=>
   refine⟨some (i,e.val),by simp[Instr.findAsking,Op.equal,Op.maxDepth,he,bp],.inr ⟨0,e,p,rfl,rfl,bp,λkf q fR=>by omega,rfl⟩⟩
  | false=>exact⟨r,by simp[Instr.findAsking,Op.equal,Op.maxDepth,he,bp,cf],cI.next bp⟩
theorem Sr{P:Program}{F:Nat->Prop}{w:World}{k:ab}{lo:TypeId}(al:b7 P k lo){d:TypeDesc}(aq:P.underlying lo=some d){u v:Value}{x y:k.aj}(hu:eo P k F w u x)(ae:eo P k F w v y){b:Bool}(h:Instr.sameNow d u v=some b):b=gM k x y:=by
 cases k with
 | bool=>
  rw[fc.1 hu,fc.1 ae]at h;cases d<;>simp only[Instr.sameNow,Option.some.injEq,reduceCtorEq]at h;rw[<-h];rfl
 | int k=>
  rw[(gU.1 hu).1,(gU.1 ae).1]at h;cases d<;>simp only[Instr.sameNow,if_true,Option.some.injEq,reduceCtorEq]at h;rw[<-h];rfl
 | str=>
  rw[(mm.1 hu).1,(mm.1 ae).1]at h;cases d<;>simp only[Instr.sameNow,Option.some.injEq,reduceCtorEq]at h;rw[<-h,beq_toListBytes,ByteArray.toList_eq,ByteArray.toList_eq];simp only[gM];grind
 | st t=>
  obtain⟨⟨us,rfl,_⟩,_⟩:=hu;cases d<;>cases v<;>simp[Instr.sameNow]at h
 | array n t=>
  obtain⟨⟨us,rfl,_⟩,_⟩:=hu;cases d<;>cases v<;>simp[Instr.sameNow]at h
 | cS=>exact hu.1.elim
 | az a b=>exact hu.1.elim
 | slice e=>
  obtain⟨_,a,cap,ax,_⟩:=(dT rfl).1 hu;obtain rfl:=(List.cons.inj ax).1;cases d<;>simp[Instr.sameNow]at h
 | bG e=>
  obtain⟨_,ah⟩:=(dT rfl).1 hu;rcases ah with⟨ax,_⟩ | ⟨p,y,bh,ax,_⟩<;>(obtain rfl:=(List.cons.inj ax).1;cases d<;>simp[Instr.sameNow]at h)
 | map k' h7=>
  obtain⟨_,ah⟩:=(dT rfl).1 hu;rcases ah with⟨ax,_⟩ | ⟨r,es,clk,ax,_⟩<;>(obtain rfl:=(List.cons.inj ax).1;cases d<;>simp[Instr.sameNow]at h)
 | fn a b=>
  obtain⟨i,z,E,U,ag,a6,bM,dt⟩:=kz al.ky;unfold b7 at al;simp only[cD,Bool.and_eq_true,aq]at al;cases d<;>simp[Instr.sameNow]at al h
 | cq a=>
  obtain⟨i,z,E,U,ag,a6,bM,dt⟩:=kz al.ky;unfold b7 at al;simp only[cD,Bool.and_eq_true,aq]at al;cases d<;>simp[Instr.sameNow]at al h
 | en=>
  obtain⟨i,z,E,U,ag,a6,bM,dt⟩:=kz al.ky;unfold b7 at al;simp only[cD,Bool.and_eq_true,aq]at al;cases d<;>simp[Instr.sameNow]at al h
theorem Ss{P:Program}{F:Nat->Prop}{w:World}{k:ab}{β:Type}{lo:TypeId}(al:b7 P k lo){d:TypeDesc}(aq:P.underlying lo=some d){uc:Value}{x:k.aj}(ah:eo P k F w uc x):∀ (es:List MapEntry) (xs:List (k.aj×β)) (i:Nat) {r:Option (Nat×Value)},es.length=xs.length->(∀ (j:Nat) (e:MapEntry) (p:k.aj×β),es[j]?=some e->xs[j]?=some p->eo P k F w e.key p.1)->Instr.findNow d uc es i=some r->zW x es xs i r
 | [],[],i,r,_,_,h=>by cases h;exact .inl ⟨rfl,λp an=>by cases an⟩
 | e::es,p::xs,i,r,ai,h,ar=>by
  have aT:=h 0 e p rfl rfl;simp only[Instr.findNow]at ar;split at ar
  ·rename_i aD;have:=Sr al aq ah aT aD;cases ar;exact .inr ⟨0,e,p,rfl,rfl,this.symm,λkf q fR=>by omega,rfl⟩
  ·rename_i aD;have:=Sr al aq ah aT aD;exact (Ss al aq ah es xs (i+1) (by grind) (λj aY p' E U=>h (j+1) aY p' (by grind) (by grind)) ar).next this.symm
  grind
theorem b7.aez{P:Program}{t:ab}{id:TypeId}(h:b7 P t id)(hc:t.kV=true):∃ d,P.underlying id=some d:=by
 cases t with
 | bool=>
  unfold b7 at h;simp only[cD,Bool.and_eq_true]at h;grind
 | int k=>exact⟨_,b7.int h⟩
 | str=>exact⟨_,b7.str h⟩
 | st t=>exact⟨_,h.Cy.2.2.2⟩
 | az a b=>unfold b7 at h;simp[cD]at h
 | _=>cases hc
theorem xu{P:Program}{F:Nat->Prop}{w:World}{k:ab}{β:Type}(hc:tU k=true){lo:TypeId}(al:b7 P k lo){uc:Value}{x:k.aj}(ah:eo P k F w uc x){es:List MapEntry}{xs:List (k.aj×β)}
  (ai:es.length=xs.length) (h:∀ (j:Nat) (e:MapEntry) (p:k.aj×β),es[j]?=some e->xs[j]?=some p->eo P k F w e.key p.1):∃ r,(Instr.findKey lo uc es).run P w=.ok r w/\zW x es xs 0 r:=by
 simp only[tU,Bool.and_eq_true,decide_eq_true_eq]at hc;obtain⟨d,aq⟩:=al.aez hc.1;simp only[Instr.findKey,Sem.run_bind,dA aq,Result.andThen_ok];cases au:Instr.findNow d uc es 0 with
 | some r=>exact⟨r,rfl,Ss al aq ah es xs 0 ai h au⟩
 | none=>exact Sq hc.1 (by omega) al ah es xs 0 ai h
theorem St{k v:ab}{es:List (k.aj×v.aj)}{x:k.aj}:∀ {j:Nat} {p:k.aj×v.aj},es[j]?=some p->gM k x p.1=true->(∀ kf q,kf<j->es[kf]?=some q->gM k x q.1=false)->zC es x=some p.2/\∀ y,lN es x y=es.set j (p.1,y):=by
 induction es with
 | nil=>simp
 | cons q es aH=>
  intro j p E U ag;cases j with
  | zero=>
   simp at E;subst E;exact⟨by simp[zC,U],λy=>by simp[lN,U]⟩
  | succ j=>
   have aT:=ag 0 q (by omega) rfl;obtain⟨aQ,aV⟩:=aH (j:=j) (p:=p) (by grind) U λkf q' fR tZ=>ag (kf+1) q' (by omega) (by grind);exact⟨by simpa [zC,List.find?_cons,aT]using aQ,λy=>by simp[lN,aT,aV y]⟩
theorem Su{k v:ab}{es:List (k.aj×v.aj)}{x:k.aj}(h:∀ p∈es,gM k x p.1=false):zC es x=none/\∀ y,lN es x y=es++[(x,y)]:=by
 induction es with
 | nil=>exact⟨rfl,λ_=>rfl⟩
 | cons q es aH=>
  have aT:=h q (by simp);obtain⟨aQ,aV⟩:=aH λp an=>h p (by grind);exact⟨by simpa [zC,List.find?_cons,aT]using aQ,λy=>by simp[lN,aT,aV y]⟩
section
variable {C:b8} {T:Nat->ab} {be:Nat->Option aM} {o:Oper} {s:aA} {res:eA}
theorem aeA{P:Program}{F:Nat->Prop}{w:World}{v:ab}{z:Value}(ae:v.eF=true\/v.isAgg=true)(i5:j_ v z.cells.toList=some [])(i6:(∃ cs,z=.agg cs)<->v.isAgg=true):eo P v F w z v.de:=by
 obtain⟨c,e,ke,z2⟩:=vl (P:=P) (H:=λ_=>⟨0,.fx⟩) (κ:=λ_=>⟨0,0,0,true⟩) (F:=F) (w:=w) v i5;rw[List.append_nil]at e;refine⟨?_,by grind⟩;have ai:=hR v ke;rcases ae with ae | ae
 ·obtain⟨u,rfl,hu⟩:=Ch ae ke;have Ge:∀ cs,z≠.agg cs:=λcs bj=>by
   have:=i6.1 ⟨cs,bj⟩;cases v<;>simp[ab.eF,ab.isAgg]at ae this
  have bj:z.cells=#[z]:=by
   cases z<;>first | rfl | grind
  cases v<;>simp only[ab.eF,Bool.false_eq_true]at ae<;>exact bj
 ·obtain⟨cs,rfl⟩:=i6.2 ae;have aY:cs.toList=c:=e;cases v<;>simp only[ab.isAgg,Bool.false_eq_true]at ae
  ·exact⟨cs,rfl,by rw[<-Array.length_toList,aY,ai];rfl⟩
  ·exact⟨cs,rfl,by rw[<-Array.length_toList,aY,ai];rfl⟩
def Lh(P:Program)(k v:ab)(F:Nat->Prop)(w:World)(ms:List MapEntry)(xs:List (k.aj×v.aj)):Prop:=
 ms.length=xs.length/\∀ (j:Nat) (e:MapEntry) (p:k.aj×v.aj),ms[j]?=some e->xs[j]?=some p->eo P k F w e.key p.1/\eo P v F w e.val p.2
theorem vh.es{P:Program}{k v:ab}{F:Nat->Prop}{w:World}{ms:Array MapEntry}{clk:Nat}{xs:List (k.aj×v.aj)}(h:vh P k v F w ms clk xs):Lh P k v F w ms.toList xs:=by
 obtain⟨E,U,ag,a6⟩:=h;refine⟨by omega,λj e p he an=>?_⟩;obtain⟨aE,rfl⟩:=List.getElem?_eq_some_iff.1 an;obtain⟨fR,rfl⟩:=List.getElem?_eq_some_iff.1 he;obtain⟨a,b,c,d,_⟩:=ag j aE (by omega);exact⟨⟨a,by grind⟩,c,by grind⟩
theorem aeB{a:Act}{w:World}{κ:Nat->bA}{F:Nat->Prop}(M:bk C s a w κ F){k v:ab}{av:aG}{u:Value}{xs:List (k.aj×v.aj)}(h:(Cv k v av).run s.aa=some xs)(hu:bx C.P s.aa κ F w av u) :
  (u=.map none/\xs=[])\/∃ r ms clk,u=.map (some r)/\w.heap[r]?=some (.map ms clk)/\Lh C.P k v F w ms.toList xs:=by
 have cy:∀ {xs:List (k.aj×v.aj)},bH C.P (.map k v) F w [u] xs->(u=.map none/\xs=[])\/∃ r ms clk,u=.map (some r)/\w.heap[r]?=some (.map ms clk)/\Lh C.P k v F w ms.toList xs:=by
  intro xs ah;rcases ah with⟨ax,aO⟩ | ⟨r,ms,clk,ax,E,U,ag,a6,bM,dt⟩
  ·grind
  ·exact .inr ⟨r,ms,clk,(List.cons.inj ax).1,U,vh.es ⟨ag,a6,bM,dt⟩⟩
 cases av with
 | val t es=>
  simp only[Cv,ao.bL]at h;exact cy ((dT rfl).1 (FV h hu)).2
 | jE x=>
  simp only[bx]at hu;subst hu;have ah:u=.map none/\xs=[]:=by
   unfold Cv at h;split at h
   ·grind
   ·simp_all
   ·grind
   ·cases h
  grind
 | fG b g=>
  simp only[Cv,ao.e0,ao.bL]at h;split at h
  ·rename_i aB;have aS:=M.bB b;unfold cC at aS;split at h
   ·rename_i k' h7 es W;obtain⟨e,rfl⟩:=kT h;cases e;rw[W]at aS;obtain⟨ms,clk,E,U⟩:=aS;exact .inr ⟨_,ms,clk,hu.2 aB.symm (by rw[W];rfl),E,U.es⟩
   ·rename_i k' h7 es W;obtain⟨e,rfl⟩:=kT h;cases e;rw[W]at aS;have:=hu.2 aB.symm (by rw[W];rfl);simp only[jF]at aS;grind
   grind
  grind
 | _=>cases h
theorem aeC{ty:TypeId}{r:Option Operand}(bf:∀ i,o.dst=some i->i<C.nt)(af:o.op=.makeMap ty r)(h:(br C.aN T be (aZ C.aN s.ay) o).run s.aa=some res):cG C o s res:=by
 simp only[br,af]at h;split at h
 ·cases h
 ·rename_i Sv;have Sv:r=none:=by simp_all
  subst Sv;split at h
  ·rename_i k v aL;obtain⟨b,aq,al⟩:=rm h;simp only[Option.some.injEq]at al;subst al;intro a w κ F Q M _ _;have c6:(execOp a.eval o).run C.P w=.ok (.value (.map (some w.heap.size))) (w.alloc (.map #[] 0)):=by
    simp[execOp,af,Instr.makeMap]
   have E:=M.alloc (b:=b) (x:=⟨(s.aa b).gen+1,.mp k v []⟩) (M.gp (bf b aq)) (Nat.lt_succ_self _) (o:=.map #[] 0) (k:=⟨w.heap.size,0,0,false⟩) rfl λH κ' _ _ _=>
    ⟨#[],0,qo _ _,rfl,by simp,λi G=>by simp,λi j G=>by simp⟩
   refine hx (by grind) c6 ⟨_,F,bk.set (s:=s.cw b _) E bf ⟨⟨by simp[aA.cw],rfl⟩,λ_ _=>by simp⟩⟩
  ·cases h
theorem aeD(aU:dR C.P T){ty:TypeId}{m x:Operand}{ok:Bool}(bf:∀ i,o.dst=some i->i<C.nt)(af:o.op=.lookup ty m x ok)(h:(br C.aN T be (aZ C.aN s.ay) o).run s.aa=some res):cG C o s res:=by
 simp only[br,af,zD]at h;split at h
 ·rename_i k v aL;split at h
  ·rename_i hc;simp only[Bool.and_eq_true,Bool.or_eq_true]at hc;obtain⟨i,j,G,mY,hj⟩:=(aU.cb aL (by simp)).mp;simp only[ao.e1,Option.bind_eq_some_iff,bN,ao.bL,Option.some.injEq]at h;obtain⟨es,pz,⟨y,l⟩,aR,rfl⟩:=h;refine cG.pure (by grind) bf λa w κ F M bb _=>?_;have hm:=cM M m rfl bb.1;have ah:=CB M aR (cM M x rfl bb.2);obtain⟨inf,z,i1,i2,i3,i4,i5,i6⟩:=kz hj.ky;have hzero:eo C.P v F w z v.de:=aeA hc.2 i5 i6;have fin:∀ (u:Value) (q:Option v.aj),eo C.P v F w u (q.getD v.de)->bx C.P s.aa κ F w (RN v q ok) (if ok=true then .tuple #[u,.bool q.isSome] else u):=by
    intro u q ag;cases ok with
    | true=>
     refine⟨[u,.bool q.isSome],rfl,rfl,λi G=>?_⟩;match i,G with
     | 0,_=>exact ag
     | 1,_=>exact fc.2 rfl
    | false=>exact ag
   have mn:tU k=true:=hc.1;have fh:k.kV=true/\k.ka<=100:=by simpa [tU]using mn
   rcases aeB M pz hm with⟨hu,au⟩ | ⟨r,ms,clk,hu,hw,kD⟩
   ·subst au;have d':=(CY (em:=true) k 10000 fh.1 (by omega)).1 mY ah;obtain⟨f,f1,f2⟩:=xu (β:=v.aj) (xs:=[]) (es:=[]) mn mY ah rfl (λj e p h=>by cases h);rcases f2 with⟨rfl,_⟩ | ⟨j,e,p,E,_⟩
    ·refine⟨_,?_,fin z none hzero⟩;simp only[execOp,af,hu,Instr.lookup,Sem.run_bind,dA G,Result.andThen_ok,Sem.run_pure];simp only[show (#[]:Array MapEntry).isEmpty=true from rfl,d',Result.andThen_ok,f1];cases ok<;>simp[rk i1 i4]
    grind
   ·have d':=(CY (em:=ms.isEmpty) k 10000 fh.1 (by omega)).1 mY ah;obtain⟨f,f1,f2⟩:=xu (β:=v.aj) (xs:=es) (es:=ms.toList) mn mY ah kD.1 (λj e p E U=>by
     have:=(kD.2 j e p E U).1;exact⟨this.1,fb k (λ_ _=>trivial) (c1.refl F w) this.2⟩)
    have eT:(getObj r).run C.P w=.ok (.map ms clk) w:=by simp[getObj,Sem.run,hw]
    rcases f2 with⟨rfl,eB⟩ | ⟨j,e,p,E,U,ag,a6,rfl⟩
    ·refine⟨_,?_,by rw[(Su eB).1];exact fin z none hzero⟩;simp only[execOp,af,hu,Instr.lookup,Sem.run_bind,dA G,Result.andThen_ok,Sem.run_pure,eT,d',f1,rk i1 i4];rfl
    ·refine⟨_,?_,by rw[(St U ag a6).1];exact fin e.val (some p.2) (kD.2 j e p E U).2⟩;simp only[execOp,af,hu,Instr.lookup,Sem.run_bind,dA G,Result.andThen_ok,Sem.run_pure,eT,d',f1];rfl
  ·cases h
 ·cases h
theorem Li(P:Program)(w:World)(vw ew:Value):∃ k' w',(Instr.keyThatStays vw ew).run P w=.ok k' w'/\(k'=ew\/k'=vw)/\(w'=w\/w'=w.drew):=by
 unfold Instr.keyThatStays;split
 ·exact⟨ew,w,rfl,.inl rfl,.inl rfl⟩
 ·have ar : (Question.extern "map.whichKeyStays" 2).forced = false := rfl;simp only[Sem.run_bind,run_choose,ar,Bool.false_eq_true,if_false,Result.andThen_ok];split
  ·exact⟨ew,_,rfl,.inl rfl,.inr rfl⟩
  ·exact⟨vw,_,rfl,.inr rfl,.inr rfl⟩
theorem sA{P:Program}{w:World}{r:Nat}{es:Array MapEntry}{clk:Nat}(h:w.heap[r]?=some (.map es clk))(o:Obj):(setObj r o).run P w=.ok () { w with heap:=w.heap.setIfInBounds r o }:=by
 simp[setObj,Sem.run,h]
theorem Lj(aU:dR C.P T){ty:TypeId}{m x y:Operand}(Lf:o.dst=none)(af:o.op=.mapUpdate ty m x y\/o.op=.insert ty m x y)(h:(br C.aN T be (aZ C.aN s.ay) o).run s.aa=some res):cG C o s res:=by
 have aq:∀ c,o.op≠.defer c:=by grind
 have kX:∀ aI,br C.aN T be aI o=rj T aI ty m x y:=λaI=>by rcases af with af | af<;>simp only[br,af]
 have hex:∀ aI w,(execOp aI o).run C.P w=(do Instr.mapUpdate ty (aI m) (aI x) (aI y);pure .skip:Sem Next).run C.P w:=λaI w=>by rcases af with af | af<;>simp only[execOp,af]
 rw[kX]at h;simp only[rj]at h;split at h
 ·rename_i k v aL;obtain⟨lo,zX,G,mY,hj⟩:=(aU.cb aL (by simp)).mp;split at h
  ·rename_i hc;split at h
   ·rename_i b g ud;simp only[ao.e1,Option.bind_eq_some_iff,ao.run_bind,ao.e0,ao.bL]at h;obtain⟨⟨dH,oH⟩,ah,⟨mZ,oI⟩,aR,h⟩:=h;split at h
    ·rename_i aB;obtain⟨aB,qw⟩:=aB;have qw:b ∉ oH++oI:=by
      grind
     split at h
     ·rename_i k' h7 es W;simp only[Option.map_eq_some_iff]at h;obtain⟨Sw,pz,rfl⟩:=h;obtain⟨e,rfl⟩:=kT pz;cases e;intro a w κ F Q M bb _;obtain⟨F',f1,a_,f2⟩:=bk.lk ((mV ah).append (mV aR)) M;have hm:bx C.P s.aa κ F w (use (aZ C.aN s.ay m)).2 (a.eval m):=cM M m rfl bb.1;rw[ud]at hm;have kY:=hm.2 aB.symm (by rw[W];rfl);have ue:=mr M.bB f1 ah f2.left (cM M x rfl bb.2.1);have Gk:=mr M.bB f1 aR f2.right (cM M y rfl bb.2.2);have pC:(s.cy (oH++oI)).aa b=s.aa b:=by simp only[aA.cy];grind
      have aS:=a_.bB b;unfold cC at aS;rw[pC,W]at aS;obtain⟨ms,clk,hw,uf⟩:=aS;have fh:k.kV=true/\k.ka<=100:=by simpa [tU]using hc
      have d':=(CY (em:=false) k 10000 fh.1 (by omega)).1 mY ue;have kD:=uf.es;obtain⟨f,df,dJ⟩:=xu (β:=v.aj) (xs:=es) (es:=ms.toList) hc mY ue kD.1 (λj e p E U=>(kD.2 j e p E U).1);have eT:(getObj (κ b).aa).run C.P w=.ok (.map ms clk) w:=by simp[getObj,Sem.run,hw]
      have pA:s.fZ ((jJ (oH++oI)).run s.aa++[(b,⟨(s.aa b).gen,.mp k v (lN es dH mZ)⟩)])=(s.cy (oH++oI)).cw b ⟨(s.aa b).gen,.mp k v (lN es dH mZ)⟩:=by
       rw[CF,tW]
      have gq:fp (s.cy (oH++oI)).aa κ (λi=>if i=b then (⟨(s.aa b).gen,.mp k v (lN es dH mZ)⟩:bJ) else (s.cy (oH++oI)).aa i) κ:=
       rf (by rw[pC]) (λh=>by cases h) (λh=>by cases h) (λ_=>by rw[pC,W];rfl) (λh=>by cases h)
      obtain⟨hv,Lk,Gl,Sx⟩:=uf;have done:∀ (b_:World) (Gm:Array MapEntry) (Gn:Nat),(b_=w\/b_=w.drew)->
        (execOp a.eval o).run C.P w=.ok .skip { b_ with heap:=b_.heap.setIfInBounds (κ b).aa (.map Gm Gn) }->
        (∀ {w'},c1 F' w w'->vh C.P k v F' w' Gm Gn (lN es dH mZ))->
        o.wpIn (dQ C.r) 0 C.P a w (λa' w'=>cr C (s.h_ o.dst ⟨(use (aZ C.aN s.ay m)).1/\(use (aZ C.aN s.ay x)).1/\(use (aZ C.aN s.ay y)).1,True,.undef,(jJ (oH++oI)).run s.aa++[(b,⟨(s.aa b).gen,.mp k v (lN es dH mZ)⟩)]⟩) a' w') Q:=by
       intro b_ Gm Gn lV c6 aeE;have cT:b_.heap=w.heap:=by rcases lV with rfl | rfl<;>rfl
       have i':dc w b_:=by rcases lV with rfl | rfl<;>exact⟨rfl,rfl,rfl⟩
       refine F8 aq c6 ⟨κ,F',?_⟩;simp only[aA.h_];rw[pA,Lf];refine a_.pt (b:=b) (x:=⟨(s.aa b).gen,.mp k v (lN es dH mZ)⟩) (by rw[pC,W];rfl) rfl gq (λh=>by cases h) (λ_=>by rw[pC,W];rfl) (λr Ll=>?_) (by grind) ⟨i'.os,i'.tape,i'.output⟩ λH _ _ he=>?_
       ·grind
       ·have cj:(κ b).aa<w.heap.size:=(Array.getElem?_eq_some_iff.1 hw).1;exact⟨Gm,Gn,by grind,aeE he⟩
      rcases dJ with⟨rfl,eB⟩ | ⟨j,e,p,E,U,ag,a6,rfl⟩
      ·refine done w (ms.push { key:=a.eval x,val:=a.eval y,born:=clk }) (clk+1) (.inl rfl) ?_ λ{w'} he=>?_
       ·rw[hex];simp only[kY,Instr.mapUpdate,Sem.run_bind,dA G,Result.andThen_ok,eT,d',df,sA hw,Sem.run_pure]
       ·rw[(Su eB).2];refine⟨by grind,?_,λi G dI=>?_,λi j G aE e=>?_⟩
        ·rw[List.map_append,List.nodup_append];refine⟨Lk,by simp,λq bp q' tZ=>?_⟩;obtain⟨p,an,rfl⟩:=List.mem_map.1 bp;simp only[List.map_cons,List.map_nil,List.mem_singleton]at tZ;subst tZ;intro e;have:=eB p an;rw[e,(Lg k fh.1 _ _).2 rfl]at this;grind
        ·by_cases qz:i<es.length
         ·obtain⟨aQ,aV,bK,fz,pD⟩:=Gl i qz (by omega);have ax:(es++[(dH,mZ)])[i]=es[i]:=List.getElem_append_left qz;have aO:(ms.push { key:=a.eval x,val:=a.eval y,born:=clk })[i]=ms[i]'(by omega):=Array.getElem_push_lt (by omega);rw[ax,aO];exact⟨aQ,fb k (λ_ h=>h) he aV,bK,fb v (λ_ h=>h) he fz,by omega⟩
         ·have aeF:i=es.length:=by grind
          subst aeF;have ax:(es++[(dH,mZ)])[es.length]=(dH,mZ):=by simp
          have aO:(ms.push { key:=a.eval x,val:=a.eval y,born:=clk })[es.length]={ key:=a.eval x,val:=a.eval y,born:=clk }:=by
           grind
          rw[ax,aO];exact⟨ue.1,fb k (λ_ h=>h) he ue.2,Gk.1,fb v (λ_ h=>h) he Gk.2,by simp⟩
        ·have born:∀ i (h:i<(ms.push { key:=a.eval x,val:=a.eval y,born:=clk }).size),(∃ ds:i<ms.size,(ms.push { key:=a.eval x,val:=a.eval y,born:=clk })[i]=ms[i])\/(i=ms.size/\((ms.push { key:=a.eval x,val:=a.eval y,born:=clk })[i]).born=clk):=by
          grind
         grind
      ·have aE:j<es.length:=(List.getElem?_eq_some_iff.1 U).1;have xv:j<ms.size:=by omega
       have Lm:ms[j]=e:=by
        grind
       have m_:es[j]=p:=(List.getElem?_eq_some_iff.1 U).2;have aeG:dH=p.1:=(Lg k fh.1 _ _).1 ag;obtain⟨jr,b_,cf,cI,er⟩:=Li C.P w e.key (a.eval x);have lV:b_.heap[(κ b).aa]?=some (.map ms clk):=by rcases er with rfl | rfl<;>exact hw
       refine done b_ (ms.modify j λe=>{ e with key:=jr,val:=a.eval y }) clk er ?_ λ{w'} he=>?_
       ·rw[hex];rw[Nat.zero_add]at df;simp only[kY,Instr.mapUpdate,Sem.run_bind,dA G,Result.andThen_ok,eT,d',df];have nZ:((ms[j]?).map (·.key)).getD (a.eval x)=e.key:=by
         grind
        rw[nZ,cf];simp only[Result.andThen_ok,sA lV,Sem.run_pure]
       ·rw[(St U ag a6).2];refine⟨by grind,?_,λi G dI=>?_,λi kf G fR aY=>?_⟩
        ·have:(es.set j (p.1,mZ)).map (·.1)=es.map (·.1):=by
          apply List.ext_getElem?;grind
         grind
        ·have qz:i<es.length:=by grind
         have Ln:i<ms.size:=by omega
         obtain⟨aQ,aV,bK,fz,pD⟩:=Gl i qz Ln;by_cases zY:j=i
         ·subst zY;have ax:(es.set j (p.1,mZ))[j]=(p.1,mZ):=by simp
          have aO:(ms.modify j λe=>{ e with key:=jr,val:=a.eval y })[j]={ key:=jr,val:=a.eval y,born:=ms[j].born }:=by grind
          rw[ax,aO];have vp:eo C.P k F' w jr p.1:=by
           rcases cI with rfl | rfl
           ·grind
           ·rw[<-Lm,<-m_];exact⟨aQ,aV⟩
          exact⟨vp.1,fb k (λ_ h=>h) he vp.2,Gk.1,fb v (λ_ h=>h) he Gk.2,pD⟩
         ·have ax:(es.set j (p.1,mZ))[i]=es[i]:=by grind
          have aO:(ms.modify j λe=>{ e with key:=jr,val:=a.eval y })[i]=ms[i]:=by grind
          rw[ax,aO];exact⟨aQ,fb k (λ_ h=>h) he aV,bK,fb v (λ_ h=>h) he fz,pD⟩
        grind
     grind
    grind
   ·cases h
  ·cases h
 ·cases h
end
end Go.Fer
namespace Go.Fer
open Go.RowKit
section
variable {C:b8} {T:Nat->ab} {be:Nat->Option aM} {o:Oper} {s:aA} {res:eA}
theorem Sy{P:Program}{F:Nat->Prop}{w:World}{e:ab}{z:Value}(bM:j_ e z.cells.toList=some [])(n:Nat) :
  gr P e F w ((Array.range (n*e.size)).map (λi=>z.cells[i % z.cells.size]!)).toList (List.replicate n e.de):=by
 obtain⟨c,zZ,ke,z2⟩:=vl (P:=P) (H:=λ_=>⟨0,.fx⟩) (κ:=λ_=>⟨0,0,0,true⟩) (F:=F) (w:=w) e bM;rw[List.append_nil]at zZ;have ug:z.cells.size=e.size:=by rw[<-Array.length_toList,zZ];exact hR e ke
 refine⟨by simp,λi G=>?_⟩;have dI:i<n:=by grind
 have hle:(i+1)*e.size<=n*e.size:=Nat.mul_le_mul_right _ (by omega);rw[Nat.add_mul]at hle;have:((((Array.range (n*e.size)).map (λi=>z.cells[i % z.cells.size]!)).toList.drop (i*e.size)).take e.size)=z.cells.toList:=by
  apply List.ext_getElem?;intro j;simp only[List.getElem?_take,List.getElem?_drop];split
  ·rename_i aE;have fR:j<z.cells.size:=by omega
   rw[Array.getElem?_toList,Array.getElem?_toList];have zU:(i*e.size+j) % z.cells.size=j:=by rw[ug,Nat.add_comm,Nat.add_mul_mod_self_right,Nat.mod_eq_of_lt aE]
   grind
  grind
 grind
theorem aeH{n:Int}(aT:0<=n)(E:n<=4294967296):IntKind.i64.wrap n=n:=by
 simp only[IntKind.wrap,IntKind.signed,IntKind.bits];grind
theorem aeI(aU:dR C.P T){ty:TypeId}{l c:Operand}(bf:∀ i,o.dst=some i->i<C.nt)(af:o.op=.makeSlice ty l c)(h:(br C.aN T be (aZ C.aN s.ay) o).run s.aa=some res):cG C o s res:=by
 simp only[br,af,F3]at h;split at h
 ·rename_i e aL;split at h
  ·rename_i n m ai hm;have dp:=aU.cb aL (by simp);obtain⟨jO,aE,ja,oL⟩:=dp.sl;obtain⟨inf,z,i1,i2,i3,i4,i5,i6⟩:=kz ja.ky;obtain⟨b,aq,al⟩:=rm h;simp only[Option.some.injEq]at al;subst al;intro a w κ F Q M bb hc;have aeJ:=oJ (cM M l rfl bb.1) ai;have i':=oJ (cM M c rfl bb.2) hm;obtain⟨c0,rfl,bC⟩:0<=n/\n=m/\b9 n.toNat:=hc;unfold b9 at bC;obtain⟨k,rfl⟩:∃ k:Nat,n=k:=⟨n.toNat,by omega⟩
   simp only[Int.toNat_natCast]at bC;have hw:IntKind.i64.wrap (k:Int)=k:=aeH (by omega) (by omega);let cs:Array Value:=(Array.range (k*e.size)).map (λi=>z.cells[i % z.cells.size]!);have jn:gr C.P e F w cs.toList (List.replicate k e.de):=Sy i5 k;have ax1:inf.bytes*k<=2 ^ 47:=by
    calc inf.bytes*k<=1024*4294967296:=Nat.mul_le_mul i3 (by omega)
     _<=2 ^ 47:=by decide
   have c6:(execOp a.eval o).run C.P w=.ok (.value (.slice (some ⟨w.heap.size,0,none⟩) k k)) (w.alloc (.cells cs jO)):=by
    have aeK:¬((inf.bytes:Int)*(k:Int) > 2 ^ 48):=by
     omega
    have m':¬((k:Int)<0):=by omega
    have xt:¬(k*inf.bytes > roomBytes):=by
     have:roomBytes=2 ^ 47:=rfl;grind
    have vp:¬((k:Int) > (k:Int)):=by omega
    simp only[execOp,af,Instr.makeSlice,aeJ.1,i'.1,Sem.run_bind,dA aE,Result.andThen_ok,asInt,asIntOf,Sem.run_pure,F5 i1,hw,aeK,m',vp,decide_false,Bool.or_false,Bool.false_or,Bool.false_eq_true,if_false,run_askRoom,Int.toNat_natCast,sn i1,i2];by_cases sB:k*e.size=0
    ·have aeL:cs=#[]:=Array.eq_empty_of_size_eq_zero (by grind);rw[aeL];have aeM:(Array.map (λ_:Nat=>(default:Value)) (Array.range 0))=#[]:=by simp
     simp[sB,newRow];rw[aeM]
    ·simp[sB,rk i1 i4,newRow,cs]
   have ag:=M.CR (b:=b) (g:=(s.aa b).gen+1) (zs:=List.replicate k e.de) (k:=⟨w.heap.size,0,k,false⟩) (w':=w.alloc (.cells cs jO)) (Nat.lt_succ_self _) (.inr rfl) (by simp) (λr M=>pr w _ M) (λ_=>by simp) ⟨rfl,rfl,rfl⟩
    (λH κ'=>⟨λh=>(by cases h),λ_=>⟨cs,jO,qo w _,by grind,by simp,by grind,(jn.CP (pre:=[]) (post:=[]) (by simp)).later (c1.alloc M.da _)⟩⟩)
   refine hx (by grind) c6 ⟨_,F,bk.set (s:=s.cw b _) ag bf ⟨⟨by simp[aA.cw],rfl⟩,λ_ _=>by simp[aA.cw,bA.slice,bP.len]⟩⟩
  ·cases h
 ·cases h
theorem gr.take{P:Program}{e:ab}{F:Nat->Prop}{w:World}{all:List Value}{xs:List e.aj}(h:gr P e F w all xs){n:Nat}(au:n<=xs.length):gr P e F w (all.take (n*e.size)) (xs.take n):=by
 have hle:n*e.size<=xs.length*e.size:=Nat.mul_le_mul_right _ au;refine⟨by simp only[List.length_take,h.1];simp,λi G=>?_⟩;have dI:i<n:=by grind
 have aeN:(i+1)*e.size<=n*e.size:=Nat.mul_le_mul_right _ (by omega);rw[Nat.add_mul]at aeN;have:((all.take (n*e.size)).drop (i*e.size)).take e.size=(all.drop (i*e.size)).take e.size:=by
  rw[List.drop_take,List.take_take,Nat.min_eq_left (by omega)]
 rw[this];simpa using h.2 i (by omega)
theorem Sz{P:Program}{w:World}{e:ab}{q:Option Addr}{n cap:Nat}{xs:List e.aj}{F:Nat->Prop}(au:n<=xs.length)(h:(q=none/\xs=[]/\cap=0)\/∃ p all,q=some p/\gr P e F w all xs/\kC w p all) :
  ∃ all,(Builtin.firstCells e.size n (.slice q xs.length cap)).run P w=.ok all.toArray w/\gr P e F w all (xs.take n):=by
 rcases h with⟨rfl,rfl,rfl⟩ | ⟨p,all,rfl,b',a2⟩
 ·exact⟨[],by rfl,by simp[gr]⟩
 ·have hle:n*e.size<=xs.length*e.size:=Nat.mul_le_mul_right _ au;refine⟨all.take (n*e.size),?_,b'.take au⟩;simp only[Builtin.firstCells];have ai:(all.take (n*e.size)).length=n*e.size:=by simp only[List.length_take,b'.1];omega
  have M:kC w p (all.take (n*e.size)):=⟨λaT=>a2.1 (by grind),λj aE=>by
   have fR:j<all.length:=by grind
   rw[List.getElem_take];exact a2.2 j fR⟩
  have:=F7 (P:=P) M;grind
theorem lJ.gg{P:Program}{e:ab}{F:Nat->Prop}{w w':World}{cs dh:Array Value}{off aX:Nat}{xs zs:List e.aj}{ew:List Value}(h:lJ P e F w cs off xs)(he:c1 F w w')(au:gr P e F w ew zs)(ai:aX+zs.length<=xs.length)
  (px:off+xs.length*e.size<=cs.size) (hc:dh.toList=cs.toList.take (off+aX*e.size)++(ew++cs.toList.drop (off+aX*e.size+ew.length))):lJ P e F w' dh off (Go.Fer.gg xs aX zs):=by
 have hlen:(Go.Fer.gg xs aX zs).length=xs.length:=by simp[Go.Fer.gg];omega
 have aeO:(aX+zs.length)*e.size<=xs.length*e.size:=Nat.mul_le_mul_right _ ai;rw[Nat.add_mul]at aeO;have pB:=au.1;have gO:(cs.toList.take (off+aX*e.size)).length=off+aX*e.size:=by grind
 intro i G;rw[hlen]at G;have aeP:i<aX\/(aX<=i/\i<aX+zs.length)\/aX+zs.length<=i:=by omega
 rcases aeP with E | ⟨E,U⟩ | E
 ·obtain⟨bh,d1,d2⟩:=h i G;have Sh:=hR e d2;have ax:(Go.Fer.gg xs aX zs)[i]'(by omega)=xs[i]:=by
   simp only[Go.Fer.gg,List.append_assoc];grind
  rw[ax];refine⟨bh,λj aE=>?_,fb e (λ_ h=>h) he d2⟩;have hle:(i+1)*e.size<=aX*e.size:=Nat.mul_le_mul_right _ (by omega);rw[Nat.add_mul]at hle;rw[<-Array.getElem?_toList,hc,List.getElem?_append_left (by omega),List.getElem?_take,if_pos (by omega),Array.getElem?_toList];grind
 ·have CU:=au.CP (pre:=cs.toList.take (off+aX*e.size)) (post:=cs.toList.drop (off+aX*e.size+ew.length)) hc;obtain⟨bh,d1,d2⟩:=CU (i - aX) (by omega);have ax:(Go.Fer.gg xs aX zs)[i]'(by omega)=zs[i - aX]'(by omega):=by
   simp only[Go.Fer.gg,List.append_assoc];grind
  rw[ax];refine⟨bh,λj aE=>?_,fb e (λ_ h=>h) he d2⟩;have:=d1 j aE;rw[gO]at this;rw[<-this];congr 1;have:i*e.size=aX*e.size+(i - aX)*e.size:=by rw[<-Nat.add_mul];grind
  omega
 ·obtain⟨bh,d1,d2⟩:=h i G;have Sh:=hR e d2;have ax:(Go.Fer.gg xs aX zs)[i]'(by omega)=xs[i]:=by
   simp only[Go.Fer.gg,List.append_assoc];have gq:(xs.take aX).length=aX:=by grind
   rw[List.getElem_append_right (by omega),List.getElem_append_right (by omega)];grind
  rw[ax];refine⟨bh,λj aE=>?_,fb e (λ_ h=>h) he d2⟩;have Gp:(aX+zs.length)*e.size<=i*e.size:=Nat.mul_le_mul_right _ E;rw[Nat.add_mul]at Gp;rw[<-Array.getElem?_toList,hc,List.getElem?_append_right (by omega),List.getElem?_append_right (by omega),List.getElem?_drop,gO];grind
theorem gr.one{P:Program}{e:ab}{F:Nat->Prop}{w:World}{ew:List Value}{ys:List e.aj}(h:gr P e F w ew ys)(ll:0<e.size):∀ v∈ew,v.oneCell'=true:=by
 intro v ae;obtain⟨j,aE,rfl⟩:=List.mem_iff_getElem.1 ae;have hdiv:j / e.size<ys.length:=(Nat.div_lt_iff_lt_mul ll).2 (by rw[<-h.1];exact aE);have nX:=h.2 (j / e.size) hdiv;have iD:=zy (P:=P) (H:=λ_=>⟨0,.fx⟩) (κ:=λ_=>⟨0,0,0,true⟩) e nX;have zU:=Nat.mod_lt j ll;have aen:j / e.size*e.size+j % e.size=j:=Nat.div_add_mod' j e.size;have CT:((ew.drop (j / e.size*e.size)).take e.size).length=e.size:=hR e nX;have:=(iD.kU (j % e.size) (by rw[iD.len,CT];omega)).2;grind
theorem aeQ(aU:dR C.P T){args:Array Operand}{dn:Array TypeId}(bf:∀ i,o.dst=some i->i<C.nt)(af:o.op=.call { callee:=.builtin .copy,args:=args,argTypes:=dn })(h:(br C.aN T be (aZ C.aN s.ay) o).run s.aa=some res):cG C o s res:=by
 obtain⟨args⟩:=args;obtain⟨dn⟩:=dn;have aq:∀ c,o.op≠.defer c:=by grind
 simp only[br,af,mS,F4]at h;split at h
 ·rename_i x y t u;split at h
  ·rename_i e aO aL hu;have dp:=aU.cb aL (by simp);obtain⟨jO,aE,ja,oL⟩:=dp.sl;obtain⟨inf,z,i1,i2,i3,i4,i5,i6⟩:=kz ja.ky;have ll:0<e.size:=Nat.pos_of_ne_zero oL;split at h
   ·rename_i b g aX G CZ;simp only[ao.e1,Option.bind_eq_some_iff,ao.e0,ao.bL]at h;obtain⟨⟨ys,l⟩,kd,h⟩:=h;split at h
    ·rename_i aB;split at h
     ·rename_i aY xs W;split at h
      ·rename_i ru;subst ru;simp only[Option.some.injEq]at h;subst h;intro a w κ F Q M bb _;obtain⟨q',cap',t',n0⟩:=sx M kd (cM M y rfl bb.2);have ah:bx C.P s.aa κ F w (use (aZ C.aN s.ay x)).2 (a.eval x):=cM M x rfl bb.1;have aS:=M.bB b;unfold cC at aS;rw[W]at aS;have place:aX<=G.getD xs.length/\G.getD xs.length<=xs.length/\(((κ b).e5=true/\∃ cap,a.eval x=.slice none 0 cap)\/((κ b).e5=false/\∃ my cap,a.eval x=.slice (some ⟨(κ b).aa,my,none⟩) (G.getD xs.length - aX) cap/\(aX<G.getD xs.length->my=(κ b).off+aX*aY.size))):=by
        split at CZ
        ·rename_i bd g' e7;simp only[Option.some.injEq,Prod.mk.injEq]at CZ;obtain⟨rfl,rfl,rfl,rfl⟩:=CZ;rw[e7]at ah;have ae:=ah.2 aB.symm (by rw[W];rfl);rw[W]at ae;simp only[bP.len]at ae;refine⟨Nat.zero_le _,Nat.le_refl _,?_⟩;cases au:(κ bd).e5 with
         | true=>exact .inl ⟨rfl,0,by simpa [bA.slice,au]using ae⟩
         | false=>exact .inr ⟨rfl,(κ bd).off,(κ bd).cap,by simpa [bA.slice,au]using ae,λ_=>by simp⟩
        ·rename_i bd g' ax2 dI e7;simp only[Option.some.injEq,Prod.mk.injEq]at CZ;obtain⟨rfl,rfl,rfl,rfl⟩:=CZ;rw[e7]at ah;obtain⟨⟨aQ,aV⟩,bK⟩:=ah.2 aB.symm (by rw[W];rfl);rw[W]at aV bK;simp only[bP.len,bP.eZ]at aV bK;refine⟨aQ,aV,?_⟩;rcases bK with⟨au,ae⟩ | ⟨au,my,ae,gD,gE⟩
         ·grind
         ·obtain⟨cs,hV,bC,c2,c3,c4,c5⟩:=aS.2 au;grind
        grind
       obtain⟨jM,qx,mx⟩:=place;have SA:∀ m:Nat,m<=ys.length->m<=xs.length->fQ .i64 (m:Int):=by
        intro m _ hm;have:=zL M (b:=b) (by rw[W];rfl);rw[W]at this;simp only[bP.len]at this;exact CD (by omega)
       generalize SB:G.getD xs.length=cT at *
       have Sb:Nat.min ys.length (cT - aX)=min (cT - aX) ys.length:=Nat.min_comm _ _;have aeR:(ys.take (cT - aX)).length=min (cT - aX) ys.length:=by simp
       have z1:(gg xs aX (ys.take (cT - aX))).length=xs.length:=by simp[gg];omega
       have gq:fp s.aa κ (λi=>if i=b then (⟨(s.aa b).gen,.bg aY (gg xs aX (ys.take (cT - aX)))⟩:bJ) else s.aa i) κ:=
        rf rfl (λh=>by cases h) (λ_=>by rw[W];exact⟨rfl,z1,rfl⟩) (λh=>by cases h) (λh=>by cases h)
       have mU:∀ (w':World) v,(Builtin.copy_ #[t,u] o.type #[a.eval x,a.eval y]).run C.P w=.ok v w'->(execOp a.eval o).run C.P w=.ok (.value v) w':=by
        intro w' v ae;refine xo af ?_;simp[builtin,ae]
       rcases mx with⟨au,cap,sy⟩ | ⟨au,my,cap,sy,aeS⟩
       ·have hU:=aS.1 au;subst hU;have aeT:cT=0:=by grind
        subst aeT;have Lo:aX=0:=by omega
        subst Lo;obtain⟨ew,dN,ei⟩:=Sz (P:=C.P) (w:=w) (n:=0) (Nat.zero_le _) n0;have c6:(Builtin.copy_ #[t,u] o.type #[a.eval x,a.eval y]).run C.P w=.ok (.int .i64 ((0:Nat):Int)) w:=by
         simp only[Builtin.copy_,List.getElem?_toArray,List.getElem?_cons_zero,List.getElem?_cons_succ,Sem.run_bind,dA aE,Result.andThen_ok,sy,t',Builtin.lenOf,Sem.run_pure,sn i1,i2,Nat.min_zero];rw[dN];rfl
        refine hx aq (mU w _ c6) ⟨κ,F,bk.set (s:=s.cw b _) ?_ bf (gU.2 ⟨by simp,SA _ (by simp) (by simp)⟩)⟩;have bE:gg ([]:List aY.aj) 0 (ys.take (0 - 0))=[]:=by rfl
        have es:s.cw b ⟨(s.aa b).gen,.bg aY (gg ([]:List aY.aj) 0 (ys.take (0 - 0)))⟩=s:=by
         rw[bE];unfold aA.cw;have:(λi=>if i=b then (⟨(s.aa b).gen,.bg aY []⟩:bJ) else s.aa i)=s.aa:=by
          funext i;by_cases G:i=b
          ·subst G;simp only[if_true];rw[<-W]
          grind
         rw[this]
        grind
       ·obtain⟨cs,hV,bC,c2,c3,c4,c5⟩:=aS.2 au;have CH:min (cT - aX) ys.length<=ys.length:=Nat.min_le_right _ _;obtain⟨ew,dN,ei⟩:=Sz (P:=C.P) (w:=w) CH n0;have kW:ys.take (min (cT - aX) ys.length)=ys.take (cT - aX):=by
         simp
        rw[kW]at ei;have pB:=ei.1;rw[aeR]at pB;have nY:=ei.one ll;have SC:xs.length*aY.size<=(κ b).cap*aY.size:=Nat.mul_le_mul_right _ c3;have C0:(aX+min (cT - aX) ys.length)*aY.size<=xs.length*aY.size:=Nat.mul_le_mul_right _ (by omega);rw[Nat.add_mul]at C0;obtain⟨w',dh,cf,cI,er,lQ,lR,mv⟩:∃ w' dh,(storeCells ⟨(κ b).aa,my,none⟩ ew).run C.P w=.ok () w'/\w'.heap[(κ b).aa]?=some (.cells dh hV (0,0))/\dh.toList=cs.toList.take ((κ b).off+aX*aY.size)++(ew++cs.toList.drop ((κ b).off+aX*aY.size+ew.length))/\
          (∀ r,r≠(κ b).aa->w'.heap[r]?=w.heap[r]?)/\w'.heap.size=w.heap.size/\dc w w':=by
         by_cases cj:aX<cT
         ·rw[aeS cj];obtain⟨w',dh,cf,cI,er,lQ,lR,mv⟩:=vr (P:=C.P) ew ((κ b).off+aX*aY.size) 0 w cs bC (by omega) nY;grind
         ·have aT:min (cT - aX) ys.length=0:=by omega
          rw[aT,Nat.zero_mul]at pB;have:ew=[]:=List.eq_nil_of_length_eq_zero pB;subst this;exact⟨w,cs,by rfl,bC,by simp,λ_ _=>rfl,rfl,dc.refl w⟩
        have c6:(Builtin.copy_ #[t,u] o.type #[a.eval x,a.eval y]).run C.P w=.ok (.int .i64 ((min (cT - aX) ys.length:Nat):Int)) w':=by
         simp only[Builtin.copy_,List.getElem?_toArray,List.getElem?_cons_zero,List.getElem?_cons_succ,Sem.run_bind,dA aE,Result.andThen_ok,sy,t',Builtin.lenOf,Sem.run_pure,sn i1,i2];rw[Sb,dN];simp only[Result.andThen_ok,cf];rfl
        refine hx aq (mU w' _ c6) ⟨κ,F,bk.set (s:=s.cw b _) ?_ bf (gU.2 ⟨rfl,SA _ (by omega) (by omega)⟩)⟩;refine M.pt (b:=b) (by rw[W];simp[bP.bY,au]) (by simp[bP.bY,au]) gq (λh=>by cases h) (λh=>by cases h) lQ lR mv λH mW cj he=>?_;refine⟨λh=>(by grind),λ_=>⟨dh,hV,cI,?_,by omega,c4,?_⟩⟩
        ·have:dh.size=cs.size:=by
          rw[<-Array.length_toList,er];simp only[List.length_append,List.length_take,List.length_drop,Array.length_toList];omega
         omega
        ·exact c5.gg he ei (by omega) (by omega) er
      grind
     grind
    grind
   ·cases h
  ·cases h
 ·cases h
theorem SD(af:(br C.aN T be (aZ C.aN s.ay) o).run s.aa=some ⟨True,False,.undef,[]⟩)(h:(br C.aN T be (aZ C.aN s.ay) o).run s.aa=some res):cG C o s res:=by
 rw[af]at h;cases h;intro a w κ F Q _ _ hc;grind
end
end Go.Fer
namespace Go.Fer
open Go.RowKit
section
variable {C:b8} {T:Nat->ab} {be:Nat->Option aM} {o:Oper} {s:aA} {res:eA}
theorem aeU{P:Program}{w:World}{len cap:Nat}{aX:Option Value}{l:Option Int}{k k':IntKind}{h m:Int}(ai:(aX=none/\l=none)\/∃ k m,aX=some (.int k m)/\l=some m)
  (E:0<=dq l) (U:dq l<=h) (ag:h<=m) (a6:m<=(cap:Int)):(Instr.sliceBounds true len cap aX (some (.int k h)) (some (.int k' m))).run P w=.ok ((dq l).toNat,h.toNat,m.toNat) w:=by
 rcases ai with⟨rfl,rfl⟩ | ⟨k,n,rfl,rfl⟩<;>simp only[dq]at E U ⊢
 ·have ax:0<=m/\m<=(cap:Int):=by omega
  have aO:0<=h/\h<=m:=by omega
  have cv:max m 0=m:=by omega
  simp[Instr.sliceBounds,Instr.sliceBound,asIntOf,ax,aO,cv]
 ·have ax:0<=m/\m<=(cap:Int):=by omega
  have aO:0<=h/\h<=m:=by omega
  have cv:max m 0=m:=by omega
  have ec:0<=n/\n<=h:=by omega
  have gV:max h 0=h:=by omega
  simp[Instr.sliceBounds,Instr.sliceBound,asIntOf,ax,aO,cv,ec,gV]
theorem aeV(aU:dR C.P T){ty:TypeId}{x:Operand}{aX G:Option Operand}{pv:Operand}(bf:∀ i,o.dst=some i->i<C.nt)(af:o.op=.slice ty x aX G (some pv))(h:(br C.aN T be (aZ C.aN s.ay) o).run s.aa=some res):cG C o s res:=by
 simp only[br,af,Option.isSome_some,if_true,F1]at h;split at h
 ·rename_i ol l ri cT vm m sv K6 aeW;have aq:∀ c,o.op≠.defer c:=by grind
  split at h
  ·rename_i bE aL;have dp:=aU.cb aL (by simp);obtain⟨j,aE,ja,oL⟩:=dp.sl;simp only[ao.e1,Option.bind_eq_some_iff]at h;obtain⟨⟨c,v⟩,fS,h⟩:=h;simp only[bN,ao.bL,Option.some.injEq]at h;subst h;have runs:∀ (a:Act) (w:World) κ F,bk C s a w κ F->ol->ri->vm->∀ (q:Option Addr) (n cap:Nat),a.eval x=.slice q n cap->0<=dq l->dq l<=cT->cT<=m->m<=(cap:Int)->
     (execOp a.eval o).run C.P w=.ok (.value (.slice (if m.toNat=(dq l).toNat then q else q.map (·.add ((dq l).toNat*bE.size))) (cT.toNat - (dq l).toNat) (m.toNat - (dq l).toNat))) w:=by
    intro a w κ F M CN CO aeX q n cap ae bC c2 c3 c4;have dr:(aX.map a.eval=none/\l=none)\/∃ k m,aX.map a.eval=some (.int k m)/\l=some m:=by
     rcases CM M sv CN with⟨rfl,rfl⟩ | ⟨y,k,m,rfl,rfl,e⟩
     ·exact .inl ⟨rfl,rfl⟩
     ·exact .inr ⟨k,m,by simp[e],rfl⟩
    obtain⟨SE,aV,m2,rfl,aO,cv⟩:∃ y k n,G=some y/\cT=n/\a.eval y=.int k n:=by
     rcases CM M K6 CO with⟨_,h⟩ | ⟨y,k,m,rfl,h,e⟩
     ·cases h
     ·exact⟨y,k,m,rfl,Option.some.inj h,e⟩
    obtain⟨bK,ec⟩:∃ k,a.eval pv=.int k m:=by
     rcases CM M aeW aeX with⟨h,_⟩ | ⟨y,k,m,E,U,e⟩
     ·cases h
     ·cases E;cases U;exact⟨k,e⟩
    subst aO;have:=aeU (P:=C.P) (w:=w) (len:=n) (k:=aV) (k':=bK) dr bC c2 c3 c4;simp[execOp,af,ae,Instr.sliceAt,Instr.slice,dA aE,cv,ec,this,ja.size]
   unfold RM at fS;split at fS
   ·rename_i e xs e7;simp only[ao.bL]at fS;split at fS
    ·rename_i he;subst he;simp only[Option.some.injEq,Prod.mk.injEq]at fS;obtain⟨rfl,rfl⟩:=fS;refine cG.pure aq bf λa w κ F M bb hc=>?_;have ah:bx C.P s.aa κ F w (use (aZ C.aN s.ay x)).2 (a.eval x):=cM M x rfl bb.1;rw[e7]at ah;obtain⟨_,a',cap,ax,m1,m2,m3,m4⟩:=(dT rfl).1 ah;have ax:=(List.cons.inj ax).1;simp only[fy]at hc;obtain⟨bC,c2,c3,c4⟩:=hc;subst c3;have hlen:((xs.take cT.toNat).drop (dq l).toNat).length=cT.toNat - (dq l).toNat:=by
      grind
     have ax3:(xs.length:Int)<=cap:=by omega
     refine⟨_,runs a w κ F M bb.2.1 bb.2.2.1 bb.2.2.2 a' xs.length cap ax bC c2 (Int.le_refl _) (by omega),(dT rfl).2 ⟨rfl,?_⟩,_,by rw[hlen]⟩;refine⟨_,_,by rw[hlen],by omega,by omega,?_,λp an vj=>?_⟩
     ·intro au;split at au
      ·omega
      ·cases a' with
       | none=>grind
       | some q=>cases au
     ·cases a' with
      | none=>grind
      | some q=>
       obtain⟨dN,ei,jL⟩:=m4 q rfl (by omega);have bp:p=⟨q.block,q.off+(dq l).toNat*e.size,none⟩:=by
        split at an
        ·omega
        ·simp only[Option.map_some,Option.some.injEq]at an;rw[CL ei]at an;grind
       subst bp;refine⟨dN,rfl,λi G=>?_⟩;rw[hlen]at G;obtain⟨bh,d1,d2⟩:=jL ((dq l).toNat+i) (by omega);grind
    grind
   ·rename_i e7;simp only[ao.bL,Option.some.injEq,Prod.mk.injEq]at fS;obtain⟨rfl,rfl⟩:=fS;refine cG.pure aq bf λa w κ F M bb hc=>?_;have ah:bx C.P s.aa κ F w (use (aZ C.aN s.ay x)).2 (a.eval x):=cM M x rfl bb.1;rw[e7]at ah;simp only[bx]at ah;simp only[fy]at hc;obtain⟨bC,c2,c3⟩:=hc;have c6:=runs a w κ F M bb.2.1 bb.2.2.1 bb.2.2.2 none 0 0 ah (by omega) (by omega) (by omega) (by omega);have aT:cT.toNat=0:=by omega
    have E:m.toNat=0:=by omega
    have U:(dq l).toNat=0:=by omega
    rw[aT,E,U]at c6;simp only[if_true,Nat.sub_zero]at c6;exact⟨_,c6,(dT rfl).2 ⟨rfl,none,0,rfl,Nat.le_refl _,by decide,λ_=>rfl,λp an=>by simp⟩,none,rfl⟩
   ·rename_i b g e7;simp only[ao.e0,ao.bL]at fS;split at fS
    ·rename_i bj;simp only[Bool.and_eq_true,decide_eq_true_eq]at bj;obtain⟨aB,e8⟩:=bj;simp only[Option.some.injEq,Prod.mk.injEq]at fS;obtain⟨rfl,rfl⟩:=fS;refine cG.pure aq bf λa w κ F M bb hc=>?_;have ah:bx C.P s.aa κ F w (use (aZ C.aN s.ay x)).2 (a.eval x):=cM M x rfl bb.1;rw[e7]at ah;have ae:=ah.2 aB.symm e8;obtain⟨dN,ei⟩:=zL M e8;simp only[fy]at hc;obtain⟨bC,c2,c3,c4⟩:=hc;cases au:(κ b).e5 with
     | true=>
      have aT:=dN au;simp only[bA.slice,au,if_true]at ae;exact⟨_,runs a w κ F M bb.2.1 bb.2.2.1 bb.2.2.2 none 0 0 ae bC c2 c3 (by omega),trivial⟩
     | false=>
      have xr:=KS M e8 au;simp only[bA.slice,au,Bool.false_eq_true,if_false]at ae;exact⟨_,runs a w κ F M bb.2.1 bb.2.2.1 bb.2.2.2 _ _ _ ae bC c2 c3 (by omega),trivial⟩
    grind
   ·cases fS
  ·cases h
 ·cases h
theorem aeY{b:Nat}{e:ab}(W:(s.aa b).body=.bg e []):s.cw b ⟨(s.aa b).gen,.bg e []⟩=s:=by
 unfold aA.cw;have:(λi=>if i=b then (⟨(s.aa b).gen,.bg e []⟩:bJ) else s.aa i)=s.aa:=by
  funext i;by_cases G:i=b
  ·subst G;simp only[if_true];rw[<-W]
  grind
 rw[this]
theorem aeZ(aU:dR C.P T){args:Array Operand}{dn:Array TypeId}(bf:∀ i,o.dst=some i->i<C.nt)(af:o.op=.call { callee:=.builtin .append,args:=args,argTypes:=dn }){b g aX G:Nat}(aD:xi (aZ C.aN s.ay) args.toList=some (b,g,aX,G))
  (h:(Cw T (aZ C.aN s.ay) args.toList dn.toList b g aX G).run s.aa=some res):cG C o s res:=by
 obtain⟨args⟩:=args;obtain⟨dn⟩:=dn;have aq:∀ c,o.op≠.defer c:=by grind
 simp only[Cw]at h;split at h
 ·rename_i x y t u;have e7:(use (aZ C.aN s.ay x)).2=.sub b g aX G:=by
   simp only[xi]at aD;grind
  split at h
  ·rename_i e aO aL hu;have dp:=aU.cb aL (by simp);have vs:=aU.cb hu (by simp);obtain⟨jO,aE,ja,oL⟩:=dp.sl;obtain⟨aek,fR,_⟩:=vs.sl;obtain⟨inf,z,i1,i2,i3,i4,i5,i6⟩:=kz ja.ky;have ll:0<e.size:=Nat.pos_of_ne_zero oL;simp only[ao.e1,Option.bind_eq_some_iff,ao.e0,ao.bL]at h;obtain⟨⟨ys,l⟩,kd,h⟩:=h;split at h
   ·rename_i aB;split at h
    ·rename_i aY xs W;split at h
     ·rename_i ru;subst ru;simp only[Option.some.injEq]at h;subst h;intro a w κ F Q M bb hc;change G+ys.length<=xs.length at hc;obtain⟨q',cap',t',n0⟩:=sx M kd (cM M y rfl bb.2);have ah:bx C.P s.aa κ F w (use (aZ C.aN s.ay x)).2 (a.eval x):=cM M x rfl bb.1;rw[e7]at ah;have aS:=M.bB b;unfold cC at aS;rw[W]at aS;obtain⟨⟨aQ,aV⟩,bK⟩:=ah.2 aB.symm (by rw[W];rfl);rw[W]at aV bK;simp only[bP.len,bP.eZ]at aV bK;have mU:∀ (w':World) v,(Builtin.append_ #[t,u] o.type #[a.eval x,a.eval y]).run C.P w=.ok v w'->(execOp a.eval o).run C.P w=.ok (.value v) w':=by
       intro w' v ae;refine xo af ?_;simp[builtin,ae]
      have z1:(gg xs G ys).length=xs.length:=by simp[gg];omega
      have gq:fp s.aa κ (λi=>if i=b then (⟨(s.aa b).gen,.bg aY (gg xs G ys)⟩:bJ) else s.aa i) κ:=
       rf rfl (λh=>by cases h) (λ_=>by rw[W];exact⟨rfl,z1,rfl⟩) (λh=>by cases h) (λh=>by cases h)
      rcases bK with⟨au,ae⟩ | ⟨au,my,ae,gD,gE⟩
      ·have hU:=aS.1 au;subst hU;have oN:G=0:=by grind
       subst oN;have Lo:aX=0:=by omega
       subst Lo;have Lb:ys=[]:=by grind
       subst Lb;obtain⟨ew,dN,ei⟩:=zR (P:=C.P) (w:=w) (cap:=cap') rfl n0;have c6:(Builtin.append_ #[t,u] o.type #[a.eval x,a.eval y]).run C.P w=.ok (.slice none 0 0) w:=by
        rw[ae,t'];simp only[List.length_nil]at dN ⊢;simp[Builtin.append_,dA aE,dA fR,sn i1,Builtin.lenOf];simp_all
       have bE:gg ([]:List aY.aj) 0 []=[]:=by rfl
       refine hx aq (mU w _ c6) ⟨κ,F,bk.set (s:=s.cw b _) ?_ bf ⟨⟨by simp[aA.cw,aB],rfl⟩,λ_ _=>⟨by simp,.inl ⟨au,rfl⟩⟩⟩⟩;rw[bE,aeY W];exact M
      ·obtain⟨cs,hV,bC,c2,c3,c4,c5⟩:=aS.2 au;obtain⟨ew,dN,ei⟩:=zR (P:=C.P) (w:=w) (cap:=cap') rfl n0;have pB:=ei.1;have nY:=ei.one ll;have SC:xs.length*aY.size<=(κ b).cap*aY.size:=Nat.mul_le_mul_right _ c3;have C0:(G+ys.length)*aY.size<=xs.length*aY.size:=Nat.mul_le_mul_right _ hc;rw[Nat.add_mul]at C0;obtain⟨w',dh,cf,cI,er,lQ,lR,mv⟩:∃ w' dh,(storeCells ⟨(κ b).aa,my+(G - aX)*aY.size,none⟩ ew).run C.P w=.ok () w'/\w'.heap[(κ b).aa]?=some (.cells dh hV (0,0))/\dh.toList=cs.toList.take ((κ b).off+G*aY.size)++(ew++cs.toList.drop ((κ b).off+G*aY.size+ew.length))/\
         (∀ r,r≠(κ b).aa->w'.heap[r]?=w.heap[r]?)/\w'.heap.size=w.heap.size/\dc w w':=by
        by_cases cj:aX<(κ b).cap
        ·have z6:my+(G - aX)*aY.size=(κ b).off+G*aY.size:=by
          rw[gE cj,Nat.add_assoc,<-Nat.add_mul];grind
         rw[z6];obtain⟨w',dh,cf,cI,er,lQ,lR,mv⟩:=vr (P:=C.P) ew ((κ b).off+G*aY.size) 0 w cs bC (by omega) nY;grind
        ·have aT:ys.length=0:=by omega
         rw[aT,Nat.zero_mul]at pB;have:ew=[]:=List.eq_nil_of_length_eq_zero pB;subst this;exact⟨w,cs,by rfl,bC,by simp,λ_ _=>rfl,rfl,dc.refl w⟩
       have xt:G - aX+ys.length<=(κ b).cap - aX:=by omega
       have c6:(Builtin.append_ #[t,u] o.type #[a.eval x,a.eval y]).run C.P w=.ok (.slice (some ⟨(κ b).aa,my,none⟩) (G - aX+ys.length) ((κ b).cap - aX)) w':=by
        rw[ae,t'];simp only[Builtin.append_,List.getElem?_toArray,List.getElem?_cons_zero,List.getElem?_cons_succ,Sem.run_bind,dA aE,dA fR,Result.andThen_ok,sn i1,i2,Sem.run_pure,Builtin.lenOf,Bool.false_eq_true,if_false,if_pos xt,Bool.not_false,if_true,dN,vo];simp_all
       refine hx aq (mU w' _ c6) ⟨κ,F,bk.set (s:=s.cw b _) ?_ bf ⟨⟨by simp[aA.cw,aB],rfl⟩,λ_ _=>⟨by simp only[aA.cw,if_true,bP.len,z1];omega,.inr ⟨au,my,?_,?_,?_⟩⟩⟩⟩
       ·refine M.pt (b:=b) (by rw[W];simp[bP.bY,au]) (by simp[bP.bY,au]) gq (λh=>by cases h) (λh=>by cases h) lQ lR mv λH mW cj he=>?_;refine⟨λh=>(by grind),λ_=>⟨dh,hV,cI,?_,by omega,c4,?_⟩⟩
        ·have:dh.size=cs.size:=by
          rw[<-Array.length_toList,er];grind
         omega
        ·exact c5.gg he ei hc (by omega) er
       ·grind
       ·simp only[aA.cw,if_true,bP.eZ];exact gD
       ·simp only[aA.cw,if_true,bP.eZ];exact gE
     grind
    grind
   grind
  ·cases h
 ·cases h
theorem ae0(aU:dR C.P T){args:Array Operand}{dn:Array TypeId}(bf:∀ i,o.dst=some i->i<C.nt)(af:o.op=.call { callee:=.builtin .clear,args:=args,argTypes:=dn })
  (h:(Cx T (aZ C.aN s.ay) args.toList dn.toList).run s.aa=some res):cG C o s res:=by
 obtain⟨args⟩:=args;obtain⟨dn⟩:=dn;have aq:∀ c,o.op≠.defer c:=by grind
 simp only[Cx]at h;split at h
 ·rename_i x t;split at h
  ·rename_i e aL;have dp:=aU.cb aL (by simp);obtain⟨jO,aE,ja,oL⟩:=dp.sl;obtain⟨inf,z,i1,i2,i3,i4,i5,i6⟩:=kz ja.ky;have ll:0<e.size:=Nat.pos_of_ne_zero oL;split at h
   ·rename_i b g aX G e7;simp only[ao.e0,ao.bL]at h;split at h
    ·rename_i aB;split at h
     ·rename_i aY xs W;split at h
      ·rename_i ru;subst ru;simp only[Option.some.injEq]at h;subst h;intro a w κ F Q M bb _;have ah:bx C.P s.aa κ F w (use (aZ C.aN s.ay x)).2 (a.eval x):=cM M x rfl bb;rw[e7]at ah;have aS:=M.bB b;unfold cC at aS;rw[W]at aS;obtain⟨⟨aQ,aV⟩,bK⟩:=ah.2 aB.symm (by rw[W];rfl);rw[W]at aV bK;simp only[bP.len,bP.eZ]at aV bK;have mU:∀ (w':World) v,(Builtin.clear_ #[t] o.type #[a.eval x]).run C.P w=.ok v w'->(execOp a.eval o).run C.P w=.ok (.value v) w':=by
        intro w' v ae;refine xo af ?_;simp[builtin,ae]
       have uh:(List.replicate (G - aX) aY.de).length=G - aX:=by simp
       have z1:(gg xs aX (List.replicate (G - aX) aY.de)).length=xs.length:=by simp[gg];omega
       have gq:fp s.aa κ (λi=>if i=b then (⟨(s.aa b).gen,.bg aY (gg xs aX (List.replicate (G - aX) aY.de))⟩:bJ) else s.aa i) κ:=
        rf rfl (λh=>by cases h) (λ_=>by rw[W];exact⟨rfl,z1,rfl⟩) (λh=>by cases h) (λh=>by cases h)
       have nothing:G - aX=0->gg xs aX (List.replicate (G - aX) aY.de)=xs:=λaT=>by rw[aT];simp[gg]
       have hG:G - aX=0->s.cw b ⟨(s.aa b).gen,.bg aY (gg xs aX (List.replicate (G - aX) aY.de))⟩=s:=λaT=>by
        rw[nothing aT];unfold aA.cw;have:(λi=>if i=b then (⟨(s.aa b).gen,.bg aY xs⟩:bJ) else s.aa i)=s.aa:=by
         funext i;by_cases G:i=b
         ·subst G;simp only[if_true];rw[<-W]
         grind
        rw[this]
       rcases bK with⟨au,ae⟩ | ⟨au,my,ae,gD,gE⟩
       ·have hU:=aS.1 au;subst hU;have oN:G - aX=0:=by grind
        have c6:(Builtin.clear_ #[t] o.type #[a.eval x]).run C.P w=.ok (.tuple #[]) w:=by
         rw[ae];simp[Builtin.clear_,dA aE]
        refine hx aq (mU w _ c6) ⟨κ,F,bk.set (s:=s.cw b _) ?_ bf trivial⟩;grind
       ·obtain⟨cs,hV,bC,c2,c3,c4,c5⟩:=aS.2 au;by_cases aT:G - aX=0
        ·have c6:(Builtin.clear_ #[t] o.type #[a.eval x]).run C.P w=.ok (.tuple #[]) w:=by
          rw[ae,aT];simp[Builtin.clear_,dA aE]
         refine hx aq (mU w _ c6) ⟨κ,F,bk.set (s:=s.cw b _) ?_ bf trivial⟩;grind
        ·obtain⟨n,qA⟩:∃ n,G - aX=n+1:=⟨G - aX - 1,by omega⟩
         have jn:gr C.P aY F w ((Array.range ((G - aX)*aY.size)).map (λi=>z.cells[i % z.cells.size]!)).toList (List.replicate (G - aX) aY.de):=Sy i5 _;have ug:z.cells.size=aY.size:=by
          obtain⟨c,zZ,ke,z2⟩:=vl (P:=C.P) (H:=λ_=>⟨0,.fx⟩) (κ:=λ_=>⟨0,0,0,true⟩) (F:=F) (w:=w) aY i5;rw[List.append_nil]at zZ;rw[<-Array.length_toList,zZ];exact hR aY ke
         have pB:=jn.1;rw[uh]at pB;have nY:=jn.one ll;revert jn pB nY;generalize ln:((Array.range ((G - aX)*aY.size)).map (λi=>z.cells[i % z.cells.size]!)).toList=ew;intro jn pB nY;have SC:xs.length*aY.size<=(κ b).cap*aY.size:=Nat.mul_le_mul_right _ c3;have C0:(aX+(G - aX))*aY.size<=xs.length*aY.size:=Nat.mul_le_mul_right _ (by omega);rw[Nat.add_mul]at C0;have z6:my=(κ b).off+aX*aY.size:=gE (by omega);obtain⟨w',dh,cf,cI,er,lQ,lR,mv⟩:=vr (P:=C.P) ew ((κ b).off+aX*aY.size) 0 w cs bC (by omega) nY;have c6:(Builtin.clear_ #[t] o.type #[a.eval x]).run C.P w=.ok (.tuple #[]) w':=by
          rw[ae,z6];have bj:(Builtin.zeroCells z.cells (G - aX)).toList=ew:=by rw[<-ln,<-ug];rfl
          simp only[Builtin.clear_,List.getElem?_toArray,List.getElem?_cons_zero,Sem.run_bind,dA aE,Result.andThen_ok,rk i1 i4,qA];simp_all
         refine hx aq (mU w' _ c6) ⟨κ,F,bk.set (s:=s.cw b _) ?_ bf trivial⟩;refine M.pt (b:=b) (by rw[W];simp[bP.bY,au]) (by simp[bP.bY,au]) gq (λh=>by cases h) (λh=>by cases h) lQ lR mv λH mW cj he=>?_;refine⟨λh=>(by grind),λ_=>⟨dh,hV,cI,?_,by omega,c4,?_⟩⟩
         ·have:dh.size=cs.size:=by
           rw[<-Array.length_toList,er];grind
          omega
         ·exact c5.gg he jn (by omega) (by omega) (by omega)
      grind
     grind
    grind
   ·cases h
  ·cases h
 ·cases h
end
end Go.Fer
namespace Go.Fer
open Go.RowKit
section
variable {C:b8} {T:Nat->ab} {be:Nat->Option aM} {o:Oper} {s:aA} {res:eA}
theorem Lp{place:Nat->Option (Nat×Nat)}{size:Nat}(an:∀ i,place i=some (i*size,size)):∀ (qs:List (Nat×Value)) (cs:Array Value),(∀ q∈qs,q.2.cells.size=size/\q.1*size+size<=cs.size)->(qs.map (·.1)).Nodup->
  ∃ dh,Instr.fill place cs qs=some dh/\dh.size=cs.size/\∀ i,i*size+size<=cs.size->(dh.toList.drop (i*size)).take size=(match qs.find? (λp=>p.1 == i) with | some q=>q.2.cells.toList | none=>(cs.toList.drop (i*size)).take size)
 | [],cs,_,_=>⟨cs,rfl,rfl,λi _=>rfl⟩
 | (k,v)::qs,cs,h,au=>by
  obtain⟨E,U⟩:=h (k,v) (by simp);simp only at E U;have Gd:=Gb v.cells.toList 0 (k*size) cs (by grind);have e:(v.cells.zipIdx.foldl (λ(cs:Array Value) (p:Value×Nat)=>cs.setIfInBounds (k*size+p.2) p.1) cs)=((v.cells.toList.zipIdx 0).foldl (λ(cs:Array Value) (p:Value×Nat)=>cs.setIfInBounds (k*size+p.2) p.1) cs):=by
   rw[<-Array.foldl_toList];simp
  generalize ax4:(v.cells.zipIdx.foldl (λ(cs:Array Value) (p:Value×Nat)=>cs.setIfInBounds (k*size+p.2) p.1) cs)=Gq at *
  have SF:Gq.toList=cs.toList.take (k*size)++(v.cells.toList++cs.toList.drop (k*size+size)):=by
   grind
  have cd:Gq.size=cs.size:=by
   rw[<-Array.length_toList,SF];grind
  have C2:(qs.map (·.1)).Nodup/\k ∉ qs.map (·.1):=by
   grind
  obtain⟨dh,aQ,aV,bK⟩:=Lp an qs Gq (λq bp=>by grind) C2.1;refine⟨dh,?_,by omega,λi G=>?_⟩
  ·simp only[Instr.fill,an];grind
  ·rw[bK i (by omega)];by_cases mY:k=i
   ·grind
   ·have:((k,v)::qs).find? (λp=>p.1 == i)=qs.find? (λp=>p.1 == i):=by grind
    rw[this];have jn:(Gq.toList.drop (i*size)).take size=(cs.toList.drop (i*size)).take size:=by
     apply List.ext_getElem?;intro j;simp only[List.getElem?_take,List.getElem?_drop];split
     ·rename_i aE;rw[SF];have kW:(List.take (k*size) cs.toList).length=k*size:=by grind
      have xq:v.cells.toList.length=size:=by omega
      rcases Nat.lt_or_ge i k with ag | ag
      ·have:(i+1)*size<=k*size:=Nat.mul_le_mul_right _ (by omega);grind
      ·have:(k+1)*size<=i*size:=Nat.mul_le_mul_right _ (by omega);rw[Nat.add_mul]at this;rw[List.getElem?_append_right (by omega),kW,List.getElem?_append_right (by omega),List.getElem?_drop];congr 1;omega
     ·rfl
    grind
theorem ae1(aU:dR C.P T){ty n:Nat}{ps:Array (Nat×Operand)}(bf:∀ i,o.dst=some i->i<C.nt)(af:o.op=.buildSlice ty n ps)(h:(br C.aN T be (aZ C.aN s.ay) o).run s.aa=some res):cG C o s res:=by
 obtain⟨ps⟩:=ps;have aq:∀ c,o.op≠.defer c:=by grind
 simp only[br,af]at h;split at h
 ·rename_i e aL;have dp:=aU.cb aL (by simp);obtain⟨jO,aE,ja,oL⟩:=dp.sl;obtain⟨inf,z,i1,i2,i3,i4,i5,i6⟩:=kz ja.ky;simp only[ao.e1,Option.bind_eq_some_iff,ao.run_bind]at h;obtain⟨⟨xs,bU⟩,hU,h⟩:=h;obtain⟨b,ax5,al⟩:=rm h;split at al
  ·rename_i Gr;obtain⟨ax6,SG⟩:=Gr;simp only[Bool.and_eq_true,Bool.not_eq_true',decide_eq_true_eq]at SG;obtain⟨⟨fT,ub⟩,Lq⟩:=SG;have qw:b ∉ bU:=by grind
   simp only[Option.some.injEq]at al;subst al;intro a w κ F Q M bb _;obtain⟨F',f1,a_,f2⟩:=bk.lk (aew n 0 hU) M;obtain⟨ae2,Gs,ke,z2⟩:=vl (P:=C.P) (H:=s.aa) (κ:=κ) (F:=F') (w:=w) e i5;rw[List.append_nil]at Gs;have Lr:=KX M ps bb;have ki:=Sp M.bB f1 ke (ps:=iE (ps.map λp=>(p.1,aZ C.aN s.ay p.2))) (qs:=ps.map λp=>(p.1,a.eval p.2)) (by simp[iE]) Lr n 0 hU f2;have ug:=(CG e (P:=C.P) i5).2;have Ls:∀ p∈ps,p.1<n:=by
    intro p an;have:=List.all_eq_true.1 Lq (p.1,(use (aZ C.aN s.ay p.2)).2) (by simp only[iE,List.map_map,List.mem_map];grind);grind
   have Lt:((ps.map λp=>(p.1,a.eval p.2)).map (·.1)).Nodup:=by
    have:(iE (ps.map λp=>(p.1,aZ C.aN s.ay p.2))).map (·.1)=(ps.map λp=>(p.1,a.eval p.2)).map (·.1):=by simp[iE]
    grind
   have SH:∀ q∈ps.map (λp=>(p.1,a.eval p.2)),q.2.cells.size=e.size/\q.1*e.size+e.size<=n*e.size:=by
    intro q bp;obtain⟨p,an,rfl⟩:=List.mem_map.1 bp;have cj:=Ls p an;refine⟨?_,by
     have:(p.1+1)*e.size<=n*e.size:=Nat.mul_le_mul_right _ (by omega);grind⟩
    obtain⟨bh,d1,d2⟩:=ki.2 p.1 (by omega);rw[Nat.zero_add]at d2;have vy:(ps.map λp=>(p.1,a.eval p.2)).find? (λr=>r.1 == p.1)=some (p.1,a.eval p.2):=by
     have ae3:∀ (l:List (Nat×Value)),(l.map (·.1)).Nodup->∀ q∈l,l.find? (λr=>r.1 == q.1)=some q:=by
      intro l;induction l with
      | nil=>simp
      | cons c l aH=>
       grind
     grind
    rw[vy]at d2;have:=hR e d1;grind
   have Lu:z.cells.size≠0:=by omega
   let base:Array Value:=(Array.range (n*e.size)).map (λi=>z.cells[i % z.cells.size]!);have ax7:base.size=n*e.size:=by grind
   obtain⟨dh,aQ,aV,bK⟩:=Lp (place:=λi=>some (i*e.size,e.size)) (λi=>rfl) (ps.map λp=>(p.1,a.eval p.2)) base (by grind) Lt;have ax8:∀ i,i<n->(base.toList.drop (i*e.size)).take e.size=z.cells.toList:=by
    intro i G;have hle:(i+1)*e.size<=n*e.size:=Nat.mul_le_mul_right _ (by omega);rw[Nat.add_mul]at hle;apply List.ext_getElem?;intro j;simp only[List.getElem?_take,List.getElem?_drop];split
    ·rename_i aE;have fR:j<z.cells.size:=by omega
     rw[Array.getElem?_toList,Array.getElem?_toList];have zU:(i*e.size+j) % z.cells.size=j:=by rw[ug,Nat.add_comm,Nat.add_mul_mod_self_right,Nat.mod_eq_of_lt aE]
     grind
    grind
   have ae4:gr C.P e F' w dh.toList xs:=by
    refine⟨by grind,λi G=>?_⟩;have dI:i<n:=by omega
    have hle:(i+1)*e.size<=n*e.size:=Nat.mul_le_mul_right _ (by omega);grind
   have c6:(execOp a.eval o).run C.P w=.ok (.value (.slice (some ⟨w.heap.size,0,none⟩) n n)) (w.alloc (.cells dh jO)):=by
    have ae5:¬n*e.size > 2 ^ 24:=by omega
    simp only[execOp,af,Instr.buildSlice,Sem.run_bind,dA aE,Result.andThen_ok,sn i1,i2,ae5,if_false];by_cases sB:n*e.size=0
    ·have z7:base=#[]:=Array.eq_empty_of_size_eq_zero (by omega);rw[z7]at aQ;simp only[sB,if_true,Sem.run_bind,Sem.run_pure,Result.andThen_ok];rw[show ((Array.range 0).map (λi=>(#[]:Array Value)[i % (#[]:Array Value).size]!))=#[] from by simp];simp only[List.map_toArray]at aQ ⊢;rw[show Instr.fill (λi=>some (i*e.size,e.size)) #[] (ps.map λx=>(x.1,a.eval x.2))=some dh from aQ];rfl
    ·simp only[sB,if_false,Sem.run_bind,rk i1 i4,Result.andThen_ok,Sem.run_pure];simp only[List.map_toArray];rw[show Instr.fill (λi=>some (i*e.size,e.size)) ((Array.range (n*e.size)).map (λi=>z.cells[i % z.cells.size]!)) (ps.map λx=>(x.1,a.eval x.2))=some dh from aQ];rfl
   have pA:s.fZ ((jJ bU).run s.aa++[(b,⟨(s.aa b).gen+1,.bg e xs⟩)])=(s.cy bU).cw b ⟨(s.aa b).gen+1,.bg e xs⟩:=by
    rw[CF,tW]
   have pC:(s.cy bU).aa b=s.aa b:=by simp[aA.cy,qw]
   have ag:=a_.CR (b:=b) (g:=(s.aa b).gen+1) (zs:=xs) (k:=⟨w.heap.size,0,n,false⟩) (w':=w.alloc (.cells dh jO)) (by grind) (.inr rfl) (by simp) (λr M=>pr w _ M) (λ_=>by simp) ⟨rfl,rfl,rfl⟩
    (λH κ'=>⟨λh=>(by cases h),λ_=>⟨dh,jO,qo w _,by grind,by grind,by
     have:n<=n*e.size:=Nat.le_mul_of_pos_right _ (Nat.pos_of_ne_zero oL);grind,(ae4.CP (pre:=[]) (post:=[]) (by simp)).later (c1.alloc a_.da _)⟩⟩)
   refine hx aq c6 ?_;simp only[aA.h_];rw[pA];exact⟨_,F',bk.set ag bf ⟨⟨by simp[aA.cw],rfl⟩,λ_ _=>by simp[aA.cw,bA.slice,bP.len,ki.1]⟩⟩
  grind
 ·cases h
theorem SI(n1:Nat):∀ (m:Nat) (l:List Value),l.length=m*n1->((List.range m).map λi=>(l.drop (i*n1)).take n1).flatten=l
 | 0,l,h=>by
  have:l=[]:=List.eq_nil_of_length_eq_zero (by omega);simp[this]
 | m+1,l,h=>by
  rw[Nat.add_mul]at h;have aH:=SI n1 m (l.take (m*n1)) (by grind);rw[List.range_succ,List.map_append,List.flatten_append];have e:((List.range m).map λi=>(l.drop (i*n1)).take n1)=((List.range m).map λi=>((l.take (m*n1)).drop (i*n1)).take n1):=by
   refine List.map_congr_left λi G=>?_;have hle:(i+1)*n1<=m*n1:=Nat.mul_le_mul_right _ (by have:=List.mem_range.1 G;omega);rw[Nat.add_mul]at hle;rw[List.drop_take,List.take_take,Nat.min_eq_left (by omega)]
  rw[e,aH];have:(l.drop (m*n1)).take n1=l.drop (m*n1):=List.take_of_length_le (by grind);simp[this]
theorem ae6(aU:dR C.P T){ty m:Nat}{e:ab}{ps:Array (Nat×Operand)}(bf:∀ i,o.dst=some i->i<C.nt)(af:o.op=.build ty ps)(aL:T ty=.array m e)
  (h:((tT e (iE (ps.toList.map λp=>(p.1,aZ C.aN s.ay p.2))) 0 m).cP λ(xs,bU)=>if (bU.isEmpty&&decide ((iE (ps.toList.map λp=>(p.1,aZ C.aN s.ay p.2))).map (·.1)).Nodup&&(iE (ps.toList.map λp=>(p.1,aZ C.aN s.ay p.2))).all (λp=>decide (p.1<m)))=true then bN (sj (ps.toList.map λp=>(p.1,aZ C.aN s.ay p.2))) True (.val (.array m e) xs) else .none).run s.aa=some res):cG C o s res:=by
 obtain⟨ps⟩:=ps;simp only[ao.e1,Option.bind_eq_some_iff]at h;obtain⟨⟨xs,bU⟩,hU,h⟩:=h;have dp:=aU.cb aL (by simp);obtain⟨jO,aE,ja,oL⟩:=dp.bg;obtain⟨i,z,E,U,ag,a6,bM,dt⟩:=kz dp.ky;split at h
 ·rename_i hc;simp only[Bool.and_eq_true,decide_eq_true_eq,List.isEmpty_iff,List.all_eq_true]at hc;obtain⟨⟨rfl,ub⟩,Lq⟩:=hc;simp only[bN,ao.bL,Option.some.injEq]at h;subst h;refine cG.pure (by grind) bf λa w κ F M bb _=>?_;obtain⟨ae2,Gs,ke,z2⟩:=vl (P:=C.P) (H:=s.aa) (κ:=κ) (F:=F) (w:=w) (.array m e) bM;rw[List.append_nil]at Gs;have ug:=(CG (.array m e) (P:=C.P) bM).2;have ax9:z.cells.size=m*e.size:=ug;have Lr:=KX M ps bb;have ki:=λ(zero:List Value) (bj:bH C.P e F w zero e.de)=>Sp M.bB (λ_ h=>h) bj (ps:=iE (ps.map λp=>(p.1,aZ C.aN s.ay p.2))) (qs:=ps.map λp=>(p.1,a.eval p.2)) (by simp[iE]) Lr m 0 hU (λ_ h=>by cases h);have Ls:∀ p∈ps,p.1<m:=by
   intro p an;exact Lq (p.1,(use (aZ C.aN s.ay p.2)).2) (by simp only[iE,List.map_map,List.mem_map];grind)
  have Lt:((ps.map λp=>(p.1,a.eval p.2)).map (·.1)).Nodup:=by
   have:(iE (ps.map λp=>(p.1,aZ C.aN s.ay p.2))).map (·.1)=(ps.map λp=>(p.1,a.eval p.2)).map (·.1):=by simp[iE]
   grind
  have jn:∀ i,i<m->bH C.P e F w ((z.cells.toList.drop (i*e.size)).take e.size) e.de:=by
   intro i G;have ae7:bH C.P (.array m e) F w z.cells.toList (ab.array m e).de:=by rw[Gs];exact ke
   obtain⟨p,c,q,aQ,aV,bK⟩:=KR ae7 G;have ai:=hR e bK;have:(ab.de (.array m e)).getD i e.de=e.de:=by
    show (List.replicate m e.de).getD i e.de=e.de;grind
   rw[this]at bK;have:(z.cells.toList.drop (i*e.size)).take e.size=c:=by
    rw[aQ,<-aV];simp[ai]
   rw[this];exact bK
  have SJ:xs.length=m:=by
   rcases Nat.eq_zero_or_pos m with aT | aT
   ·subst aT;simp only[tT,ao.bL,Option.some.injEq,Prod.mk.injEq]at hU;rw[<-hU.1];rfl
   ·exact (ki _ (jn 0 aT)).1
  have SH:∀ q∈ps.map (λp=>(p.1,a.eval p.2)),q.2.cells.size=e.size/\q.1*e.size+e.size<=z.cells.size:=by
   intro q bp;obtain⟨p,an,rfl⟩:=List.mem_map.1 bp;have cj:=Ls p an;refine⟨?_,by
    have:(p.1+1)*e.size<=m*e.size:=Nat.mul_le_mul_right _ (by omega);grind⟩
   obtain⟨bh,d1,d2⟩:=(ki _ (jn p.1 cj)).2 p.1 (by omega);rw[Nat.zero_add]at d2;have vy:(ps.map λp=>(p.1,a.eval p.2)).find? (λr=>r.1 == p.1)=some (p.1,a.eval p.2):=by
    have ae3:∀ (l:List (Nat×Value)),(l.map (·.1)).Nodup->∀ q∈l,l.find? (λr=>r.1 == q.1)=some q:=by
     intro l;induction l with
     | nil=>simp
     | cons c l aH=>
      grind
    grind
   rw[vy]at d2;have:=hR e d1;grind
  obtain⟨dh,aQ,aV,bK⟩:=Lp (place:=λi=>some (i*e.size,e.size)) (λi=>rfl) (ps.map λp=>(p.1,a.eval p.2)) z.cells SH Lt;refine⟨.agg dh,?_,⟨dh,rfl,by omega⟩,?_⟩
  ·simp only[execOp,af,Instr.build,Sem.run_bind,rk E a6,Result.andThen_ok,dA aE,ja.size];simp_all
  ·refine⟨(List.range m).map λi=>(dh.toList.drop (i*e.size)).take e.size,(SI e.size m dh.toList (by grind)).symm,by simp,SJ,λi G dI=>?_⟩;simp only[List.getElem_map,List.getElem_range];have Ln:i<m:=by omega
   have hle:(i+1)*e.size<=m*e.size:=Nat.mul_le_mul_right _ (by omega);rw[Nat.add_mul]at hle;obtain⟨bh,d1,d2⟩:=(ki _ (jn i Ln)).2 i G;rw[Nat.zero_add]at d2;have:=bK i (by omega);have:(dh.toList.drop (i*e.size)).take e.size=bh:=by
    rw[this];split at d2<;>simp_all
   rw[this];exact d1
 ·cases h
theorem fo.mono{P:Program}{t:ab}{F F':Nat->Prop}{w w':World}{aC:List Value}{x:t.aj}(h:fo P t F w aC x)(bm:∀ r,F r->F' r)(he:c1 F w w'):fo P t F' w' aC x:=⟨h.1,fb t bm he h.2⟩
theorem ae8{k:FuncId}{cZ:List Operand}(bf:∀ i,o.dst=some i->i<C.nt)(af:o.op=.makeFunc (.func k) #[] ⟨cZ⟩){v:FT}(ae:C.aN.tP k=some v)
  (h:((iY (gh (v.cs.map .bG)) ((cZ.map (aZ C.aN s.ay)).map λv=>(use v).2)).cP λ(y,bU)=>(jJ bU).bind λwl=>.ret (some ⟨jK (cZ.map (aZ C.aN s.ay)),True,.val (.fn (gh v.as) v.aW) (λx=>v.sh (FR v.as (v.cs.map .bG) x y)),wl⟩):ao (Option eA)).run s.aa=some res):cG C o s res:=by
 simp only[ao.e1,Option.bind_eq_some_iff,ao.run_bind,ao.bL,Option.some.injEq]at h;obtain⟨⟨y,l⟩,aR,rfl⟩:=h;intro a w κ F Q M bb _;obtain⟨F',f1,a_,f2⟩:=bk.lk (qy _ aR) M;have dW:fo C.P (gh (v.cs.map .bG)) F' w (cZ.map a.eval) y:=by
  refine vx M.bB f1 _ aR f2 (by simp) λi G dI=>?_;simp only[List.getElem_map];have dz:i<cZ.length:=by grind
  have E:=sq bb i (by grind);have ax:(cZ.map (aZ C.aN s.ay)).getD i .undef=aZ C.aN s.ay cZ[i]:=by grind
  rw[ax]at E;exact pw (kc M cZ[i]) E
 obtain⟨aD,xw⟩:=M.jH.tP k v ae;have c6:(execOp a.eval o).run C.P w=.ok (.value (.func (.func k) #[] (cZ.map a.eval).toArray)) w:=by simp[execOp,af,Instr.makeFunc]
 refine hx (by grind) c6 ⟨κ,F',?_⟩;simp only[aA.h_];rw[tW];refine bk.set a_ bf ((dT rfl).2 ⟨rfl,_,rfl,⟨rfl,rfl⟩,λej c7 z8 xx ui xy args x E U ag=>⟨k,_,rfl,xw.enter,?_⟩⟩);have aE:=Rw v.as (v.cs.map .bG) aD (P:=C.P) (F:=ej) (w:=c7) ⟨E,U⟩ (dW.mono z8 xx);have:=xw.iV ej c7 _ _ ui xy aE ag;have e:(args++cZ.map a.eval).toArray=args.toArray++(cZ.map a.eval).toArray:=by simp
 rw[e]at this;exact this.mono λe tL ⟨v,y,ax,aO,⟨aC,cv,ec,gV⟩,j7⟩=>⟨v,y,aC,ax,aO,cv,ec,gV,j7⟩
theorem ae9{k:FuncId}{cZ:List Operand}(bf:∀ i,o.dst=some i->i<C.nt)(af:o.op=.makeFunc (.func k) #[] ⟨cZ⟩){v:w_}(ae:C.aN.xb k=some v)
  (h:((iY (gh (v.cs.map .bG)) ((cZ.map (aZ C.aN s.ay)).map λv=>(use v).2)).cP λ(y,bU)=>(jJ bU).bind λwl=>.ret (some ⟨jK (cZ.map (aZ C.aN s.ay)),True,.val (.cq v.aJ) (v.S y),wl⟩):ao (Option eA)).run s.aa=some res):cG C o s res:=by
 simp only[ao.e1,Option.bind_eq_some_iff,ao.run_bind,ao.bL,Option.some.injEq]at h;obtain⟨⟨y,l⟩,aR,rfl⟩:=h;intro a w κ F Q M bb _;obtain⟨F',f1,a_,f2⟩:=bk.lk (qy _ aR) M;have dW:fo C.P (gh (v.cs.map .bG)) F' w (cZ.map a.eval) y:=by
  refine vx M.bB f1 _ aR f2 (by simp) λi G dI=>?_;simp only[List.getElem_map];have dz:i<cZ.length:=by grind
  have E:=sq bb i (by grind);have ax:(cZ.map (aZ C.aN s.ay)).getD i .undef=aZ C.aN s.ay cZ[i]:=by grind
  rw[ax]at E;exact pw (kc M cZ[i]) E
 have xw:=M.jH.xb k v ae;have c6:(execOp a.eval o).run C.P w=.ok (.value (.func (.func k) #[] (cZ.map a.eval).toArray)) w:=by simp[execOp,af,Instr.makeFunc]
 refine hx (by grind) c6 ⟨κ,F',?_⟩;simp only[aA.h_];rw[tW];refine bk.set a_ bf ((dT rfl).2 ⟨rfl,_,rfl,⟨rfl,rfl⟩,λej c7 z8 xx ui xy eB=>⟨k,_,rfl,xw.enter,λl I Y iH js ez=>?_⟩⟩);exact xw.iV ej c7 _ _ ui xy (dW.mono z8 xx) eB l I Y iH js ez
theorem ae_{k:FuncId}{cZ:Array Operand}(bf:∀ i,o.dst=some i->i<C.nt)(af:o.op=.makeFunc (.func k) #[] cZ)(h:(br C.aN T be (aZ C.aN s.ay) o).run s.aa=some res):cG C o s res:=by
 obtain⟨cZ⟩:=cZ;simp only[br,af,Array.isEmpty_empty,if_true]at h;split at h;case h_1 v ae=>exact ae8 bf af ae h
 split at h;case h_1 v ae=>exact ae9 bf af ae h
 simp only[bN,ao.bL,Option.some.injEq]at h;subst h;refine cG.pure (by grind) bf λa w κ F M bb _=>?_;refine⟨.func (.func k) #[] (cZ.map a.eval).toArray,by simp[execOp,af,Instr.makeFunc],cZ.map a.eval,rfl,by simp,λi G=>?_⟩;have dI:i<cZ.length:=by grind
 have E:(use ((cZ.map (aZ C.aN s.ay)).getD i .undef)).1:=sq bb i (by omega);have ax:(cZ.map (aZ C.aN s.ay)).getD i .undef=aZ C.aN s.ay cZ[i]:=by grind
 rw[ax]at E;have U:=pw (kc M cZ[i]) E;have aO:(cZ.map a.eval).getD i Go.undef=a.eval cZ[i]:=by grind
 have cv:hi ((cZ.map (aZ C.aN s.ay)).map λv=>(use v).2) i=(use (aZ C.aN s.ay cZ[i])).2:=by simp[hi,List.getD_eq_getElem?_getD,dI]
 grind
theorem ae'{k:FuncId}{first cZ:Array Operand}(bf:∀ i,o.dst=some i->i<C.nt)(af:o.op=.makeFunc (.func k) first cZ)(ar:first.isEmpty=false)(h:(br C.aN T be (aZ C.aN s.ay) o).run s.aa=some res):cG C o s res:=by
 obtain⟨first⟩:=first
 simp only[br,af,ar,Bool.false_eq_true,if_false]at h;split at h
 ·rename_i hc;have hc:cZ=#[]:=by grind
  subst hc;simp only[bN,ao.bL,Option.some.injEq]at h;subst h;refine cG.pure (by grind) bf λa w κ F M bb _=>?_;refine⟨.func (.func k) (first.map a.eval).toArray #[],by simp[execOp,af,Instr.makeFunc],first.map a.eval,rfl,by simp,λi G=>?_⟩;have dI:i<first.length:=by omega
  have E:(use ((first.map (aZ C.aN s.ay)).getD i .undef)).1:=sq bb i (by grind);have ax:(first.map (aZ C.aN s.ay)).getD i .undef=aZ C.aN s.ay first[i]:=by grind
  rw[ax]at E;have U:=pw (kc M first[i]) E;have aO:(first.map a.eval).getD i Go.undef=a.eval first[i]:=by grind
  have cv:hi ((first.map (aZ C.aN s.ay)).map λv=>(use v).2) i=(use (aZ C.aN s.ay first[i])).2:=by simp[hi,List.getD_eq_getElem?_getD,dI]
  grind
 ·cases h
def lp(o:Oper)(nt:Nat):Bool:=
 (match o.dst with | some d=>decide (d<nt) | none=>true)&&(match o.op with | .store _ _ _=>o.dst.isNone | .mapUpdate _ _ _ _=>o.dst.isNone | .insert _ _ _ _=>o.dst.isNone | _=>true)
theorem xz(aU:dR C.P T)(cz:jo C.P be)(aq:lp o C.nt=true)(h:(br C.aN T be (aZ C.aN s.ay) o).run s.aa=some res):cG C o s res:=by
 simp only[lp,Bool.and_eq_true]at aq;have bf:∀ i,o.dst=some i->i<C.nt:=λi G=>by
  grind
 cases af:o.op with
 | move x=>exact ady bf af h
 | assign x=>exact adz bf af h
 | pick c a b=>exact adA bf af h
 | binOp op t x y cV=>exact adI aU bf af h
 | unOp op t x=>exact adB bf af h
 | extract t i=>exact adC bf af h
 | nilCheck x=>exact adD bf af h
 | fieldAddr t x f=>exact adE aU bf af h
 | field t x f=>exact adF aU bf af h
 | load t x=>exact adJ aU bf af h
 | store t x y=>
  have:=aq.2;rw[af]at this;exact ad2 aU (by grind) af h
 | alloc t=>
  by_cases aL:T t=.cS
  ·simp only[br,af,aL]at h;obtain⟨_,_,al⟩:=rm h;grind
  ·exact adT aU bf af h aL
 | box t x=>exact adV bf af h
 | build t ps=>
  by_cases Ge:∀ m e,T t≠.array m e
  ·exact ad0 aU bf af Ge h
  ·obtain⟨m,e,aL⟩:∃ m e,T t=.array m e:=by grind
   refine ae6 aU bf af aL ?_;simpa only [br,af,aL]using h
 | buildSlice t n ps=>exact ae1 aU bf af h
 | indexAddr t x i=>exact ad8 aU bf af h
 | index t x i=>exact adL aU bf af h
 | convert a b x=>exact aes aU bf af h
 | makeFunc fn first cZ=>
  cases fn with
  | func k=>
   by_cases ar:first=#[]
   ·subst ar;exact ae_ bf af h
   ·exact ae' bf af (by grind) h
  | _=>simp[br,af,ao.none]at h
 | makeMap t r=>exact aeC bf af h
 | lookup t m x ok=>exact aeD aU bf af h
 | mapUpdate t m x y=>
  have:=aq.2;rw[af]at this;exact Lj aU (by grind) (.inl af) h
 | insert t m x y=>
  have:=aq.2;rw[af]at this;exact Lj aU (by grind) (.inr af) h
 | makeSlice t l c=>exact aeI aU bf af h
 | makeInterface t x=>exact SD (by simp[br,af,bN]) h
 | panic x=>exact SD (by simp[br,af,bN]) h
 | slice t x aX G pv=>
  cases pv with
  | none=>exact ad_ aU bf af h
  | some m=>exact aeV aU bf af h
 | call c=>
  obtain⟨callee,args,dn⟩:=c;cases callee with
  | value f=>
   cases f with
   | func k=>exact aex cz bf af h
   | _=>simp[br,af,mS,ao.none]at h
  | invoke r m=>simp[br,af,mS,ao.none]at h
  | builtin b=>
   cases b with
   | len=>exact adQ aU bf af h
   | append=>
    cases aD:xi (aZ C.aN s.ay) args.toList with
    | none=>exact aej aU bf af (by simpa [br,af,mS,aD]using h)
    | some p=>exact aeZ aU bf af aD (by simpa [br,af,mS,aD]using h)
   | clear=>exact ae0 aU bf af (by simpa [br,af,mS]using h)
   | copy=>exact aeQ aU bf af h
   | min=>exact R2 (.inl ⟨rfl,rfl⟩) bf af (by simpa [br,af,mS]using h)
   | max=>exact R2 (.inr ⟨rfl,rfl⟩) bf af (by simpa [br,af,mS]using h)
   | cap=>exact adR aU bf af (by simpa [br,af,mS]using h)
   | _=>simp[br,af,mS,ao.none]at h
 | _=>simp[br,af,ao.none]at h
end
end Go.Fer
namespace Go.Fer
open Go.RowKit
def ao.cU{ak:Type}(p:ak->Prop):ao ak->Prop
 | .ret a=>p a
 | .eQ _ k=>∀ x,(k x).cU p
theorem Lv{aI:Operand->aG}{k:IntKind}:∀ (l:List Operand) {ca:Prop} {h9:z1'},(∀ x∈l,(use (aI x)).1)->mR aI k l=some (ca,h9)->ca
 | [],_,_,_,h=>by cases h
 | [x],ca,h9,hu,h=>by
  simp only[mR]at h;split at h
  ·split at h
   ·cases h;exact hu x (by simp)
   ·cases h
  ·cases h
 | x::y::l,ca,h9,hu,h=>by
  simp only[mR]at h;split at h
  ·rename_i ai;split at h
   ·cases h;exact⟨hu x (by simp),Lv (y::l) (λz bj=>hu z (List.mem_cons_of_mem _ bj)) ai⟩
   ·cases h
  ·cases h
theorem ao.cU.run{ak:Type}{p:ak->Prop}{m:ao ak}(h:m.cU p)(H:Nat->bJ):p (m.run H):=by
 induction m with
 | ret a=>exact h
 | eQ b k aH=>exact aH _ (h _)
theorem ao.cU.bind{ak β:Type}{p:β->Prop}{m:ao ak}{f:ak->ao β}(h:∀ a,(f a).cU p):(m.bind f).cU p:=by
 induction m with
 | ret a=>exact h a
 | eQ b k aH=>exact λx=>aH x
def lq{ak:Type}(p:ak->Prop)(x:Option ak):Prop:=∀ a,x=some a->p a
theorem ao.cU.cP{ak β:Type}{p:β->Prop}{m:ao (Option ak)}{f:ak->ao (Option β)}(h:∀ a,(f a).cU (lq p)):(m.cP f).cU (lq p):=by
 refine ao.cU.bind λa=>?_;cases a with
 | none=>intro a h;cases h
 | some a=>grind
theorem ao.cU.SK{ak β:Type}{q:ak->Prop}{p:β->Prop}{m:ao (Option ak)}{f:ak->ao (Option β)}(hm:m.cU (lq q))(h:∀ a,q a->(f a).cU (lq p)):(m.cP f).cU (lq p):=by
 unfold ao.cP;induction m with
 | ret a=>
  cases a with
  | none=>intro b W;cases W
  | some a=>exact h a (hm a rfl)
 | eQ b k aH=>exact λx=>aH x (hm x)
theorem ao.cU.bV{ak:Type}{p:ak->Prop}:(ao.none:ao (Option ak)).cU (lq p):=by intro a h;cases h
theorem ao.cU.na{ak:Type}{p:ak->Prop}{a:ak}(h:p a):(ao.ret (some a)).cU (lq p):=by intro b W;grind
theorem ao.cU.nil{ak:Type}{p:ak->Prop}:(ao.ret (Option.none:Option ak)).cU (lq p):=by intro b W;cases W
theorem ao.cU.bN{p:eA->Prop}{ca c:Prop}{v:aG}(h:p ⟨ca,c,v,[]⟩):(bN ca c v).cU (lq p):=ao.cU.na h
theorem ao.cU.h8{p:eA->Prop}{d:Option Nat}{k:Nat->Nat->Option eA}(h:∀ b g,lq p (k b g)):(h8 d k).cU (lq p):=by
 unfold Go.Fer.h8;split
 ·exact .bV
 ·exact λx=>h _ _
def aG.z_:aG->Bool
 | .hD _ _=>true
 | _=>false
theorem Gt{a:aG}(h:a.z_=false):(use a).1:=by
 cases a<;>first | trivial | cases h
def sC(aI:Operand->aG)(o:Oper):Bool:=o.op.operands.toList.all λx=>!(aI x).z_
def aG.afa:aG->Bool
 | .fG _ _=>false
 | .val (.map _ _) _=>false
 | _=>true
def Gu(aI:Operand->aG)(b:Builtin)(args:List Operand):Bool:=
 match b with
 | .len=>match args with
  | [x]=>(use (aI x)).2.afa
  | _=>false
 | .min=>true
 | .max=>true
 | _=>false
def aG.SL:aG->Bool
 | .iW ..=>true
 | _=>false
def nb(aI:Operand->aG)(o:Oper):Bool:=
 match o.op with
 | .move _ | .assign _ | .pick .. | .unOp .. | .extract .. | .fieldAddr .. | .field .. | .alloc .. | .box .. | .build .. | .buildSlice .. | .convert .. | .makeFunc .. | .makeMap .. | .lookup .. | .mapUpdate .. | .insert ..=>true
 | .load _ x=>!(use (aI x)).2.SL
 | .store _ x _=>!(use (aI x)).2.SL
 | .binOp op _ x _ _=>match op with
  | .quo | .rem | .shl | .shr=>false
  | .add=>(use (aI x)).2.mu.isSome
  | _=>true
 | .call c=>match c.callee with
  | .builtin b=>Gu aI b c.args.toList
  | _=>false
 | _=>false
theorem afb{op:BinOp}{k:IntKind}{a b:Int}{c:Prop}{v:aG}(h:zz op k a b=some (c,v))(E:op≠.quo)(U:op≠.rem):c:=by
 cases op<;>simp only[zz,Option.some.injEq,Prod.mk.injEq,reduceCtorEq]at h<;>first | (obtain⟨rfl,_⟩:=h;trivial) | contradiction
theorem afc{op:BinOp}{a b:List UInt8}{c:Prop}{v:aG}(h:Cp op a b=some (c,v))(E:op≠.add):c:=by
 cases op<;>simp only[Cp,Option.some.injEq,Prod.mk.injEq,reduceCtorEq]at h<;>first | (obtain⟨rfl,_⟩:=h;trivial) | contradiction
theorem afd{op:BinOp}{t:ab}{x y:aG}:(zA op t x y).cU (lq λr=>r.1):=by
 unfold zA;refine ao.cU.cP λe=>?_;cases op<;>first | exact .na trivial | exact .nil
section
variable {aP:dC} {T:Nat->ab} {be:Nat->Option aM} {aI:Operand->aG} {o:Oper}
theorem afe{op:BinOp}{ty:TypeId}{x y:Operand}{t:TypeId}(af:o.op=.binOp op ty x y t)(hc:nb aI o=true):(br aP T be aI o).cU (lq λr=>r.c):=by
 unfold br;rw[af];simp only;simp only[nb,af]at hc;split
 ·rename_i k a k' b E U;split
  ·cases hc
  ·cases hc
  ·split
   ·split
    ·rename_i c v G;refine .bN (afb G ?_ ?_)<;>(grind)
    ·exact .bV
   ·exact .bV
 ·rename_i pE;split
  ·rename_i a b E U;split
   ·rename_i c v G;refine .bN (afc G ?_);intro e;subst e;simp only at hc;generalize (use (aI x)).2=z at hc E;cases z<;>try (cases E;done)
    rename_i t d;cases t<;>first | (cases E;done) | (cases hc;done)
   ·exact .bV
  ·exact ao.cU.SK afd λr M=>.bN M
theorem Lw{p:eA->Prop}{ty:TypeId}{m x y:Operand}(h:∀ wl,p ⟨(use (aI m)).1/\(use (aI x)).1/\(use (aI y)).1,True,.undef,wl⟩):(rj T aI ty m x y).cU (lq p):=by
 unfold rj;split
 ·simp only;split
  ·split
   ·refine ao.cU.cP λ_=>ao.cU.cP λ_=>ao.cU.bind λ_=>λz=>?_;intro r M;split at M
    ·split at M
     ·simp only[Option.map_eq_some_iff]at M;grind
     grind
    grind
   ·exact .bV
  ·exact .bV
 ·exact .bV
theorem SM{ty:TypeId}{m x y:Operand}:(rj T aI ty m x y).cU (lq λr=>r.c):=Lw λ_=>trivial
theorem z'(hc:nb aI o=true):(br aP T be aI o).cU (lq λr=>r.c):=by
 cases af:o.op with
 | binOp op ty x y t=>exact afe af hc
 | move x=>unfold br;rw[af];exact .bN trivial
 | assign x=>
  unfold br;rw[af];simp only;split
  ·exact .h8 λb g=>λr M=>by grind
  ·exact .bN trivial
 | pick c a b=>
  unfold br;rw[af];simp only;split
  ·split
   ·split
    ·exact .bN trivial
    ·exact .bV
   ·split
    ·exact .bN trivial
    ·exact .bV
   ·exact .bV
  ·exact .bV
 | unOp op t x=>
  unfold br;rw[af];simp only;split
  ·exact .bN trivial
  ·exact .bN trivial
  ·exact .bV
 | extract x i=>
  unfold br;rw[af];simp only;split
  ·split
   ·exact .bN trivial
   ·exact .bV
  ·exact .bV
 | fieldAddr ty x f=>
  unfold br;rw[af];simp only;repeat' first | exact .bV | exact .bN trivial | split
  all_goals first
   | (intro z;intro r M;grind)
 | field ty x f=>
  unfold br;rw[af];simp only;repeat' first | exact .bV | exact .bN trivial | split
 | load ty x=>
  simp only[nb,af]at hc;unfold br;rw[af];simp only;split
  ·rename_i ah;rw[ah]at hc;cases hc
  ·exact ao.cU.cP λ_=>.bN trivial
 | store ty x y=>
  simp only[nb,af]at hc;unfold br;rw[af];simp only;split
  ·rename_i ah;rw[ah]at hc;cases hc
  ·exact ao.cU.cP λ_=>.na trivial
 | alloc ty=>
  unfold br;rw[af];simp only;exact .h8 λb g=>λr M=>by grind
 | box ty x=>
  unfold br;rw[af];simp only;split
  ·exact .h8 λb g=>λr M=>by grind
  ·exact .bV
 | build ty ps=>
  unfold br;rw[af];simp only;repeat' first | exact .bV | exact .bN trivial | refine ao.cU.cP λ_=>?_ | split
 | buildSlice ty n ps=>
  unfold br;rw[af];simp only;split
  ·refine ao.cU.cP λ_=>ao.cU.bind λ_=>.h8 λb g=>λr M=>by grind
  ·exact .bV
 | convert a b x=>
  unfold br;rw[af];simp only;repeat' first | exact .bV | exact .bN trivial | exact ao.cU.cP λ_=>.bN trivial | split
 | makeFunc fn first cZ=>
  unfold br;rw[af];simp only;split
  ·split
   ·split
    ·exact ao.cU.cP λ_=>ao.cU.bind λ_=>.na trivial
    ·split
     ·exact ao.cU.cP λ_=>ao.cU.bind λ_=>.na trivial
     ·exact .bN trivial
   ·split
    ·exact .bN trivial
    ·exact .bV
  ·exact .bV
 | makeMap ty r=>
  unfold br;rw[af];simp only;split
  ·exact .bV
  ·split
   ·exact .h8 λb g=>λr M=>by grind
   ·exact .bV
 | lookup ty m x ok=>
  unfold br;rw[af];simp only;unfold zD;split
  ·simp only;split
   ·exact ao.cU.cP λ_=>ao.cU.cP λ_=>.bN trivial
   ·exact .bV
  ·exact .bV
 | mapUpdate ty m x y=>
  unfold br;rw[af];exact SM
 | insert ty m x y=>
  unfold br;rw[af];exact SM
 | call c=>
  obtain⟨callee,args,dn⟩:=c;simp only[nb,af]at hc;unfold br;rw[af];simp only;unfold mS;cases callee with
  | builtin b=>
   simp only at hc ⊢;cases b with
   | len=>
    simp only[Cr];split
    ·rename_i x t ax aO;simp only[Gu,ax]at hc;generalize use (aI x)=u at hc;obtain⟨cB,dX⟩:=u;simp only at hc ⊢;refine ao.cU.SK (q:=λr:Prop×Int=>r.1) ?_ λr M=>.bN M;generalize T t=ty;cases ty<;>simp only[FX]<;>first | exact .bV | skip
     ·cases dX<;>first | exact .bV | skip
      ·rename_i cV d;cases cV<;>first | exact .bV | exact .na trivial
     ·cases dX<;>first | exact .bV | exact .na trivial | skip
      ·rename_i cV d;cases cV<;>first | exact .bV | exact .na trivial
      ·intro z r M;grind
      ·intro z r M;grind
     ·cases dX<;>first | exact .bV | (cases hc;done) | skip
      ·rename_i cV d;cases cV<;>first | exact .bV | cases hc
    ·exact .bV
   | min=>
    simp only[sk];repeat' first | exact .bN trivial | exact .bV | split
   | max=>
    simp only[sk];repeat' first | exact .bN trivial | exact .bV | split
   | _=>simp[Gu]at hc
  | _=>cases hc
 | _=>simp[nb,af]at hc
theorem C3:∀ {l:List aG},(∀ v∈l,(use v).1)->jK l
 | [],_=>trivial
 | v::l,h=>by
  have E:=h v (by simp);have U:=C3 (l:=l) λu hu=>h u (by grind);cases v<;>first | exact U | exact⟨E,U⟩
theorem Lx:∀ {l:List (Nat×aG)},(∀ v∈l,(use v.2).1)->sj l
 | [],_=>trivial
 | (i,v)::l,h=>by
  have E:=h (i,v) (by simp);have U:=Lx (l:=l) λu hu=>h u (by grind);cases v<;>first | exact U | exact⟨E,U⟩
theorem C4{x:Option Operand}{p:Prop}{n:Option Int}(h:lh aI x=some (p,n))(ah:∀ y,x=some y->(use (aI y)).1):p:=by
 unfold lh at h;grind
def ry(aI:Operand->aG)(o:Oper):Prop:=∀ x∈o.op.operands.toList,(use (aI x)).1
theorem Ly{aI:Operand->aG}{o:Oper}(h:sC aI o=true):ry aI o:=λx ah=>Gt (by simpa using List.all_eq_true.1 h x ah)
theorem ry.use{aI:Operand->aG}{o:Oper}(h:ry aI o){x:Operand}(ah:x∈o.op.operands.toList){ca:Prop}{v:aG}(hu:use (aI x)=(ca,v)):ca:=by
 have:=h x ah;grind
theorem SN(fA:ry aI o):(br aP T be aI o).cU (lq λr=>r.ca):=by
 unfold ry at fA;have ar:∀ x∈o.op.operands.toList,(use (aI x)).1:=fA;have hu:∀ x∈o.op.operands.toList,∀ {ca:Prop} {v:aG},use (aI x)=(ca,v)->ca:=λx ah ca v h=>ry.use fA ah h;cases af:o.op with
 | move x=>unfold br;rw[af];exact .bN trivial
 | assign x=>
  unfold br;rw[af];simp only;split
  ·exact .h8 λb g=>λr M=>by grind
  ·exact .bN trivial
 | pick c a b=>
  rw[af]at hu;unfold br;rw[af];simp only;split
  ·rename_i qt i_ lW;have E:=hu c (by simp[Op.operands]) lW;split
   ·split
    ·rename_i zE av a8;exact .bN ⟨E,λ_=>hu a (by simp[Op.operands]) a8⟩
    ·exact .bV
   ·split
    ·rename_i zE av a8;exact .bN ⟨E,λ_=>hu b (by simp[Op.operands]) a8⟩
    ·exact .bV
   ·exact .bV
  ·exact .bV
 | binOp op ty x y t=>
  rw[af]at fA;have h:=And.intro (fA x (by simp[Op.operands])) (fA y (by simp[Op.operands]));unfold br;rw[af];simp only;split
  ·split
   ·split
    ·exact .bN h
    ·exact .bV
   ·split
    ·exact .bN h
    ·exact .bV
   ·split
    ·split
     ·exact .bN h
     ·exact .bV
    ·exact .bV
  ·split
   ·split
    ·exact .bN h
    ·exact .bV
   ·exact ao.cU.cP λ_=>.bN h
 | unOp op t x=>
  rw[af]at hu;unfold br;rw[af];simp only;split
  ·rename_i ah;exact .bN (hu x (by simp[Op.operands]) ah)
  ·rename_i ah;exact .bN (hu x (by simp[Op.operands]) ah)
  ·exact .bV
 | extract x i=>
  rw[af]at hu;unfold br;rw[af];simp only;split
  ·rename_i ah;split
   ·exact .bN (hu x (by simp[Op.operands]) ah)
   ·exact .bV
  ·exact .bV
 | nilCheck x=>
  rw[af]at hu;unfold br;rw[af];simp only;split
  ·rename_i ah;intro z r M;split at M<;>cases M;exact hu x (by simp[Op.operands]) ah
  ·rename_i ah;exact .bN (hu x (by simp[Op.operands]) ah)
  ·rename_i ah;exact .bN (hu x (by simp[Op.operands]) ah)
  ·rename_i ah;intro z r M;split at M<;>cases M;exact hu x (by simp[Op.operands]) ah
  ·exact .bV
 | fieldAddr ty x f=>
  rw[af]at hu;unfold br;rw[af];simp only;split
  ·split
   ·split
    ·rename_i ah;intro z r M;split at M<;>cases M;exact hu x (by simp[Op.operands]) ah
    ·rename_i ah;intro z r M;split at M<;>cases M;exact hu x (by simp[Op.operands]) ah
    ·rename_i ah;intro z r M;split at M<;>cases M;exact hu x (by simp[Op.operands]) ah
    ·rename_i ah;split
     ·split
      ·exact .bN (hu x (by simp[Op.operands]) ah)
      ·exact .bV
     ·exact .bV
    ·exact .bV
   ·exact .bV
  ·exact .bV
 | field ty x f=>
  rw[af]at hu;unfold br;rw[af];simp only;split
  ·split
   ·rename_i ah;split
    ·split
     ·exact .bN (hu x (by simp[Op.operands]) ah)
     ·exact .bV
    ·exact .bV
   ·exact .bV
  ·exact .bV
 | load ty x=>
  rw[af]at hu;unfold br;rw[af];simp only;split
  ·rename_i ah;have h:=hu x (by simp[Op.operands]) ah;intro z r M;repeat' split at M
   all_goals first | (cases M;exact h) | cases M
  ·rename_i ah;exact ao.cU.cP λ_=>.bN (hu x (by simp[Op.operands]) ah)
 | store ty x y=>
  rw[af]at hu fA;unfold br;rw[af];simp only;split
  ·rename_i ah;have h:=hu x (by simp[Op.operands]) ah;have ds:=fA y (by simp[Op.operands]);unfold KI;split
   ·intro z r M;repeat' split at M
    all_goals first | (cases M;exact⟨h,ds⟩) | cases M
   ·exact .bV
  ·rename_i ah;exact ao.cU.cP λ_=>.na ⟨hu x (by simp[Op.operands]) ah,fA y (by simp[Op.operands])⟩
 | alloc ty=>
  unfold br;rw[af];simp only;exact .h8 λb g=>λr M=>by grind
 | box ty x=>
  rw[af]at fA;unfold br;rw[af];simp only;split
  ·exact .h8 λb g=>λr M=>by split at M<;>cases M;exact fA x (by simp[Op.operands])
  ·exact .bV
 | build ty ps=>
  rw[af]at ar;have h:sj (ps.toList.map λp=>(p.1,aI p.2)):=Lx λv ae=>by
   simp only[List.mem_map]at ae;obtain⟨p,an,rfl⟩:=ae;exact ar p.2 (by simp only[Op.operands,List.mem_map];grind)
  unfold br;rw[af];simp only;repeat' first | exact .bV | exact .bN h | refine ao.cU.cP λ_=>?_ | split
 | buildSlice ty n ps=>
  rw[af]at ar;have h:sj (ps.toList.map λp=>(p.1,aI p.2)):=Lx λv ae=>by
   simp only[List.mem_map]at ae;obtain⟨p,an,rfl⟩:=ae;exact ar p.2 (by simp only[Op.operands,List.mem_map];grind)
  unfold br;rw[af];simp only;split
  ·refine ao.cU.cP λ_=>ao.cU.bind λ_=>.h8 λb g=>λr M=>by grind
  ·exact .bV
 | indexAddr ty x i=>
  rw[af]at fA;have h:=And.intro (fA x (by simp[Op.operands])) (fA i (by simp[Op.operands]));unfold br;rw[af];simp only;split
  ·exact ao.cU.cP λ_=>.bN h
  ·split
   ·split
    ·exact .bN h
    ·exact .bV
   ·intro z r M;grind
   ·exact .bV
  ·exact .bV
 | index ty x i=>
  rw[af]at fA;have h:=And.intro (fA x (by simp[Op.operands])) (fA i (by simp[Op.operands]));unfold br;rw[af];simp only;split
  ·exact .bN h
  ·split
   ·split
    ·exact .bN h
    ·exact .bV
   ·split
    ·exact .bN h
    ·exact .bV
   ·exact .bV
  ·exact .bV
 | convert a b x=>
  rw[af]at fA;unfold br;rw[af];simp only;split
  ·exact .bN (fA x (by simp[Op.operands]))
  ·exact ao.cU.cP λ_=>.bN (fA x (by simp[Op.operands]))
  ·exact .bV
 | makeFunc fn first cZ=>
  rw[af]at ar;have h:jK (cZ.toList.map aI):=C3 λv ae=>by
   simp only[List.mem_map]at ae;obtain⟨p,an,rfl⟩:=ae;exact ar p (by simp[Op.operands];simp_all)
  have U:jK (first.toList.map aI):=C3 λv ae=>by
   simp only[List.mem_map]at ae;obtain⟨p,an,rfl⟩:=ae;exact ar p (by simp[Op.operands];simp_all)
  unfold br;rw[af];simp only;split
  ·split
   ·split
    ·exact ao.cU.cP λ_=>ao.cU.bind λ_=>.na h
    ·split
     ·exact ao.cU.cP λ_=>ao.cU.bind λ_=>.na h
     ·exact .bN h
   ·split
    ·exact .bN U
    ·exact .bV
  ·exact .bV
 | slice ty x aX G pv=>
  rw[af]at ar fA;unfold br;rw[af];simp only;split
  ·unfold F1;simp only;split
   ·rename_i ol l ri h vm m ai cT hm;have bb:=And.intro (fA x (by simp[Op.operands])) (And.intro (C4 ai λy aR=>ar y (by subst aR;simp[Op.operands])) (And.intro (C4 cT λy aR=>ar y (by subst aR;simp[Op.operands])) (C4 hm λy aR=>ar y (by subst aR;simp[Op.operands]))));split
    ·exact ao.cU.cP λ_=>.na bb
    ·exact .bV
   ·exact .bV
  ·unfold FZ;simp only;split
   ·rename_i ol l ri h ai cT;have bb:=And.intro (fA x (by simp[Op.operands])) (And.intro (C4 ai λy aR=>ar y (by subst aR;simp[Op.operands])) (C4 cT λy aR=>ar y (by subst aR;simp[Op.operands])));split
    ·exact ao.cU.cP λ_=>.na bb
    ·split
     ·exact .bN bb
     ·exact .bV
    ·exact .bV
   ·exact .bV
 | call c=>
  rw[af]at ar fA;obtain⟨callee,args,dn⟩:=c;have dW:∀ x∈args.toList,(use (aI x)).1:=λx ah=>ar x (by simp[Op.operands,Call.operands];simp_all);have pF:∀ x∈args.toList,(use (aI x)).1:=dW;have fF:jK (args.toList.map aI):=C3 λv ae=>by
   grind
  unfold br;rw[af];simp only;unfold mS;simp only;split
  ·split
   ·unfold Cr;split
    ·rename_i x t ax aO;exact ao.cU.cP λ_=>.bN (pF x (by grind))
    ·exact .bV
   ·split
    ·unfold Cw;split
     ·rename_i x y t u ax aO;have h:=And.intro (pF x (by grind)) (pF y (by grind));split
      ·simp only;refine ao.cU.cP λ_=>λz=>?_;intro r M;grind
      ·exact .bV
     ·exact .bV
    unfold Cs;split
    ·rename_i x y t u ax aO;have h:=And.intro (pF x (by grind)) (pF y (by grind));split
     ·simp only;unfold KG;split
      ·intro z;dsimp only;split
       ·split
        ·exact ao.cU.cP λ_=>.na h
        ·exact .bV
       ·exact .bV
      ·intro z;dsimp only;split
       ·split
        ·exact ao.cU.cP λ_=>.na h
        ·exact .bV
       ·exact .bV
      ·exact ao.cU.cP λ_=>.h8 λb g=>λr M=>by grind
      ·split
       ·exact ao.cU.cP λ_=>.h8 λb g=>λr M=>by grind
       ·exact .bV
      ·exact .bV
     ·exact .bV
    ·exact .bV
   ·unfold Cx;split
    ·rename_i x t ax aO;have h:=pF x (by grind);split
     ·simp only;split
      ·intro z;intro r M;grind
      ·exact .bV
     ·exact .bV
    ·exact .bV
   ·unfold F4;split
    ·rename_i x y t u ax aO;have h:=And.intro (pF x (by grind)) (pF y (by grind));split
     ·simp only;split
      ·refine ao.cU.cP λ_=>λz=>?_;intro r M;grind
      ·exact .bV
     ·exact .bV
    ·exact .bV
   ·unfold sk;split
    ·rename_i x y l ax;split
     ·split
      ·rename_i ai;exact .bN ⟨pF x (by grind),Lv (y::l) (λp an=>pF p (by rw[ax];exact List.mem_cons_of_mem _ an)) ai⟩
      ·exact .bV
     ·exact .bV
    ·exact .bV
   ·unfold sk;split
    ·rename_i x y l ax;split
     ·split
      ·rename_i ai;exact .bN ⟨pF x (by grind),Lv (y::l) (λp an=>pF p (by rw[ax];exact List.mem_cons_of_mem _ an)) ai⟩
      ·exact .bV
     ·exact .bV
    ·exact .bV
   ·unfold Ct;split
    ·rename_i x t ax aO;have h:=pF x (by grind);split
     ·rename_i cv;exact .bN (by grind)
     ·exact .bV
    ·exact .bV
   ·exact .bV
  ·split
   ·unfold F2;simp only;split
    ·refine ao.cU.cP λ_=>?_;split
     ·refine ao.cU.bind λ_=>.h8 λb g=>λr M=>?_;split at M
      ·cases M
      ·cases M;exact fF
     ·exact ao.cU.bind λ_=>.na fF
    ·exact .bV
   ·exact .bV
  ·exact .bV
 | makeMap ty r=>
  unfold br;rw[af];simp only;split
  ·exact .bV
  ·split
   ·exact .h8 λb g=>λr M=>by grind
   ·exact .bV
 | lookup ty m x ok=>
  rw[af]at fA;have h:=And.intro (fA m (by simp[Op.operands])) (fA x (by simp[Op.operands]));unfold br;rw[af];simp only;unfold zD;split
  ·simp only;split
   ·exact ao.cU.cP λ_=>ao.cU.cP λ_=>.bN h
   ·exact .bV
  ·exact .bV
 | mapUpdate ty m x y=>
  rw[af]at fA;unfold br;rw[af];exact Lw λ_=>⟨fA m (by simp[Op.operands]),fA x (by simp[Op.operands]),fA y (by simp[Op.operands])⟩
 | insert ty m x y=>
  rw[af]at fA;unfold br;rw[af];exact Lw λ_=>⟨fA m (by simp[Op.operands]),fA x (by simp[Op.operands]),fA y (by simp[Op.operands])⟩
 | makeSlice ty l c=>
  rw[af]at fA;have h:=And.intro (fA l (by simp[Op.operands])) (fA c (by simp[Op.operands]));unfold br;rw[af];simp only;unfold F3;split
  ·simp only;split
   ·exact .h8 λb g=>λr M=>by grind
   ·exact .bV
  ·exact .bV
 | makeInterface t x=>unfold br;rw[af];exact .bN trivial
 | panic x=>unfold br;rw[af];exact .bN trivial
 | _=>unfold br;rw[af];exact .bV
theorem SO(hc:sC aI o=true):(br aP T be aI o).cU (lq λr=>r.ca):=SN (Ly hc)
end
end Go.Fer
namespace Go.Fer
open Go.RowKit
theorem Lz{aI jt:Operand->aG}{k:IntKind}:∀ (l:List Operand),(∀ x∈l,aI x=jt x)->mR aI k l=mR jt k l
 | [],_=>rfl
 | [x],h=>by simp only[mR,h x (by simp)]
 | x::y::l,h=>by simp only[mR,h x (by simp),Lz (y::l) λz bj=>h z (List.mem_cons_of_mem _ bj)]
section
variable {aP:dC} {T:Nat->ab} {be:Nat->Option aM} {aI jt:Operand->aG} {o:Oper}
theorem LA{x:Option Operand}(h:∀ y,x=some y->aI y=jt y):lh aI x=lh jt x:=by
 cases x with
 | none=>rfl
 | some y=>have:=h y rfl;unfold lh;grind
theorem aff(h:∀ x∈o.op.operands.toList,aI x=jt x):br aP T be aI o=br aP T be jt o:=by
 cases af:o.op with
 | move x=>rw[af]at h;have E:=h x (by simp[Op.operands]);unfold br;simp_all
 | assign x=>rw[af]at h;have E:=h x (by simp[Op.operands]);unfold br;simp_all
 | pick c a b=>
  rw[af]at h;have E:=h c (by simp[Op.operands]);have U:=h a (by simp[Op.operands]);have ag:=h b (by simp[Op.operands]);unfold br;simp_all
 | binOp op ty x y t=>
  rw[af]at h;have E:=h x (by simp[Op.operands]);have U:=h y (by simp[Op.operands]);unfold br;simp_all
 | unOp op t x=>rw[af]at h;have E:=h x (by simp[Op.operands]);unfold br;simp_all
 | extract x i=>rw[af]at h;have E:=h x (by simp[Op.operands]);unfold br;simp_all
 | nilCheck x=>rw[af]at h;have E:=h x (by simp[Op.operands]);unfold br;simp_all
 | fieldAddr ty x f=>rw[af]at h;have E:=h x (by simp[Op.operands]);unfold br;simp_all
 | field ty x f=>rw[af]at h;have E:=h x (by simp[Op.operands]);unfold br;simp_all
 | load ty x=>rw[af]at h;have E:=h x (by simp[Op.operands]);unfold br;simp_all
 | store ty x y=>
  rw[af]at h;have E:=h x (by simp[Op.operands]);have U:=h y (by simp[Op.operands]);unfold br;simp_all
 | alloc ty=>unfold br;rw[af]
 | box ty x=>rw[af]at h;have E:=h x (by simp[Op.operands]);unfold br;simp_all
 | build ty ps=>
  rw[af]at h;have E:ps.toList.map (λp=>(p.1,aI p.2))=ps.toList.map (λp=>(p.1,jt p.2)):=List.map_congr_left λp an=>by rw[h p.2 (by simp only[Op.operands,List.mem_map];grind)]
  unfold br;rw[af];simp only[E]
 | buildSlice ty n ps=>
  rw[af]at h;have E:ps.toList.map (λp=>(p.1,aI p.2))=ps.toList.map (λp=>(p.1,jt p.2)):=List.map_congr_left λp an=>by rw[h p.2 (by simp only[Op.operands,List.mem_map];grind)]
  unfold br;rw[af];simp only[E]
 | indexAddr ty x i=>
  rw[af]at h;have E:=h x (by simp[Op.operands]);have U:=h i (by simp[Op.operands]);unfold br;simp_all
 | index ty x i=>
  rw[af]at h;have E:=h x (by simp[Op.operands]);have U:=h i (by simp[Op.operands]);unfold br;simp_all
 | convert a b x=>rw[af]at h;have E:=h x (by simp[Op.operands]);unfold br;simp_all
 | makeFunc fn first cZ=>
  rw[af]at h;have E:cZ.toList.map aI=cZ.toList.map jt:=List.map_congr_left λp an=>h p (by simp[Op.operands];simp_all);have U:first.toList.map aI=first.toList.map jt:=List.map_congr_left λp an=>h p (by simp[Op.operands];simp_all)
  unfold br;rw[af];simp only[E,U]
 | lookup ty m x ok=>
  rw[af]at h;have E:=h m (by simp[Op.operands]);have U:=h x (by simp[Op.operands]);unfold br;rw[af];simp only[zD,E,U]
 | mapUpdate ty m x y=>
  rw[af]at h;have E:=h m (by simp[Op.operands]);have U:=h x (by simp[Op.operands]);have ag:=h y (by simp[Op.operands]);unfold br;rw[af];simp only[rj,E,U,ag]
 | insert ty m x y=>
  rw[af]at h;have E:=h m (by simp[Op.operands]);have U:=h x (by simp[Op.operands]);have ag:=h y (by simp[Op.operands]);unfold br;rw[af];simp only[rj,E,U,ag]
 | makeSlice ty l c=>
  rw[af]at h;have E:=h l (by simp[Op.operands]);have U:=h c (by simp[Op.operands]);unfold br;rw[af];simp only[F3,E,U]
 | slice ty x aX G pv=>
  rw[af]at h;have E:=h x (by simp[Op.operands]);have U:lh aI aX=lh jt aX:=LA λy aR=>h y (by subst aR;simp[Op.operands]);have ag:lh aI G=lh jt G:=LA λy aR=>h y (by subst aR;simp[Op.operands]);have a6:lh aI pv=lh jt pv:=LA λy aR=>h y (by subst aR;simp[Op.operands]);unfold br;rw[af];simp only[FZ,F1,E,U,ag,a6]
 | call c=>
  rw[af]at h;obtain⟨callee,args,dn⟩:=c;have dW:∀ x∈args.toList,aI x=jt x:=λx ah=>h x (by simp[Op.operands,Call.operands];simp_all);have ai:args.toList.map aI=args.toList.map jt:=List.map_congr_left dW;unfold br;rw[af];simp only;unfold mS;simp only;split
  ·split
   ·unfold Cr;grind
   ·have rz:xi aI args.toList=xi jt args.toList:=by
     unfold xi;grind
    rw[rz];split
    ·unfold Cw;split
     ·rename_i x y t u ax aO;rw[dW x (by simp[ax]),dW y (by simp[ax])]
     ·rfl
    ·unfold Cs;grind
   ·unfold Cx;split
    ·rename_i x t ax aO;rw[dW x (by simp[ax])]
    ·rfl
   ·unfold F4;split
    ·rename_i x y t u ax aO;rw[dW x (by grind),dW y (by grind)]
    ·rfl
   ·unfold sk;split
    ·rename_i x y l ax;have ai:∀ k,mR aI k (y::l)=mR jt k (y::l):=λk=>Lz (y::l) λp an=>dW p (by rw[ax];exact List.mem_cons_of_mem _ an);simp only[dW x (by simp[ax]),ai]
    ·rfl
   ·unfold sk;split
    ·rename_i x y l ax;have ai:∀ k,mR aI k (y::l)=mR jt k (y::l):=λk=>Lz (y::l) λp an=>dW p (by rw[ax];exact List.mem_cons_of_mem _ an);simp only[dW x (by simp[ax]),ai]
    ·rfl
   ·unfold Ct;grind
   ·rfl
  ·split
   ·unfold F2;simp only[ai]
   ·rfl
  ·rfl
 | _=>unfold br;rw[af]
end
end Go.Fer
namespace Go.Fer
open Go.RowKit
def Gv(want b:Bool):Bool:=match want with | true=>b | false=>!b
def kE(s:Nat->aG)(ops:Array Oper):Option (Nat×Bool)->Option (Option Bool)
 | none=>some none
 | some (j,want)=>match ops[j]? with
  | some o=>match o.dst with
   | some d=>match s d with
    | .val .bool b=>some (some (Gv want b))
    | .hD g (.val .bool b)=>some (some (g&&Gv want b))
    | _=>none
   | none=>none
  | none=>none
def Gw(ops:Array Oper):Option (Nat×Bool)->List Nat
 | none=>[]
 | some (j,_)=>match ops[j]? with
  | some o=>o.dst.toList
  | none=>[]
def afg(l:List Operand):List Nat:=l.filterMap fun | .tmp t=>some t | _=>none
def C5(ops:Array Oper)(o:Oper):List Nat:=Gw ops o.guard++afg o.op.operands.toList
structure eN where
 cs:List Prop
 dst:Option Nat
 e6:aG
 hF:List (Nat×bJ)
 kF:List Nat
 uj:List Nat
def eN.h'(r:eN)(s:aA):aA:=(s.fZ r.hF).set r.dst r.e6
def eN.n2(r:eN):List Nat:=r.dst.toList
def eN.nc(r:eN):List Nat:=r.hF.map (·.1)
def C6(df dJ:Bool)(ca c:Prop):List Prop:=(match df with | true=>[] | false=>[ca])++(match dJ with | true=>[] | false=>[c])
def vz(aP:dC)(T:Nat->ab)(be:Nat->Option aM)(ops:Array Oper)(s:aA)(o:Oper):Option eN:=
 match kE s.ay ops o.guard with
 | none=>none
 | some g=>match (br aP T be (aZ aP s.ay) o).run s.aa with
  | none=>none
  | some res=>match g with
   | none=>some ⟨C6 (sC (aZ aP s.ay) o) (nb (aZ aP s.ay) o) res.ca res.c,o.dst,res.e6,res.hF,C5 ops o,(br aP T be (aZ aP s.ay) o).looks s.aa⟩
   | some b=>match res.hF with
    | []=>some ⟨C6 (sC (aZ aP s.ay) o&&(nb (aZ aP s.ay) o&&!res.e6.z_)) true (b=true->res.ca/\(res.c/\(use res.e6).1)) True,o.dst,.hD b (use res.e6).2,[],C5 ops o,(br aP T be (aZ aP s.ay) o).looks s.aa⟩
    | _=>none
def xA(aP:dC)(T:Nat->ab)(be:Nat->Option aM)(ops:Array Oper):List Oper->aA->Option (List eN×aA)
 | [],s=>some ([],s)
 | o::os,s=>match vz aP T be ops s o with
  | none=>none
  | some r=>match xA aP T be ops os (r.h' s) with
   | none=>none
   | some (l,s')=>some (r::l,s')
def C7(a b:List Nat):Bool:=a.all λx=>!b.contains x
def eN.apart(a b:eN):Bool:=C7 a.n2 (b.kF++b.n2)&&C7 a.kF b.n2&&C7 a.nc (b.uj++b.nc)&&C7 a.uj b.nc
def ia(o:Oper):List Nat:=o.after.toList.filterMap λe=>if Region.binds .any e then some e.on else none
def C8(acc:List Nat):List Nat->List Nat
 | []=>acc
 | x::l=>match acc.contains x with | true=>C8 acc l | false=>C8 (x::acc) l
theorem LB{x:Nat}:∀ {l acc:List Nat},x∈C8 acc l->x∈acc\/x∈l
 | [],acc,h=>.inl h
 | y::l,acc,h=>by
  unfold C8 at h;split at h
  ·exact (LB h).imp_right (List.mem_cons_of_mem _)
  ·rcases LB h with h | h
   ·rcases List.mem_cons.1 h with h | h
    ·exact .inr (h ▸ List.mem_cons_self)
    ·exact .inl h
   ·exact .inr (List.mem_cons_of_mem _ h)
def Aa(acc:List (List Nat))(o:Oper):List (List Nat):=acc++[C8 [] ((ia o).flatMap λj=>j::acc.getD j [])]
def iq(ops:List Oper):List (List Nat):=ops.foldl Aa []
def afh(cl:List (List Nat))(l:List eN):Bool:=
 (List.range l.length).all λj=>(List.range j).all λi=>match l[i]?,l[j]? with
  | some a,some b=>(cl.getD j []).contains i||a.apart b
  | _,_=>false
def C9(ops:List Oper):Bool:=(List.range ops.length).all λj=>match ops[j]? with
 | some o=>(ia o).all λi=>decide (i<j)
 | none=>false
def Ab(ops:List Oper)(l:List eN):Bool:=C9 ops&&afh (iq ops) l
def xB(R:List Nat)(s s':aA):Prop:=∀ t∈R,s.ay t=s'.ay t
def xC(B:List Nat)(s s':aA):Prop:=∀ b∈B,s.aa b=s'.aa b
theorem Gx{a b:List Nat}(h:C7 a b=true){x:Nat}(ah:x∈a):x ∉ b:=by
 have:=List.all_eq_true.1 h x ah;grind
theorem Ac(s:aA):∀ (l:List (Nat×bJ)),(s.fZ l).ay=s.ay:=by
 intro l;induction l generalizing s with
 | nil=>rfl
 | cons p l aH=>simp only[aA.fZ];rw[aH];rfl
theorem LC{b:Nat}:∀ (l:List (Nat×bJ)) (s:aA),b ∉ l.map (·.1)->(s.fZ l).aa b=s.aa b:=by
 intro l;induction l with
 | nil=>intro s _;rfl
 | cons p l aH=>
  intro s h;simp only[List.map_cons,List.mem_cons,not_or]at h;simp only[aA.fZ];rw[aH _ h.2];simp[aA.cw,h.1]
theorem LD{b:Nat}:∀ (l:List (Nat×bJ)) (s s':aA),b∈l.map (·.1)->(s.fZ l).aa b=(s'.fZ l).aa b:=by
 intro l;induction l with
 | nil=>simp
 | cons p l aH=>
  intro s s' h;simp only[aA.fZ];by_cases W:b∈l.map (·.1)
  ·grind
  ·rw[LC l _ W,LC l _ W];have:b=p.1:=by grind
   simp[aA.cw,this]
theorem afi(s:aA)(d:Option Nat)(v:aG):(s.set d v).aa=s.aa:=by cases d<;>rfl
theorem Gy(r:eN)(s:aA)(t:Nat):(r.h' s).ay t=if t∈r.n2 then r.e6 else s.ay t:=by
 unfold eN.h' eN.n2;cases h:r.dst with
 | none=>simp[aA.set,Ac]
 | some d=>simp[aA.set,Ac,eq_comm]
theorem xD(r:eN)(s:aA)(b:Nat):(r.h' s).aa b=(s.fZ r.hF).aa b:=by unfold eN.h';rw[afi]
theorem SP{r:eN}{s:aA}{t:Nat}(h:t ∉ r.n2):(r.h' s).ay t=s.ay t:=by rw[Gy,if_neg h]
theorem uk{r:eN}{s:aA}{b:Nat}(h:b ∉ r.nc):(r.h' s).aa b=s.aa b:=by rw[xD];exact LC _ _ h
theorem aA.ext'{s s':aA}(E:∀ t,s.ay t=s'.ay t)(U:∀ b,s.aa b=s'.aa b):s=s':=by
 obtain⟨a,b⟩:=s;obtain⟨a',bd⟩:=s';rw[show a=a' from funext E,show b=bd from funext U]
theorem afj{a b:eN}(E:∀ t∈a.n2,t ∉ b.n2)(U:∀ x∈a.nc,x ∉ b.nc)(s:aA):a.h' (b.h' s)=b.h' (a.h' s):=by
 apply aA.ext'
 ·intro t;simp only[Gy];grind
 ·intro x;by_cases a8:x∈a.nc
  ·have W:=U x a8;rw[uk W,xD,xD];exact LD _ _ _ a8
  ·rw[uk a8];by_cases W:x∈b.nc
   ·rw[xD,xD];exact LD _ _ _ W
   ·rw[uk W,uk W,uk a8]
def jP(l:List eN)(s:aA):aA:=l.foldl (λs r=>r.h' s) s
theorem afk{R B:List Nat}:∀ (l:List eN) (s:aA),(∀ r∈l,(∀ t∈R,t ∉ r.n2)/\∀ b∈B,b ∉ r.nc)->xB R (jP l s) s/\xC B (jP l s) s:=by
 intro l;induction l with
 | nil=>intro s _;exact⟨λ_ _=>rfl,λ_ _=>rfl⟩
 | cons r l aH=>
  intro s h;obtain⟨E,U⟩:=aH (r.h' s) λql a_=>h ql (List.mem_cons_of_mem _ a_);have M:=h r (List.mem_cons_self);exact⟨λt aL=>(E t aL).trans (SP (M.1 t aL)),λb W=>(U b W).trans (uk (M.2 b W))⟩
theorem afl{R B:List Nat}{r:eN}{s s':aA}(E:xB R s s')(U:xC B s s'):xB R (r.h' s) (r.h' s')/\xC B (r.h' s) (r.h' s'):=by
 refine⟨λt aL=>?_,λb W=>?_⟩
 ·rw[Gy,Gy];split
  ·rfl
  ·exact E t aL
 ·by_cases hw:b∈r.nc
  ·rw[xD,xD];exact LD _ _ _ hw
  ·rw[uk hw,uk hw];exact U b W
theorem afm{R B:List Nat}(p:Nat×eN->Bool):∀ (l:List (Nat×eN)) (s s':aA),xB R s s'->xC B s s'->(∀ r∈l,p r=false->(∀ t∈R,t ∉ r.2.n2)/\∀ b∈B,b ∉ r.2.nc)->
  xB R (jP ((l.filter p).map (·.2)) s) (jP (l.map (·.2)) s')/\xC B (jP ((l.filter p).map (·.2)) s) (jP (l.map (·.2)) s'):=by
 intro l;induction l with
 | nil=>intro s s' E U _;exact⟨E,U⟩
 | cons r l aH=>
  intro s s' E U h;have ai:=λql a_=>h ql (List.mem_cons_of_mem _ a_);cases an:p r with
  | true=>
   rw[List.filter_cons_of_pos an];obtain⟨aQ,aV⟩:=afl (r:=r.2) E U;exact aH _ _ aQ aV ai
  | false=>
   rw[List.filter_cons_of_neg (by grind)];have M:=h r (List.mem_cons_self) an;exact aH _ _ (λt aL=>(E t aL).trans (SP (M.1 t aL)).symm) (λb W=>(U b W).trans (uk (M.2 b W)).symm) ai
theorem afn{r:eN}:∀ (l:List eN) (s:aA),(∀ x∈l,(∀ t∈r.n2,t ∉ x.n2)/\∀ b∈r.nc,b ∉ x.nc)->jP l (r.h' s)=r.h' (jP l s):=by
 intro l;induction l with
 | nil=>intro s _;rfl
 | cons x l aH=>
  intro s h;have ah:=h x (List.mem_cons_self);show jP l (x.h' (r.h' s))=r.h' (jP l (x.h' s));rw[<-afj ah.1 ah.2 s];grind
def iI:Nat->List eN->List (Nat×eN)
 | _,[]=>[]
 | n,r::l=>(n,r)::iI (n+1) l
theorem SQ:∀ (l m:List eN) (n:Nat),iI n (l++m)=iI n l++iI (n+l.length) m
 | [],m,n=>by rfl
 | r::l,m,n=>by simp only[List.cons_append,iI,SQ l m (n+1),List.length_cons];grind
theorem C_:∀ (l:List eN) (n:Nat),(iI n l).map (·.2)=l
 | [],_=>rfl
 | r::l,n=>by simp only[iI,List.map_cons,C_ l (n+1)]
theorem Ad:∀ {l:List eN} {n j:Nat} {x:eN},(j,x)∈iI n l->n<=j/\l[j - n]?=some x
 | r::l,n,j,x,h=>by
  simp only[iI,List.mem_cons,Prod.mk.injEq]at h;rcases h with⟨rfl,rfl⟩ | h
  ·simp
  ·obtain⟨E,U⟩:=Ad h;grind
 | [],_,_,_,h=>by cases h
def ju(l:List eN)(s:aA)(f:Nat->Bool):aA:=jP (((iI 0 l).filter λp=>f p.1).map (·.2)) s
theorem SR(l m:List eN)(s:aA):jP (l++m) s=jP m (jP l s):=by simp[jP]
theorem LF{a b:eN}(h:a.apart b=true):(∀ t∈a.n2,t ∉ b.kF/\t ∉ b.n2)/\(∀ t∈a.kF,t ∉ b.n2)/\(∀ x∈a.nc,x ∉ b.uj/\x ∉ b.nc)/\∀ x∈a.uj,x ∉ b.nc:=by
 simp only[eN.apart,Bool.and_eq_true]at h;obtain⟨⟨⟨E,U⟩,ag⟩,a6⟩:=h;refine⟨λt aL=>?_,λt aL=>Gx U aL,λx ah=>?_,λx ah=>Gx a6 ah⟩
 ·have:=Gx E aL;grind
 ·have:=Gx ag ah;grind
theorem SS{l:List eN}{s:aA}{f:Nat->Bool}{i:Nat}{r:eN}(G:l[i]?=some r)(ar:f i=false)
  (gO:∀ j x,j<i->l[j]?=some x->f j=false->x.apart r=true) (um:∀ j x,i<j->l[j]?=some x->f j=true->r.apart x=true) :
  xB r.kF (ju l s f) (jP (l.take i) s)/\xC r.uj (ju l s f) (jP (l.take i) s)/\ju l s (λj=>if j=i then true else f j)=r.h' (ju l s f):=by
 obtain⟨cj,eT⟩:=List.getElem?_eq_some_iff.1 G;have hlen:(l.take i).length=i:=by grind
 have SU:iI 0 l=iI 0 (l.take i)++(i,r)::iI (i+1) (l.drop (i+1)):=by
  have E:l=l.take i++r::l.drop (i+1):=by
   have:=List.take_append_drop i l;rw[List.drop_eq_getElem_cons cj,eT]at this;grind
  have U:=SQ (l.take i) (r::l.drop (i+1)) 0;rw[<-E,hlen]at U;simpa [iI]using U
 have afo:∀ p∈iI 0 (l.take i),p.1<i/\l[p.1]?=some p.2:=by
  rintro⟨j,x⟩ an;obtain⟨_,U⟩:=Ad an;grind
 have ax_:∀ p∈iI (i+1) (l.drop (i+1)),i<p.1/\l[p.1]?=some p.2:=by
  rintro⟨j,x⟩ an;obtain⟨E,U⟩:=Ad an;grind
 have SV:∀ x∈((iI (i+1) (l.drop (i+1))).filter λp=>f p.1).map (·.2),r.apart x=true:=by
  grind
 have ir:ju l s f=jP (((iI (i+1) (l.drop (i+1))).filter λp=>f p.1).map (·.2)) (jP (((iI 0 (l.take i)).filter λp=>f p.1).map (·.2)) s):=by
  unfold ju;rw[SU,List.filter_append,List.filter_cons_of_neg (by grind),List.map_append,SR]
 have rz:=afk (R:=r.kF) (B:=r.uj) (((iI (i+1) (l.drop (i+1))).filter λp=>f p.1).map (·.2)) (jP (((iI 0 (l.take i)).filter λp=>f p.1).map (·.2)) s)
  (λx ah=>by
   have:=LF (SV x ah);grind)
 have rA:=afm (R:=r.kF) (B:=r.uj) (λp=>f p.1) (iI 0 (l.take i)) s s (λ_ _=>rfl) (λ_ _=>rfl) (λp an afp=>by
  obtain⟨E,U⟩:=afo p an;have:=LF (gO p.1 p.2 E U afp);grind)
 rw[C_]at rA;refine⟨λt aL=>by rw[ir];exact (rz.1 t aL).trans (rA.1 t aL),λb W=>by rw[ir];exact (rz.2 b W).trans (rA.2 b W),?_⟩;rw[ir];unfold ju;have ax:(iI 0 (l.take i)).filter (λp=>if p.1=i then true else f p.1)=(iI 0 (l.take i)).filter λp=>f p.1:=by
  apply List.filter_congr;grind
 have aO:(iI (i+1) (l.drop (i+1))).filter (λp=>if p.1=i then true else f p.1)=(iI (i+1) (l.drop (i+1))).filter λp=>f p.1:=by
  apply List.filter_congr;grind
 rw[SU,List.filter_append,List.filter_cons_of_pos (by simp),ax,aO,List.map_append,SR];show jP _ (r.h' _)=_;refine afn _ _ λx ah=>?_;have:=LF (SV x ah);grind
theorem xE{p:Nat->Prop}:∀ (ops:List Oper) (acc:List (List Nat)),(∀ j i,i∈acc.getD j []->p j->p i)->(∀ j o,ops[j]?=some o->∀ i∈ia o,p (acc.length+j)->p i)->
  ∀ j i,i∈(ops.foldl Aa acc).getD j []->p j->p i:=by
 intro ops;induction ops with
 | nil=>simp
 | cons o ops aH=>
  intro acc h aq;refine aH (Aa acc o) (λj i G aE=>?_) λj hT kj i G aE=>aq (j+1) hT (by grind) i G (by
   have:(Aa acc o).length=acc.length+1:=by simp[Aa]
   grind)
  unfold Aa at G;rw[List.getD_eq_getElem?_getD,List.getElem?_append]at G;split at G
  ·grind
  ·rename_i cj;by_cases e:j=acc.length
   ·subst e;simp only[Nat.sub_self,List.getElem?_cons_zero,Option.getD_some]at G;have G:=(LB G).resolve_left (by simp);simp only[List.mem_flatMap,List.mem_cons]at G;obtain⟨k,al,G⟩:=G;have vA:=aq 0 o (by simp) k al (by omega);grind
   grind
theorem SW{aP:dC}{T:Nat->ab}{be:Nat->Option aM}{ops:Array Oper}:∀ (os:List Oper) (s:aA) {l:List eN} {s':aA},xA aP T be ops os s=some (l,s')->
  l.length=os.length/\s'=jP l s/\∀ i o,os[i]?=some o->∃ r,l[i]?=some r/\vz aP T be ops (jP (l.take i) s) o=some r:=by
 intro os;induction os with
 | nil=>intro s l s' h;cases h;exact⟨rfl,rfl,λi o h=>by cases h⟩
 | cons o os aH=>
  intro s l s' h;simp only[xA]at h;split at h
  ·cases h
  ·rename_i r M;split at h
   ·cases h
   ·rename_i dE ax' ai;cases h;obtain⟨E,U,ag⟩:=aH _ ai;refine⟨by grind,U,λi hT kj=>?_⟩;cases i with
    | zero=>
     simp only[List.getElem?_cons_zero,Option.some.injEq]at kj;subst kj;exact⟨r,by simp,M⟩
    | succ i=>
     obtain⟨ql,aQ,aV⟩:=ag i hT (by grind);exact⟨ql,by grind,aV⟩
theorem LG{ops:Array Oper}{f iF:Nat->aG}{g:Option (Nat×Bool)}(h:∀ t∈Gw ops g,f t=iF t):kE f ops g=kE iF ops g:=by
 unfold kE;cases g with
 | none=>rfl
 | some p=>
  obtain⟨j,want⟩:=p;simp only;cases aE:ops[j]? with
  | none=>rfl
  | some o=>
   simp only;cases aq:o.dst with
   | none=>rfl
   | some d=>
    simp only;rw[h d (by simp[Gw,aE,aq])]
theorem SX{aP:dC}{T:Nat->ab}{be:Nat->Option aM}{ops:Array Oper}{s s':aA}{o:Oper}{r:eN}(h:vz aP T be ops s o=some r)(E:xB r.kF s' s)(U:xC r.uj s' s):vz aP T be ops s' o=some r:=by
 have SY:r.kF=C5 ops o/\r.uj=(br aP T be (aZ aP s.ay) o).looks s.aa:=by
  unfold vz at h;grind
 rw[SY.1]at E;rw[SY.2]at U;have kX:∀ x∈o.op.operands.toList,aZ aP s'.ay x=aZ aP s.ay x:=by
  intro x ah;cases x with
  | tmp t=>
   refine E t ?_;simp only[C5,List.mem_append];exact .inr (List.mem_filterMap.2 ⟨.tmp t,ah,rfl⟩)
  | _=>rfl
 have ax:kE s'.ay ops o.guard=kE s.ay ops o.guard:=LG λt aL=>E t (by simp[C5,aL]);have aO:br aP T be (aZ aP s'.ay) o=br aP T be (aZ aP s.ay) o:=aff kX;have cv:=ao.Rx (H:=s.aa) (H':=s'.aa) (br aP T be (aZ aP s.ay) o) U;have ec:sC (aZ aP s'.ay) o=sC (aZ aP s.ay) o:=by
  unfold sC;grind
 have gV:nb (aZ aP s'.ay) o=nb (aZ aP s.ay) o:=by
  unfold nb;cases af:o.op with
  | binOp op ty x y t=>
   rw[af]at kX;simp only;rw[kX x (by simp[Op.operands])]
  | load ty x=>rw[af]at kX;simp only;rw[kX x (by simp[Op.operands])]
  | store ty x y=>rw[af]at kX;simp only;rw[kX x (by simp[Op.operands])]
  | call c=>
   obtain⟨callee,args,dn⟩:=c;rw[af]at kX;cases callee with
   | builtin b=>
    have cT:∀ x∈args.toList,aZ aP s'.ay x=aZ aP s.ay x:=λx ah=>kX x (by simp[Op.operands,Call.operands];simp_all);simp only;unfold Gu;grind
   | _=>rfl
  | _=>rfl
 unfold vz at h ⊢;simp_all
universe u
def A.fail{β:Type}:A β:=⟨False,λ_=>False⟩
inductive bX where
 | undef
 | val (t:ab)
 | dU (t:ab)
 | bc (b off:Nat)
 | own (b:Nat)
 | sub (b:Nat)
 | fG (b:Nat)
 | j8 (b:Nat)
 | dm
 | iB (k:FuncId) (fU:z8')
 | aW (aJ:ab)
 | hg
 | hH (bs:List Nat)
 | iW (b:Nat)
 deriving DecidableEq
inductive b5 where
 | cells (t:ab) (l:List bX)
 | bg (e:ab)
 | hE (e:ab)
 | mp (k v:ab)
 | jk (k v:ab)
 | f_ (t:ab)
 | gL (t:ab)
 | cq (k v:ab)
 | gi (e:ab) (t:bX)
def bX.cons(t:bX)(R:Type):Type:=
 match t with
 | .val t=>t.aj×R
 | .dU t=>t.aj×R
 | .sub _=>(Nat×Nat)×R
 | .aW aJ=>(Nat×(List aJ.aj->Prop)×List aJ.aj×Bool)×R
 | .hg=>Nat×R
 | .iW _=>Nat×R
 | _=>R
def qB:List bX->Type->Type
 | [],R=>R
 | t::l,R=>t.cons (qB l R)
def b5.cons(t:b5)(R:Type):Type:=
 match t with
 | .cells _ l=>qB l R
 | .bg e=>List e.aj×R
 | .hE e=>List e.aj×R
 | .mp k v=>List (k.aj×v.aj)×R
 | .jk k v=>List (k.aj×v.aj)×R
 | .f_ t=>t.aj×R
 | .gL t=>t.aj×R
 | .cq k v=>(Option (k.aj×v.aj)×List (k.aj×v.aj))×R
 | .gi e t=>(List e.aj×Nat)×t.cons R
def b5.C':b5->Bool
 | .cells _ _ | .bg _ | .mp _ _ | .f_ _ | .cq _ _ | .gi _ _=>true
 | _=>false
def b5.Gz(t u:b5):Bool:=
 match t,u with
 | .cells _ _,.cells _ _ | .cells _ _,.f_ _ | .f_ _,.cells _ _ | .f_ _,.f_ _ | .gL _,.cells _ _ | .gL _,.f_ _=>true
 | .mp _ _,.mp _ _ | .jk _ _,.mp _ _=>true
 | .bg e,.bg aY=>decide (e=aY)
 | .hE _,.bg _=>true
 | _,_=>false
structure dF where
 bS:List (Nat×bX)
 bB:List (Nat×b5)
def pG:List (Nat×b5)->Type
 | []=>Unit
 | p::l=>p.2.cons (pG l)
def oO:List (Nat×bX)->Type->Type
 | [],R=>R
 | p::l,R=>p.2.cons (oO l R)
def dF.aj(sh:dF):Type:=oO sh.bS (pG sh.bB)
def vC(g:Nat->Nat×Nat)(fU:z8'):Nat->aG:=hi (fU.map λp=>.bc (g p.1).1 (g p.1).2 p.2)
def vD(g:Nat->Nat×Nat)(bs:List Nat):Nat->aG:=hi (bs.map λb=>.own (g b).1 (g b).2)
def bX.av(g:Nat->Nat×Nat)(t:bX){R:Type}(x:t.cons R):aG×R:=
 match t,x with
 | .undef,x=>(.undef,x)
 | .val t,x=>(.val t x.1,x.2)
 | .dU t,x=>(.dU t x.1,x.2)
 | .bc b off,x=>(.bc (g b).1 (g b).2 off,x)
 | .own b,x=>(.own (g b).1 (g b).2,x)
 | .sub b,x=>(.sub (g b).1 (g b).2 x.1.1 x.1.2,x.2)
 | .fG b,x=>(.fG (g b).1 (g b).2,x)
 | .j8 b,x=>(.j8 (g b).1 (g b).2,x)
 | .dm,x=>(.dm,x)
 | .iB k fU,x=>(.iB k fU.length (vC g fU),x)
 | .aW aJ,x=>(.aW x.1.1 aJ x.1.2.1 x.1.2.2.1 x.1.2.2.2,x.2)
 | .hg,x=>(.hg x.1,x.2)
 | .hH bs,x=>(.agg bs.length (vD g bs),x)
 | .iW b,x=>(.iW (g b).1 (g b).2 x.1,x.2)
def pH(g:Nat->Nat×Nat):(l:List bX)->{R:Type}->qB l R->List aG×R
 | [],_,x=>([],x)
 | t::l,_,x=>let (a,y):=t.av g x;let (as,z):=pH g l y;(a::as,z)
def b5.body(g:Nat->Nat×Nat)(t:b5){R:Type}(x:t.cons R):bP×R:=
 match t,x with
 | .cells t l,x=>let (as,y):=pH g l x;(.cells t (hi as),y)
 | .bg e,x=>(.bg e x.1,x.2)
 | .hE e,x=>(.hE e x.1,x.2)
 | .mp k v,x=>(.mp k v x.1,x.2)
 | .jk k v,x=>(.jk k v x.1,x.2)
 | .f_ t,x=>(.cells t (hi (nS t x.1)),x.2)
 | .gL t,x=>(.gL t x.1,x.2)
 | .cq k v,x=>(.cq k v x.1.1 x.1.2,x.2)
 | .gi e t,x=>let (a,y):=t.av g x.2;(.gi e x.1.1 x.1.2 a,y)
def eC(g:Nat->Nat×Nat):(l:List (Nat×bX))->{R:Type}->oO l R->List (Nat×aG)×R
 | [],_,x=>([],x)
 | p::l,_,x=>let (a,y):=p.2.av g x;let (as,z):=eC g l y;((p.1,a)::as,z)
def hk(g:Nat->Nat×Nat):(l:List (Nat×b5))->pG l->List (Nat×bP)
 | [],_=>[]
 | p::l,x=>let (a,y):=p.2.body g x;(p.1,a)::hk g l y
def fq:List (Nat×aG)->Nat->aG
 | [],_=>.undef
 | p::l,i=>if i=p.1 then p.2 else fq l i
def eO:List (Nat×bP)->Nat->bJ
 | [],_=>⟨0,.fx⟩
 | p::l,i=>if i=p.1 then ⟨0,p.2⟩ else eO l i
def SZ(afq:List (Nat×aG))(bs:List (Nat×bP)):aA:=⟨fq afq,eO bs⟩
def c8(b:Nat):Nat×Nat:=(b,0)
def dF.st(sh:dF)(D:sh.aj):aA:=
 SZ (eC c8 sh.bS D).1 (hk c8 sh.bB (eC c8 sh.bS D).2)
def xF(H:Nat->bJ)(t:ab)(av:aG){R:Type}(r:Option (R×List Nat)):Option ((t.aj×R)×List Nat):=
 match (dy t av).run H with
 | some (x,l)=>match r with
  | some (y,m)=>some ((x,y),l++m)
  | none=>none
 | none=>none
def LH(t:ab)(av:aG){R:Type}(r:Option (R×List Nat)):Option ((t.aj×R)×List Nat):=
 match av with
 | .dU cV x=>match r with
  | some (y,m)=>if h:cV=t then some ((h ▸ x,y),m) else none
  | none=>none
 | _=>none
def LI(H:Nat->bJ)(b:Nat)(av:aG){R:Type}(r:Option (R×List Nat)):Option (((Nat×Nat)×R)×List Nat):=
 match r with
 | some (y,m)=>match av with
  | .own bd g=>if (bd == b&&g == (H b).gen&&(H b).body.fe)=true then some (((0,(H b).body.len),y),m) else none
  | .sub bd g aX G=>if (bd == b&&g == (H b).gen)=true then some (((aX,G),y),m) else none
  | _=>none
 | none=>none
def LJ(aJ:ab)(av:aG){R:Type}(r:Option (R×List Nat)):Option (((Nat×(List aJ.aj->Prop)×List aJ.aj×Bool)×R)×List Nat):=
 match av with
 | .aW l kG L n st=>match r with
  | some (y,m)=>if h:kG=aJ then some (((l,h ▸ L,h ▸ n,st),y),m) else none
  | none=>none
 | _=>none
def LK(av:aG){R:Type}(r:Option (R×List Nat)):Option ((Nat×R)×List Nat):=
 match av with
 | .hg l=>match r with
  | some (y,m)=>some ((l,y),m)
  | none=>none
 | _=>none
def LL(H:Nat->bJ)(b:Nat)(av:aG){R:Type}(r:Option (R×List Nat)):Option ((Nat×R)×List Nat):=
 match av with
 | .iW bd g i=>match r with
  | some (y,m)=>if (bd == b&&g == (H b).gen)=true then some ((i,y),m) else none
  | none=>none
 | _=>none
def GA(H:Nat->bJ)(b off:Nat)(av:aG):Bool:=
 match av with
 | .bc bd g afr=>bd == b&&afr == off&&g == (H b).gen
 | _=>false
def GB(H:Nat->bJ)(b:Nat)(av:aG):Bool:=
 match av with
 | .own bd g=>bd == b&&g == (H b).gen
 | _=>false
def LM(H:Nat->bJ)(b:Nat)(av:aG):Bool:=
 match av with
 | .fG bd g=>bd == b&&g == (H b).gen
 | _=>false
def LN(H:Nat->bJ)(b:Nat)(av:aG):Bool:=
 match av with
 | .j8 bd g=>bd == b&&g == (H b).gen
 | _=>false
def LO(av:aG):Bool:=
 match av with
 | .dm=>true
 | _=>false
def LP(H:Nat->bJ)(f:Nat->Nat)(k:FuncId)(fU:z8')(av:aG):Bool:=
 match av with
 | .iB k' n cZ=>k' == k&&n == fU.length&&(List.range n).all λi=>match fU[i]? with
  | some p=>GA H (f p.1) p.2 (cZ i)
  | none=>false
 | _=>false
def LQ(H:Nat->bJ)(f:Nat->Nat)(bs:List Nat)(av:aG):Bool:=
 match av with
 | .agg n h=>n == bs.length&&(List.range n).all λi=>match bs[i]? with
  | some b=>GB H (f b) (h i)
  | none=>false
 | _=>false
def vF{ak:Type}(b:Bool)(r:Option ak):Option ak:=match b with | true=>r | false=>none
def bX.jb(H:Nat->bJ)(f:Nat->Nat)(t:bX)(av:aG){R:Type}(r:Option (R×List Nat)):Option (t.cons R×List Nat):=
 match t with
 | .undef=>r
 | .val t=>xF H t av r
 | .dU t=>LH t av r
 | .bc b off=>vF (GA H (f b) off av) r
 | .own b=>vF (GB H (f b) av) r
 | .sub b=>LI H (f b) av r
 | .fG b=>vF (LM H (f b) av) r
 | .j8 b=>vF (LN H (f b) av) r
 | .dm=>vF (LO av) r
 | .iB k fU=>vF (LP H f k fU av) r
 | .aW aJ=>LJ aJ av r
 | .hg=>LK av r
 | .hH bs=>vF (LQ H f bs av) r
 | .iW b=>LL H (f b) av r
def Ae(H:Nat->bJ)(f:Nat->Nat):(l:List bX)->(Nat->aG)->Nat->{R:Type}->Option (R×List Nat)->Option (qB l R×List Nat)
 | [],_,_,_,r=>r
 | t::l,c,i,_,r=>t.jb H f (c i) (Ae H f l c (i+1) r)
def LR(H:Nat->bJ)(f:Nat->Nat)(t:ab)(l:List bX)(b:bP){R:Type}(r:Option (R×List Nat)):Option (qB l R×List Nat):=
 match b with
 | .cells cV c=>if cV=t/\t.size=l.length then Ae H f l c 0 r else none
 | _=>none
def LS(e:ab)(b:bP){R:Type}(r:Option (R×List Nat)):Option ((List e.aj×R)×List Nat):=
 match b with
 | .bg aY xs=>match r with
  | some (y,m)=>if h:aY=e then some ((h ▸ xs,y),m) else none
  | none=>none
 | _=>none
def LU(k v:ab)(b:bP){R:Type}(r:Option (R×List Nat)):Option ((List (k.aj×v.aj)×R)×List Nat):=
 match b with
 | .mp k' h7 es=>match r with
  | some (y,m)=>if h:k'=k/\h7=v then some ((h.1 ▸ h.2 ▸ es,y),m) else none
  | none=>none
 | _=>none
def LV(k v:ab)(b:bP){R:Type}(r:Option (R×List Nat)):Option (((Option (k.aj×v.aj)×List (k.aj×v.aj))×R)×List Nat):=
 match b with
 | .cq k' h7 c es=>match r with
  | some (y,m)=>if h:k'=k/\h7=v then some (((h.1 ▸ h.2 ▸ c,h.1 ▸ h.2 ▸ es),y),m) else none
  | none=>none
 | _=>none
def LW(H:Nat->bJ)(f:Nat->Nat)(e:ab)(t:bX)(b:bP){R:Type}(r:Option (R×List Nat)):Option (((List e.aj×Nat)×t.cons R)×List Nat):=
 match b with
 | .gi aY xs i v=>match t.jb H f v r with
  | some (y,m)=>if h:aY=e then some (((h ▸ xs,i),y),m) else none
  | none=>none
 | _=>none
def LX(H:Nat->bJ)(t:ab)(b:bP){R:Type}(r:Option (R×List Nat)):Option ((t.aj×R)×List Nat):=
 match b with
 | .cells cV f=>if cV=t then xF H t (.agg t.size f) r else none
 | _=>none
def LY(H:Nat->bJ)(t:ab)(b:Nat){R:Type}(r:Option (R×List Nat)):Option ((t.aj×R)×List Nat):=
 match (dy (.bG t) (.bc b (H b).gen 0)).run H with
 | some (some x,l)=>match r with
  | some (y,m)=>some ((x,y),l++m)
  | none=>none
 | _=>none
def b5.jb(H:Nat->bJ)(f:Nat->Nat)(t:b5)(b:Nat){R:Type}(r:Option (R×List Nat)):Option (t.cons R×List Nat):=
 match t with
 | .cells t l=>LR H f t l (H b).body r
 | .bg e=>LS e (H b).body r
 | .hE e=>xF H (.slice e) (.own b (H b).gen) r
 | .mp k v=>LU k v (H b).body r
 | .jk k v=>xF H (.map k v) (.fG b (H b).gen) r
 | .f_ t=>LX H t (H b).body r
 | .gL t=>LY H t b r
 | .cq k v=>LV k v (H b).body r
 | .gi e t=>LW H f e t (H b).body r
def xG(H:Nat->bJ)(f:Nat->Nat):(l:List (Nat×b5))->Option (pG l×List Nat)
 | []=>some ((),[])
 | p::l=>p.2.jb H f (f p.1) (xG H f l)
def xH(H:Nat->bJ)(f:Nat->Nat):(l:List (Nat×bX))->(Nat->aG)->{R:Type}->Option (R×List Nat)->Option (oO l R×List Nat)
 | [],_,_,r=>r
 | p::l,c,_,r=>p.2.jb H f (c p.1) (xH H f l c r)
def dF.oP(sh:dF):List Nat:=sh.bB.filterMap λp=>if p.2.C' then some p.1 else none
def dF.Af(sh:dF)(f:Nat->Nat)(s:aA):Option (sh.aj×List Nat):=
 match xH s.aa f sh.bS s.ay (xG s.aa f sh.bB) with
 | some (D,bU)=>if sh.oP.all (λb=>!bU.contains (f b))=true then some (D,bU) else none
 | none=>none
def LZ:List (Nat×b5)->Nat->Option b5
 | [],_=>none
 | p::l,b=>if b=p.1 then some p.2 else LZ l b
def L0(s:aA)(i b bd g':Nat):aA:=
 match decide (bd≠b/\g'=(s.aa bd).gen),(s.aa bd).body with
 | true,.bg e xs=>⟨λj=>if j=i then .own b ((s.aa b).gen+1) else s.ay j,λj=>if j=b then ⟨(s.aa b).gen+1,.bg e xs⟩ else if j=bd then ⟨(s.aa bd).gen+1,.fx⟩ else s.aa j⟩
 | _,_=>s
def L1(bs:List (Nat×b5))(s:aA)(i b:Nat):aA:=
 match s.ay i,LZ bs b with
 | .dm,some (.bg e)=>⟨λj=>if j=i then .own b ((s.aa b).gen+1) else s.ay j,(s.cw b ⟨(s.aa b).gen+1,.bg e []⟩).aa⟩
 | .own bd g',some (.bg _)=>L0 s i b bd g'
 | _,_=>s
def L2(bs:List (Nat×b5))(s:aA)(c j b:Nat):aA:=
 match (s.aa c).body with
 | .cells t f=>match f j,(s.aa b).body,LZ bs b with
  | .dm,.fx,some (.bg e)=>(s.cw b ⟨(s.aa b).gen+1,.bg e []⟩).cw c ⟨(s.aa c).gen,.cells t λq=>if q=j then .own b ((s.aa b).gen+1) else f q⟩
  | _,_,_=>s
 | _=>s
def GC(bs:List (Nat×b5)):List (Nat×bX)->aA->aA
 | [],s=>s
 | p::l,s=>GC bs l (match p.2 with | .own b=>L1 bs s p.1 b | _=>s)
def GD(bs:List (Nat×b5))(c:Nat):List bX->Nat->aA->aA
 | [],_,s=>s
 | t::l,j,s=>GD bs c l (j+1) (match t with | .own b=>L2 bs s c j b | _=>s)
def GF(bs:List (Nat×b5)):List (Nat×b5)->aA->aA
 | [],s=>s
 | p::l,s=>GF bs l (match p.2 with | .cells _ ts=>GD bs p.1 ts 0 s | _=>s)
def dF.GG(sh:dF)(s:aA):aA:=GF sh.bB sh.bB (GC sh.bB sh.bS s)
def b5.S0:b5->Bool
 | .bg _ | .hE _ | .gi _ _=>true
 | _=>false
def dF.GH(sh:dF)(s:aA):Bool:=sh.bB.all λp=>!(decide (xe<=p.1)&&p.2.S0)||decide ((s.aa p.1).gen=0)
def dF.jb(sh:dF)(s:aA):Option (sh.aj):=
 match sh.GH (sh.GG s) with
 | true=>(sh.Af (λb=>b) (sh.GG s)).map (·.1)
 | false=>none
def dF.nd{β:Type}(sh:dF)(s:aA)(k:sh.aj->A β):A β:=
 match sh.jb s with
 | some D=>k D
 | none=>A.fail
def bX.xI(t:bX){R:Type}(r:R):t.cons R:=
 match t with
 | .val t=>(t.de,r)
 | .dU t=>(t.de,r)
 | .sub _=>((0,0),r)
 | .aW _=>((0,λ_=>False,[],false),r)
 | .hg=>(0,r)
 | .iW _=>(0,r)
 | .undef | .bc _ _ | .own _ | .fG _ | .j8 _ | .dm | .iB _ _ | .hH _=>r
def S1:(l:List bX)->{R:Type}->R->qB l R
 | [],_,r=>r
 | t::l,_,r=>t.xI (S1 l r)
def b5.xI(t:b5){R:Type}(r:R):t.cons R:=
 match t with
 | .cells _ l=>S1 l r
 | .bg _=>([],r)
 | .hE _=>([],r)
 | .mp _ _=>([],r)
 | .jk _ _=>([],r)
 | .f_ t=>(t.de,r)
 | .gL t=>(t.de,r)
 | .cq _ _=>((none,[]),r)
 | .gi _ t=>(([],0),t.xI r)
def S2:(l:List (Nat×b5))->pG l
 | []=>()
 | p::l=>p.2.xI (S2 l)
def S3:(l:List (Nat×bX))->{R:Type}->R->oO l R
 | [],_,r=>r
 | p::l,_,r=>p.2.xI (S3 l r)
def dF.xI(sh:dF):sh.aj:=S3 sh.bS (S2 sh.bB)
structure hI where
 ts:ab
 aW:ab
 sh:ts.aj->A aW.aj
 dP:Bool
def aM.du(c:aM):hI:=⟨c.ts,c.aW,c.sh,true⟩
def A.Da{ak:Type}(m:A ak):Prop:=∀ x y,m.bQ x->m.bQ y->x=y
open Classical in
def A.val{ak:Type}(m:A ak)(d:ak):ak:=if h:∃ x,m.bQ x then h.choose else d
def hI.GI(c:hI):aM:=⟨c.ts,c.aW,λx=>(c.sh x).b1,λx=>(c.sh x).val c.aW.de⟩
structure cJ where
 cm:dF
 bQ:dF
 kH:z9'
 kk:Nat
 sh:cm.aj->A bQ.aj
structure Ag where
 ts:ab
 aJ:ab
 pre:ts.aj->Prop
 seq:ts.aj->List aJ.aj
inductive e2 where
 | du (c:hI)
 | e9 (c:cJ)
 | cq (c:Ag)
 | L3 (c:hI)
 | GJ (c:cJ) (sh:Nat->c.cm.aj->A c.bQ.aj) (ids:List Nat)
 | kI (c:aM)
def GK(be:Nat->Option aM)(Ψ:Nat->Option e2)(k:Nat):Option aM:=
 match Ψ k with
 | some (.du c)=>match c.dP&&!nU c.aW with
  | true=>some c.GI
  | false=>none
 | some (.kI c)=>some c
 | some _=>none
 | none=>be k
def L4(be:Nat->Option aM)(Ψ:Nat->Option e2)(k:Nat):Option hI:=
 match Ψ k with
 | some (.du c)=>some c
 | some _=>none
 | none=>(be k).bind λc=>if nU c.aW=true then none else some c.du
structure hX where
 ak:Type
 d:ak
 ca:Prop
 m:A ak
 st:ak->aA
 Db:Option (Bool->ak->aA)
def rB(s:aA)(o:Oper)(aW:ab)(bU:List Nat)(v:aG):aA:=(if aW.pure then s else s.cy bU).set o.dst v
def Dc(aP:dC)(s:aA)(o:Oper)(args:List Operand)(du:hI):Option hX:=
 match (iY du.ts ((args.map (aZ aP s.ay)).map λv=>(use v).2)).run s.aa with
 | some (x,bU)=>some ⟨du.aW.aj,du.aW.de,jK (args.map (aZ aP s.ay)),du.sh x,λy=>rB s o du.aW bU (rh du.aW y),some λg y=>rB s o du.aW bU (.hD g (rh du.aW y))⟩
 | none=>none
def GL(aP:dC)(s:aA)(o:Oper)(args:List Operand)(du:hI):Option hX:=
 match (iY du.ts ((args.map (aZ aP s.ay)).map λv=>(use v).2)).run s.aa with
 | some (x,_)=>some ⟨du.aW.aj,du.aW.de,jK (args.map (aZ aP s.ay)),du.sh x,λy=>s.set o.dst (rh du.aW y),none⟩
 | none=>none
def Dd(aP:dC)(s:aA)(o:Oper)(t:Nat)(args:List Operand):Option hX:=
 match use (s.ay t) with
 | (ca,.val (.fn a b) f)=>match (iY a ((args.map (aZ aP s.ay)).map λv=>(use v).2)).run s.aa with
  | some (x,bU)=>some ⟨b.aj,b.de,ca/\jK (args.map (aZ aP s.ay)),f x,λy=>rB s o b bU (rh b y),some λg y=>rB s o b bU (.hD g (rh b y))⟩
  | none=>none
 | _=>none
def S4(t:bX)(av:aG):z8':=
 match t,av with
 | .bc bd _,.bc b _ _=>[(bd,b)]
 | .own bd,.own b _=>[(bd,b)]
 | .sub bd,.own b _=>[(bd,b)]
 | .sub bd,.sub b _ _ _=>[(bd,b)]
 | .fG bd,.fG b _=>[(bd,b)]
 | .j8 bd,.j8 b _=>[(bd,b)]
 | .iB _ fU,.iB _ _ cZ=>(List.range fU.length).filterMap λi=>match fU[i]?,cZ i with
  | some p,.bc b _ _=>some (p.1,b)
  | _,_=>none
 | _,_=>[]
def S5:List bX->(Nat->aG)->Nat->z8'
 | [],_,_=>[]
 | t::l,c,i=>S4 t (c i)++S5 l c (i+1)
def L5:z8'->Nat->Option Nat
 | [],_=>none
 | p::l,b=>if b=p.1 then some p.2 else L5 l b
def S6(H:Nat->bJ):List (Nat×b5)->z8'->z8'
 | [],m=>m
 | p::l,m=>S6 H l (m++match p.2,L5 m p.1 with
  | .cells _ ts,some b=>(match (H b).body with | .cells _ c=>S5 ts c 0 | _=>[])
  | _,_=>[])
def afs(sh:dF)(s:aA):z8':=S6 s.aa sh.bB (sh.bS.flatMap λp=>S4 p.2 (s.ay p.1))
def sD(s:aA)(avs:List aG):aA:=⟨λi=>if i=b4 then s.ay b4 else if i<avs.length then avs.getD i .undef else .undef,s.aa⟩
def nf:Nat:=99999
def sE(s:aA)(d:Nat)(f:Nat->Nat)(ins:List Nat):List (Nat×b5)->Nat->z6'
 | [],_=>[]
 | p::l,j=>(if ins.contains p.1 then (p.1,(f p.1,match p.2 with
   | .cells _ _ | .f_ _ | .mp _ _ | .gL _ | .jk _ _=>(s.aa (f p.1)).gen
   | .bg _=>if xe<=p.1 then (s.aa (f p.1)).gen else (s.aa (f p.1)).gen+1
   | _=>(s.aa (f p.1)).gen+1)) else (p.1,(50000+10*d+j,(s.aa (50000+10*d+j)).gen+1)))::sE s d f ins l (j+1)
def hY:z6'->Nat->Nat×Nat
 | [],_=>(nf,0)
 | p::l,b=>if b=p.1 then p.2 else hY l b
def pI:z9'->(Nat->aG)->Nat->List aG
 | [],_,_=>[]
 | none::l,c,i=>c i::pI l c (i+1)
 | some n::l,c,i=>.agg n (λj=>c (i+j))::pI l c (i+n)
def L6(l:List aG):aG:=
 match l with
 | [v]=>v
 | l=>.qm l.length (hi l)
def xJ(s:aA)(c:cJ)(f:Nat->Nat)(cg:z6')(bl:c.bQ.aj):aA:=
 ⟨λi=>if i=b4 then (if c.bQ.bS.any (λp=>p.1 == b4) then fq (eC (hY cg) c.bQ.bS bl).1 b4 else if c.cm.bS.any (λp=>p.1 == b4) then .undef else s.ay b4) else s.ay i,λb=>match cg.find? (λp=>p.2.1 == b) with
  | some p=>⟨p.2.2,(eO (hk (hY cg) c.bQ.bB (eC (hY cg) c.bQ.bS bl).2) p.1).body⟩
  | none=>if (c.cm.oP.map f).contains b then ⟨(s.aa b).gen+1,.fx⟩ else s.aa b⟩
def aft(s:aA)(o:Oper)(c:cJ)(f:Nat->Nat)(cg:z6')(bl:c.bQ.aj):aA:=
 aA.set (xJ s c f cg bl) o.dst (L6 (pI c.kH (fq (eC (hY cg) c.bQ.bS bl).1) 0))
def GM(l:List Nat):Bool:=decide l.Nodup
def De(c:cJ)(f:Nat->Nat)(dM:aA)(cg:z6')(d n:Nat):Bool:=
  decide (d < 4000) && decide (c.bQ.bB.length <= 10) && GM (c.cm.bB.map (·.1)) && GM (c.cm.bB.map λp => f p.1) && GM (cg.map (·.1)) && GM (cg.map (·.2.1)) && (c.cm.bB.map (·.1)).all (λb => decide (eP <= b))
        &&!(cg.map (·.2.1)).contains nf&&(match (dM.aa nf).body with | .fx=>true | _=>false)&&c.bQ.bB.all (λp=>c.cm.bB.all λq=>!(p.1 == q.1&&q.2.C')||p.2.Gz q.2)&&(decide (n=c.kk)&&decide (n<=eP))
def rC(aP:dC)(s:aA)(args:List Operand):List aG:=(args.map (aZ aP s.ay)).map λv=>(use v).2
def rD(c:cJ)(ev:aA)(b:Nat):Nat:=(L5 (afs c.cm ev) b).getD nf
def xK(aP:dC)(s:aA)(o:Oper)(args:List Operand)(c:cJ):Option hX:=
 match c.cm.Af (rD c (sD s (rC aP s args))) (sD s (rC aP s args)) with
 | some (D,bU)=>match De c (rD c (sD s (rC aP s args))) (s.cy bU) (sE (s.cy bU) (o.dst.getD 0) (rD c (sD s (rC aP s args))) c.cm.oP c.bQ.bB 0) (o.dst.getD 0) args.length with
  | true=>some ⟨c.bQ.aj,c.bQ.xI,jK (args.map (aZ aP s.ay)),c.sh D,λbl=>aft (s.cy bU) o c (rD c (sD s (rC aP s args))) (sE (s.cy bU) (o.dst.getD 0) (rD c (sD s (rC aP s args))) c.cm.oP c.bQ.bB 0) bl,none⟩
  | false=>none
 | none=>none
def S7:Nat:=999999
def S8(c:cJ)(sh:Nat->c.cm.aj->A c.bQ.aj)(ids:List Nat)(n:Option Nat):cJ:={ c with sh:=λD=>A.ad (∃ k∈ids,n=some k) (sh (n.getD 0) D) }
def GN(aP:dC)(Ψ:Nat->Option e2)(s:aA)(o:Oper)(t:Nat)(args:List Operand):Option hX:=
 match s.ay t with
 | .val .en n=>match Ψ S7 with
  | some (.GJ c sh ids)=>xK aP s o args (S8 c sh ids n)
  | _=>none
 | _=>none
def GO(aP:dC)(s:aA)(o:Oper)(t:Nat)(args:List Operand):Option hX:=
 match s.ay t,s.ay b4 with
 | .hg dE,.aW l aJ L n st=>match (iY aJ ((args.map (aZ aP s.ay)).map λv=>(use v).2)).run s.aa with
  | some (x,bU)=>some ⟨Bool,false,jK (args.map (aZ aP s.ay)),A.ad (dE=l/\st=false/\∃ T,L (n++x::T)) (A.any λ_=>True),λb=>aA.set ⟨λi=>if i=b4 then .aW l aJ L (n++[x]) (!b) else s.ay i,(s.cy bU).aa⟩ o.dst (.val .bool b),none⟩
  | none=>none
 | _,_=>none
def GP(aP:dC)(T:Nat->ab)(s:aA)(o:Oper)(ty:TypeId)(x:Operand):Option hX:=
 match T ty,o.dst with
 | .map k v,some d=>match use (aZ aP s.ay x) with
  | (ca,av)=>match (dy (.map k v) av).run s.aa with
   | some (es,bU)=>if bU.contains d then none else
    some ⟨Unit,(),ca,A.pure (),λ_=>((s.cy bU).cw d ⟨(s.aa d).gen+1,.cq k v none es⟩).set o.dst (.j8 d ((s.aa d).gen+1)),none⟩
   | none=>none
 | _,_=>none
def GQ{ak:Type}(l:List ak):A (Option Nat):=⟨True,λx=>match x with | none=>l=[] | some i=>i<l.length⟩
def S9(i:Option Nat):Nat:=match i with | none=>0 | some _=>2
def n3{ak:Type}(c:Option ak)(ck:List ak)(i:Option Nat):Option ak:=match i with | none=>c | some i=>ck[i]?
def Df{ak:Type}(ck:List ak)(i:Option Nat):List ak:=match i with | none=>ck | some i=>ck.eraseIdx i
def GR(aP:dC)(s:aA)(o:Oper)(x:Operand)(str:Bool):Option hX:=
 match str,aZ aP s.ay x with
 | false,.j8 b g=>if (s.aa b).gen=g then (match (s.aa b).body with
  | .cq k v c ck=>some ⟨Option Nat,none,True,GQ ck,λi=>(s.cw b ⟨g,.cq k v (n3 c ck i) (Df ck i)⟩).set o.dst (.qm (Nat.succ (S9 i)) (hi [.val .bool i.isSome])),none⟩
  | _=>none) else none
 | _,_=>none
def GS(aP:dC)(s:aA)(o:Oper)(x:Operand):Option hX:=
 match aZ aP s.ay x with
 | .j8 b g=>if (s.aa b).gen=g then (match (s.aa b).body with
  | .cq k v c _=>some ⟨Unit,(),True,A.ad (c.isSome=true) (A.pure ()),λ_=>s.set o.dst (.qm 2 (hi [.val k ((c.map (·.1)).getD k.de),.val v ((c.map (·.2)).getD v.de)])),none⟩
  | _=>none) else none
 | _=>none
def Dg(aP:dC)(T:Nat->ab)(s:aA)(o:Oper)(op:BinOp)(ty:TypeId)(x y:Operand):Option hX:=
 match T ty,aZ aP s.ay y with
 | .slice e,.dm=>match (dy (.slice e) (use (aZ aP s.ay x)).2).run s.aa with
  | some (xs,_)=>match op with
   | .eql=>some ⟨Bool,false,(use (aZ aP s.ay x)).1,A.any λb=>b=true->xs=[],λb=>s.set o.dst (.val .bool b),none⟩
   | .neq=>some ⟨Bool,false,(use (aZ aP s.ay x)).1,A.any λb=>b=true->xs=[],λb=>s.set o.dst (.val .bool (!b)),none⟩
   | _=>none
  | none=>none
 | _,_=>none
def rE(aP:dC)(T:Nat->ab)(be:Nat->Option aM)(Ψ:Nat->Option e2)(s:aA)(o:Oper):Option hX:=
 match o.op with
 | .call c=>match c.callee with
  | .value f=>match f with
   | .func k=>match Ψ k with
    | some (.e9 c')=>xK aP s o c.args.toList c'
    | some (.L3 c')=>GL aP s o c.args.toList c'
    | _=>match L4 be Ψ k with
     | some du=>Dc aP s o c.args.toList du
     | none=>none
   | .tmp t=>match Dd aP s o t c.args.toList with
    | some r=>some r
    | none=>match GN aP Ψ s o t c.args.toList with
     | some r=>some r
     | none=>GO aP s o t c.args.toList
   | _=>none
  | _=>none
 | .range ty x=>GP aP T s o ty x
 | .next x str=>GR aP s o x str
 | .entry x=>GS aP s o x
 | .binOp op ty x y _=>Dg aP T s o op ty x y
 | _=>none
def ct{ak:Type}(g:Bool)(m:A ak)(d:ak):A ak:=if g=true then m else A.pure d
def sF{β:Type}(b:Bool)(p:Prop)(m:A β):A β:=match b with | true=>m | false=>A.ad p m
def Dh(o:Oper)(e6:aG)(l:List (Nat×bJ)):Option (List (Nat×bJ)×aG):=
 match l with
 | []=>some ([],e6)
 | p::dE=>match o.op with
  | .makeFunc ..=>some (p::dE,e6)
  | .buildSlice _ n _=>match dE,e6,p.2.body with
   | [],.own bd g',.bg e xs=>if (bd=p.1/\g'=p.2.gen)/\n≠0 then some ([(p.1,⟨p.2.gen,.fx⟩)],.val (.slice e) xs) else none
   | _,_,_=>none
  | _=>none
def S_(hF:List (Nat×bJ))(e6:aG):aG:=
 match e6 with
 | .own b _=>match hF.find? (λp=>p.1 == b) with
  | some (_,⟨_,.bg e xs⟩)=>.val (.slice e) xs
  | _=>e6
 | _=>e6
abbrev pJ:=List (Nat×(Nat×Bool))
def sG(ops:Array Oper)(j d:Nat):Bool:=match ops[j]? with | some o=>(match o.dst with | some e=>e == d | none=>false) | none=>false
def afu(tg:pJ)(t:Nat)(k:Nat×Bool):Bool:=tg.any λp=>p.1 == t&&(p.2.1 == k.1&&p.2.2 == k.2)
def xL(ops:Array Oper)(tg:pJ)(o:Oper):pJ:=
 match o.dst with
 | none=>tg
 | some d=>match o.guard with
  | some k=>if sG ops k.1 d=true then tg.filter λp=>p.1 != d&&!sG ops p.2.1 d else (d,k)::tg.filter λp=>p.1 != d&&!sG ops p.2.1 d
  | none=>tg.filter λp=>p.1 != d&&!sG ops p.2.1 d
def xM(aI:Operand->aG)(tg:pJ)(gk:Option (Nat×Bool))(x:Operand):Bool:=
 !(aI x).z_||(match x,gk with | .tmp t,some k=>afu tg t k | _,_=>false)
def GU(ops:Array Oper)(tg:pJ)(c x:Operand)(want:Bool):Bool:=
 match c,x with
 | .tmp c,.tmp t=>tg.any λp=>p.1 == t&&(sG ops p.2.1 c&&p.2.2 == want)
 | _,_=>false
def L7(aI:Operand->aG)(tg:pJ)(gk:Option (Nat×Bool))(o:Oper):Bool:=o.op.operands.toList.all (xM aI tg gk)
def Ah(aI:Operand->aG)(ops:Array Oper)(tg:pJ)(gk:Option (Nat×Bool))(o:Oper):Bool:=
 match o.op with
 | .pick c a b=>xM aI tg gk c&&((xM aI tg gk a||GU ops tg c a true)&&(xM aI tg gk b||GU ops tg c b false))
 | _=>L7 aI tg gk o
def L8(aI:Operand->aG)(tg:pJ)(gk:Option (Nat×Bool))(o:Oper)(e6:aG):Bool:=
 !e6.z_||(match o.op with | .move x=>xM aI tg gk x | _=>false)
def ib:Operand->Option Nat
 | .tmp t=>some t
 | _=>none
def Ai(o gE kZ:Oper):Option (Oper×Nat×Nat):=
 match o.op with
 | .mapEntry ty m x=>match gE.op with
  | .extract e 1=>match kZ.op with
   | .entryStore mT dw aY y=>match o.dst,gE.dst,kZ.dst with
    | some d1,some d2,none=>if ib e=some d1/\ib aY=some d2/\mT=ty/\(ib dw).isSome=true/\ib dw=ib m/\(ib y).isSome=true/\ib m≠some d1/\ib m≠some d2/\ib y≠some d1/\ib y≠some d2/\o.guard.isNone=true/\gE.guard.isNone=true/\kZ.guard.isNone=true
     then some ({ kZ with op:=.mapUpdate ty m x y },d1,d2) else none
    | _,_,_=>none
   | _=>none
  | _=>none
 | _=>none
def Aj(o:Oper)(os:List Oper):Option (Oper×Nat×Nat):=
 match os with
 | gE::kZ::_=>Ai o gE kZ
 | _=>none
def GV{β:Type}:Nat->Int->(Nat->A β)->A β
 | 0,_,_=>A.fail
 | 1,_,k=>k 0
 | n+2,v,k=>if v=((n+1:Nat):Int) then k (n+1) else GV (n+1) v k
theorem S'{β:Type}{O:β->Prop}{k:Nat->A β}{v:Int}:∀ {n:Nat},A.cu (GV n v k) O->0<=v->v<(n:Int)->A.cu (k v.toNat) O
 | 0,h,_,_=>h.1.elim
 | 1,h,aT,E=>by
  have:v.toNat=0:=by omega
  rw[this];exact h
 | n+2,h,aT,E=>by
  unfold GV at h;split at h
  ·grind
  ·exact S' h aT (by omega)
def mz{β:Type}(aP:dC)(T:Nat->ab)(be:Nat->Option aM)(Ψ:Nat->Option e2)(ops:Array Oper):List Oper->pJ->aA->(aA->A β)->A β
 | [],_,s,k=>k s
 | o::os,tg,s,k=>
  match Aj o os with
  | some (kl,d1,d2)=>match os with
   | _::_::afv=>match (br aP T be (aZ aP s.ay) kl).run s.aa with
    | some res=>A.ad res.ca (A.ad res.c (mz aP T be Ψ ops afv [] (((s.h_ none res).set (some d1) .undef).set (some d2) .undef) k))
    | none=>A.fail
   | _=>A.fail
  | none=>
  match kE s.ay ops o.guard with
  | none=>A.fail
  | some none=>match (br aP T be (aZ aP s.ay) o).run s.aa with
   | some res=>sF (Ah (aZ aP s.ay) ops tg none o) res.ca (sF (nb (aZ aP s.ay) o) res.c (mz aP T be Ψ ops os (xL ops tg o) (s.h_ o.dst res) k))
   | none=>match rE aP T be Ψ s o with
    | some cc=>sF (sC (aZ aP s.ay) o) cc.ca (A.bind cc.m λy=>mz aP T be Ψ ops os [] (cc.st y) k)
    | none=>A.fail
  | some (some g)=>match (br aP T be (aZ aP s.ay) o).run s.aa with
   | some ⟨ca,c,e6,hF⟩=>match Dh o e6 hF with
    | some (xN,sH)=>sF (Ah (aZ aP s.ay) ops tg o.guard o&&(nb (aZ aP s.ay) o&&L8 (aZ aP s.ay) tg o.guard o sH)) (g=true->ca/\(c/\(use sH).1)) (mz aP T be Ψ ops os (xL ops tg o) ((s.fZ xN).set o.dst (.hD g (use sH).2)) k)
    | none=>if g=true then A.ad ca (A.ad c (mz aP T be Ψ ops os [] (s.h_ o.dst ⟨ca,c,e6,hF⟩) k)) else mz aP T be Ψ ops os [] (s.set o.dst (.hD false (S_ hF (use e6).2))) k
   | none=>match rE aP T be Ψ s o with
    | some cc=>match cc.Db with
     | some gs=>sF (L7 (aZ aP s.ay) tg o.guard o) (g=true->cc.ca) (A.bind (ct g cc.m cc.d) λy=>mz aP T be Ψ ops os (xL ops tg o) (gs g y) k)
     | none=>if g=true then A.ad cc.ca (A.bind cc.m λy=>mz aP T be Ψ ops os [] (cc.st y) k) else mz aP T be Ψ ops os [] (s.set o.dst (.hD false (use ((cc.st cc.d).ay (o.dst.getD 0))).2)) k
    | none=>A.fail
def Di{β:Type}:List Prop->A β->A β
 | [],m=>m
 | p::l,m=>A.ad p (Di l m)
def Ak(cl:List (List Nat)):Nat->Nat
 | 0=>0
 | n+1=>if (List.range n).all (λi=>(cl.getD n []).contains i)=true then Ak cl n else n+1
def L9(gF iu hJ iJ lX:Oper):Bool:=
 match gF.op,iu.op,hJ.op with
 | .lookup ty m x false,.binOp .add _ (.tmp t) (.const (.int k c)) _,.mapEntry mT dw dH=>match gF.dst,iu.dst,Ai hJ iJ lX with
  | some ed,some fI,some (_,d1,d2)=>decide (t=ed/\mT=ty/\fQ k c/\ib dw=ib m/\ib dH=ib x/\ed≠fI/\ed≠d1/\ed≠d2/\fI≠d1/\fI≠d2/\d1≠d2/\
    (ib m).isSome=true/\(ib x).isSome=true/\ib m≠some ed/\ib m≠some fI/\ib m≠some d1/\ib m≠some d2/\ib x≠some ed/\ib x≠some fI/\ib x≠some d1/\ib x≠some d2/\gF.guard.isNone=true/\iu.guard.isNone=true)
  | _,_,_=>false
 | _,_,_=>false
def GW(ops:List Oper):Bool:=
 match ops.drop (ops.length - 5) with
 | [gF,iu,hJ,iJ,lX]=>L9 gF iu hJ iJ lX&&(C9 ops&&((List.range 5).all λq=>(List.range (ops.length - 5)).all λi=>((iq ops).getD (ops.length - 5+q) []).contains i)&&
   ((iq ops).getD (ops.length - 5+1) []).contains (ops.length - 5)&&((iq ops).getD (ops.length - 5+3) []).contains (ops.length - 5+2)&&((List.range 4).all λq=>((iq ops).getD (ops.length - 5+4) []).contains (ops.length - 5+q))&&
   (ia hJ).all (λi=>decide (i<ops.length - 5))&&(ia iJ).all (λi=>decide (i<ops.length - 5)||decide (i=ops.length - 5+2)))
 | _=>false
def lY(ops:List Oper):Nat:=if GW ops=true then ops.length - 5 else Ak (iq ops) ops.length
def A.afw{ak:Type}(l:List (A ak)):A ak:=⟨∀ m∈l,m.b1,λx=>∃ m∈l,m.bQ x⟩
def vG(ops:List Oper)(done:List Nat):List Nat:=(List.range ops.length).filter λi=>!done.contains i&&match ops[i]? with | some o=>(ia o).all λj=>done.contains j | none=>false
def rF(ops:List Oper):Nat->List Nat->List (List Nat)
 | 0,_=>[[]]
 | f+1,done=>match vG ops done with
  | []=>[[]]
  | l=>l.flatMap λi=>(rF ops f (i::done)).map (i::·)
def GX(ops:List Oper):Nat->List Nat->Bool
 | 0,done=>(vG ops done).isEmpty
 | f+1,done=>(vG ops done).all λi=>GX ops f (i::done)
def GY{β:Type}(aP:dC)(T:Nat->ab)(be:Nat->Option aM)(Ψ:Nat->Option e2)(ops:Array Oper)(o:Oper)(s:aA)(k:aA->A β):A β:=
 match o.guard with
 | some _=>A.fail
 | none=>match (br aP T be (aZ aP s.ay) o).run s.aa with
  | some res=>sF (Ah (aZ aP s.ay) ops [] none o) res.ca (sF (nb (aZ aP s.ay) o) res.c (k (s.h_ o.dst res)))
  | none=>match rE aP T be Ψ s o with
   | some cc=>sF (sC (aZ aP s.ay) o) cc.ca (A.bind cc.m λy=>k (cc.st y))
   | none=>A.fail
def Al{β:Type}(aP:dC)(T:Nat->ab)(be:Nat->Option aM)(Ψ:Nat->Option e2)(ops:Array Oper):List Nat->aA->(aA->A β)->A β
 | [],s,k=>k s
 | i::cb,s,k=>match ops[i]? with
  | some o=>GY aP T be Ψ ops o s λs'=>Al aP T be Ψ ops cb s' k
  | none=>A.fail
def Ta{β:Type}(aP:dC)(T:Nat->ab)(be:Nat->Option aM)(Ψ:Nat->Option e2)(ops:Array Oper)(s:aA)(k:aA->A β):A β:=
 match GX ops.toList ops.size [] with
 | true=>A.afw ((rF ops.toList ops.size []).map λl=>Al aP T be Ψ ops l s k)
 | false=>A.fail
def Am{β:Type}(aP:dC)(T:Nat->ab)(be:Nat->Option aM)(Ψ:Nat->Option e2)(ops:Array Oper)(s:aA)(k:aA->A β):A β:=
 match xA aP T be ops ops.toList s with
 | some (l,s')=>match Ab ops.toList l with
  | true=>Di (l.flatMap eN.cs) (k s')
  | false=>A.fail
 | none=>match xA aP T be ops (ops.toList.take (lY ops.toList)) s with
  | some (l,s')=>match Ab (ops.toList.take (lY ops.toList)) l&&C9 ops.toList with
   | true=>Di (l.flatMap eN.cs) (mz aP T be Ψ ops (ops.toList.drop (lY ops.toList)) [] s' k)
   | false=>A.fail
  | none=>Ta aP T be Ψ ops s k
def lr(ops:List Oper):List Oper:=
 match ops with
 | []=>[]
 | o::l=>o::l.map λp=>{ p with after:=p.after.push ⟨0,.phase⟩ }
def L_(ops:Array Oper):Bool:=
 match ops.toList with
 | []=>false
 | o::l=>(match o.op with | .move _=>true | _=>false)&&(o.guard.isNone&&(o.after.isEmpty&&(Region.noSelect ops&&l.all λp=>(ia p).contains 0||o.apart ops p)))
inductive cA where
 | eM
 | seq (a b:cA)
 | join (sh:dF) (a b:cA)
 | cond (a b:cA)
 | block (a:cA)
 | loop (sh:dF) (a:cA)
 | scope (a:cA)
 | range (sh rin rout:dF) (a b:cA)
 | n5 (a b:cA)
 | split (i off n:Nat) (a:cA)
 | num (i n:Nat) (a:cA)
 | nZ (i:Nat) (a:cA)
 | GZ (b:Nat) (a:cA)
 | G0
def cA.eg:cA->Bool
 | .eM=>true
 | .seq a b=>a.eg&&b.eg
 | .join _ a b=>a.eg&&b.eg
 | .cond a b=>a.eg&&b.eg
 | .block a=>a.eg
 | .loop _ a=>a.eg
 | .scope a=>a.eg
 | .range ..=>false
 | .n5 a b=>a.eg&&b.eg
 | .split _ _ _ a=>a.eg
 | .num _ _ a=>a.eg
 | .nZ _ a=>a.eg
 | .GZ _ a=>a.eg
 | .G0=>false
def cA.oQ:cA->Bool
 | .n5 ..=>true
 | .eM=>true
 | _=>false
inductive di where
 | normal
 | exit (id:Nat)
 | ret
def di.pK:di->Exit
 | .normal=>.normal
 | .exit id=>.exit id
 | .ret=>.ret
open A (V)
def Tb{β:Type}(k:di->aA->A β)(f:aA->A β)(e:di)(s:aA):A β:=
 match e with
 | .normal=>f s
 | .exit id=>k (.exit id) s
 | .ret=>k .ret s
def xO{D β:Type}(k:di->aA->A β)(f:aA->A (V D β))(e:di)(s:aA):A (V D β):=
 match e with
 | .normal=>f s
 | .exit id=>A.bind (k (.exit id) s) λr=>A.pure (.done r)
 | .ret=>A.bind (k .ret s) λr=>A.pure (.done r)
def Tc{β:Type}(id:Nat)(k:di->aA->A β)(e:di)(s:aA):A β:=
 match e with
 | .normal=>k .normal s
 | .exit G1=>if G1=id then k .normal s else k (.exit G1) s
 | .ret=>k .ret s
def V.bD{D β:Type}(f:D->A β)(st:V D β):A β:=
 match st with
 | .next x=>f x
 | .done r=>A.pure r
def Td{β:Type}(v:aG)(m n:A β):A β:=
 match v with
 | .val .bool t=>if t=true then m else n
 | .hD g (.val .bool t)=>A.ad (g=true) (if t=true then m else n)
 | _=>A.fail
def qC(s:aA)(i off:Nat):Option (Int×(Nat->aA)):=
 match s.ay i with
 | .bc b _ o=>match (s.aa b).body with
  | .cells t f=>match f (o+off) with
   | .val (.int uo) x=>some (x,λj=>⟨s.ay,λbd=>if bd=b then ⟨(s.aa b).gen,.cells t λq=>if q=o+off then .val (.int uo) (j:Int) else f q⟩ else s.aa bd⟩)
   | _=>none
  | _=>none
 | _=>none
theorem afx{s:aA}{i off:Nat}{x:Int}{f:Nat->aA}(h:qC s i off=some (x,f))(aT:0<=x):f x.toNat=s:=by
 unfold qC at h;split at h
 ·rename_i b g o aD;split at h
  ·rename_i t iF W;split at h
   ·rename_i uo dH ah;simp only[Option.some.injEq,Prod.mk.injEq]at h;obtain⟨rfl,rfl⟩:=h;have bE:((dH.toNat:Nat):Int)=dH:=by omega
    have ax:(λq=>if q=o+off then aG.val (.int uo) (show (ab.int uo).aj from ((dH.toNat:Nat):Int)) else iF q)=iF:=by
     grind
    have aO:(λbd=>if bd=b then (⟨(s.aa b).gen,.cells t iF⟩:bJ) else s.aa bd)=s.aa:=by
     funext q;split
     ·rename_i e;rw[e,<-W]
     ·rfl
    simp_all
   grind
  grind
 grind
def rG(s:aA)(i:Nat):Option (Int×(Nat->aA)):=
 match s.ay i with
 | .val (.int uo) x=>some (x,λn=>⟨λj=>if j=i then .val (.int uo) (n:Int) else s.ay j,s.aa⟩)
 | _=>none
theorem afy{s:aA}{i n:Nat}{x:Int}{f:Nat->aA}(h:rG s i=some (x,f))(aT:x=(n:Int)):f n=s:=by
 unfold rG at h;split at h
 ·rename_i uo dH aD;simp only[Option.some.injEq,Prod.mk.injEq]at h;obtain⟨rfl,rfl⟩:=h;have ax:(λj=>if j=i then aG.val (.int uo) (show (ab.int uo).aj from (n:Int)) else s.ay j)=s.ay:=by
   grind
  simp_all
 grind
def L'(s:aA)(i:Nat):Option aA:=
 match s.ay i with
 | .oF b g n off=>match (s.aa b).body,off with
  | .bg (.st (.slice e)) xs,0=>if g=(s.aa b).gen then some ⟨λj=>if j=i then .iW b g n else s.ay j,λbd=>if bd=b then ⟨g,.gi (.st (.slice e)) xs n (.val (.slice e) (xs.getD n []))⟩ else s.aa bd⟩ else none
  | _,_=>none
 | _=>none
def Ma(s:aA)(b:Nat):Option aA:=
 match (s.aa b).body with
 | .gi (.st (.slice e)) xs n v=>match (dy (.slice e) v).run s.aa with
  | some (y,bU)=>if bU.contains b then none else some ((s.cy bU).cw b ⟨(s.aa b).gen,.bg (.st (.slice e)) (xs.set n y)⟩)
  | none=>none
 | _=>none
def jQ{D ak:Type}(body:D->ak->A (di×D)):List ak->D->A (di×D)
 | [],D=>A.pure (.normal,D)
 | x::xs,D=>A.bind (body D x) λp=>match p.1 with
  | .normal=>jQ body xs p.2
  | .exit id=>A.pure (.exit id,p.2)
  | .ret=>A.pure (.ret,p.2)
def An(aJ:ab)(x:aJ.aj):List Tmp->Nat->(Nat->aG)->Nat->aG
 | [],_,f=>f
 | p::ps,i,f=>An aJ x ps (i+1) (λj=>if j=p then kA aJ x i else f j)
def xP(s:aA)(aJ:ab)(x:aJ.aj)(ps:List Tmp):aA:=⟨λi=>if i=b4 then s.ay b4 else An aJ x ps 0 s.ay i,s.aa⟩
def vH(rin rout:dF):cJ:=⟨rin,rout,[],0,λ_=>A.fail⟩
def uq{bl:Type}(sh rin rout:dF)(aJ:ab)(ps:List Tmp)(D:sh.aj)(x:aJ.aj)(run:aA->A (bl×rout.aj)):A (bl×sh.aj):=
 match rin.Af (rD (vH rin rout) (xP (sh.st D) aJ x ps)) (xP (sh.st D) aJ x ps) with
 | some (aI,bU)=>match De (vH rin rout) (rD (vH rin rout) (xP (sh.st D) aJ x ps)) ((sh.st D).cy bU) (sE ((sh.st D).cy bU) 0 (rD (vH rin rout) (xP (sh.st D) aJ x ps)) rin.oP rout.bB 0) 0 0 with
  | true=>A.bind (run (rin.st aI)) λp=>sh.nd (xJ ((sh.st D).cy bU) (vH rin rout) (rD (vH rin rout) (xP (sh.st D) aJ x ps)) (sE ((sh.st D).cy bU) 0 (rD (vH rin rout) (xP (sh.st D) aJ x ps)) rin.oP rout.bB 0) p.2) λiK=>A.pure (p.1,iK)
  | false=>A.fail
 | none=>A.fail
def n6(sh rout:dF)(aJ:ab)(ps:List Tmp)(nt:Nat):Bool:=
 rout.bS.isEmpty&&!sh.bS.any (λp=>p.1 == b4)&&decide (aJ≠.cS)&&decide (ps.length=j' aJ)&&ps.all λp=>decide (p<nt)
def G2{β:Type}(f:aA->A β)(e:di)(s:aA):A β:=
 match e with
 | .normal=>f s
 | .exit _=>A.fail
 | .ret=>A.fail
def sI{β:Type}(n:A β)(x:Nat->A β)(r:A β)(e:di):A β:=
 match e with
 | .normal=>n
 | .exit id=>x id
 | .ret=>r
def Mb{β:Type}(k:di->aA->A β)(e:di)(s:aA):A β:=sI (k .normal s) (λid=>k (.exit id) s) (k .ret s) e
theorem Te{β:Type}(k:di->aA->A β)(e:di)(s:aA):Mb k e s=k e s:=by cases e<;>rfl
def eH(aP:dC)(T:Nat->ab)(be:Nat->Option aM)(Ψ:Nat->Option e2):cA->{β:Type}->Code->aA->(di->aA->A β)->A β
 | .seq a b,_,c,s,k=>match c with
  | .seq x y=>eH aP T be Ψ a x s (Tb k λs'=>eH aP T be Ψ b y s' k)
  | _=>A.fail
 | .join sh a b,β,c,s,k=>match c with
  | .seq x y=>A.bind (eH aP T be Ψ a (β:=V sh.aj β) x s (xO k λs'=>sh.nd s' λD=>A.pure (.next D))) (V.bD λD=>eH aP T be Ψ b y (sh.st D) k)
  | _=>A.fail
 | .cond a b,_,c,s,k=>match c with
  | .cond c x y=>Td (aZ aP s.ay c) (eH aP T be Ψ a x s k) (eH aP T be Ψ b y s k)
  | _=>A.fail
 | .block a,_,c,s,k=>match c with
  | .block id c=>eH aP T be Ψ a c s (Tc id k)
  | _=>A.fail
 | .loop sh a,β,c,s,k=>match c with
  | .loop c=>sh.nd s λD=>A.loop (λD=>eH aP T be Ψ a (β:=V sh.aj β) c (sh.st D) (xO k λs'=>sh.nd s' λiK=>A.pure (.next iK))) D
  | _=>A.fail
 | .n5 a b,_,c,s,k=>match c with
  | .loop x=>match b.oQ with
   | true=>eH aP T be Ψ a x s (Tb k λs'=>eH aP T be Ψ b (.loop x) s' k)
   | false=>A.fail
  | _=>A.fail
 | .scope a,_,c,s,k=>match c with
  | .scope c=>eH aP T be Ψ a c s k
  | _=>A.fail
 | .num i n a,_,c,s,k=>match rG s i with
  | some (x,f)=>A.ad (x=(n:Int)) (eH aP T be Ψ a c (f n) k)
  | none=>A.fail
 | .nZ i a,_,c,s,k=>match L' s i with
  | some s'=>eH aP T be Ψ a c s' k
  | none=>A.fail
 | .GZ b a,_,c,s,k=>match Ma s b with
  | some s'=>eH aP T be Ψ a c s' k
  | none=>A.fail
 | .split i off n a,_,c,s,k=>match qC s i off with
  | some (x,f)=>A.ad (0<=x/\x<(n:Int)) (GV n x λj=>eH aP T be Ψ a c (f j) k)
  | none=>A.fail
 | .range sh rin rout a b,_,c,s,k=>match c with
  | .rangeFunc g ps assign body=>match aZ aP s.ay g with
   | .sf rH n eS=>match Ψ rH with
    | some (.cq ic)=>match (iY ic.ts ((List.range n).map eS)).run s.aa with
     | some (x,bU)=>match n6 sh rout ic.aJ ps.toList eP&&(a.eg&&b.eg) with
      | true=>sh.nd (s.cy bU) λD=>A.ad (ic.pre x) (A.bind (jQ (λD y=>uq sh rin rout ic.aJ ps.toList D y λev=>
       eH aP T be Ψ a (β:=di×rout.aj) assign ev (G2 λdM=>eH aP T be Ψ b body dM λe eI=>rout.nd eI λbl=>A.pure (e,bl))) (ic.seq x) D) λp=>Mb k p.1 (sh.st p.2))
      | false=>A.fail
     | none=>A.fail
    | _=>A.fail
   | .val (.cq aJ) S=>match n6 sh rout aJ ps.toList eP&&(a.eg&&b.eg) with
    | true=>sh.nd s λD=>A.bind (A.any S) λL=>A.bind (jQ (λD y=>uq sh rin rout aJ ps.toList D y λev=>
     eH aP T be Ψ a (β:=di×rout.aj) assign ev (G2 λdM=>eH aP T be Ψ b body dM λe eI=>rout.nd eI λbl=>A.pure (e,bl))) L D) λp=>Mb k p.1 (sh.st p.2)
    | false=>A.fail
   | _=>A.fail
  | _=>A.fail
 | .G0,_,c,s,k=>match c with
  | .region _ ops draw=>match draw&&L_ ops with
   | true=>Am aP T (GK be Ψ) Ψ (lr ops.toList).toArray s (k .normal)
   | false=>A.fail
  | _=>A.fail
 | .eM,_,c,s,k=>match c with
  | .region _ ops draw=>match draw with
   | true=>Am aP T (GK be Ψ) Ψ ops s (k .normal)
   | false=>mz aP T be Ψ ops ops.toList [] s (k .normal)
  | .skip=>k .normal s
  | .label _=>k .normal s
  | .exit id=>k (.exit id) s
  | .ret=>k .ret s
  | _=>A.fail
def ls(nt:Nat):Code->Bool
 | .region _ ops _=>ops.toList.all λo=>lp o nt
 | .seq a b=>ls nt a&&ls nt b
 | .cond _ a b=>ls nt a&&ls nt b
 | .block _ a=>ls nt a
 | .loop a=>ls nt a
 | .scope a=>ls nt a
 | .rangeFunc _ ps a b=>ps.toList.all (λp=>decide (p<nt))&&(ls nt a&&ls nt b)
 | .skip=>true
 | .label _=>true
 | .exit _=>true
 | .ret=>true
 | _=>false
end Go.Fer
