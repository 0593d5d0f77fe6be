/- Part 2 of the proof of TopShop: shallow programs of Go functions, and what they compute. No condition. -/
import Derived.Test.YtplfnoecifjgeaaGreatDoorTopShopA
import Derived.Laws.BytesString
noncomputable section
set_option linter.unusedVariables false
set_option linter.unusedSimpArgs false
namespace Go.Fer
open Go.RowKit
theorem Cp{p:Addr}(h:p.spot=none)(n:Nat):p.add n=⟨p.block,p.off+n,none⟩:=by
 obtain⟨b,o,sp⟩:=p;simp only at h;subst h;exact u1 b o n
theorem KH{e:ad}{xs:List e.ai}{i:Int}(E:0<=i)(U:i<(xs.length:Int)):kN e xs i=xs[i.toNat]'(by omega):=by
 unfold kN;grind
section
variable {C:b9} {T:Nat->ad} {be:Nat->Option aL} {o:Oper} {s:aA} {res:eC}
theorem KI{P:Program}{w:World}{e:ad}{ty:TypeId}(h:b6 P (.slice e) ty){p:Addr}(an:p.spot=none){n cap:Nat}{k:IntKind}{i:Int}(E:0<=i)(U:i<(n:Int)) :
  (Instr.indexAt ty (.slice (some p) n cap) (.int k i)).run P w=.ok (.pointer (some ⟨p.block,p.off+i.toNat*e.size,none⟩)) w:=by
 obtain⟨j,aE,ja,_⟩:=h.sl;simp[Instr.indexAt,asIntOf,dD aE,E,U,ja.size,Cp an]
theorem adZ(aU:dT C.P T){ty:TypeId}{x i:Operand}(bf:∀ i,o.dst=some i->i<C.nt)(af:o.op=.indexAddr ty x i)(h:(bw C.aN T be (a7 C.aN s.ay) o).run s.aa=some res):cJ C o s res:=by
 simp only[bw,af]at h;split at h
 ·rename_i bG k n aH G;have dr:=aU.cb aH (by simp);simp only[bP,aq.e4,Option.bind_eq_some_iff,aq.bN,Option.some.injEq]at h;obtain⟨⟨c,v⟩,hj,rfl⟩:=h;refine cJ.pure (by grind) bf λa w κ F M bc hc=>?_;have ag:bB C.P s.aa κ F w (use (a7 C.aN s.ay x)).2 (a.eval x):=cO M x rfl bc.1;have U:=ow (cO M i rfl bc.2) G;have zm:∀ (xs:List bG.ai),bI C.P (.slice bG) F w [a.eval x] xs->0<=n/\n<(xs.length:Int)->∃ r,(execOp a.eval o).run C.P w=.ok (.value r) w/\bB C.P s.aa κ F w (.dW bG (kN bG xs n)) r:=by
   intro xs hT aw;obtain⟨a',cap,ax,m1,m2,m3,m4⟩:=hT;have ax:=(List.cons.inj ax).1;cases a' with
   | none=>grind
   | some p=>
    obtain⟨ec,ef,jl⟩:=m4 p rfl (by omega);obtain⟨bh,d1,d2⟩:=jl n.toNat (by omega);refine⟨_,by simp[execOp,af,ax,U.1,KI dr ef aw.1 aw.2],⟨p.block,p.off+n.toNat*bG.size,none⟩,bh,rfl,d1,?_⟩;rw[KH aw.1 aw.2];exact d2
  unfold RI at hj;split at hj
  ·rename_i e xs e';simp only[aq.bN]at hj;split at hj
   ·rename_i he;subst he;simp only[Option.some.injEq,Prod.mk.injEq]at hj;obtain⟨rfl,rfl⟩:=hj;rw[e']at ag;exact zm xs ((dV rfl).1 ag).2 hc
   grind
  ·rename_i b g e';rw[e']at ag;simp only[aq.e3,aq.bN]at hj;split at hj
   ·rename_i aB;have aT:=M.bF b;unfold cE at aT;split at hj
    ·rename_i e xs bS;split at hj
     ·rename_i he;subst he;simp only[Option.some.injEq,Prod.mk.injEq]at hj;obtain⟨rfl,rfl⟩:=hj;have ae:=ag.2 aB.symm (by rw[bS];rfl);rw[bS]at ae aT;have u9:(κ b).e9=false:=by
       cases aw:(κ b).e9 with
       | false=>rfl
       | true=>rw[aT.1 aw]at hc;grind
      simp only[bD.slice,u9,Bool.false_eq_true,if_false,bQ.len]at ae;refine⟨_,by simp[execOp,af,ae,U.1,KI dr (p:=⟨(κ b).aa,(κ b).off,none⟩) rfl hc.1 hc.2];rfl,⟨ag.1.1,rfl⟩,λ_ _=>?_⟩;rw[bS];exact⟨by simp only[bQ.len];omega,u9,rfl⟩
     grind
    ·rename_i e xs bS;split at hj
     ·rename_i he;subst he;simp only[Option.some.injEq,Prod.mk.injEq]at hj;obtain⟨rfl,rfl⟩:=hj;have ae:=ag.2 aB.symm (by rw[bS];rfl);rw[bS]at ae aT;simp only[bQ.len]at ae;refine zm xs ?_ hc;rw[ae];exact aT
     grind
    grind
   grind
  ·rename_i b g aY G e';rw[e']at ag;simp only[aq.e3,aq.bN]at hj;split at hj
   ·rename_i aB;have aT:=M.bF b;unfold cE at aT;split at hj
    ·rename_i e xs bS;split at hj
     ·rename_i he;subst he;simp only[Option.some.injEq,Prod.mk.injEq]at hj;obtain⟨rfl,rfl⟩:=hj;obtain⟨⟨aO,aR⟩,bO⟩:=ag.2 aB.symm (by rw[bS];rfl);rw[bS]at aR bO aT;simp only[bQ.len,bQ.e2]at aR bO;rcases bO with⟨aw,_⟩ | ⟨aw,mi,ae,hR,gA⟩
      ·rw[aT.1 aw]at aR;grind
      ·obtain⟨cs,hU,bE,c2,c3,c4,c5⟩:=aT.2 aw;refine⟨_,by simp[execOp,af,ae,U.1,KI dr (p:=⟨(κ b).aa,mi,none⟩) rfl hc.1 hc.2];rfl,⟨ag.1.1,rfl⟩,λ_ _=>?_⟩;rw[bS];refine⟨by simp only[bQ.len];omega,aw,?_⟩;rw[gA (by omega)];simp only[bQ.e2,Nat.add_mul];grind
     grind
    ·rename_i e xs bS;split at hj
     ·rename_i he;subst he;simp only[Option.some.injEq,Prod.mk.injEq]at hj;obtain⟨rfl,rfl⟩:=hj;obtain⟨⟨aO,aR⟩,bO⟩:=ag.2 aB.symm (by rw[bS];rfl);rw[bS]at aR bO aT;simp only[bQ.len,bQ.e2]at aR bO;have hlen:((xs.take G).drop aY).length=G - aY:=by grind
      obtain⟨r,b_,cy⟩:=zm ((xs.take G).drop aY) (Fz aT aO aR bO) (by omega);refine⟨r,b_,?_⟩;have ax:kN e ((xs.take G).drop aY) n=kN e xs ((aY:Int)+n):=by
       rw[KH hc.1 (by omega),KH (by omega) (by omega)];grind
      grind
     grind
    grind
   grind
  ·simp_all
  ·cases hj
 ·rename_i m bG k n aH G;split at h
  ·rename_i dz a6 xs e';split at h
   ·rename_i he;obtain⟨rfl,rfl⟩:=he;simp only[bP,aq.bN,Option.some.injEq]at h;subst h;refine cJ.pure (by grind) bf λa w κ F M bc hc=>?_;have ag:bB C.P s.aa κ F w (use (a7 C.aN s.ay x)).2 (a.eval x):=cO M x rfl bc.1;rw[e']at ag;have U:=ow (cO M i rfl bc.2) G;obtain⟨j,aE,qU,_⟩:=(aU.cb aH (by simp)).bg;obtain⟨p,bh,ae,cW,nN⟩:=ag;obtain⟨bE,c2,c3,rfl,aM,cD⟩:=Kv nN (i:=n.toNat) (by omega);refine⟨.pointer (some ⟨p.block,p.off+n.toNat*a6.size,none⟩),?_,⟨p.block,p.off+n.toNat*a6.size,none⟩,c2,rfl,⟨cW.1,rfl,λq bt=>?_⟩,cD⟩
    ·simp[execOp,af,Instr.indexAt,ae,U.1,asIntOf,dD aE,hc.1,hc.2,qU.size,Cp cW.2.1,Instr.sureAddr]
    ·have:=cW.2.2 (bE.length+q) (by grind);grind
   ·cases h
  ·rename_i b g off e';simp only[aq.e3,aq.bN]at h;split at h
   ·rename_i bk;simp only[Bool.and_eq_true,decide_eq_true_eq]at bk;simp only[Option.some.injEq]at h;subst h;refine cJ.pure (by grind) bf λa w κ F M bc hc=>?_;have E:bB C.P s.aa κ F w (use (a7 C.aN s.ay x)).2 (a.eval x):=cO M x rfl bc.1;rw[e']at E;have U:=ow (cO M i rfl bc.2) G;have ah:=E.2 bk.1.symm bk.2;obtain⟨j,aE,qU,_⟩:=(aU.cb aH (by simp)).bg;exact⟨_,by simp[execOp,af,Instr.indexAt,ah,U.1,asIntOf,dD aE,hc.1,hc.2,qU.size,Cp (p:=⟨(κ b).aa,off,none⟩) rfl,Instr.sureAddr],⟨E.1.1,rfl⟩,λ_ _=>rfl⟩
   grind
  ·cases h
 ·cases h
theorem Cq{a:Act}{w:World}{κ:Nat->bD}{F:Nat->Prop}(M:bl C s a w κ F){x:Option Operand}{p:Prop}{n:Option Int}(h:k_ (a7 C.aN s.ay) x=some (p,n))(an:p) :
  (x=none/\n=none)\/∃ y k m,x=some y/\n=some m/\a.eval y=.int k m:=by
 cases x with
 | none=>simp only[k_,Option.some.injEq,Prod.mk.injEq]at h;grind
 | some y=>
  simp only[k_]at h;split at h
  ·rename_i q k m hu;simp only[Option.some.injEq,Prod.mk.injEq]at h;obtain⟨rfl,rfl⟩:=h;exact .inr ⟨y,k,m,rfl,rfl,(gS.1 (cO M y hu an)).1⟩
  grind
theorem Sa{P:Program}{w:World}{isS:Bool}{len cap:Nat}{aY G:Option Value}{l h:Option Int}(aj:(aY=none/\l=none)\/∃ k m,aY=some (.int k m)/\l=some m)(cW:(G=none/\h=none)\/∃ k m,G=some (.int k m)/\h=some m)
  (E:0<=du l) (U:du l<=fA len h) (ah:fA len h<=(cap:Int)) (_h4:len<=cap):(Instr.sliceBounds isS len cap aY G none).run P w=.ok ((du l).toNat,(fA len h).toNat,cap) w:=by
 rcases aj with⟨rfl,rfl⟩ | ⟨k,m,rfl,rfl⟩<;>rcases cW with⟨rfl,rfl⟩ | ⟨k',dz,rfl,rfl⟩<;>simp only[du,fA]at E U ah ⊢
 ·rfl
 ·have:0<=dz/\dz<=(cap:Int):=by omega
  simp[Instr.sliceBounds,Instr.sliceBound,asIntOf,this]
 ·have:0<=m/\m<=(len:Int):=by omega
  simp[Instr.sliceBounds,Instr.sliceBound,asIntOf,this]
 ·have ax:0<=dz/\dz<=(cap:Int):=by omega
  have aM:0<=m/\m<=dz:=by omega
  have cD:max dz 0=dz:=by omega
  simp[Instr.sliceBounds,Instr.sliceBound,asIntOf,ax,aM,cD]
theorem ad0{l h:Option Int}{n m:Nat}(Sb:n<=m):B7 l h n m<=m:=by
 unfold B7;grind
theorem ad1(aU:dT C.P T){ty:TypeId}{x:Operand}{aY G:Option Operand}(bf:∀ i,o.dst=some i->i<C.nt)(af:o.op=.slice ty x aY G none)(h:(bw C.aN T be (a7 C.aN s.ay) o).run s.aa=some res):cJ C o s res:=by
 simp only[bw,af,Option.isSome_none,Bool.false_eq_true,if_false,FC]at h;split at h
 ·rename_i ol l qP lQ r5 KJ;have ar:∀ c,o.op≠.defer c:=by grind
  have rV:∀ (a:Act) (w:World) κ F,bl C s a w κ F->ol->qP->((aY.map a.eval=none/\l=none)\/∃ k m,aY.map a.eval=some (.int k m)/\l=some m)/\((G.map a.eval=none/\lQ=none)\/∃ k m,G.map a.eval=some (.int k m)/\lQ=some m):=by
   intro a w κ F M Cr Cs;constructor
   ·rcases Cq M r5 Cr with⟨rfl,rfl⟩ | ⟨y,k,m,rfl,rfl,e⟩
    ·exact .inl ⟨rfl,rfl⟩
    ·exact .inr ⟨k,m,by simp[e],rfl⟩
   ·rcases Cq M KJ Cs with⟨rfl,rfl⟩ | ⟨y,k,m,rfl,rfl,e⟩
    ·exact .inl ⟨rfl,rfl⟩
    ·exact .inr ⟨k,m,by simp[e],rfl⟩
  split at h
  ·rename_i bG aH;have dr:=aU.cb aH (by simp);obtain⟨j,aE,ja,oy⟩:=dr.sl;simp only[aq.e4,Option.bind_eq_some_iff]at h;obtain⟨⟨c,v⟩,fV,h⟩:=h;simp only[bP,aq.bN,Option.some.injEq]at h;subst h;have runs:∀ (a:Act) (w:World) κ F,bl C s a w κ F->ol->qP->∀ (q:Option Addr) (n cap:Nat),a.eval x=.slice q n cap->n<=cap->0<=du l/\du l<=fA n lQ/\fA n lQ<=(cap:Int)->
     (execOp a.eval o).run C.P w=.ok (.value (.slice (if cap=(du l).toNat then q else q.map (·.add ((du l).toNat*bG.size))) ((fA n lQ).toNat - (du l).toNat) (cap - (du l).toNat))) w:=by
    intro a w κ F M Cr Cs q n cap ae aw hc;obtain⟨dL,eA⟩:=rV a w κ F M Cr Cs;have:=Sa (P:=C.P) (w:=w) (isS:=true) dL eA hc.1 hc.2.1 hc.2.2 aw;simp[execOp,af,ae,Instr.sliceAt,Instr.slice,dD aE,this,ja.size]
   unfold RJ at fV;split at fV
   ·rename_i e xs e';simp only[aq.bN]at fV;split at fV
    ·rename_i he;subst he;simp only[Option.some.injEq,Prod.mk.injEq]at fV;obtain⟨rfl,rfl⟩:=fV;refine cJ.pure ar bf λa w κ F M bc hc=>?_;have ag:bB C.P s.aa κ F w (use (a7 C.aN s.ay x)).2 (a.eval x):=cO M x rfl bc.1;rw[e']at ag;obtain⟨_,a',cap,ax,m1,m2,m3,m4⟩:=(dV rfl).1 ag;have ax:=(List.cons.inj ax).1;refine⟨_,runs a w κ F M bc.2.1 bc.2.2 a' xs.length cap ax m1 ⟨hc.1,hc.2.1,by omega⟩,(dV rfl).2 ⟨rfl,?_⟩⟩;have hlen:((xs.take (fA xs.length lQ).toNat).drop (du l).toNat).length=(fA xs.length lQ).toNat - (du l).toNat:=by
      simp;omega
     refine⟨_,_,by rw[hlen],by omega,by omega,?_,λp an uW=>?_⟩
     ·intro aw;split at aw
      ·omega
      ·cases a' with
       | none=>have:=m3 rfl;omega
       | some q=>cases aw
     ·cases a' with
      | none=>split at an<;>cases an
      | some q=>
       obtain⟨ec,ef,jl⟩:=m4 q rfl (by omega);have bt:∃ d,p=⟨q.block,q.off+d,none⟩/\(d=(du l).toNat*e.size\/cap=(du l).toNat):=by
        split at an
        ·omega
        ·simp only[Option.map_some,Option.some.injEq]at an;rw[Cp ef]at an;grind
       obtain⟨d,rfl,wY⟩:=bt;refine⟨ec,rfl,λi G=>?_⟩;rw[hlen]at G;obtain⟨bh,d1,d2⟩:=jl ((du l).toNat+i) (by omega);rcases wY with rfl | xa
       ·refine⟨bh,⟨d1.1,rfl,λk al=>?_⟩,?_⟩
        ·have:=d1.2.2 k al;rw[Nat.add_mul]at this;rw[show q.off+(du l).toNat*e.size+i*e.size=q.off+((du l).toNat*e.size+i*e.size) from by omega];exact this
        ·have aM:((xs.take (fA xs.length lQ).toNat).drop (du l).toNat)[i]'(by rw[hlen];exact G)=xs[(du l).toNat+i]'(by omega):=by simp
         rw[aM];exact d2
       ·omega
    grind
   ·rename_i e';simp only[aq.bN,Option.some.injEq,Prod.mk.injEq]at fV;obtain⟨rfl,rfl⟩:=fV;refine cJ.pure ar bf λa w κ F M bc hc=>?_;have ag:bB C.P s.aa κ F w (use (a7 C.aN s.ay x)).2 (a.eval x):=cO M x rfl bc.1;rw[e']at ag;simp only[bB]at ag;have jK:0<=du l/\du l<=fA 0 lQ/\fA 0 lQ<=((0:Nat):Int):=hc;have c8:=runs a w κ F M bc.2.1 bc.2.2 none 0 0 ag (Nat.le_refl _) jK;have aX:(fA 0 lQ).toNat=0:=by omega
    rw[aX]at c8;refine⟨_,c8,?_⟩;simp only[bB];simp
   ·rename_i b g e';simp only[aq.e3,aq.bN]at fV;split at fV
    ·rename_i bk;simp only[Bool.and_eq_true,decide_eq_true_eq,beq_iff_eq]at bk;obtain⟨⟨aB,fa⟩,Ch⟩:=bk;simp only[Option.some.injEq,Prod.mk.injEq]at fV;obtain⟨rfl,rfl⟩:=fV;refine cJ.pure ar bf λa w κ F M bc hc=>?_;have ag:bB C.P s.aa κ F w (use (a7 C.aN s.ay x)).2 (a.eval x):=cO M x rfl bc.1;rw[e']at ag;have ae:=ag.2 aB.symm fa;obtain⟨ec,ef⟩:=zh M fa;cases aw:(κ b).e9 with
     | true=>
      have aX:=ec aw;simp only[bD.slice,aw,if_true]at ae;rw[aX]at hc;have c8:=runs a w κ F M bc.2.1 bc.2.2 none 0 0 ae (Nat.le_refl _) hc;refine⟨_,c8,⟨ag.1.1,by rfl⟩,λ_ _=>⟨by grind,.inl ⟨aw,?_⟩⟩⟩;grind
     | false=>
      have xa:=Kw M fa aw;simp only[bD.slice,aw,Bool.false_eq_true,if_false]at ae;have c8:=runs a w κ F M bc.2.1 bc.2.2 _ _ _ ae xa ⟨hc.1,hc.2.1,by omega⟩;refine⟨_,c8,⟨ag.1.1,by rfl⟩,λ_ _=>⟨by omega,.inr ⟨aw,?_⟩⟩⟩;rw[<-Ch];by_cases lN:(κ b).cap=(du l).toNat
      ·grind
      ·rw[if_neg lN];simp only[Option.map_some,u1];simp
    grind
   ·rename_i b g fi aX e';simp only[aq.e3,aq.bN]at fV;split at fV
    ·rename_i bk;simp only[Bool.and_eq_true,decide_eq_true_eq,beq_iff_eq]at bk;obtain⟨⟨aB,fa⟩,Ch⟩:=bk;simp only[Option.some.injEq,Prod.mk.injEq]at fV;obtain⟨rfl,rfl⟩:=fV;refine cJ.pure ar bf λa w κ F M bc hc=>?_;have ag:bB C.P s.aa κ F w (use (a7 C.aN s.ay x)).2 (a.eval x):=cO M x rfl bc.1;rw[e']at ag;obtain⟨⟨aO,aR⟩,bO⟩:=ag.2 aB.symm fa;obtain⟨ec,ef⟩:=zh M fa;have r6:B7 l lQ (aX - fi) ((s.aa b).body.len - fi)<=(s.aa b).body.len - fi:=ad0 (by omega);revert hc r6;generalize B7 l lQ (aX - fi) ((s.aa b).body.len - fi)=lim;intro hc r6;rcases bO with⟨aw,ae⟩ | ⟨aw,mi,ae,hR,gA⟩
     ·have KK:=ec aw;have bG:aX - fi=0:=by omega
      have elim:lim=0:=by omega
      rw[bG,elim]at hc;grind
     ·have xa:=Kw M fa aw;have c8:=runs a w κ F M bc.2.1 bc.2.2 _ _ _ ae (by omega) ⟨hc.1,hc.2.1,by omega⟩;refine⟨_,c8,⟨ag.1.1,by rfl⟩,λ_ _=>⟨by omega,.inr ⟨aw,?_⟩⟩⟩;rw[<-Ch];rw[<-Ch]at c8;have ax:(fA (aX - fi) lQ).toNat - (du l).toNat=fi+(fA (aX - fi) lQ).toNat - (fi+(du l).toNat):=by omega
      have aM:(κ b).cap - fi - (du l).toNat=(κ b).cap - (fi+(du l).toNat):=by omega
      rw[ax,aM];have cD:(fi+(du l).toNat)*(s.aa b).body.e2=fi*(s.aa b).body.e2+(du l).toNat*(s.aa b).body.e2:=Nat.add_mul _ _ _;by_cases lN:(κ b).cap - fi=(du l).toNat
      ·rw[if_pos lN];exact⟨_,rfl,by omega,λh=>by omega⟩
      ·rw[if_neg lN];simp only[Option.map_some,u1];exact⟨_,rfl,by omega,λh=>by omega⟩
    grind
   ·cases fV
  ·rename_i aH;have dr:=(aU.cb aH (by simp)).str;split at h
   ·rename_i c v fV;simp only[bP,aq.bN,Option.some.injEq]at h;subst h;unfold RL at fV;split at fV
    ·rename_i xs e';simp only[Option.some.injEq,Prod.mk.injEq]at fV;obtain⟨rfl,rfl⟩:=fV;refine cJ.pure ar bf λa w κ F M bc hc=>?_;have ag:bB C.P s.aa κ F w (use (a7 C.aN s.ay x)).2 (a.eval x):=cO M x rfl bc.1;rw[e']at ag;obtain⟨ae,cc⟩:=l_.1 ag;obtain⟨dL,eA⟩:=rV a w κ F M bc.2.1 bc.2.2;have aD:ByteArray.size ⟨xs.toArray⟩=xs.length:=by rfl
     have:=Sa (P:=C.P) (w:=w) (isS:=false) (len:=xs.length) (cap:=xs.length) dL eA hc.1 hc.2.1 hc.2.2 (Nat.le_refl _);refine⟨.string ⟨((xs.take (fA xs.length lQ).toNat).drop (du l).toNat).toArray⟩,?_,l_.2 ⟨rfl,by grind⟩⟩;simp only[execOp,af,ae,Instr.sliceAt,Instr.slice,Sem.run_bind,dD dr,Result.andThen_ok,Option.map_none,Option.isSome_none,Bool.false_eq_true,if_false,aD,this,Sem.run_pure];have he:ByteArray.extract ⟨xs.toArray⟩ (du l).toNat (fA xs.length lQ).toNat=⟨((xs.take (fA xs.length lQ).toNat).drop (du l).toNat).toArray⟩:=by
      apply ByteArray.ext;rw[ByteArray.data_extract];grind
     rw[he]
    grind
   ·cases h
  ·cases h
 ·cases h
end
end Go.Fer
namespace Go.Fer
open Go.RowKit
def gr(P:Program)(e:ad)(F:Nat->Prop)(w:World)(all:List Value)(xs:List e.ai):Prop:=
 all.length=xs.length*e.size/\∀ i (h:i<xs.length),bI P e F w ((all.drop (i*e.size)).take e.size) xs[i]
theorem gr.append{P:Program}{e:ad}{F:Nat->Prop}{w:World}{l m:List Value}{xs ys:List e.ai}(h:gr P e F w l xs)(k:gr P e F w m ys):gr P e F w (l++m) (xs++ys):=by
 refine⟨by simp[h.1,k.1,Nat.add_mul],λi G=>?_⟩;by_cases ag:i<xs.length
 ·have ax:(xs++ys)[i]=xs[i]:=List.getElem_append_left ag;rw[ax];have hle:(i+1)*e.size<=xs.length*e.size:=Nat.mul_le_mul_right _ (by omega);rw[Nat.add_mul,Nat.one_mul]at hle;have:((l++m).drop (i*e.size)).take e.size=(l.drop (i*e.size)).take e.size:=by
   rw[List.drop_append_of_le_length (by rw[h.1];omega),List.take_append_of_le_length (by simp[h.1];omega)]
  rw[this];exact h.2 i ag
 ·have dO:i - xs.length<ys.length:=by grind
  have ax:(xs++ys)[i]=ys[i - xs.length]:=List.getElem_append_right (by omega);rw[ax];have hm:i*e.size=xs.length*e.size+(i - xs.length)*e.size:=by rw[<-Nat.add_mul];grind
  have:(l++m).drop (i*e.size)=m.drop ((i - xs.length)*e.size):=by
   rw[hm,<-h.1,List.drop_append,List.drop_of_length_le (by omega)];simp
  rw[this];exact k.2 _ dO
theorem gr.Ct{P:Program}{e:ad}{F:Nat->Prop}{w:World}{all pre post:List Value}{cs:Array Value}{xs:List e.ai}(h:gr P e F w all xs)(hc:cs.toList=pre++(all++post)):lH P e F w cs pre.length xs:=by
 intro i G;have hle:(i+1)*e.size<=xs.length*e.size:=Nat.mul_le_mul_right _ (by omega);rw[Nat.add_mul,Nat.one_mul]at hle;refine⟨_,λj aE=>?_,h.2 i G⟩;have fT:j<e.size:=by grind
 rw[<-Array.getElem?_toList,hc,List.getElem?_append_right (by omega),List.getElem?_append_left (by grind)];grind
theorem FV{P:Program}{e:ad}{F:Nat->Prop}{w:World}:∀ {xs:List e.ai} {p:Addr},(0<xs.length->p.spot=none)->(∀ i (h:i<xs.length),∃ bh,kt w ⟨p.block,p.off+i*e.size,none⟩ bh/\bI P e F w bh xs[i])->
  ∃ all,gr P e F w all xs/\kt w p all
 | [],p,an,_=>⟨[],⟨by simp,λi G=>by grind⟩,λh=>by grind,λj aE=>by grind⟩
 | x::xs,p,an,h=>by
  obtain⟨bh,d1,d2⟩:=h 0 (by simp);have u7:=hP e d2;obtain⟨all,b8,a2⟩:=FV (P:=P) (F:=F) (w:=w) (xs:=xs) (p:=⟨p.block,p.off+e.size,none⟩) (λ_=>rfl) (λi G=>by
   obtain⟨R',aO,aR⟩:=h (i+1) (by grind);grind)
  refine⟨bh++all,?_,λ_=>an (by simp),λj aE=>?_⟩
  ·have E:gr P e F w bh [x]:=⟨by grind,λi G=>by
    have:i=0:=by grind
    subst this;grind⟩
   exact E.append b8
  ·rcases Nat.lt_or_ge j bh.length with E | E
   ·rw[List.getElem_append_left E];have:=d1.2 j E;grind
   ·rw[List.getElem_append_right E];have:=a2.2 (j - bh.length) (by grind);grind
section
variable {C:b9} {T:Nat->ad} {be:Nat->Option aL} {o:Oper} {s:aA} {res:eC}
theorem r7{a:Act}{w:World}{κ:Nat->bD}{F:Nat->Prop}(M:bl C s a w κ F){e:ad}{av:aG}{v:Value}{ys:List e.ai}{l:List Nat}(h:(dA (.slice e) av).run s.aa=some (ys,l))(ae:bB C.P s.aa κ F w av v) :
  ∃ q cap,v=.slice q ys.length cap/\((q=none/\ys=[]/\cap=0)\/∃ p all,q=some p/\gr C.P e F w all ys/\kt w p all):=by
 have zm:∀ {xs:List e.ai},bI C.P (.slice e) F w [v] xs->∃ q cap,v=.slice q xs.length cap/\((q=none/\xs=[]/\cap=0)\/∃ p all,q=some p/\gr C.P e F w all xs/\kt w p all):=by
  intro xs ag;obtain⟨q,cap,ax,m1,m2,m3,m4⟩:=ag;refine⟨q,cap,(List.cons.inj ax).1,?_⟩;cases q with
  | none=>
   simp_all
  | some p=>
   obtain⟨all,b8,a2⟩:=FV (P:=C.P) (F:=F) (w:=w) (xs:=xs) (p:=p) (λh=>(m4 p rfl (by omega)).2.1) (λi G=>let ⟨bh,d1,d2⟩:=(m4 p rfl (by omega)).2.2 i G;⟨bh,d1.Kn,d2⟩);grind
 cases av with
 | val cY y=>
  simp only[dA,aq.bN,Option.map_eq_some_iff,Prod.mk.injEq]at h;obtain⟨z,bk,rfl,_⟩:=h;exact zm (((dV rfl).1 (Fy bk ae)).2)
 | cv=>
  simp only[dA,ko,ad.eG,if_true,dX,aq.bN,Option.some.injEq,Prod.mk.injEq]at h;obtain⟨rfl,_⟩:=h;simp only[bB]at ae;grind
 | own b g=>
  simp only[dA,ko,ad.eG,if_true,dX,aq.e3,aq.bN]at h;split at h
  ·rename_i aB;have aT:=M.bF b;unfold cE at aT;split at h
   ·rename_i a6 xs bS;simp only[Option.map_eq_some_iff,Prod.mk.injEq]at h;obtain⟨z,bk,rfl,_⟩:=h;obtain⟨qV,rfl⟩:=kM bk;cases qV;have tA:=ae.2 aB.symm (by rw[bS];rfl);rw[bS]at tA aT;simp only[bQ.len]at tA;cases aw:(κ b).e9 with
    | true=>
     have hT:=aT.1 aw;subst hT;simp only[bD.slice,aw,if_true]at tA;grind
    | false=>
     obtain⟨cs,hU,bE,c2,c3,c4,c5⟩:=aT.2 aw;simp only[bD.slice,aw,Bool.false_eq_true,if_false]at tA;obtain⟨all,b8,a2⟩:=FV (P:=C.P) (F:=F) (w:=w) (xs:=xs) (p:=⟨(κ b).aa,(κ b).off,none⟩) (λ_=>rfl) (λi G=>by
      obtain⟨bh,d1,d2⟩:=c5 i G;exact⟨bh,⟨λ_=>rfl,λj aE=>by rw[u3 bE];grind⟩,d2⟩)
     grind
   ·rename_i a6 xs bS;simp only[Option.map_eq_some_iff,Prod.mk.injEq]at h;obtain⟨z,bk,rfl,_⟩:=h;obtain⟨qV,rfl⟩:=kM bk;cases qV;have tA:=ae.2 aB.symm (by rw[bS];rfl);rw[bS]at tA aT;simp only[bQ.len]at tA;simp only[jD]at aT;grind
   grind
  grind
 | sub b g aY G=>
  simp only[dA,ko,ad.eG,if_true,dX,aq.e3,aq.bN]at h;split at h
  ·rename_i aB;have aT:=M.bF b;unfold cE at aT;split at h
   ·rename_i a6 xs bS;simp only[Option.map_eq_some_iff,Prod.mk.injEq]at h;obtain⟨z,bk,rfl,_⟩:=h;obtain⟨qV,rfl⟩:=kM bk;cases qV;obtain⟨⟨aO,aR⟩,bO⟩:=ae.2 aB.symm (by rw[bS];rfl);rw[bS]at aR bO aT;simp only[bQ.len,bQ.e2]at aR bO;have hlen:((xs.take G).drop aY).length=G - aY:=by grind
    rcases bO with⟨aw,tA⟩ | ⟨aw,mi,tA,hR,gA⟩
    ·have hT:=aT.1 aw;grind
    ·obtain⟨cs,hU,bE,c2,c3,c4,c5⟩:=aT.2 aw;obtain⟨all,b8,a2⟩:=FV (P:=C.P) (F:=F) (w:=w) (xs:=(xs.take G).drop aY) (p:=⟨(κ b).aa,mi,none⟩) (λ_=>rfl) (λi dO=>by
      rw[hlen]at dO;obtain⟨bh,d1,d2⟩:=c5 (aY+i) (by omega);refine⟨bh,⟨λ_=>rfl,λj aE=>?_⟩,?_⟩
      ·rw[u3 bE,<-d1 j aE];grind
      grind)
     grind
   ·rename_i a6 xs bS;simp only[Option.map_eq_some_iff,Prod.mk.injEq]at h;obtain⟨z,bk,rfl,_⟩:=h;obtain⟨qV,rfl⟩:=kM bk;cases qV;obtain⟨⟨aO,aR⟩,bO⟩:=ae.2 aB.symm (by rw[bS];rfl);rw[bS]at aR bO aT;exact zm (Fz aT aO aR bO)
   grind
  grind
 | dW cY y=>simp[dA,ko,ad.eG,dX,aq.none]at h
 | jC u=>simp[dA,ko,ad.eG,dX,B3]at h
 | _=>simp[dA,ko,ad.eG,dX,aq.none]at h
theorem zn{P:Program}{w:World}{e:ad}{q:Option Addr}{n cap:Nat}{xs:List e.ai}{F:Nat->Prop}(aw:n=xs.length)(h:(q=none/\xs=[]/\cap=0)\/∃ p all,q=some p/\gr P e F w all xs/\kt w p all) :
  ∃ all,(Builtin.firstCells e.size n (.slice q n cap)).run P w=.ok all.toArray w/\gr P e F w all xs:=by
 subst aw;rcases h with⟨rfl,rfl,rfl⟩ | ⟨p,all,rfl,b8,a2⟩
 ·exact⟨[],by rfl,by simp[gr]⟩
 ·refine⟨all,?_,b8⟩;simp only[Builtin.firstCells];rw[<-b8.1];exact FJ a2
theorem ad2(n:Nat):∀ (k c:Nat),Builtin.growBy n k c<=max c (2*n+768):=by
 intro k;induction k with
 | zero=>intro c;simp only[Builtin.growBy];omega
 | succ k aJ=>
  intro c;simp only[Builtin.growBy];grind
theorem ad3{FW cap:Nat}(h:cap<FW):Builtin.nextslicecap FW cap<=2*FW+768:=by
 unfold Builtin.nextslicecap;split
 ·omega
 ·split
  ·omega
  ·have:=ad2 FW 4 cap;omega
theorem ad4{z:Array Value}{n k:Nat}(h:z.size=k):(Builtin.zeroCells z n).size=n*k:=by simp[Builtin.zeroCells,h]
theorem ad5{P:Program}{w:World}{e:ad}{ty mL:TypeId}{F:Nat->Prop}(h:b6 P (.slice e) ty)(dw:b6 P (.slice e) mL\/∃ a6,b6 P (.slice a6) mL){q q':Option Addr}{cap cap':Nat}{xs ys:List e.ai}
  (ag:(q=none/\xs=[]/\cap=0)\/∃ p all,q=some p/\gr P e F w all xs/\kt w p all) (aS:(q'=none/\ys=[]/\cap'=0)\/∃ p all,q'=some p/\gr P e F w all ys/\kt w p all)
  (hc:cap<xs.length+ys.length) (aj:bM (xs.length+ys.length)) (rt:TypeId) :
  ∃ jL qW cs,(Builtin.append_ #[ty,mL] rt #[.slice q xs.length cap,.slice q' ys.length cap']).run P w=.ok (.slice (some ⟨w.heap.size,0,none⟩) (xs.length+ys.length) qW) (w.drew.alloc (.cells cs jL))/\
   qW<2 ^ 63/\xs.length+ys.length<=qW/\cs.size=qW*e.size/\lH P e F w cs 0 (xs++ys):=by
 obtain⟨jL,aE,ja,oy⟩:=h.sl;obtain⟨j8,fT⟩:∃ j8,P.underlying mL=some (.slice j8):=by
  rcases dw with dw | ⟨a6,dw⟩
  ·obtain⟨j8,k,_⟩:=dw.sl;grind
  ·obtain⟨j8,k,_⟩:=dw.sl;grind
 obtain⟨i,z,i1,i2,i3,i4,i5,i6⟩:=kq ja.kp;have bk:=(Cl e (P:=P) i5).2;have ad6:∀ t:Nat,xs.length+ys.length<=xs.length+ys.length+t % (2 ^ 63 - (xs.length+ys.length))/\xs.length+ys.length+t % (2 ^ 63 - (xs.length+ys.length))<2 ^ 63:=by
  intro t;unfold bM at aj;have:t % (2 ^ 63 - (xs.length+ys.length))<2 ^ 63 - (xs.length+ys.length):=Nat.mod_lt _ (by omega);omega
 generalize KL:xs.length+ys.length+(w.tape w.drawn (.appendCap (xs.length+ys.length) cap jL)) % (2 ^ 63 - (xs.length+ys.length))=qW;have KM:=ad6 (w.tape w.drawn (.appendCap (xs.length+ys.length) cap jL));rw[KL]at KM;have Sc:∀ {p:Addr} {all:List Value},kt w p all->kt w.drew p all:=λh=>h;have Sd:∀ {all:List Value} {zs:List e.ai},gr P e F w all zs->gr P e F w.drew all zs:=λh=>⟨h.1,λi G=>ff e (F:=F) (F':=F) (w:=w) (w':=w.drew) (λ_ M=>M) ⟨Nat.le_refl _,λ_ _=>rfl⟩ (h.2 i G)⟩
 have nM:(q=none/\xs=[]/\cap=0)\/∃ p all,q=some p/\gr P e F w.drew all xs/\kt w.drew p all:=ag.imp id λ⟨p,all,a,b,c⟩=>⟨p,all,a,Sd b,Sc c⟩
 have Cu:(q'=none/\ys=[]/\cap'=0)\/∃ p all,q'=some p/\gr P e F w.drew all ys/\kt w.drew p all:=aS.imp id λ⟨p,all,a,b,c⟩=>⟨p,all,a,Sd b,Sc c⟩
 obtain⟨u_,hR,gA⟩:=zn (P:=P) (w:=w.drew) (cap:=cap) rfl nM;obtain⟨ez,ec,ef⟩:=zn (P:=P) (w:=w.drew) (cap:=cap') rfl Cu;refine⟨jL,qW,u_.toArray++ez.toArray++Builtin.zeroCells z.cells (qW - (xs.length+ys.length)),?_,KM.2,KM.1,?_,?_⟩
 ·have W:=ad3 hc;have qX:Builtin.nextslicecap (xs.length+ys.length) cap*i.bytes<=281474976710656:=by
   unfold bM at aj;calc Builtin.nextslicecap (xs.length+ys.length) cap*i.bytes<=(2*4294967296+768)*1024:=Nat.mul_le_mul (by omega) i3
    _<=281474976710656:=by decide
  have zo:¬((xs.length+ys.length:Nat):Int) > IntKind.i64.max:=by
   unfold bM at aj;have:IntKind.i64.max=9223372036854775807:=by decide
   omega
  have ad7:¬Builtin.nextslicecap (xs.length+ys.length) cap*i.bytes > 2 ^ 48:=by
   omega
  have Se:(Question.appendCap (xs.length+ys.length) cap jL).cut (w.tape w.drawn (.appendCap (xs.length+ys.length) cap jL))=qW:=by
   rw[<-KL];rfl
  have ad8:(Question.appendCap (xs.length+ys.length) cap jL).forced=false:=rfl;simp only[Builtin.append_,List.getElem?_toArray,List.getElem?_cons_zero,List.getElem?_cons_succ,Sem.run_bind,dD aE,dD fT,Result.andThen_ok,r0 i1,i2,Sem.run_pure,Builtin.lenOf,Bool.false_eq_true,if_false,if_neg (show ¬xs.length+ys.length<=cap by omega),zo,false_and,FH i1,ad7,run_choose,ad8,Se,run_askRoom,Bool.not_false,if_true,World.drew_eq,hR,ec,qR i1 i4];rfl
 ·have E:=gA.1;have U:=ef.1;simp only[Array.size_append,List.size_toArray,ad4 bk,E,U];rw[<-Nat.add_mul,<-Nat.add_mul];grind
 ·have jk:=gA.append ef;have ad9:gr P e F w (u_++ez) (xs++ys):=⟨jk.1,λi G=>ff e (F:=F) (F':=F) (w:=w.drew) (w':=w) (λ_ M=>M) ⟨Nat.le_refl _,λ_ _=>rfl⟩ (jk.2 i G)⟩
  exact ad9.Ct (pre:=[]) (post:=(Builtin.zeroCells z.cells (qW - (xs.length+ys.length))).toList) (by simp)
end
end Go.Fer
namespace Go.Fer
open Go.RowKit
section
variable {C:b9} {T:Nat->ad} {be:Nat->Option aL} {o:Oper} {s:aA} {res:eC}
theorem bl.Cv{a:Act}{w w':World}{κ:Nat->bD}{F:Nat->Prop}(h:bl C s a w κ F){b g:Nat}{e:ad}{zs:List e.ai}{k:bD}(aB:(s.aa b).gen<g)(lg:k.e9=true\/k.aa=w.heap.size)(cf:w.heap.size<=w'.heap.size)
  (nQ:∀ r,r<w.heap.size->w'.heap[r]?=w.heap[r]?) (cc:k.e9=false->k.aa<w'.heap.size) (hc:dd w w')
  (bS:∀ H κ',jD C.P H κ' F w' k (.bg e zs)):bl C (s.cx b ⟨g,.bg e zs⟩) a w' (λi=>if i=b then k else κ i) F:=by
 have aj:fq s.aa κ (λi=>if i=b then (⟨g,.bg e zs⟩:bJ) else s.aa i) (λi=>if i=b then k else κ i):=y2 aB λbd cR=>by grind
 have he:c7 F w w':=⟨cf,λr M=>nQ r (h.dc r M)⟩
 refine h.move (H':=λi=>if i=b then (⟨g,.bg e zs⟩:bJ) else s.aa i) aj (λ_ M=>M) (λ_ M=>.inl M) cf (λr M _=>nQ r M) hc (λ_=>?_) ?_ ?_ (λr M=>Nat.lt_of_lt_of_le (h.dc r M) cf) (y3 (.inr ⟨rfl,rfl⟩) λbd cR=>by grind)
 ·intro i;by_cases G:i=b
  ·subst G;simp only[cE,if_true];grind
  ·exact cE.k9 (h.bF i) aj (λ_ M=>M) he (by grind) (by grind) λaf=>nQ _ (h.own i af).1
 ·intro i G;by_cases eN:i=b
  ·subst eN;simp only[if_true,bQ.b1,Bool.not_eq_true']at G ⊢;have al:=lg.resolve_left (by grind);refine⟨cc G,λao=>?_,.inr (by omega)⟩;have:=h.dc _ ao;omega
  ·simp only[if_neg eN]at G ⊢;have:=h.own i G;grind
 ·intro i j G aE a6;by_cases eN:i=b<;>by_cases ma:j=b
  ·omega
  ·simp only[if_pos eN,if_neg ma,bQ.b1,Bool.not_eq_true']at G aE a6;have al:=lg.resolve_left (by grind);have:=(h.own j aE).1;omega
  ·simp only[if_neg eN,if_pos ma,bQ.b1,Bool.not_eq_true']at G aE a6;have al:=lg.resolve_left (by grind);have:=(h.own i G).1;omega
  ·simp only[if_neg eN,if_neg ma]at G aE a6;exact h.inj i j G aE a6
theorem ad_(s:aA)(b:Nat)(x y:bJ):(s.cx b x).cx b y=s.cx b y:=by
 unfold aA.cx;grind
theorem bl.ad'{a:Act}{w:World}{κ:Nat->bD}{F:Nat->Prop}(h:bl C s a w κ F){b:Nat}{e:ad}{xs:List e.ai}(W:(s.aa b).body=.bg e xs){aY G:Nat}(E:aY<=G)(U:G<=xs.length){v:Value}(aD:Fx (κ b) e.size aY G v) :
  ∃ κ',bl C (s.cx b ⟨(s.aa b).gen+1,.bg e ((xs.take G).drop aY)⟩) a w κ' F/\v=(κ' b).slice ((xs.take G).drop aY).length:=by
 have hlen:((xs.take G).drop aY).length=G - aY:=by grind
 have gq:∀ κ':Nat->bD,(∀ bd,bd≠b->κ' bd=κ bd)->fq s.aa κ (λi=>if i=b then (⟨(s.aa b).gen+1,.bg e ((xs.take G).drop aY)⟩:bJ) else s.aa i) κ':=
  λκ' B1=>y2 (Nat.lt_succ_self _) B1
 have aT:=h.bF b;unfold cE at aT;rw[W]at aT;rcases aD with⟨aw,rfl⟩ | ⟨aw,o,rfl,hR,gA⟩
 ·have hT:=aT.1 aw;subst hT;refine⟨κ,?_,by simp[bD.slice,aw]⟩;refine h.move (H':=λi=>if i=b then (⟨(s.aa b).gen+1,.bg e ((([]:List e.ai).take G).drop aY)⟩:bJ) else s.aa i) (gq κ λ_ _=>rfl) (λ_ M=>M) (λ_ M=>.inl M) (Nat.le_refl _) (λ_ _ _=>rfl) (dd.refl _) (λ_=>?_) ?_ ?_ h.dc (y3 (.inr ⟨rfl,rfl⟩) λ_ _=>rfl)
  ·intro i;by_cases G:i=b
   ·subst G;simp only[cE,if_true];exact⟨λ_=>by simp,λh=>by grind⟩
   ·exact cE.k9 (h.bF i) (gq κ λ_ _=>rfl) (λ_ M=>M) (c7.refl _ _) (by grind) rfl λ_=>rfl
  ·intro i G;by_cases eN:i=b
   ·subst eN;simp[bQ.b1,aw]at G
   ·simp only[if_neg eN]at G;exact⟨(h.own i G).1,(h.own i G).2.1,.inl ⟨i,G,rfl⟩⟩
  ·intro i j G aE a6;by_cases eN:i=b
   ·subst eN;simp[bQ.b1,aw]at G
   ·by_cases ma:j=b
    ·subst ma;simp[bQ.b1,aw]at aE
    ·simp only[if_neg eN,if_neg ma]at G aE;exact h.inj i j G aE a6
 ·obtain⟨cs,hU,bE,c2,c3,c4,c5⟩:=aT.2 aw;let k':bD:=⟨(κ b).aa,o,(κ b).cap - aY,false⟩
  let κ':Nat->bD:=λi=>if i=b then k' else κ i
  have Cw:∀ bd,bd≠b->κ' bd=κ bd:=λbd h=>if_neg h;have zp:κ' b=k':=if_pos rfl;have gm:=h.own b (by rw[W];simp[bQ.b1,aw]);refine⟨κ',?_,by rw[zp,hlen];rfl⟩;refine h.move (H':=λi=>if i=b then (⟨(s.aa b).gen+1,.bg e ((xs.take G).drop aY)⟩:bJ) else s.aa i) (gq κ' Cw) (λ_ M=>M) (λ_ M=>.inl M) (Nat.le_refl _) (λ_ _ _=>rfl) (dd.refl _) (λ_=>?_) ?_ ?_ h.dc (y3 (.inr ⟨rfl,rfl⟩) Cw)
  ·intro i;by_cases dO:i=b
   ·subst dO;simp only[cE,if_true,zp];have hmul:aY*e.size<=(κ i).cap*e.size:=Nat.mul_le_mul_right _ (by omega);refine⟨λh=>(by cases h),λ_=>⟨cs,hU,bE,?_,by grind,by grind,λj aE=>?_⟩⟩
    ·simp only[k'];rw[Nat.sub_mul];omega
    ·rw[hlen]at aE;obtain⟨bh,d1,d2⟩:=c5 (aY+j) (by omega);grind
   ·exact cE.k9 (h.bF i) (gq κ' Cw) (λ_ M=>M) (c7.refl _ _) (by grind) (Cw i dO) λ_=>rfl
  ·intro i dO;by_cases eN:i=b
   ·subst eN;rw[zp];exact⟨gm.1,gm.2.1,.inl ⟨i,by rw[W];simp[bQ.b1,aw],rfl⟩⟩
   ·simp only[if_neg eN]at dO;rw[Cw i eN]at dO ⊢;exact⟨(h.own i dO).1,(h.own i dO).2.1,.inl ⟨i,dO,rfl⟩⟩
  ·intro i j dO aE a6;have Sf:∀ i,(κ' i).aa=(κ i).aa:=λi=>by
    grind
   have ca:∀ i,((if i=b then (⟨(s.aa b).gen+1,.bg e ((xs.take G).drop aY)⟩:bJ) else s.aa i).body.b1 (κ' i)=true)->(s.aa i).body.b1 (κ i)=true:=λi G=>by
    by_cases eN:i=b
    ·subst eN;rw[W];simp[bQ.b1,aw]
    grind
   rw[Sf,Sf]at a6;exact h.inj i j (ca i dO) (ca j aE) a6
theorem lH.later{P:Program}{e:ad}{F:Nat->Prop}{w w':World}{cs:Array Value}{off:Nat}{xs:List e.ai}(h:lH P e F w cs off xs)(he:c7 F w w'):lH P e F w' cs off xs:=h.mono (λ_ M=>M) he
theorem aea(aU:dT C.P T){args:Array Operand}{dq:Array TypeId}(bf:∀ i,o.dst=some i->i<C.nt)(af:o.op=.call { callee:=.builtin .append,args:=args,argTypes:=dq })(h:(B9 T (a7 C.aN s.ay) o.dst args.toList dq.toList).run s.aa=some res):cJ C o s res:=by
 obtain⟨args⟩:=args;obtain⟨dq⟩:=dq;have ar:∀ c,o.op≠.defer c:=by grind
 simp only[B9]at h;split at h
 ·rename_i x y t u;split at h
  ·rename_i e aM aH hu;have dr:=aU.cb aH (by simp);have u5:=aU.cb hu (by simp);obtain⟨jL,aE,ja,oy⟩:=dr.sl;obtain⟨aeb,fT,_⟩:=u5.sl;obtain⟨inf,z,i1,i2,i3,i4,i5,i6⟩:=kq ja.kp;have mM:∀ (a:Act) (w w':World) v,(Builtin.append_ #[t,u] o.type #[a.eval x,a.eval y]).run C.P w=.ok v w'->(execOp a.eval o).run C.P w=.ok (.value v) w':=by
    intro a w w' v ae;refine w8 af ?_;simp[builtin,ae]
   have main:∀ (s:aA) (a:Act) (w:World) (κ:Nat->bD) (F:Nat->Prop) (Q:Exit->Act->World->Prop) (b g:Nat) (xs ys:List e.ai),bl C s a w κ F->
     (∃ q cap,a.eval y=.slice q ys.length cap/\((q=none/\ys=[]/\cap=0)\/∃ p all,q=some p/\gr C.P e F w all ys/\kt w p all))->
     (s.aa b).gen<g->(∃ q cap,a.eval x=.slice q xs.length cap/\((q=none/\xs=[]/\cap=0)\/∃ p all,q=some p/\gr C.P e F w all xs/\kt w p all))->
     (∀ q cap,a.eval x=.slice q xs.length cap->q≠none->xs.length+ys.length<=cap->(s.aa b).body=.bg e xs/\(κ b).e9=false/\q=some ⟨(κ b).aa,(κ b).off,none⟩/\cap=(κ b).cap)->bM (xs.length+ys.length)->
     o.wpIn (dS C.r) 0 C.P a w (λa' w'=>cu C ((s.cx b ⟨g,.bg e (xs++ys)⟩).set o.dst (.own b g)) a' w') Q:=by
    intro s a w κ F Q b g xs ys M nR KN r8 aec hlen;obtain⟨q,cap,r8,KO⟩:=r8;obtain⟨q',cap',tB,nR⟩:=nR;have KP:∀ (κ':Nat->bD) (v:Value) (w':World),bl C (s.cx b ⟨g,.bg e (xs++ys)⟩) a w' κ' F->v=(κ' b).slice (xs++ys).length->cu C ((s.cx b ⟨g,.bg e (xs++ys)⟩).set o.dst (.own b g)) (a.put o.dst v) w':=by
     intro κ' v w' bb ae;refine⟨κ',F,bl.set bb bf ⟨⟨by simp[aA.cx],?_⟩,λ_ _=>?_⟩⟩
     ·rw[ae];unfold bD.slice;split<;>rfl
     ·rw[ae];simp[aA.cx,bQ.len]
    by_cases xb:xs.length+ys.length<=cap
    ·cases bt:q with
     | none=>
      subst bt;obtain⟨aed,uW⟩:xs=[]/\cap=0:=by
       grind
      subst aed;subst uW;have KQ:ys=[]:=by grind
      subst KQ;obtain⟨ez,ec,ef⟩:=zn (P:=C.P) (w:=w) (cap:=cap') rfl nR;have c8:(Builtin.append_ #[t,u] o.type #[a.eval x,a.eval y]).run C.P w=.ok (.slice none 0 0) w:=by
       rw[r8,tB];simp only[List.length_nil]at ec ⊢;simp[Builtin.append_,dD aE,dD fT,r0 i1,Builtin.lenOf];rw[i2,ec];simp
      refine ht ar (mM a w w _ c8) (KP _ _ _ (M.Cv (k:=⟨0,0,0,true⟩) KN (.inl rfl) (Nat.le_refl _) (λ_ _=>rfl) (λh=>by cases h) (dd.refl _) λH κ'=>⟨λ_=>rfl,λh=>by cases h⟩) ?_);simp[bD.slice]
     | some FX=>
      obtain⟨W,u9,an,xa⟩:=aec q cap r8 (by grind) xb;rw[bt]at an;have an:=Option.some.inj an;subst an;subst xa;have aT:=M.bF b;unfold cE at aT;rw[W]at aT;obtain⟨cs,hU,bE,c2,c3,c4,c5⟩:=aT.2 u9;obtain⟨ez,ec,ef⟩:=zn (P:=C.P) (w:=w) (cap:=cap') rfl nR;have pe:=ef.1;have nO:∀ v∈ez,v.oneCell'=true:=by
       intro v ae;obtain⟨j,aE,rfl⟩:=List.mem_iff_getElem.1 ae;have lf:0<e.size:=Nat.pos_of_ne_zero oy;have hdiv:j / e.size<ys.length:=(Nat.div_lt_iff_lt_mul lf).2 (by omega);have nN:=ef.2 (j / e.size) hdiv;have iC:=y6 (P:=C.P) (H:=λ_=>⟨0,.fz⟩) (κ:=λ_=>⟨0,0,0,true⟩) e nN;have zq:=Nat.mod_lt j lf;have aee:j / e.size*e.size+j % e.size=j:=Nat.div_add_mod' j e.size;have Cx:((ez.drop (j / e.size*e.size)).take e.size).length=e.size:=hP e nN;have:=(iC.kN (j % e.size) (by rw[iC.len,Cx];omega)).2;grind
      have aef:(κ b).off+xs.length*e.size+0+ez.length<=cs.size:=by
       rw[pe];have:(xs.length+ys.length)*e.size<=(κ b).cap*e.size:=Nat.mul_le_mul_right _ xb;grind
      obtain⟨w',di,b_,cy,eg,ld,ku,mf⟩:=u4 (P:=C.P) ez ((κ b).off+xs.length*e.size) 0 w cs bE aef nO;have c8:(Builtin.append_ #[t,u] o.type #[a.eval x,a.eval y]).run C.P w=.ok (.slice (some ⟨(κ b).aa,(κ b).off,none⟩) (xs.length+ys.length) (κ b).cap) w':=by
       rw[r8,tB,bt];simp only[Builtin.append_,List.getElem?_toArray,List.getElem?_cons_zero,List.getElem?_cons_succ,Sem.run_bind,dD aE,dD fT,Result.andThen_ok,r0 i1,i2,Sem.run_pure,Builtin.lenOf,Bool.false_eq_true,if_false,if_pos xb,Bool.not_false,if_true,ec,u1];simp only[b_,Result.andThen_ok]
      have gq:fq s.aa κ (λi=>if i=b then (⟨g,.bg e (xs++ys)⟩:bJ) else s.aa i) κ:=y2 KN λ_ _=>rfl;refine ht ar (mM a w w' _ c8) (KP κ _ _ (M.o9 (b:=b) (by rw[W];simp[bQ.b1,u9]) (by simp[bQ.b1,u9]) gq (λh=>by cases h) (λh=>by cases h) ld ku mf λH mO cc he=>?_) (by simp[bD.slice,u9]));refine⟨λh=>(by grind),λ_=>?_⟩;have FT:di.size=cs.size:=by
       rw[<-Array.length_toList,eg];grind
      refine⟨di,hU,cy,by omega,by grind,c4,λi G=>?_⟩;simp only[Nat.add_zero]at eg;have gJ:(cs.toList.take ((κ b).off+xs.length*e.size)).length=(κ b).off+xs.length*e.size:=by grind
      by_cases Sg:i<xs.length
      ·obtain⟨bh,d1,d2⟩:=c5 i Sg;have ax:(xs++ys)[i]=xs[i]:=List.getElem_append_left Sg;rw[ax];refine⟨bh,λk al=>?_,ff e (λ_ M=>M) he d2⟩;have Sh:=hP e d2;have hle:(i+1)*e.size<=xs.length*e.size:=Nat.mul_le_mul_right _ (by omega);rw[Nat.add_mul]at hle;rw[<-Array.getElem?_toList,eg,List.getElem?_append_left (by omega),List.getElem?_take,if_pos (by omega)];grind
      ·have dO:i - xs.length<ys.length:=by grind
       have ax:(xs++ys)[i]=ys[i - xs.length]:=List.getElem_append_right (by omega);rw[ax];have Cy:=ef.Ct (pre:=cs.toList.take ((κ b).off+xs.length*e.size)) (post:=cs.toList.drop ((κ b).off+xs.length*e.size+ez.length)) eg;obtain⟨bh,d1,d2⟩:=Cy (i - xs.length) dO;refine⟨bh,λk al=>?_,ff e (λ_ M=>M) he d2⟩;have:=d1 k al;rw[gJ]at this;rw[<-this];congr 1;have:i*e.size=xs.length*e.size+(i - xs.length)*e.size:=by rw[<-Nat.add_mul];grind
       omega
    ·obtain⟨aeg,qW,cs,b_,cy,eg,ld,ku⟩:=ad5 (P:=C.P) (w:=w) (F:=F) (cap:=cap) (cap':=cap') dr (.inr ⟨aM,u5⟩) KO nR (by omega) hlen o.type;rw[<-r8,<-tB]at b_;refine ht ar (mM a w _ _ b_) (KP _ _ _ (M.Cv (k:=⟨w.heap.size,0,qW,false⟩) KN (.inr rfl) (by simp) (λr M=>?_) (λ_=>by simp) ⟨rfl,rfl,rfl⟩ λH κ'=>⟨λh=>(by cases h),λ_=>⟨cs,aeg,?_,by grind,by grind,cy,?_⟩⟩) ?_)
     ·exact o8 w.drew _ M
     ·exact p0 w.drew _
     ·exact ku.later ⟨by simp,λr bb=>o8 w.drew _ (M.dc r bb)⟩
     ·simp[bD.slice]
   simp only[Kj]at h;split at h
   ·rename_i b g e';simp only[aq.e3]at h;split at h
    ·rename_i a6 xs bS;split at h
     ·rename_i qY;subst qY;simp only[aq.e4,Option.bind_eq_some_iff,aq.bN,Option.some.injEq]at h;obtain⟨⟨ys,l⟩,j7,rfl⟩:=h;have aB:(s.aa b).gen=g/\(s.aa b).body=.bg a6 xs:=by
       grind
      intro a w κ F Q M bc hc;have ag:bB C.P s.aa κ F w (use (a7 C.aN s.ay x)).2 (a.eval x):=cO M x rfl bc.1;have nM:=ag;rw[e']at nM;have ae:=nM.2 aB.1.symm (by rw[aB.2];rfl);rw[aB.2]at ae;simp only[bQ.len]at ae;have hT:(dA (.slice a6) (use (a7 C.aN s.ay x)).2).run s.aa=some (xs,[b]):=by
       rw[e'];simp[dA,ko,ad.eG,dX,aB.1,aB.2,eU]
      refine main s a w κ F Q b (g+1) xs ys M (r7 M j7 (cO M y rfl bc.2)) (by omega) (r7 M hT ag) (λq cap bt KR _=>?_) hc;rw[ae]at bt;cases aw:(κ b).e9 with
      | true=>
       simp only[bD.slice,aw,if_true,Value.slice.injEq]at bt;grind
      | false=>
       simp only[bD.slice,aw,Bool.false_eq_true,if_false,Value.slice.injEq]at bt;grind
     ·cases h
    ·cases h
   ·rename_i b g aY G e';simp only[aq.e3]at h;split at h
    ·rename_i a6 xs bS;split at h
     ·rename_i qY;subst qY;simp only[aq.e4,Option.bind_eq_some_iff,aq.bN,Option.some.injEq]at h;obtain⟨⟨ys,l⟩,j7,rfl⟩:=h;have aB:(s.aa b).gen=g/\(s.aa b).body=.bg a6 xs:=by
       grind
      intro a w κ F Q M bc hc;have ag:bB C.P s.aa κ F w (use (a7 C.aN s.ay x)).2 (a.eval x):=cO M x rfl bc.1;rw[e']at ag;obtain⟨⟨aO,aR⟩,bO⟩:=ag.2 aB.1.symm (by rw[aB.2];rfl);rw[aB.2]at aR bO;simp only[bQ.len,bQ.e2]at aR bO;obtain⟨κ',bb,ae⟩:=M.ad' aB.2 aO aR bO;have nR:=r7 M j7 (cO M y rfl bc.2);have Si:(s.cx b ⟨(s.aa b).gen+1,.bg a6 ((xs.take G).drop aY)⟩).aa b=⟨(s.aa b).gen+1,.bg a6 ((xs.take G).drop aY)⟩:=by simp[aA.cx]
      have hT:(dA (.slice a6) (.own b (g+1))).run (s.cx b ⟨(s.aa b).gen+1,.bg a6 ((xs.take G).drop aY)⟩).aa=some ((xs.take G).drop aY,[b]):=by
       simp[dA,ko,ad.eG,dX,aA.cx,aB.1,eU]
      have KO:bB C.P (s.cx b ⟨(s.aa b).gen+1,.bg a6 ((xs.take G).drop aY)⟩).aa κ' F w (.own b (g+1)) (a.eval x):=by
       refine⟨⟨by grind,ag.1.2⟩,λ_ _=>?_⟩;rw[Si];exact ae
      have:=main (s.cx b ⟨(s.aa b).gen+1,.bg a6 ((xs.take G).drop aY)⟩) a w κ' F Q b (g+2) ((xs.take G).drop aY) ys bb nR (by grind) (r7 bb hT KO) (λq cap bt KR _=>?_) hc
      ·rw[ad_]at this;exact this
      ·rw[ae]at bt;cases aw:(κ' b).e9 with
       | true=>
        simp only[bD.slice,aw,if_true,Value.slice.injEq]at bt;grind
       | false=>
        simp only[bD.slice,aw,Bool.false_eq_true,if_false,Value.slice.injEq]at bt;grind
     ·cases h
    ·cases h
   ·rename_i e';simp only[aq.e4,Option.bind_eq_some_iff]at h;obtain⟨⟨ys,l⟩,j7,h⟩:=h;obtain⟨b,W,al⟩:=qT h;simp only[Option.some.injEq]at al;subst al;intro a w κ F Q M bc hc;have ag:bB C.P s.aa κ F w (use (a7 C.aN s.ay x)).2 (a.eval x):=cO M x rfl bc.1;rw[e']at ag;simp only[bB]at ag;have:=main s a w κ F Q b ((s.aa b).gen+1) [] ys M (r7 M j7 (cO M y rfl bc.2)) (Nat.lt_succ_self _) ⟨none,0,ag,.inl ⟨rfl,rfl,rfl⟩⟩ (λq cap bt KR _=>by grind) (by grind);exact this
   ·rename_i a6 xs e';split at h
    ·rename_i qY;subst qY;simp only[aq.e4,Option.bind_eq_some_iff]at h;obtain⟨⟨ys,l⟩,j7,h⟩:=h;obtain⟨b,W,al⟩:=qT h;simp only[Option.some.injEq]at al;subst al;intro a w κ F Q M bc hc;have ag:bB C.P s.aa κ F w (use (a7 C.aN s.ay x)).2 (a.eval x):=cO M x rfl bc.1;rw[e']at ag;obtain⟨KE,Cj,FU⟩:=ag;have hT:(dA (.slice a6) (.val (.slice a6) xs)).run s.aa=some (xs,[]):=by
      simp[dA,eU]
     exact main s a w κ F Q b ((s.aa b).gen+1) xs ys M (r7 M j7 (cO M y rfl bc.2)) (Nat.lt_succ_self _) (r7 M hT KE) (λq cap bt KR xb=>by
      grind) hc.2
    ·cases h
   ·cases h
  ·cases h
 ·cases h
theorem aeh{P:Program}{F:Nat->Prop}{w:World}{all:List Value}{ys:z1'}(h:gr P (.int .u8) F w all ys):all=ys.map (Value.int .u8):=by
 obtain⟨E,U⟩:=h;have E:all.length=ys.length:=E.trans (Nat.mul_one _);apply List.ext_getElem (by simpa using E);intro i G dO;have dv:i<ys.length:=by omega
 obtain⟨e,_⟩:=U i dv;have aD:ad.size (.int .u8)=1:=rfl;rw[aD,Nat.mul_one,List.drop_eq_getElem_cons G]at e;have:=(List.cons.inj e).1;rw[this];simp
theorem Sj:∀ (ys:z1') (s:ByteArray),ys.foldl (λr n=>r.push (UInt8.ofNat n.toNat)) s=⟨s.data++(u0 ys).toArray⟩
 | [],s=>by simp[u0]
 | y::ys,s=>by
  rw[List.foldl_cons,Sj ys];refine congrArg ByteArray.mk ?_;apply Array.ext';simp[u0,ByteArray.push]
theorem aei(ys:z1'):ys.foldl (λr n=>r.push (UInt8.ofNat n.toNat)) ByteArray.empty=⟨(u0 ys).toArray⟩:=by
 rw[Sj];refine congrArg ByteArray.mk ?_;apply Array.ext';simp[ByteArray.empty,ByteArray.emptyWithCapacity];rfl
theorem aej(aU:dT C.P T){KS KT:TypeId}{x:Operand}(bf:∀ i,o.dst=some i->i<C.nt)(af:o.op=.convert KS KT x)(h:(bw C.aN T be (a7 C.aN s.ay) o).run s.aa=some res):cJ C o s res:=by
 simp only[bw,af]at h;split at h
 ·rename_i aO k aR n t1 t2 ag;simp only[bP,aq.bN,Option.some.injEq]at h;subst h;refine cJ.pure (by grind) bf λa w κ F M bc _=>?_;have E:=ow (cO M x rfl bc) ag;have ax:=(aU.cb t1 (by simp)).int;have aM:=(aU.cb t2 (by simp)).int;refine⟨.int k (k.wrap n),?_,gS.2 ⟨rfl,p4 _ _⟩⟩;simp[execOp,af,convert,dD ax,dD aM,E.1,Conv.intToInt]
 ·rename_i t1 t2;simp only[aq.e4,Option.bind_eq_some_iff,bP,aq.bN,Option.some.injEq]at h;obtain⟨⟨ys,l⟩,j7,rfl⟩:=h;refine cJ.pure (by grind) bf λa w κ F M bc _=>?_;have hu:=cO M x rfl bc;obtain⟨q,cap,ae,nR⟩:=r7 M j7 hu;have cc:ys.length<2 ^ 63:=by
   have E:=mc (F':=λ_=>True) M.bF (λ_ _=>trivial) j7 (λ_ _ _=>trivial) hu;obtain⟨_,U⟩:=(dV rfl).1 E;obtain⟨q',cap',ax,m1,m2,_⟩:=U;have aM:=(List.cons.inj (ax.symm.trans rfl)).1;omega
  obtain⟨jL,aE,ja,_⟩:=(aU.cb t1 (by simp)).sl;have ax:=ja.int;have aM:=(aU.cb t2 (by simp)).str;refine⟨.string ⟨(u0 ys).toArray⟩,?_,l_.2 ⟨rfl,by simpa [u0]using cc⟩⟩;have hc:(convert KS KT (a.eval x)).run C.P w=.ok (.string ⟨(u0 ys).toArray⟩) w:=by
   rw[ae,run_convert_bytes_string w KS KT jL q ys.length cap aE ax aM];rcases nR with⟨rfl,rfl,rfl⟩ | ⟨p,all,rfl,a8,oz⟩
   ·rfl
   ·have fR:all=ys.map (Value.int .u8):=aeh a8;have aj:=FJ (P:=C.P) oz;rw[fR,List.length_map]at aj;rw[run_bytesToString w p ys.length cap ys aj];refine congrArg (λs=>Result.ok (Value.string s) w) ?_;exact aei ys
  simp[execOp,af,hc]
 ·cases h
end
end Go.Fer
namespace Go.Fer
open Go.RowKit
theorem h3.y5{P:Program}{k:FuncId}{ts aV:ad}{sh Sk:ts.ai->A aV.ai}(h:h3 P k ts aV sh)(aD:∀ x,A.le (sh x) (Sk x)):h3 P k ts aV Sk where
 enter:=h.enter
 iV:=λF w args x bn gn a8 qZ=>by
  obtain⟨E,U⟩:=aD x qZ;exact (h.iV F w args x bn gn a8 E).mono λe w' ⟨v,y,ax,aM,cD⟩=>⟨v,y,ax,U y aM,cD⟩
def aL.sh(c:aL)(x:c.ts.ai):A c.aV.ai:=A.dR (c.pre x) (c.g x)
def aek(P:Program)(k:FuncId)(ts:ad)(x:ts.ai)(e:ad)(ys:List e.ai):Prop:=
 ∀ (F:Nat->Prop) (w:World) (args:List Value),(∀ r,F r->r<w.heap.size)->nH P F w->fp P ts F w args x->Calls P k args.toArray w λz w'=>∃ (b:bD) (F':Nat->Prop),z=.returned (b.slice ys.length)/\(∀ r,F r->F' r)/\(∀ r,F' r->F r\/(w.heap.size<=r/\r<w'.heap.size))/\
  (b.e9=true->ys=[])/\(b.e9=false->(w.heap.size<=b.aa/\b.aa<w'.heap.size/\¬F' b.aa)/\∃ cs T,w'.heap[b.aa]?=some (.cells cs T (0,0))/\b.off+b.cap*e.size<=cs.size/\ys.length<=b.cap/\b.cap<2 ^ 63/\lH P e F' w' cs b.off ys)/\Below w.heap.size w w'
def Cz(P:Program)(k:FuncId)(c:aL):Prop:=(∀ args w,(callFunc k args).run P w=.ok (.enter k args) w)/\∀ x,c.pre x->∀ y,B' c.aV (c.g x)=some y->aek P k c.ts x y.1 y.2
def jn(P:Program)(be:Nat->Option aL):Prop:=∀ k c,be k=some c->(nK c.aV=false->h3 P k c.ts c.aV c.sh)/\(nK c.aV=true->Cz P k c)
theorem ael{t:ad}{y:t.ai}{z:(e:ad)×List e.ai}(h:B' t y=some z):nK t=true:=by
 unfold B' at h;unfold nK;split at h<;>simp_all
theorem aem{t:ad}{y:t.ai}(h:B' t y=none):nK t=false:=by
 cases hc:nK t with
 | false=>rfl
 | true=>
  unfold nK at hc;split at hc
  ·cases h
  ·cases hc
theorem j9{t:ad}(aH:t.gz=true)(avs:List aG):iY t avs=(match avs with | [v]=>dA t v | _=>.none:aq (Option (t.ai×List Nat))):=by
 cases t<;>first
  | (cases aH;done)
  | (rcases avs with _ | ⟨v,_ | ⟨u,aC⟩⟩<;>rfl)
theorem u'{P:Program}{H:Nat->bJ}{κ:Nat->bD}{F F':Nat->Prop}{w:World}(aT:∀ b,cE P H κ F w b)(bn:∀ r,F r->F' r):∀ (t:ad) {avs:List aG} {aC:List Value} {x:t.ai} {l:List Nat},(iY t avs).run H=some (x,l)->
  iX H κ F' l->avs.length=aC.length->(∀ i (h:i<avs.length) (dw:i<aC.length),bB P H κ F w avs[i] aC[i])->fp P t F' w aC x:=by
 have gz:∀ (t:ad),t.gz=true->∀ {avs:List aG} {aC:List Value} {x:t.ai} {l:List Nat},(match avs with | [v]=>dA t v | _=>.none:aq (Option (t.ai×List Nat))).run H=some (x,l)->
   iX H κ F' l->avs.length=aC.length->(∀ i (h:i<avs.length) (dw:i<aC.length),bB P H κ F w avs[i] aC[i])->fp P t F' w aC x:=by
  intro t aH avs aC x l h aj hlen fR;split at h
  ·rename_i v;match aC,hlen with
   | [u],_=>
    refine (rT aH).2 ⟨u,rfl,mc aT bn h aj ?_⟩;exact fR 0 (by simp) (by simp)
  ·cases h
 intro t;induction t with
 | az a b fy eL=>
  intro avs aC x l h aj hlen fR;match avs,aC,hlen with
  | [],_,_=>simp[iY,aq.none]at h
  | v::avs,u::aC,hlen=>
   simp only[iY,aq.e4,Option.bind_eq_some_iff,aq.bN,Option.some.injEq,Prod.mk.injEq]at h;obtain⟨⟨y,m⟩,E,⟨z,dz⟩,U,rfl,rfl⟩:=h;refine BX.2 ⟨mc aT bn E aj.left (fR 0 (by simp) (by simp)),?_⟩;exact eL U aj.right (by grind) λi G dO=>by
    have:=fR (i+1) (by grind) (by grind);grind
 | cV=>
  intro avs aC x l h aj hlen fR;match avs,aC,hlen with
  | [],[],_=>exact⟨rfl,rfl⟩
  | _::_,_,_=>simp[iY,aq.none]at h
 | bool=>intro avs aC x l h;rw[j9 rfl]at h;exact gz _ rfl h
 | int k=>intro avs aC x l h;rw[j9 rfl]at h;exact gz (.int k) rfl h
 | str=>intro avs aC x l h;rw[j9 rfl]at h;exact gz _ rfl h
 | st t _=>intro avs aC x l h;rw[j9 rfl]at h;exact gz (.st t) rfl h
 | slice e _=>intro avs aC x l h;rw[j9 rfl]at h;exact gz (.slice e) rfl h
 | array n e _=>intro avs aC x l h;rw[j9 rfl]at h;exact gz (.array n e) rfl h
 | bH e _=>intro avs aC x l h;rw[j9 rfl]at h;exact gz (.bH e) rfl h
 | map k v _ _=>intro avs aC x l h;rw[j9 rfl]at h;exact gz (.map k v) rfl h
 | fn a b _ _=>intro avs aC x l h;rw[j9 rfl]at h;exact gz (.fn a b) rfl h
 | ct a _=>intro avs aC x l h;rw[j9 rfl]at h;exact gz (.ct a) rfl h
 | ep=>intro avs aC x l h;rw[j9 rfl]at h;exact gz .ep rfl h
theorem p8{H:Nat->bJ}:∀ (t:ad) {avs:List aG} {x:t.ai} {l:List Nat},(iY t avs).run H=some (x,l)->gI H l:=by
 have gz:∀ (t:ad),t.gz=true->∀ {avs:List aG} {x:t.ai} {l:List Nat},(match avs with | [v]=>dA t v | _=>.none:aq (Option (t.ai×List Nat))).run H=some (x,l)->gI H l:=by
  intro t _ avs x l h;split at h
  ·exact mN h
  ·cases h
 intro t;induction t with
 | az a b fy eL=>
  intro avs x l h;match avs with
  | []=>simp[iY,aq.none]at h
  | v::avs=>
   simp only[iY,aq.e4,Option.bind_eq_some_iff,aq.bN,Option.some.injEq,Prod.mk.injEq]at h;obtain⟨⟨y,m⟩,E,⟨z,dz⟩,U,rfl,rfl⟩:=h;exact (mN E).append (eL U)
 | cV=>
  intro avs x l h;match avs with
  | []=>
   simp only[iY,aq.bN,Option.some.injEq,Prod.mk.injEq]at h;rw[<-h.2];exact .nil H
  | _::_=>simp[iY,aq.none]at h
 | bool=>intro avs x l h;rw[j9 rfl]at h;exact gz _ rfl h
 | int k=>intro avs x l h;rw[j9 rfl]at h;exact gz (.int k) rfl h
 | str=>intro avs x l h;rw[j9 rfl]at h;exact gz _ rfl h
 | st t _=>intro avs x l h;rw[j9 rfl]at h;exact gz (.st t) rfl h
 | slice e _=>intro avs x l h;rw[j9 rfl]at h;exact gz (.slice e) rfl h
 | array n e _=>intro avs x l h;rw[j9 rfl]at h;exact gz (.array n e) rfl h
 | bH e _=>intro avs x l h;rw[j9 rfl]at h;exact gz (.bH e) rfl h
 | map k v _ _=>intro avs x l h;rw[j9 rfl]at h;exact gz (.map k v) rfl h
 | fn a b _ _=>intro avs x l h;rw[j9 rfl]at h;exact gz (.fn a b) rfl h
 | ct a _=>intro avs x l h;rw[j9 rfl]at h;exact gz (.ct a) rfl h
 | ep=>intro avs x l h;rw[j9 rfl]at h;exact gz .ep rfl h
theorem aen{H:Nat->bJ}{e:ad}{ps:List (Nat×aG)}:∀ (n i:Nat) {xs:List e.ai} {l:List Nat},(tq e ps i n).run H=some (xs,l)->gI H l:=by
 intro n;induction n with
 | zero=>intro i xs l h;cases h;exact .nil H
 | succ n aJ=>
  intro i xs l h;simp only[tq,aq.e4,Option.bind_eq_some_iff,aq.bN,Option.some.injEq,Prod.mk.injEq]at h;obtain⟨⟨x,m⟩,E,⟨ys,dz⟩,U,rfl,rfl⟩:=h;refine gI.append ?_ (aJ (i+1) U);split at E
  ·exact mN E
  ·simp only[aq.bN,Option.some.injEq,Prod.mk.injEq]at E;rw[<-E.2];exact .nil H
theorem Sl{P:Program}{F F':Nat->Prop}{w w':World}{t:ad}{aC:List Value}{x:t.ai}(aH:t.pure=true)(h:fp P t F w aC x):fp P t F' w' aC x:=⟨h.1,ac_ t aH h.2⟩
theorem tC{P:Program}{H:Nat->bJ}{κ:Nat->bD}{F:Nat->Prop}{w:World}:∀ (t:ad) {aC:List Value} {y:t.ai},fp P t F w aC y->t≠.cV->aC.length=j4 t/\∀ i,i<j4 t->bB P H κ F w (kr t y i) (aC.getD i Go.undef):=by
 intro t;induction t with
 | az a b _ eL=>
  intro aC y h _;obtain⟨v,us,rfl,E,U⟩:=Fu h;by_cases W:b=.cV
  ·subst W;have:us=[]:=U.1;subst this;refine⟨rfl,λi G=>?_⟩;cases i with
   | zero=>exact E
   | succ i=>simp only[j4]at G;omega
  ·obtain⟨aO,aR⟩:=eL U W;refine⟨by simp[j4,aO],λi G=>?_⟩;cases i with
   | zero=>exact E
   | succ i=>
    have:=aR i (by simp only[j4]at G;omega);simpa [kr]using this
 | cV=>simp
 | _=>
  intro aC y h _;obtain⟨v,rfl,E⟩:=(rT rfl).1 h;refine⟨rfl,λi G=>?_⟩;simp only[j4]at G;have:i=0:=by omega
  subst this;exact E
theorem CA{P:Program}{H:Nat->bJ}{κ:Nat->bD}{F:Nat->Prop}{w:World}{t:ad}{v:Value}{y:t.ai}(h:tj P t F w v y):bB P H κ F w (qO t y) v:=by
 have pY:=@tC P H κ F w;obtain⟨aC,E,U⟩:=h;cases t with
 | az a b=>
  simp only[yY]at E;obtain⟨aO,aR⟩:=pY (.az a b) U (by simp);exact⟨aC,E,aO,aR⟩
 | cV=>exact E.1
 | _=>
  obtain⟨u,rfl,hu⟩:=(rT rfl).1 U;have:v=u:=by simpa [yY,eq_comm]using E
  rw[this];exact hu
section
variable {C:b9} {T:Nat->ad} {be:Nat->Option aL} {o:Oper} {s:aA} {res:eC}
theorem bl.grow{a:Act}{w w':World}{κ:Nat->bD}{F:Nat->Prop}(h:bl C s a w κ F)(W:Below w.heap.size w w'):bl C s a w' κ (uT F w w'):=by
 have he:c7 F w w':=⟨W.size,λr M=>W.block r (h.dc r M)⟩
 refine h.move (H':=s.aa) (fq.refl _ _) (λ_ M=>.inl M) (λr M=>M.imp id λM=>.inr M.1) W.size (λr M _=>W.block r M) ⟨W.os,W.tape,W.output⟩ (λ_=>?_) ?_ h.inj ?_ (λ_ _ h=>⟨rfl,h⟩)
 ·intro b;exact cE.k9 (h.bF b) (fq.refl _ _) (λ_ M=>.inl M) he rfl rfl λaf=>W.block _ (h.own b af).1
 ·intro b af;have:=h.own b af;refine⟨Nat.lt_of_lt_of_le this.1 W.size,λao=>?_,.inl ⟨b,af,rfl⟩⟩;rcases ao with ao | ⟨ao,_⟩
  ·exact this.2.1 ao
  ·omega
 ·intro r M;rcases M with M | ⟨_,M⟩
  ·exact Nat.lt_of_lt_of_le (h.dc r M) W.size
  omega
theorem CB{r:Option Nat}{P:Program}{o:Oper}{a:Act}{w:World}{K:Act->World->Prop}{Q:Exit->Act->World->Prop}{f:FuncId}{args:Array Value}{R:Ending->World->Prop}(ar:∀ c,o.op≠.defer c)
  (h:(execOp a.eval o).run P w=.ok (.enter f args) w) (hc:Calls P f args w R) (al:∀ e w',R e w'->∃ v,e=.returned v/\K (a.put o.dst v) w'):o.wpIn (dS r) 0 P a w K Q:=by
 refine⟨λ_ _=>trivial,?_⟩;rw[zd ar,h];refine⟨λaD=>(by cases aD),?_⟩;have E:CallsIn Fence.wide 0 P f args w R:=callsIn_wide.2 hc;have U:CallsIn (dS r) 0 P f args w R:=by
  cases r with
  | none=>exact E
  | some l=>exact CallsIn.inRound l E
 refine U.mono λe w' he=>?_;grind
theorem Sm{a:Act}{w:World}{κ:Nat->bD}{F:Nat->Prop}{ts:ad}(M:bl C s a w κ F){args:Array Operand}(bc:jI (args.toList.map (a7 C.aN s.ay))){x:ts.ai}{l:List Nat}
  (ag:(iY ts ((args.toList.map (a7 C.aN s.ay)).map λv=>(use v).2)).run s.aa=some (x,l)):∃ F',(∀ r,F r->F' r)/\bl C (s.cz l) a w κ F'/\fp C.P ts F' w (args.toList.map a.eval) x:=by
 obtain⟨args⟩:=args;obtain⟨F',f1,bb,f2⟩:=bl.lb (p8 ts ag) M;refine⟨F',f1,bb,u' M.bF f1 ts ag f2 (by simp) λi G dO=>?_⟩;simp only[List.getElem_map];have dv:i<args.length:=by grind
 have E:=r1 bc i (by grind);have ax:(args.map (a7 C.aN s.ay)).getD i .undef=a7 C.aN s.ay args[i]:=by grind
 rw[show (List.map (a7 C.aN s.ay) (⟨args⟩:Array Operand).toList)=args.map (a7 C.aN s.ay) from rfl,ax]at E;exact o' (j6 M args[i]) E
theorem Sn{a:Act}{w:World}{κ:Nat->bD}{F:Nat->Prop}{Q:Exit->Act->World->Prop}{K:Act->World->Prop}{k:FuncId}{ts aV:ad}{sh:ts.ai->A aV.ai}(M:bl C s a w κ F)(ao:h3 C.P k ts aV sh)
  (bf:∀ i,o.dst=some i->i<C.nt) {args:Array Operand} {dq:Array TypeId} (af:o.op=.call { callee:=.value (.func k),args:=args,argTypes:=dq }) (bc:jI (args.toList.map (a7 C.aN s.ay))) {x:ts.ai} {l:List Nat}
  (ag:(iY ts ((args.toList.map (a7 C.aN s.ay)).map λv=>(use v).2)).run s.aa=some (x,l)) (aD:(sh x).ck)
  (al:∀ y w',(sh x).bL y->∀ v,cu C ((if aV.pure then s else s.cz l).set o.dst (qO aV y)) (a.put o.dst v) w'->K (a.put o.dst v) w'):o.wpIn (dS C.r) 0 C.P a w K Q:=by
 have ar:∀ c,o.op≠.defer c:=by grind
 obtain⟨args⟩:=args;have c8:(execOp a.eval o).run C.P w=.ok (.enter k (args.map a.eval).toArray) w:=by
  simp only[execOp,af,Sem.run_bind,resolve,Act.eval,Deferred.ofValue,Sem.run_pure,Result.andThen_ok,invoke];have:=ao.enter (args.map a.eval).toArray w;grind
 obtain⟨F',f1,bb,dY⟩:=Sm M bc ag;refine CB ar c8 (ao.iV F' w _ x bb.dc bb.iB dY aD) λe w' ⟨v,y,he,aS,gp,W⟩=>⟨v,he,al y w' aS v ?_⟩
 by_cases an:aV.pure=true
 ·rw[if_pos an];have aB:=M.grow W;refine⟨κ,_,aB.set bf (CA ?_)⟩;obtain⟨aC,ds,dI⟩:=gp;exact⟨aC,ds,Sl an dI⟩
 ·rw[if_neg an];have aB:=bb.grow W;exact⟨κ,_,aB.set bf (CA gp)⟩
theorem bl.hG{a:Act}{w w':World}{κ:Nat->bD}{F F':Nat->Prop}(h:bl C s a w κ F){b g:Nat}{e:ad}{ys:List e.ai}{k:bD}(B2:b<eS)(aB:(s.aa b).gen<g)(W:Below w.heap.size w w')
  (bn:∀ r,F r->F' r) (ti:∀ r,F' r->F r\/(w.heap.size<=r/\r<w'.heap.size)) (E:k.e9=true->ys=[])
  (U:k.e9=false->(w.heap.size<=k.aa/\k.aa<w'.heap.size/\¬F' k.aa)/\∃ cs T,w'.heap[k.aa]?=some (.cells cs T (0,0))/\k.off+k.cap*e.size<=cs.size/\ys.length<=k.cap/\k.cap<2 ^ 63/\lH C.P e F' w' cs k.off ys) :
  bl C (s.cx b ⟨g,.bg e ys⟩) a w' (λi=>if i=b then k else κ i) F':=by
 have aj:fq s.aa κ (λi=>if i=b then ⟨g,.bg e ys⟩ else s.aa i) (λi=>if i=b then k else κ i):=y2 aB λbd cR=>by grind
 refine h.move (H':=λi=>if i=b then ⟨g,.bg e ys⟩ else s.aa i) aj bn (λr M=>(ti r M).imp id λh=>.inr h.1) W.size (λr M _=>W.block r M) ⟨W.os,W.tape,W.output⟩ (λhe=>?_) ?_ ?_ ?_ (y3 (.inl B2) λbd cR=>by grind)
 ·intro i;by_cases G:i=b
  ·subst G;simp only[cE,if_true];exact⟨E,λaw=>(U aw).2⟩
  ·refine cE.k9 (h.bF i) aj bn he (by grind) (by grind) λaf=>?_;exact W.block _ (h.own i af).1
 ·intro i G;by_cases eN:i=b
  ·subst eN;simp only[if_true,bQ.b1,Bool.not_eq_true']at G ⊢;obtain⟨⟨aO,aR,bO⟩,_⟩:=U G;exact⟨aR,bO,.inr aO⟩
  ·simp only[if_neg eN]at G ⊢;have:=h.own i G;refine⟨Nat.lt_of_lt_of_le this.1 W.size,λao=>?_,.inl ⟨i,G,rfl⟩⟩;rcases ti _ ao with ao | ao
   ·exact this.2.1 ao
   ·omega
 ·intro i j G aE a6;by_cases eN:i=b<;>by_cases ma:j=b
  ·omega
  ·simp only[if_pos eN,if_neg ma,bQ.b1,Bool.not_eq_true']at G aE a6;have:=(h.own j aE).1;have:=(U G).1.1;omega
  ·simp only[if_neg eN,if_pos ma,bQ.b1,Bool.not_eq_true']at G aE a6;have:=(h.own i G).1;have:=(U aE).1.1;omega
  ·simp only[if_neg eN,if_neg ma]at G aE a6;exact h.inj i j G aE a6
 ·intro r M;rcases ti r M with dw | dw
  ·exact Nat.lt_of_lt_of_le (h.dc r dw) W.size
  ·exact dw.2
theorem aeo(cA:jn C.P be){k:FuncId}{args:Array Operand}{dq:Array TypeId}(bf:∀ i,o.dst=some i->i<C.nt)(af:o.op=.call { callee:=.value (.func k),args:=args,argTypes:=dq })(h:(bw C.aN T be (a7 C.aN s.ay) o).run s.aa=some res):cJ C o s res:=by
 simp only[bw,af,mK,FE]at h;split at h
 ·rename_i c hc;simp only[aq.e4,Option.bind_eq_some_iff]at h;obtain⟨⟨x,l⟩,ag,h⟩:=h;split at h
  ·rename_i y aS;simp only[aq.run_bind]at h;obtain⟨d,ar,h⟩:=qT h;split at h
   ·cases h
   rename_i tD;cases h;have tD:d ∉ l:=by simpa using tD
   have KU:=bf d ar;intro a w κ F Q M bc gJ;obtain⟨aO,aR⟩:=(cA k c hc).2 (ael aS);obtain⟨F',f1,bb,dY⟩:=Sm M bc ag;have c8:(execOp a.eval o).run C.P w=.ok (.enter k (args.map a.eval)) w:=by
    simp only[execOp,af,Sem.run_bind,resolve,Act.eval,Deferred.ofValue,Sem.run_pure,Result.andThen_ok,invoke];have:=aO (args.map a.eval) w;grind
   have jo:=aR x gJ y aS F' w _ bb.dc bb.iB dY;rw[show (args.toList.map a.eval).toArray=args.map a.eval from by rw[<-Array.toList_map,Array.toArray_toList]]at jo;refine CB (by grind) c8 jo λz w' ⟨b,ek,bk,g1,ee,g3,g4,g5⟩=>⟨_,bk,?_⟩
   have zr:(s.cz l).aa d=s.aa d:=by simp[aA.cz,tD]
   have jk:=bb.hG (b:=d) (g:=(s.aa d).gen+1) (e:=y.1) (ys:=y.2) (k:=b) (Nat.lt_of_lt_of_le KU M.gl) (by rw[zr];omega) g5 g1 ee g3 g4;refine⟨λi=>if i=d then b else κ i,ek,?_⟩;simp only[aA.h7];rw[Ck,tv];refine jk.set bf ⟨⟨by simp[aA.cx],by unfold bD.slice;split<;>rfl⟩,λ_ _=>by simp[aA.cx,bQ.len]⟩
  rename_i aS;simp only[aq.run_bind,aq.bN,Option.some.injEq]at h;subst h;intro a w κ F Q M bc gJ;refine Sn M ((cA k c hc).1 (aem aS)) bf af bc ag gJ λy w' aS v j_=>?_;have aS:y=c.g x:=aS;subst aS;have e:∀ (r:aq (List (Nat×bJ))),r=(if c.aV.pure then .ret [] else jH l)->s.ga (r.run s.aa)=(if c.aV.pure then s else s.cz l):=by
   intro r M;subst M;split
   ·rfl
   ·exact tv s l
  simp only[aA.h7];grind
 ·cases h
theorem Sp{P:Program}{H:Nat->bJ}{κ:Nat->bD}{F F':Nat->Prop}{w:World}(aT:∀ b,cE P H κ F w b)(bn:∀ r,F r->F' r){e:ad}{zero:List Value}(bk:bI P e F' w zero e.dh){ps:List (Nat×aG)}{qs:List (Nat×Value)}(hlen:ps.length=qs.length)
  (fR:∀ i (h:i<ps.length) (dw:i<qs.length),ps[i].1=qs[i].1/\bB P H κ F w ps[i].2 qs[i].2):∀ (n i:Nat) {xs:List e.ai} {l:List Nat},(tq e ps i n).run H=some (xs,l)->
  iX H κ F' l->xs.length=n/\∀ j (h:j<xs.length),∃ bh,bI P e F' w bh xs[j]/\(match qs.find? (λp=>p.1 == i+j) with | some q=>bh=q.2.cells.toList | none=>bh=zero):=by
 have find:∀ (ps:List (Nat×aG)) (qs:List (Nat×Value)),ps.length=qs.length->(∀ i (h:i<ps.length) (dw:i<qs.length),ps[i].1=qs[i].1/\bB P H κ F w ps[i].2 qs[i].2)->∀ i,(ps.find? (λp=>p.1 == i)=none/\qs.find? (λp=>p.1 == i)=none)\/∃ p q,ps.find? (λp=>p.1 == i)=some p/\qs.find? (λp=>p.1 == i)=some q/\bB P H κ F w p.2 q.2:=by
  intro ps;induction ps with
  | nil=>grind
  | cons p ps aJ=>
   intro qs aj h i;cases qs with
   | nil=>grind
   | cons q qs=>
    have aX:=h 0 (by simp) (by simp);simp only[List.getElem_cons_zero]at aX;by_cases an:p.1=i
    ·grind
    ·have bt:q.1≠i:=by omega
     have:=aJ qs (by grind) (λj aE fT=>by have:=h (j+1) (by grind) (by grind);grind) i;grind
 intro n;induction n with
 | zero=>intro i xs l h _;cases h;simp
 | succ n aJ=>
  intro i xs l h aj;simp only[tq,aq.e4,Option.bind_eq_some_iff,aq.bN,Option.some.injEq,Prod.mk.injEq]at h;obtain⟨⟨x,m⟩,E,⟨ys,dz⟩,U,rfl,rfl⟩:=h;obtain⟨aO,aR⟩:=aJ (i+1) U aj.right;refine⟨by grind,λj aE=>?_⟩;cases j with
  | zero=>
   rcases find ps qs hlen fR i with⟨f1,f2⟩ | ⟨p,q,f1,f2,f3⟩
   ·rw[f1]at E;simp only[aq.bN,Option.some.injEq,Prod.mk.injEq]at E;grind
   ·rw[f1]at E;refine⟨q.2.cells.toList,(mc aT bn E aj.left f3).2,?_⟩;grind
  | succ j=>
   obtain⟨bh,d1,d2⟩:=aR j (by grind);grind
end
end Go.Fer
namespace Go.Fer
open Go.RowKit
def r9(d:Nat)(em:Bool)(xs:Array Value):List Field->Sem Unit
 | []=>pure ()
 | f::eV=>
  if f.name ≠ "_" then do
   let a <-part f.type xs f.offset
   Instr.checkKey em d f.type a
   r9 d em xs eV
  else r9 d em xs eV
theorem aep{P:Program}(w:World)(em:Bool)(d:Nat)(t:TypeId)(xs:Array Value)(aH:P.underlying t=some (.struct (P.fieldsOf t))) :
  (Instr.checkKey em (d+1) t (.agg xs)).run P w=(r9 d em xs (P.fieldsOf t).toList).run P w:=by
 simp only[Instr.checkKey,Sem.run_bind,dD aH,Result.andThen_ok];rw[<-Array.forIn_toList];generalize (P.fieldsOf t).toList=eV;clear aH;induction eV generalizing w with
 | nil=>rfl
 | cons f eV aJ=>
  simp only[List.forIn_cons,r9,Sem.run_bind,Sem.run_ite];split
  ·generalize (part f.type xs f.offset).run P w=b_;cases b_ with
   | ok a cn=>
    simp only[Result.andThen_ok];generalize (Instr.checkKey em d f.type a).run P cn=cy;cases cy with
    | ok b c_=>
     simp_all
    | halt x c_=>rfl
   | halt x cn=>rfl
  simp_all
theorem CC{P:Program}{F:Nat->Prop}{w:World}{em:Bool}:∀ (t:ad) (d:Nat),t.kO=true->t.j5<=d->
  (∀ {id:TypeId} {v:Value} {x:t.ai},b6 P t id->er P t F w v x->(Instr.checkKey em d id v).run P w=.ok () w)/\
  (∀ {l:List Field} {off:Nat} {xs:Array Value} {p c q:List Value} {x:t.ai},cF P t (.inr (l,off))=true->xs.toList=p++(c++q)->p.length=off->bI P t F w c x->
   (r9 d em xs l).run P w=.ok () w):=by
 intro t;induction t with
 | bool=>
  intro d _ ar;refine⟨λ{id v x} h E=>?_,λh=>by simp[cF]at h⟩;rw[fg.1 E];obtain⟨d,rfl⟩:∃ e,d=e+1:=⟨d - 1,by simp only[ad.j5]at ar;omega⟩
  unfold b6 at h;simp only[cF,Bool.and_eq_true]at h;obtain⟨_,h⟩:=h;split at h
  ·rename_i hu;simp[Instr.checkKey,dD hu]
  grind
 | int k=>
  intro d _ ar;refine⟨λ{id v x} h E=>?_,λh=>by simp[cF]at h⟩;rw[(gS.1 E).1];obtain⟨d,rfl⟩:∃ e,d=e+1:=⟨d - 1,by simp only[ad.j5]at ar;omega⟩
  simp[Instr.checkKey,dD (b6.int h)]
 | str=>
  intro d _ ar;refine⟨λ{id v x} h E=>?_,λh=>by simp[cF]at h⟩;rw[(l_.1 E).1];obtain⟨d,rfl⟩:∃ e,d=e+1:=⟨d - 1,by simp only[ad.j5]at ar;omega⟩
  simp[Instr.checkKey,dD (b6.str h)]
 | cV=>intro d h;cases h
 | slice e _=>intro d h;cases h
 | array n e _=>intro d h;cases h
 | bH e _=>intro d h;cases h
 | map k v _ _=>intro d h;cases h
 | fn a b _ _=>intro d h;cases h
 | ct a _=>intro d h;cases h
 | ep=>intro d h;cases h
 | az a b fy eL=>
  intro d hc ar;simp only[ad.kO,Bool.and_eq_true]at hc;simp only[ad.j5]at ar;have Kr:=fy d hc.1 (by omega);have o6:=eL d hc.2 (by omega);refine⟨λh=>by unfold b6 at h;simp[cF]at h,?_⟩;intro l off xs p c q x h ag an pb;simp only[bI]at pb;obtain⟨bE,c2,rfl,aO,aR⟩:=pb;have e1:=hP a aO;have step : ∀ (f : Field) (cm : List Field), f.offset = off -> b6 P a f.type -> f.name ≠ "_" -> (r9 d em xs (f :: cm)).run P w = (r9 d em xs cm).run P w := by
   intro f cm af ao aw;obtain⟨v,b_,cy⟩:=qS (cs:=xs) (p:=p) (c:=bE) (q:=c2++q) ao (by grind) aO;simp only[r9,aw,ne_eq,not_false_eq_true,if_true,Sem.run_bind];rw[af,<-an,b_,Result.andThen_ok,Kr.1 ao cy,Result.andThen_ok]
  match l,h with
  | [],h=>rfl
  | [f],h=>simp only[cF,Bool.false_eq_true]at h
  | [f,g],h=>
   simp only[cF,Bool.and_eq_true,beq_iff_eq,bne_iff_ne,ne_eq]at h;obtain⟨⟨⟨⟨E,U⟩,ah⟩,a1⟩,⟨⟨⟨bK,dp⟩,fF⟩,ix⟩⟩:=h;rw[step f [g] E U a1];obtain⟨v,b_,cy⟩:=qS (cs:=xs) (p:=p++bE) (c:=c2) (q:=q) dp (by grind) aR;have ax:(p++bE).length=g.offset:=by grind
   rw[ax]at b_;simp only[r9,ix,ne_eq,not_false_eq_true,if_true,Sem.run_bind,b_,Result.andThen_ok,o6.1 dp cy,Sem.run_pure]
  | f::g::i::l,h=>
   simp only[cF,Bool.and_eq_true,beq_iff_eq,bne_iff_ne,ne_eq]at h;obtain⟨⟨⟨⟨E,U⟩,ah⟩,a1⟩,bK⟩:=h;rw[step f _ E U a1,o6.2 bK (p:=p++bE) (c:=c2) (q:=q) (by grind) (by grind) aR]
 | st t aJ=>
  intro d hc ar;simp only[ad.j5]at ar;obtain⟨d,rfl⟩:∃ e,d=e+1:=⟨d - 1,by omega⟩
  refine⟨λ{id v x} h E=>?_,λh=>by simp[cF]at h⟩;have i:=aJ d hc (by omega);obtain⟨ax,aM,cD,et⟩:=h.Cd;obtain⟨⟨xs,rfl,hT⟩,pb⟩:=E;simp only[Value.cells,bI]at pb;rw[aep w em d id xs et];rcases cD with cD | ⟨f,cD,eb,k8,tt⟩ | ⟨rfl,cD⟩
  ·exact i.2 cD (p:=[]) (c:=xs.toList) (q:=[]) (by simp) rfl pb
  ·rw[cD];obtain⟨v,b_,cy⟩:=qS (cs:=xs) (p:=[]) (c:=xs.toList) (q:=[]) k8 (by simp) pb;simp only[List.length_nil]at b_;simp only[r9,tt,ne_eq,not_false_eq_true,if_true,Sem.run_bind,eb,b_,Result.andThen_ok,i.1 k8 cy,Sem.run_pure]
  ·cases hc
theorem KV:∀ (t:ad),t.kO=true->∀ (x y:t.ai),gH t x y=true<->x=y:=by
 intro t;induction t with
 | bool=>intro _ x y;simp[gH]
 | int k=>intro _ x y;simp[gH]
 | str=>intro _ x y;simp[gH]
 | st t aJ=>intro h x y;exact aJ h x y
 | az a b fy eL=>
  intro h x y;simp only[ad.kO,Bool.and_eq_true]at h;simp only[gH,Bool.and_eq_true,fy h.1,eL h.2];grind
 | _=>intro h;cases h
def zt{k:ad}{β:Type}(x:k.ai)(es:List MapEntry)(xs:List (k.ai×β))(i:Nat)(r:Option (Nat×Value)):Prop:=
 (r=none/\∀ p∈xs,gH k x p.1=false)\/∃ j e p,es[j]?=some e/\xs[j]?=some p/\gH k x p.1=true/\(∀ j8 q,j8<j->xs[j8]?=some q->gH k x q.1=false)/\r=some (i+j,e.val)
theorem zt.next{k:ad}{β:Type}{x:k.ai}{e:MapEntry}{es:List MapEntry}{p:k.ai×β}{xs:List (k.ai×β)}{i:Nat}{r:Option (Nat×Value)}(h:zt x es xs (i+1) r)(an:gH k x p.1=false):zt x (e::es) (p::xs) i r:=by
 rcases h with⟨E,U⟩ | ⟨j,a6,p',E,U,ah,a1,bK⟩
 ·exact .inl ⟨E,λq bt=>by
   grind⟩
 ·refine .inr ⟨j+1,a6,p',by grind,by grind,ah,λj8 q fT bt=>?_,by grind⟩;grind
theorem Sq{P:Program}{F:Nat->Prop}{w:World}{k:ad}{β:Type}(hc:k.kO=true)(aw:k.j5<=10000){lh:TypeId}(al:b6 P k lh){tE:Value}{x:k.ai}(ag:er P k F w tE x):∀ (es:List MapEntry) (xs:List (k.ai×β)) (i:Nat),es.length=xs.length->(∀ (j:Nat) (e:MapEntry) (p:k.ai×β),es[j]?=some e->xs[j]?=some p->er P k F w e.key p.1)->∃ r,(Instr.findAsking lh tE es i).run P w=.ok r w/\zt x es xs i r
 | [],[],i,_,_=>⟨none,rfl,.inl ⟨rfl,λp an=>by cases an⟩⟩
 | e::es,p::xs,i,aj,h=>by
  have aX:=h 0 e p rfl rfl;have he:=(Kq k 10000 hc aw).1 al ag aX;obtain⟨r,b_,cy⟩:=Sq (β:=β) hc aw al ag es xs (i+1) (by grind) λj a6 p' E U=>h (j+1) a6 p' (by grind) (by grind);cases bt:gH k x p.1 with
  | true=>
   refine⟨some (i,e.val),by simp[Instr.findAsking,Op.equal,Op.maxDepth,he,bt],.inr ⟨0,e,p,rfl,rfl,bt,λj8 q fT=>by omega,rfl⟩⟩
  | false=>exact⟨r,by simp[Instr.findAsking,Op.equal,Op.maxDepth,he,bt,b_],cy.next bt⟩
theorem Sr{P:Program}{F:Nat->Prop}{w:World}{k:ad}{lh:TypeId}(al:b6 P k lh){d:TypeDesc}(ar:P.underlying lh=some d){u v:Value}{x y:k.ai}(hu:er P k F w u x)(ae:er P k F w v y){b:Bool}(h:Instr.sameNow d u v=some b):b=gH k x y:=by
 cases k with
 | bool=>
  rw[fg.1 hu,fg.1 ae]at h;cases d<;>simp only[Instr.sameNow,Option.some.injEq,reduceCtorEq]at h;rw[<-h];rfl
 | int k=>
  rw[(gS.1 hu).1,(gS.1 ae).1]at h;cases d<;>simp only[Instr.sameNow,if_true,Option.some.injEq,reduceCtorEq]at h;rw[<-h];rfl
 | str=>
  rw[(l_.1 hu).1,(l_.1 ae).1]at h;cases d<;>simp only[Instr.sameNow,Option.some.injEq,reduceCtorEq]at h;rw[<-h,beq_toListBytes,ByteArray.toList_eq,ByteArray.toList_eq];simp only[gH];grind
 | st t=>
  obtain⟨⟨us,rfl,_⟩,_⟩:=hu;cases d<;>cases v<;>simp[Instr.sameNow]at h
 | array n t=>
  obtain⟨⟨us,rfl,_⟩,_⟩:=hu;cases d<;>cases v<;>simp[Instr.sameNow]at h
 | cV=>exact hu.1.elim
 | az a b=>exact hu.1.elim
 | slice e=>
  obtain⟨_,a,cap,ax,_⟩:=(dV rfl).1 hu;obtain rfl:=(List.cons.inj ax).1;cases d<;>simp[Instr.sameNow]at h
 | bH e=>
  obtain⟨_,ag⟩:=(dV rfl).1 hu;rcases ag with⟨ax,_⟩ | ⟨p,y,bh,ax,_⟩<;>(obtain rfl:=(List.cons.inj ax).1;cases d<;>simp[Instr.sameNow]at h)
 | map k' h4=>
  obtain⟨_,ag⟩:=(dV rfl).1 hu;rcases ag with⟨ax,_⟩ | ⟨r,es,clk,ax,_⟩<;>(obtain rfl:=(List.cons.inj ax).1;cases d<;>simp[Instr.sameNow]at h)
 | fn a b=>
  obtain⟨i,z,E,U,ah,a1,bK,dp⟩:=kq al.kp;unfold b6 at al;simp only[cF,Bool.and_eq_true,ar]at al;cases d<;>simp[Instr.sameNow]at al h
 | ct a=>
  obtain⟨i,z,E,U,ah,a1,bK,dp⟩:=kq al.kp;unfold b6 at al;simp only[cF,Bool.and_eq_true,ar]at al;cases d<;>simp[Instr.sameNow]at al h
 | ep=>
  obtain⟨i,z,E,U,ah,a1,bK,dp⟩:=kq al.kp;unfold b6 at al;simp only[cF,Bool.and_eq_true,ar]at al;cases d<;>simp[Instr.sameNow]at al h
theorem Ss{P:Program}{F:Nat->Prop}{w:World}{k:ad}{β:Type}{lh:TypeId}(al:b6 P k lh){d:TypeDesc}(ar:P.underlying lh=some d){tE:Value}{x:k.ai}(ag:er P k F w tE x):∀ (es:List MapEntry) (xs:List (k.ai×β)) (i:Nat) {r:Option (Nat×Value)},es.length=xs.length->(∀ (j:Nat) (e:MapEntry) (p:k.ai×β),es[j]?=some e->xs[j]?=some p->er P k F w e.key p.1)->Instr.findNow d tE es i=some r->zt x es xs i r
 | [],[],i,r,_,_,h=>by cases h;exact .inl ⟨rfl,λp an=>by cases an⟩
 | e::es,p::xs,i,r,aj,h,ao=>by
  have aX:=h 0 e p rfl rfl;simp only[Instr.findNow]at ao;split at ao
  ·rename_i aD;have:=Sr al ar ag aX aD;cases ao;exact .inr ⟨0,e,p,rfl,rfl,this.symm,λj8 q fT=>by omega,rfl⟩
  ·rename_i aD;have:=Sr al ar ag aX aD;exact (Ss al ar ag es xs (i+1) (by grind) (λj a6 p' E U=>h (j+1) a6 p' (by grind) (by grind)) ao).next this.symm
  grind
theorem b6.aeq{P:Program}{t:ad}{id:TypeId}(h:b6 P t id)(hc:t.kO=true):∃ d,P.underlying id=some d:=by
 cases t with
 | bool=>
  unfold b6 at h;simp only[cF,Bool.and_eq_true]at h;grind
 | int k=>exact⟨_,b6.int h⟩
 | str=>exact⟨_,b6.str h⟩
 | st t=>exact⟨_,h.Cd.2.2.2⟩
 | az a b=>unfold b6 at h;simp[cF]at h
 | _=>cases hc
theorem xc{P:Program}{F:Nat->Prop}{w:World}{k:ad}{β:Type}(hc:tr k=true){lh:TypeId}(al:b6 P k lh){tE:Value}{x:k.ai}(ag:er P k F w tE x){es:List MapEntry}{xs:List (k.ai×β)}
  (aj:es.length=xs.length) (h:∀ (j:Nat) (e:MapEntry) (p:k.ai×β),es[j]?=some e->xs[j]?=some p->er P k F w e.key p.1):∃ r,(Instr.findKey lh tE es).run P w=.ok r w/\zt x es xs 0 r:=by
 simp only[tr,Bool.and_eq_true,decide_eq_true_eq]at hc;obtain⟨d,ar⟩:=al.aeq hc.1;simp only[Instr.findKey,Sem.run_bind,dD ar,Result.andThen_ok];cases aw:Instr.findNow d tE es 0 with
 | some r=>exact⟨r,rfl,Ss al ar ag es xs 0 aj h aw⟩
 | none=>exact Sq hc.1 (by omega) al ag es xs 0 aj h
theorem St{k v:ad}{es:List (k.ai×v.ai)}{x:k.ai}:∀ {j:Nat} {p:k.ai×v.ai},es[j]?=some p->gH k x p.1=true->(∀ j8 q,j8<j->es[j8]?=some q->gH k x q.1=false)->y_ es x=some p.2/\∀ y,lL es x y=es.set j (p.1,y):=by
 induction es with
 | nil=>simp
 | cons q es aJ=>
  intro j p E U ah;cases j with
  | zero=>
   simp at E;subst E;exact⟨by simp[y_,U],λy=>by simp[lL,U]⟩
  | succ j=>
   have aX:=ah 0 q (by omega) rfl;obtain⟨aO,aR⟩:=aJ (j:=j) (p:=p) (by grind) U λj8 q' fT tz=>ah (j8+1) q' (by omega) (by grind);exact⟨by simpa [y_,List.find?_cons,aX]using aO,λy=>by simp[lL,aX,aR y]⟩
theorem Su{k v:ad}{es:List (k.ai×v.ai)}{x:k.ai}(h:∀ p∈es,gH k x p.1=false):y_ es x=none/\∀ y,lL es x y=es++[(x,y)]:=by
 induction es with
 | nil=>exact⟨rfl,λ_=>rfl⟩
 | cons q es aJ=>
  have aX:=h q (by simp);obtain⟨aO,aR⟩:=aJ λp an=>h p (by grind);exact⟨by simpa [y_,List.find?_cons,aX]using aO,λy=>by simp[lL,aX,aR y]⟩
section
variable {C:b9} {T:Nat->ad} {be:Nat->Option aL} {o:Oper} {s:aA} {res:eC}
theorem aer{P:Program}{F:Nat->Prop}{w:World}{v:ad}{z:Value}(ae:v.eG=true\/v.isAgg=true)(i5:j3 v z.cells.toList=some [])(i6:(∃ cs,z=.agg cs)<->v.isAgg=true):er P v F w z v.dh:=by
 obtain⟨c,e,mP,z2⟩:=uY (P:=P) (H:=λ_=>⟨0,.fz⟩) (κ:=λ_=>⟨0,0,0,true⟩) (F:=F) (w:=w) v i5;rw[List.append_nil]at e;refine⟨?_,by grind⟩;have aj:=hP v mP;rcases ae with ae | ae
 ·obtain⟨u,rfl,hu⟩:=BY ae mP;have FR:∀ cs,z≠.agg cs:=λcs bk=>by
   have:=i6.1 ⟨cs,bk⟩;cases v<;>simp[ad.eG,ad.isAgg]at ae this
  have bk:z.cells=#[z]:=by
   cases z<;>first | rfl | grind
  cases v<;>simp only[ad.eG,Bool.false_eq_true]at ae<;>exact bk
 ·obtain⟨cs,rfl⟩:=i6.2 ae;have a6:cs.toList=c:=e;cases v<;>simp only[ad.isAgg,Bool.false_eq_true]at ae
  ·exact⟨cs,rfl,by rw[<-Array.length_toList,a6,aj];rfl⟩
  ·exact⟨cs,rfl,by rw[<-Array.length_toList,a6,aj];rfl⟩
def KW(P:Program)(k v:ad)(F:Nat->Prop)(w:World)(ms:List MapEntry)(xs:List (k.ai×v.ai)):Prop:=
 ms.length=xs.length/\∀ (j:Nat) (e:MapEntry) (p:k.ai×v.ai),ms[j]?=some e->xs[j]?=some p->er P k F w e.key p.1/\er P v F w e.val p.2
theorem uU.es{P:Program}{k v:ad}{F:Nat->Prop}{w:World}{ms:Array MapEntry}{clk:Nat}{xs:List (k.ai×v.ai)}(h:uU P k v F w ms clk xs):KW P k v F w ms.toList xs:=by
 obtain⟨E,U,ah,a1⟩:=h;refine⟨by omega,λj e p he an=>?_⟩;obtain⟨aE,rfl⟩:=List.getElem?_eq_some_iff.1 an;obtain⟨fT,rfl⟩:=List.getElem?_eq_some_iff.1 he;obtain⟨a,b,c,d,_⟩:=ah j aE (by omega);exact⟨⟨a,by grind⟩,c,by grind⟩
theorem aes{a:Act}{w:World}{κ:Nat->bD}{F:Nat->Prop}(M:bl C s a w κ F){k v:ad}{av:aG}{u:Value}{xs:List (k.ai×v.ai)}(h:(Ca k v av).run s.aa=some xs)(hu:bB C.P s.aa κ F w av u) :
  (u=.map none/\xs=[])\/∃ r ms clk,u=.map (some r)/\w.heap[r]?=some (.map ms clk)/\KW C.P k v F w ms.toList xs:=by
 have cz:∀ {xs:List (k.ai×v.ai)},bI C.P (.map k v) F w [u] xs->(u=.map none/\xs=[])\/∃ r ms clk,u=.map (some r)/\w.heap[r]?=some (.map ms clk)/\KW C.P k v F w ms.toList xs:=by
  intro xs ag;rcases ag with⟨ax,aM⟩ | ⟨r,ms,clk,ax,E,U,ah,a1,bK,dp⟩
  ·grind
  ·exact .inr ⟨r,ms,clk,(List.cons.inj ax).1,U,uU.es ⟨ah,a1,bK,dp⟩⟩
 cases av with
 | val t es=>
  simp only[Ca,aq.bN]at h;exact cz ((dV rfl).1 (Fy h hu)).2
 | jC x=>
  simp only[bB]at hu;subst hu;have ag:u=.map none/\xs=[]:=by
   unfold Ca at h;split at h
   ·grind
   ·simp_all
   ·grind
   ·cases h
  grind
 | fG b g=>
  simp only[Ca,aq.e3,aq.bN]at h;split at h
  ·rename_i aB;have aT:=M.bF b;unfold cE at aT;split at h
   ·rename_i k' h4 es W;obtain⟨e,rfl⟩:=kM h;cases e;rw[W]at aT;obtain⟨ms,clk,E,U⟩:=aT;exact .inr ⟨_,ms,clk,hu.2 aB.symm (by rw[W];rfl),E,U.es⟩
   ·rename_i k' h4 es W;obtain⟨e,rfl⟩:=kM h;cases e;rw[W]at aT;have:=hu.2 aB.symm (by rw[W];rfl);simp only[jD]at aT;grind
   grind
  grind
 | _=>cases h
theorem aet{ty:TypeId}{r:Option Operand}(bf:∀ i,o.dst=some i->i<C.nt)(af:o.op=.makeMap ty r)(h:(bw C.aN T be (a7 C.aN s.ay) o).run s.aa=some res):cJ C o s res:=by
 simp only[bw,af]at h;split at h
 ·cases h
 ·rename_i Sv;have Sv:r=none:=by simp_all
  subst Sv;split at h
  ·rename_i k v aH;obtain⟨b,ar,al⟩:=qT h;simp only[Option.some.injEq]at al;subst al;intro a w κ F Q M _ _;have c8:(execOp a.eval o).run C.P w=.ok (.value (.map (some w.heap.size))) (w.alloc (.map #[] 0)):=by
    simp[execOp,af,Instr.makeMap]
   have E:=M.alloc (b:=b) (x:=⟨(s.aa b).gen+1,.mp k v []⟩) (M.fU (bf b ar)) (Nat.lt_succ_self _) (o:=.map #[] 0) (k:=⟨w.heap.size,0,0,false⟩) rfl λH κ' _ _ _=>
    ⟨#[],0,p0 _ _,rfl,by simp,λi G=>by simp,λi j G=>by simp⟩
   refine ht (by grind) c8 ⟨_,F,bl.set (s:=s.cx b _) E bf ⟨⟨by simp[aA.cx],rfl⟩,λ_ _=>by simp⟩⟩
  ·cases h
theorem aeu(aU:dT C.P T){ty:TypeId}{m x:Operand}{ok:Bool}(bf:∀ i,o.dst=some i->i<C.nt)(af:o.op=.lookup ty m x ok)(h:(bw C.aN T be (a7 C.aN s.ay) o).run s.aa=some res):cJ C o s res:=by
 simp only[bw,af,y']at h;split at h
 ·rename_i k v aH;split at h
  ·rename_i hc;simp only[Bool.and_eq_true,Bool.or_eq_true]at hc;obtain⟨i,j,G,mR,hj⟩:=(aU.cb aH (by simp)).mp;simp only[aq.e4,Option.bind_eq_some_iff,bP,aq.bN,Option.some.injEq]at h;obtain⟨es,pd,⟨y,l⟩,aS,rfl⟩:=h;refine cJ.pure (by grind) bf λa w κ F M bc _=>?_;have hm:=cO M m rfl bc.1;have ag:=Cg M aS (cO M x rfl bc.2);obtain⟨inf,z,i1,i2,i3,i4,i5,i6⟩:=kq hj.kp;have hzero:er C.P v F w z v.dh:=aer hc.2 i5 i6;have fin:∀ (u:Value) (q:Option v.ai),er C.P v F w u (q.getD v.dh)->bB C.P s.aa κ F w (RN v q ok) (if ok=true then .tuple #[u,.bool q.isSome] else u):=by
    intro u q ah;cases ok with
    | true=>
     refine⟨[u,.bool q.isSome],rfl,rfl,λi G=>?_⟩;match i,G with
     | 0,_=>exact ah
     | 1,_=>exact fg.2 rfl
    | false=>exact ah
   have l':tr k=true:=hc.1;have fk:k.kO=true/\k.j5<=100:=by simpa [tr]using l'
   rcases aes M pd hm with⟨hu,aw⟩ | ⟨r,ms,clk,hu,hw,lj⟩
   ·subst aw;have ed:=(CC (em:=true) k 10000 fk.1 (by omega)).1 mR ag;obtain⟨f,f1,f2⟩:=xc (β:=v.ai) (xs:=[]) (es:=[]) l' mR ag rfl (λj e p h=>by cases h);rcases f2 with⟨rfl,_⟩ | ⟨j,e,p,E,_⟩
    ·refine⟨_,?_,fin z none hzero⟩;simp only[execOp,af,hu,Instr.lookup,Sem.run_bind,dD G,Result.andThen_ok,Sem.run_pure];simp only[show (#[]:Array MapEntry).isEmpty=true from rfl,ed,Result.andThen_ok,f1];cases ok<;>simp[qR i1 i4]
    grind
   ·have ed:=(CC (em:=ms.isEmpty) k 10000 fk.1 (by omega)).1 mR ag;obtain⟨f,f1,f2⟩:=xc (β:=v.ai) (xs:=es) (es:=ms.toList) l' mR ag lj.1 (λj e p E U=>by
     have:=(lj.2 j e p E U).1;exact⟨this.1,ff k (λ_ _=>trivial) (c7.refl F w) this.2⟩)
    have eW:(getObj r).run C.P w=.ok (.map ms clk) w:=by simp[getObj,Sem.run,hw]
    rcases f2 with⟨rfl,eP⟩ | ⟨j,e,p,E,U,ah,a1,rfl⟩
    ·refine⟨_,?_,by rw[(Su eP).1];exact fin z none hzero⟩;simp only[execOp,af,hu,Instr.lookup,Sem.run_bind,dD G,Result.andThen_ok,Sem.run_pure,eW,ed,f1,qR i1 i4];rfl
    ·refine⟨_,?_,by rw[(St U ah a1).1];exact fin e.val (some p.2) (lj.2 j e p E U).2⟩;simp only[execOp,af,hu,Instr.lookup,Sem.run_bind,dD G,Result.andThen_ok,Sem.run_pure,eW,ed,f1];rfl
  ·cases h
 ·cases h
theorem KX(P:Program)(w:World)(u_ ez:Value):∃ k' w',(Instr.keyThatStays u_ ez).run P w=.ok k' w'/\(k'=ez\/k'=u_)/\(w'=w\/w'=w.drew):=by
 unfold Instr.keyThatStays;split
 ·exact⟨ez,w,rfl,.inl rfl,.inl rfl⟩
 ·have ao : (Question.extern "map.whichKeyStays" 2).forced = false := rfl;simp only[Sem.run_bind,run_choose,ao,Bool.false_eq_true,if_false,Result.andThen_ok];split
  ·exact⟨ez,_,rfl,.inl rfl,.inr rfl⟩
  ·exact⟨u_,_,rfl,.inr rfl,.inr rfl⟩
theorem r_{P:Program}{w:World}{r:Nat}{es:Array MapEntry}{clk:Nat}(h:w.heap[r]?=some (.map es clk))(o:Obj):(setObj r o).run P w=.ok () { w with heap:=w.heap.setIfInBounds r o }:=by
 simp[setObj,Sem.run,h]
theorem KY(aU:dT C.P T){ty:TypeId}{m x y:Operand}(KU:o.dst=none)(af:o.op=.mapUpdate ty m x y\/o.op=.insert ty m x y)(h:(bw C.aN T be (a7 C.aN s.ay) o).run s.aa=some res):cJ C o s res:=by
 have ar:∀ c,o.op≠.defer c:=by grind
 have kQ:∀ aI,bw C.aN T be aI o=qQ T aI ty m x y:=λaI=>by rcases af with af | af<;>simp only[bw,af]
 have hex:∀ aI w,(execOp aI o).run C.P w=(do Instr.mapUpdate ty (aI m) (aI x) (aI y);pure .skip:Sem Next).run C.P w:=λaI w=>by rcases af with af | af<;>simp only[execOp,af]
 rw[kQ]at h;simp only[qQ]at h;split at h
 ·rename_i k v aH;obtain⟨lh,zu,G,mR,hj⟩:=(aU.cb aH (by simp)).mp;split at h
  ·rename_i hc;split at h
   ·rename_i b g tF;simp only[aq.e4,Option.bind_eq_some_iff,aq.run_bind,aq.e3,aq.bN]at h;obtain⟨⟨dM,ou⟩,ag,⟨mS,ov⟩,aS,h⟩:=h;split at h
    ·rename_i aB;obtain⟨aB,p6⟩:=aB;have p6:b ∉ ou++ov:=by
      grind
     split at h
     ·rename_i k' h4 es W;simp only[Option.map_eq_some_iff]at h;obtain⟨Sw,pd,rfl⟩:=h;obtain⟨e,rfl⟩:=kM pd;cases e;intro a w κ F Q M bc _;obtain⟨F',f1,bb,f2⟩:=bl.lb ((mN ag).append (mN aS)) M;have hm:bB C.P s.aa κ F w (use (a7 C.aN s.ay m)).2 (a.eval m):=cO M m rfl bc.1;rw[tF]at hm;have kR:=hm.2 aB.symm (by rw[W];rfl);have tG:=mc M.bF f1 ag f2.left (cO M x rfl bc.2.1);have FY:=mc M.bF f1 aS f2.right (cO M y rfl bc.2.2);have pf:(s.cz (ou++ov)).aa b=s.aa b:=by simp only[aA.cz];grind
      have aT:=bb.bF b;unfold cE at aT;rw[pf,W]at aT;obtain⟨ms,clk,hw,tH⟩:=aT;have fk:k.kO=true/\k.j5<=100:=by simpa [tr]using hc
      have ed:=(CC (em:=false) k 10000 fk.1 (by omega)).1 mR tG;have lj:=tH.es;obtain⟨f,ds,dI⟩:=xc (β:=v.ai) (xs:=es) (es:=ms.toList) hc mR tG lj.1 (λj e p E U=>(lj.2 j e p E U).1);have eW:(getObj (κ b).aa).run C.P w=.ok (.map ms clk) w:=by simp[getObj,Sem.run,hw]
      have mQ:s.ga ((jH (ou++ov)).run s.aa++[(b,⟨(s.aa b).gen,.mp k v (lL es dM mS)⟩)])=(s.cz (ou++ov)).cx b ⟨(s.aa b).gen,.mp k v (lL es dM mS)⟩:=by
       rw[Ck,tv]
      have gq:fq (s.cz (ou++ov)).aa κ (λi=>if i=b then (⟨(s.aa b).gen,.mp k v (lL es dM mS)⟩:bJ) else (s.cz (ou++ov)).aa i) κ:=
       qN (by rw[pf]) (λh=>by cases h) (λh=>by cases h) (λ_=>by rw[pf,W];rfl) (λh=>by cases h)
      obtain⟨hs,KZ,FZ,Sx⟩:=tH;have done:∀ (cn:World) (F1:Array MapEntry) (F2:Nat),(cn=w\/cn=w.drew)->
        (execOp a.eval o).run C.P w=.ok .skip { cn with heap:=cn.heap.setIfInBounds (κ b).aa (.map F1 F2) }->
        (∀ {w'},c7 F' w w'->uU C.P k v F' w' F1 F2 (lL es dM mS))->
        o.wpIn (dS C.r) 0 C.P a w (λa' w'=>cu C (s.h7 o.dst ⟨(use (a7 C.aN s.ay m)).1/\(use (a7 C.aN s.ay x)).1/\(use (a7 C.aN s.ay y)).1,True,.undef,(jH (ou++ov)).run s.aa++[(b,⟨(s.aa b).gen,.mp k v (lL es dM mS)⟩)]⟩) a' w') Q:=by
       intro cn F1 F2 lR c8 aev;have cW:cn.heap=w.heap:=by rcases lR with rfl | rfl<;>rfl
       have i':dd w cn:=by rcases lR with rfl | rfl<;>exact⟨rfl,rfl,rfl⟩
       refine FK ar c8 ⟨κ,F',?_⟩;simp only[aA.h7];rw[mQ,KU];refine bb.o9 (b:=b) (x:=⟨(s.aa b).gen,.mp k v (lL es dM mS)⟩) (by rw[pf,W];rfl) rfl gq (λh=>by cases h) (λ_=>by rw[pf,W];rfl) (λr K1=>?_) (by grind) ⟨i'.os,i'.tape,i'.output⟩ λH _ _ he=>?_
       ·grind
       ·have cc:(κ b).aa<w.heap.size:=(Array.getElem?_eq_some_iff.1 hw).1;exact⟨F1,F2,by grind,aev he⟩
      rcases dI with⟨rfl,eP⟩ | ⟨j,e,p,E,U,ah,a1,rfl⟩
      ·refine done w (ms.push { key:=a.eval x,val:=a.eval y,born:=clk }) (clk+1) (.inl rfl) ?_ λ{w'} he=>?_
       ·rw[hex];simp only[kR,Instr.mapUpdate,Sem.run_bind,dD G,Result.andThen_ok,eW,ed,ds,r_ hw,Sem.run_pure]
       ·rw[(Su eP).2];refine⟨by grind,?_,λi G dO=>?_,λi j G aE e=>?_⟩
        ·rw[List.map_append,List.nodup_append];refine⟨KZ,by simp,λq bt q' tz=>?_⟩;obtain⟨p,an,rfl⟩:=List.mem_map.1 bt;simp only[List.map_cons,List.map_nil,List.mem_singleton]at tz;subst tz;intro e;have:=eP p an;rw[e,(KV k fk.1 _ _).2 rfl]at this;grind
        ·by_cases p9:i<es.length
         ·obtain⟨aO,aR,bO,fI,mT⟩:=FZ i p9 (by omega);have ax:(es++[(dM,mS)])[i]=es[i]:=List.getElem_append_left p9;have aM:(ms.push { key:=a.eval x,val:=a.eval y,born:=clk })[i]=ms[i]'(by omega):=Array.getElem_push_lt (by omega);rw[ax,aM];exact⟨aO,ff k (λ_ h=>h) he aR,bO,ff v (λ_ h=>h) he fI,by omega⟩
         ·have aew:i=es.length:=by grind
          subst aew;have ax:(es++[(dM,mS)])[es.length]=(dM,mS):=by simp
          have aM:(ms.push { key:=a.eval x,val:=a.eval y,born:=clk })[es.length]={ key:=a.eval x,val:=a.eval y,born:=clk }:=by
           grind
          rw[ax,aM];exact⟨tG.1,ff k (λ_ h=>h) he tG.2,FY.1,ff v (λ_ h=>h) he FY.2,by simp⟩
        ·have born:∀ i (h:i<(ms.push { key:=a.eval x,val:=a.eval y,born:=clk }).size),(∃ dw:i<ms.size,(ms.push { key:=a.eval x,val:=a.eval y,born:=clk })[i]=ms[i])\/(i=ms.size/\((ms.push { key:=a.eval x,val:=a.eval y,born:=clk })[i]).born=clk):=by
          grind
         grind
      ·have aE:j<es.length:=(List.getElem?_eq_some_iff.1 U).1;have xd:j<ms.size:=by omega
       have K2:ms[j]=e:=by
        grind
       have mU:es[j]=p:=(List.getElem?_eq_some_iff.1 U).2;have aex:dM=p.1:=(KV k fk.1 _ _).1 ah;obtain⟨jq,cn,b_,cy,eg⟩:=KX C.P w e.key (a.eval x);have lR:cn.heap[(κ b).aa]?=some (.map ms clk):=by rcases eg with rfl | rfl<;>exact hw
       refine done cn (ms.modify j λe=>{ e with key:=jq,val:=a.eval y }) clk eg ?_ λ{w'} he=>?_
       ·rw[hex];rw[Nat.zero_add]at ds;simp only[kR,Instr.mapUpdate,Sem.run_bind,dD G,Result.andThen_ok,eW,ed,ds];have nQ:((ms[j]?).map (·.key)).getD (a.eval x)=e.key:=by
         grind
        rw[nQ,b_];simp only[Result.andThen_ok,r_ lR,Sem.run_pure]
       ·rw[(St U ah a1).2];refine⟨by grind,?_,λi G dO=>?_,λi j8 G fT a6=>?_⟩
        ·have:(es.set j (p.1,mS)).map (·.1)=es.map (·.1):=by
          apply List.ext_getElem?;grind
         grind
        ·have p9:i<es.length:=by grind
         have K3:i<ms.size:=by omega
         obtain⟨aO,aR,bO,fI,mT⟩:=FZ i p9 K3;by_cases zv:j=i
         ·subst zv;have ax:(es.set j (p.1,mS))[j]=(p.1,mS):=by simp
          have aM:(ms.modify j λe=>{ e with key:=jq,val:=a.eval y })[j]={ key:=jq,val:=a.eval y,born:=ms[j].born }:=by grind
          rw[ax,aM];have u2:er C.P k F' w jq p.1:=by
           rcases cy with rfl | rfl
           ·grind
           ·rw[<-K2,<-mU];exact⟨aO,aR⟩
          exact⟨u2.1,ff k (λ_ h=>h) he u2.2,FY.1,ff v (λ_ h=>h) he FY.2,mT⟩
         ·have ax:(es.set j (p.1,mS))[i]=es[i]:=by grind
          have aM:(ms.modify j λe=>{ e with key:=jq,val:=a.eval y })[i]=ms[i]:=by grind
          rw[ax,aM];exact⟨aO,ff k (λ_ h=>h) he aR,bO,ff v (λ_ h=>h) he fI,mT⟩
        grind
     grind
    grind
   ·cases h
  ·cases h
 ·cases h
end
end Go.Fer
namespace Go.Fer
open Go.RowKit
section
variable {C:b9} {T:Nat->ad} {be:Nat->Option aL} {o:Oper} {s:aA} {res:eC}
theorem Sy{P:Program}{F:Nat->Prop}{w:World}{e:ad}{z:Value}(bK:j3 e z.cells.toList=some [])(n:Nat) :
  gr P e F w ((Array.range (n*e.size)).map (λi=>z.cells[i % z.cells.size]!)).toList (List.replicate n e.dh):=by
 obtain⟨c,zw,mP,z2⟩:=uY (P:=P) (H:=λ_=>⟨0,.fz⟩) (κ:=λ_=>⟨0,0,0,true⟩) (F:=F) (w:=w) e bK;rw[List.append_nil]at zw;have tI:z.cells.size=e.size:=by rw[<-Array.length_toList,zw];exact hP e mP
 refine⟨by simp,λi G=>?_⟩;have dO:i<n:=by grind
 have hle:(i+1)*e.size<=n*e.size:=Nat.mul_le_mul_right _ (by omega);rw[Nat.add_mul]at hle;have:((((Array.range (n*e.size)).map (λi=>z.cells[i % z.cells.size]!)).toList.drop (i*e.size)).take e.size)=z.cells.toList:=by
  apply List.ext_getElem?;intro j;simp only[List.getElem?_take,List.getElem?_drop];split
  ·rename_i aE;have fT:j<z.cells.size:=by omega
   rw[Array.getElem?_toList,Array.getElem?_toList];have zq:(i*e.size+j) % z.cells.size=j:=by rw[tI,Nat.add_comm,Nat.add_mul_mod_self_right,Nat.mod_eq_of_lt aE]
   grind
  grind
 grind
theorem aey{n:Int}(aX:0<=n)(E:n<=4294967296):IntKind.i64.wrap n=n:=by
 simp only[IntKind.wrap,IntKind.signed,IntKind.bits];grind
theorem aez(aU:dT C.P T){ty:TypeId}{l c:Operand}(bf:∀ i,o.dst=some i->i<C.nt)(af:o.op=.makeSlice ty l c)(h:(bw C.aN T be (a7 C.aN s.ay) o).run s.aa=some res):cJ C o s res:=by
 simp only[bw,af,FF]at h;split at h
 ·rename_i e aH;split at h
  ·rename_i n m aj hm;have dr:=aU.cb aH (by simp);obtain⟨jL,aE,ja,oy⟩:=dr.sl;obtain⟨inf,z,i1,i2,i3,i4,i5,i6⟩:=kq ja.kp;obtain⟨b,ar,al⟩:=qT h;simp only[Option.some.injEq]at al;subst al;intro a w κ F Q M bc hc;have aeA:=ow (cO M l rfl bc.1) aj;have i':=ow (cO M c rfl bc.2) hm;obtain⟨c0,rfl,bE⟩:0<=n/\n=m/\bM n.toNat:=hc;unfold bM at bE;obtain⟨k,rfl⟩:∃ k:Nat,n=k:=⟨n.toNat,by omega⟩
   simp only[Int.toNat_natCast]at bE;have hw:IntKind.i64.wrap (k:Int)=k:=aey (by omega) (by omega);let cs:Array Value:=(Array.range (k*e.size)).map (λi=>z.cells[i % z.cells.size]!);have jk:gr C.P e F w cs.toList (List.replicate k e.dh):=Sy i5 k;have axt:inf.bytes*k<=2 ^ 47:=by
    calc inf.bytes*k<=1024*4294967296:=Nat.mul_le_mul i3 (by omega)
     _<=2 ^ 47:=by decide
   have c8:(execOp a.eval o).run C.P w=.ok (.value (.slice (some ⟨w.heap.size,0,none⟩) k k)) (w.alloc (.cells cs jL)):=by
    have aeB:¬((inf.bytes:Int)*(k:Int) > 2 ^ 48):=by
     omega
    have mV:¬((k:Int)<0):=by omega
    have xb:¬(k*inf.bytes > roomBytes):=by
     have:roomBytes=2 ^ 47:=rfl;grind
    have u2:¬((k:Int) > (k:Int)):=by omega
    simp only[execOp,af,Instr.makeSlice,aeA.1,i'.1,Sem.run_bind,dD aE,Result.andThen_ok,asInt,asIntOf,Sem.run_pure,FH i1,hw,aeB,mV,u2,decide_false,Bool.or_false,Bool.false_or,Bool.false_eq_true,if_false,run_askRoom,Int.toNat_natCast,r0 i1,i2];by_cases r':k*e.size=0
    ·have aeC:cs=#[]:=Array.eq_empty_of_size_eq_zero (by grind);rw[aeC];have aeD:(Array.map (λ_:Nat=>(default:Value)) (Array.range 0))=#[]:=by simp
     simp[r',newRow];rw[aeD]
    ·simp[r',qR i1 i4,newRow,cs]
   have ah:=M.Cv (b:=b) (g:=(s.aa b).gen+1) (zs:=List.replicate k e.dh) (k:=⟨w.heap.size,0,k,false⟩) (w':=w.alloc (.cells cs jL)) (Nat.lt_succ_self _) (.inr rfl) (by simp) (λr M=>o8 w _ M) (λ_=>by simp) ⟨rfl,rfl,rfl⟩
    (λH κ'=>⟨λh=>(by cases h),λ_=>⟨cs,jL,p0 w _,by grind,by simp,by grind,(jk.Ct (pre:=[]) (post:=[]) (by simp)).later (c7.alloc M.dc _)⟩⟩)
   refine ht (by grind) c8 ⟨_,F,bl.set (s:=s.cx b _) ah bf ⟨⟨by simp[aA.cx],rfl⟩,λ_ _=>by simp[aA.cx,bD.slice,bQ.len]⟩⟩
  ·cases h
 ·cases h
theorem gr.take{P:Program}{e:ad}{F:Nat->Prop}{w:World}{all:List Value}{xs:List e.ai}(h:gr P e F w all xs){n:Nat}(aw:n<=xs.length):gr P e F w (all.take (n*e.size)) (xs.take n):=by
 have hle:n*e.size<=xs.length*e.size:=Nat.mul_le_mul_right _ aw;refine⟨by simp only[List.length_take,h.1];simp,λi G=>?_⟩;have dO:i<n:=by grind
 have aeE:(i+1)*e.size<=n*e.size:=Nat.mul_le_mul_right _ (by omega);rw[Nat.add_mul]at aeE;have:((all.take (n*e.size)).drop (i*e.size)).take e.size=(all.drop (i*e.size)).take e.size:=by
  rw[List.drop_take,List.take_take,Nat.min_eq_left (by omega)]
 rw[this];simpa using h.2 i (by omega)
theorem Sz{P:Program}{w:World}{e:ad}{q:Option Addr}{n cap:Nat}{xs:List e.ai}{F:Nat->Prop}(aw:n<=xs.length)(h:(q=none/\xs=[]/\cap=0)\/∃ p all,q=some p/\gr P e F w all xs/\kt w p all) :
  ∃ all,(Builtin.firstCells e.size n (.slice q xs.length cap)).run P w=.ok all.toArray w/\gr P e F w all (xs.take n):=by
 rcases h with⟨rfl,rfl,rfl⟩ | ⟨p,all,rfl,b8,a2⟩
 ·exact⟨[],by rfl,by simp[gr]⟩
 ·have hle:n*e.size<=xs.length*e.size:=Nat.mul_le_mul_right _ aw;refine⟨all.take (n*e.size),?_,b8.take aw⟩;simp only[Builtin.firstCells];have aj:(all.take (n*e.size)).length=n*e.size:=by simp only[List.length_take,b8.1];omega
  have M:kt w p (all.take (n*e.size)):=⟨λaX=>a2.1 (by grind),λj aE=>by
   have fT:j<all.length:=by grind
   rw[List.getElem_take];exact a2.2 j fT⟩
  have:=FJ (P:=P) M;grind
theorem lH.gh{P:Program}{e:ad}{F:Nat->Prop}{w w':World}{cs di:Array Value}{off aY:Nat}{xs zs:List e.ai}{ez:List Value}(h:lH P e F w cs off xs)(he:c7 F w w')(aw:gr P e F w ez zs)(aj:aY+zs.length<=xs.length)
  (pa:off+xs.length*e.size<=cs.size) (hc:di.toList=cs.toList.take (off+aY*e.size)++(ez++cs.toList.drop (off+aY*e.size+ez.length))):lH P e F w' di off (Go.Fer.gh xs aY zs):=by
 have hlen:(Go.Fer.gh xs aY zs).length=xs.length:=by simp[Go.Fer.gh];omega
 have aeF:(aY+zs.length)*e.size<=xs.length*e.size:=Nat.mul_le_mul_right _ aj;rw[Nat.add_mul]at aeF;have pe:=aw.1;have gJ:(cs.toList.take (off+aY*e.size)).length=off+aY*e.size:=by grind
 intro i G;rw[hlen]at G;have aeG:i<aY\/(aY<=i/\i<aY+zs.length)\/aY+zs.length<=i:=by omega
 rcases aeG with E | ⟨E,U⟩ | E
 ·obtain⟨bh,d1,d2⟩:=h i G;have Sh:=hP e d2;have ax:(Go.Fer.gh xs aY zs)[i]'(by omega)=xs[i]:=by
   simp only[Go.Fer.gh,List.append_assoc];grind
  rw[ax];refine⟨bh,λj aE=>?_,ff e (λ_ h=>h) he d2⟩;have hle:(i+1)*e.size<=aY*e.size:=Nat.mul_le_mul_right _ (by omega);rw[Nat.add_mul]at hle;rw[<-Array.getElem?_toList,hc,List.getElem?_append_left (by omega),List.getElem?_take,if_pos (by omega),Array.getElem?_toList];grind
 ·have Cy:=aw.Ct (pre:=cs.toList.take (off+aY*e.size)) (post:=cs.toList.drop (off+aY*e.size+ez.length)) hc;obtain⟨bh,d1,d2⟩:=Cy (i - aY) (by omega);have ax:(Go.Fer.gh xs aY zs)[i]'(by omega)=zs[i - aY]'(by omega):=by
   simp only[Go.Fer.gh,List.append_assoc];grind
  rw[ax];refine⟨bh,λj aE=>?_,ff e (λ_ h=>h) he d2⟩;have:=d1 j aE;rw[gJ]at this;rw[<-this];congr 1;have:i*e.size=aY*e.size+(i - aY)*e.size:=by rw[<-Nat.add_mul];grind
  omega
 ·obtain⟨bh,d1,d2⟩:=h i G;have Sh:=hP e d2;have ax:(Go.Fer.gh xs aY zs)[i]'(by omega)=xs[i]:=by
   simp only[Go.Fer.gh,List.append_assoc];have gq:(xs.take aY).length=aY:=by grind
   rw[List.getElem_append_right (by omega),List.getElem_append_right (by omega)];grind
  rw[ax];refine⟨bh,λj aE=>?_,ff e (λ_ h=>h) he d2⟩;have F3:(aY+zs.length)*e.size<=i*e.size:=Nat.mul_le_mul_right _ E;rw[Nat.add_mul]at F3;rw[<-Array.getElem?_toList,hc,List.getElem?_append_right (by omega),List.getElem?_append_right (by omega),List.getElem?_drop,gJ];grind
theorem gr.one{P:Program}{e:ad}{F:Nat->Prop}{w:World}{ez:List Value}{ys:List e.ai}(h:gr P e F w ez ys)(lf:0<e.size):∀ v∈ez,v.oneCell'=true:=by
 intro v ae;obtain⟨j,aE,rfl⟩:=List.mem_iff_getElem.1 ae;have hdiv:j / e.size<ys.length:=(Nat.div_lt_iff_lt_mul lf).2 (by rw[<-h.1];exact aE);have nN:=h.2 (j / e.size) hdiv;have iC:=y6 (P:=P) (H:=λ_=>⟨0,.fz⟩) (κ:=λ_=>⟨0,0,0,true⟩) e nN;have zq:=Nat.mod_lt j lf;have aee:j / e.size*e.size+j % e.size=j:=Nat.div_add_mod' j e.size;have Cx:((ez.drop (j / e.size*e.size)).take e.size).length=e.size:=hP e nN;have:=(iC.kN (j % e.size) (by rw[iC.len,Cx];omega)).2;grind
theorem aeH(aU:dT C.P T){args:Array Operand}{dq:Array TypeId}(bf:∀ i,o.dst=some i->i<C.nt)(af:o.op=.call { callee:=.builtin .copy,args:=args,argTypes:=dq })(h:(bw C.aN T be (a7 C.aN s.ay) o).run s.aa=some res):cJ C o s res:=by
 obtain⟨args⟩:=args;obtain⟨dq⟩:=dq;have ar:∀ c,o.op≠.defer c:=by grind
 simp only[bw,af,mK,FG]at h;split at h
 ·rename_i x y t u;split at h
  ·rename_i e aM aH hu;have dr:=aU.cb aH (by simp);obtain⟨jL,aE,ja,oy⟩:=dr.sl;obtain⟨inf,z,i1,i2,i3,i4,i5,i6⟩:=kq ja.kp;have lf:0<e.size:=Nat.pos_of_ne_zero oy;split at h
   ·rename_i b g aY G CD;simp only[aq.e4,Option.bind_eq_some_iff,aq.e3,aq.bN]at h;obtain⟨⟨ys,l⟩,j7,h⟩:=h;split at h
    ·rename_i aB;split at h
     ·rename_i a6 xs W;split at h
      ·rename_i qY;subst qY;simp only[Option.some.injEq]at h;subst h;intro a w κ F Q M bc _;obtain⟨q',cap',tB,nR⟩:=r7 M j7 (cO M y rfl bc.2);have ag:bB C.P s.aa κ F w (use (a7 C.aN s.ay x)).2 (a.eval x):=cO M x rfl bc.1;have aT:=M.bF b;unfold cE at aT;rw[W]at aT;have place:aY<=G.getD xs.length/\G.getD xs.length<=xs.length/\(((κ b).e9=true/\∃ cap,a.eval x=.slice none 0 cap)\/((κ b).e9=false/\∃ mi cap,a.eval x=.slice (some ⟨(κ b).aa,mi,none⟩) (G.getD xs.length - aY) cap/\(aY<G.getD xs.length->mi=(κ b).off+aY*a6.size))):=by
        split at CD
        ·rename_i bd g' e';simp only[Option.some.injEq,Prod.mk.injEq]at CD;obtain⟨rfl,rfl,rfl,rfl⟩:=CD;rw[e']at ag;have ae:=ag.2 aB.symm (by rw[W];rfl);rw[W]at ae;simp only[bQ.len]at ae;refine⟨Nat.zero_le _,Nat.le_refl _,?_⟩;cases aw:(κ bd).e9 with
         | true=>exact .inl ⟨rfl,0,by simpa [bD.slice,aw]using ae⟩
         | false=>exact .inr ⟨rfl,(κ bd).off,(κ bd).cap,by simpa [bD.slice,aw]using ae,λ_=>by simp⟩
        ·rename_i bd g' axu dO e';simp only[Option.some.injEq,Prod.mk.injEq]at CD;obtain⟨rfl,rfl,rfl,rfl⟩:=CD;rw[e']at ag;obtain⟨⟨aO,aR⟩,bO⟩:=ag.2 aB.symm (by rw[W];rfl);rw[W]at aR bO;simp only[bQ.len,bQ.e2]at aR bO;refine⟨aO,aR,?_⟩;rcases bO with⟨aw,ae⟩ | ⟨aw,mi,ae,hR,gA⟩
         ·grind
         ·obtain⟨cs,hU,bE,c2,c3,c4,c5⟩:=aT.2 aw;grind
        grind
       obtain⟨jJ,p7,mh⟩:=place;have SA:∀ m:Nat,m<=ys.length->m<=xs.length->fS .i64 (m:Int):=by
        intro m _ hm;have:=zh M (b:=b) (by rw[W];rfl);rw[W]at this;simp only[bQ.len]at this;exact Ci (by omega)
       generalize SB:G.getD xs.length=cW at *
       have Sb:Nat.min ys.length (cW - aY)=min (cW - aY) ys.length:=Nat.min_comm _ _;have aeI:(ys.take (cW - aY)).length=min (cW - aY) ys.length:=by simp
       have zx:(gh xs aY (ys.take (cW - aY))).length=xs.length:=by simp[gh];omega
       have gq:fq s.aa κ (λi=>if i=b then (⟨(s.aa b).gen,.bg a6 (gh xs aY (ys.take (cW - aY)))⟩:bJ) else s.aa i) κ:=
        qN rfl (λh=>by cases h) (λ_=>by rw[W];exact⟨rfl,zx,rfl⟩) (λh=>by cases h) (λh=>by cases h)
       have mM:∀ (w':World) v,(Builtin.copy_ #[t,u] o.type #[a.eval x,a.eval y]).run C.P w=.ok v w'->(execOp a.eval o).run C.P w=.ok (.value v) w':=by
        intro w' v ae;refine w8 af ?_;simp[builtin,ae]
       rcases mh with⟨aw,cap,r8⟩ | ⟨aw,mi,cap,r8,aeJ⟩
       ·have hT:=aT.1 aw;subst hT;have aeK:cW=0:=by grind
        subst aeK;have K4:aY=0:=by omega
        subst K4;obtain⟨ez,ec,ef⟩:=Sz (P:=C.P) (w:=w) (n:=0) (Nat.zero_le _) nR;have c8:(Builtin.copy_ #[t,u] o.type #[a.eval x,a.eval y]).run C.P w=.ok (.int .i64 ((0:Nat):Int)) w:=by
         simp only[Builtin.copy_,List.getElem?_toArray,List.getElem?_cons_zero,List.getElem?_cons_succ,Sem.run_bind,dD aE,Result.andThen_ok,r8,tB,Builtin.lenOf,Sem.run_pure,r0 i1,i2,Nat.min_zero];rw[ec];rfl
        refine ht ar (mM w _ c8) ⟨κ,F,bl.set (s:=s.cx b _) ?_ bf (gS.2 ⟨by simp,SA _ (by simp) (by simp)⟩)⟩;have bG:gh ([]:List a6.ai) 0 (ys.take (0 - 0))=[]:=by rfl
        have es:s.cx b ⟨(s.aa b).gen,.bg a6 (gh ([]:List a6.ai) 0 (ys.take (0 - 0)))⟩=s:=by
         rw[bG];unfold aA.cx;have:(λi=>if i=b then (⟨(s.aa b).gen,.bg a6 []⟩:bJ) else s.aa i)=s.aa:=by
          funext i;by_cases G:i=b
          ·subst G;simp only[if_true];rw[<-W]
          grind
         rw[this]
        grind
       ·obtain⟨cs,hU,bE,c2,c3,c4,c5⟩:=aT.2 aw;have Cm:min (cW - aY) ys.length<=ys.length:=Nat.min_le_right _ _;obtain⟨ez,ec,ef⟩:=Sz (P:=C.P) (w:=w) Cm nR;have kP:ys.take (min (cW - aY) ys.length)=ys.take (cW - aY):=by
         simp
        rw[kP]at ef;have pe:=ef.1;rw[aeI]at pe;have nO:=ef.one lf;have SC:xs.length*a6.size<=(κ b).cap*a6.size:=Nat.mul_le_mul_right _ c3;have CE:(aY+min (cW - aY) ys.length)*a6.size<=xs.length*a6.size:=Nat.mul_le_mul_right _ (by omega);rw[Nat.add_mul]at CE;obtain⟨w',di,b_,cy,eg,ld,ku,mf⟩:∃ w' di,(storeCells ⟨(κ b).aa,mi,none⟩ ez).run C.P w=.ok () w'/\w'.heap[(κ b).aa]?=some (.cells di hU (0,0))/\di.toList=cs.toList.take ((κ b).off+aY*a6.size)++(ez++cs.toList.drop ((κ b).off+aY*a6.size+ez.length))/\
          (∀ r,r≠(κ b).aa->w'.heap[r]?=w.heap[r]?)/\w'.heap.size=w.heap.size/\dd w w':=by
         by_cases cc:aY<cW
         ·rw[aeJ cc];obtain⟨w',di,b_,cy,eg,ld,ku,mf⟩:=u4 (P:=C.P) ez ((κ b).off+aY*a6.size) 0 w cs bE (by omega) nO;grind
         ·have aX:min (cW - aY) ys.length=0:=by omega
          rw[aX,Nat.zero_mul]at pe;have:ez=[]:=List.eq_nil_of_length_eq_zero pe;subst this;exact⟨w,cs,by rfl,bE,by simp,λ_ _=>rfl,rfl,dd.refl w⟩
        have c8:(Builtin.copy_ #[t,u] o.type #[a.eval x,a.eval y]).run C.P w=.ok (.int .i64 ((min (cW - aY) ys.length:Nat):Int)) w':=by
         simp only[Builtin.copy_,List.getElem?_toArray,List.getElem?_cons_zero,List.getElem?_cons_succ,Sem.run_bind,dD aE,Result.andThen_ok,r8,tB,Builtin.lenOf,Sem.run_pure,r0 i1,i2];rw[Sb,ec];simp only[Result.andThen_ok,b_];rfl
        refine ht ar (mM w' _ c8) ⟨κ,F,bl.set (s:=s.cx b _) ?_ bf (gS.2 ⟨rfl,SA _ (by omega) (by omega)⟩)⟩;refine M.o9 (b:=b) (by rw[W];simp[bQ.b1,aw]) (by simp[bQ.b1,aw]) gq (λh=>by cases h) (λh=>by cases h) ld ku mf λH mO cc he=>?_;refine⟨λh=>(by grind),λ_=>⟨di,hU,cy,?_,by omega,c4,?_⟩⟩
        ·have:di.size=cs.size:=by
          rw[<-Array.length_toList,eg];simp only[List.length_append,List.length_take,List.length_drop,Array.length_toList];omega
         omega
        ·exact c5.gh he ef (by omega) (by omega) eg
      grind
     grind
    grind
   ·cases h
  ·cases h
 ·cases h
theorem SD(af:(bw C.aN T be (a7 C.aN s.ay) o).run s.aa=some ⟨True,False,.undef,[]⟩)(h:(bw C.aN T be (a7 C.aN s.ay) o).run s.aa=some res):cJ C o s res:=by
 rw[af]at h;cases h;intro a w κ F Q _ _ hc;grind
end
end Go.Fer
namespace Go.Fer
open Go.RowKit
section
variable {C:b9} {T:Nat->ad} {be:Nat->Option aL} {o:Oper} {s:aA} {res:eC}
theorem aeL{P:Program}{w:World}{len cap:Nat}{aY:Option Value}{l:Option Int}{k k':IntKind}{h m:Int}(aj:(aY=none/\l=none)\/∃ k m,aY=some (.int k m)/\l=some m)
  (E:0<=du l) (U:du l<=h) (ah:h<=m) (a1:m<=(cap:Int)):(Instr.sliceBounds true len cap aY (some (.int k h)) (some (.int k' m))).run P w=.ok ((du l).toNat,h.toNat,m.toNat) w:=by
 rcases aj with⟨rfl,rfl⟩ | ⟨k,n,rfl,rfl⟩<;>simp only[du]at E U ⊢
 ·have ax:0<=m/\m<=(cap:Int):=by omega
  have aM:0<=h/\h<=m:=by omega
  have cD:max m 0=m:=by omega
  simp[Instr.sliceBounds,Instr.sliceBound,asIntOf,ax,aM,cD]
 ·have ax:0<=m/\m<=(cap:Int):=by omega
  have aM:0<=h/\h<=m:=by omega
  have cD:max m 0=m:=by omega
  have et:0<=n/\n<=h:=by omega
  have eb:max h 0=h:=by omega
  simp[Instr.sliceBounds,Instr.sliceBound,asIntOf,ax,aM,cD,et,eb]
theorem aeM(aU:dT C.P T){ty:TypeId}{x:Operand}{aY G:Option Operand}{o_:Operand}(bf:∀ i,o.dst=some i->i<C.nt)(af:o.op=.slice ty x aY G (some o_))(h:(bw C.aN T be (a7 C.aN s.ay) o).run s.aa=some res):cJ C o s res:=by
 simp only[bw,af,Option.isSome_some,if_true,FD]at h;split at h
 ·rename_i ol l qP cW uZ m r5 KJ aeN;have ar:∀ c,o.op≠.defer c:=by grind
  split at h
  ·rename_i bG aH;have dr:=aU.cb aH (by simp);obtain⟨j,aE,ja,oy⟩:=dr.sl;simp only[aq.e4,Option.bind_eq_some_iff]at h;obtain⟨⟨c,v⟩,fV,h⟩:=h;simp only[bP,aq.bN,Option.some.injEq]at h;subst h;have runs:∀ (a:Act) (w:World) κ F,bl C s a w κ F->ol->qP->uZ->∀ (q:Option Addr) (n cap:Nat),a.eval x=.slice q n cap->0<=du l->du l<=cW->cW<=m->m<=(cap:Int)->
     (execOp a.eval o).run C.P w=.ok (.value (.slice (if m.toNat=(du l).toNat then q else q.map (·.add ((du l).toNat*bG.size))) (cW.toNat - (du l).toNat) (m.toNat - (du l).toNat))) w:=by
    intro a w κ F M Cr Cs aeO q n cap ae bE c2 c3 c4;have dL:(aY.map a.eval=none/\l=none)\/∃ k m,aY.map a.eval=some (.int k m)/\l=some m:=by
     rcases Cq M r5 Cr with⟨rfl,rfl⟩ | ⟨y,k,m,rfl,rfl,e⟩
     ·exact .inl ⟨rfl,rfl⟩
     ·exact .inr ⟨k,m,by simp[e],rfl⟩
    obtain⟨axv,aR,m2,rfl,aM,cD⟩:∃ y k n,G=some y/\cW=n/\a.eval y=.int k n:=by
     rcases Cq M KJ Cs with⟨_,h⟩ | ⟨y,k,m,rfl,h,e⟩
     ·cases h
     ·exact⟨y,k,m,rfl,Option.some.inj h,e⟩
    obtain⟨bO,et⟩:∃ k,a.eval o_=.int k m:=by
     rcases Cq M aeN aeO with⟨h,_⟩ | ⟨y,k,m,E,U,e⟩
     ·cases h
     ·cases E;cases U;exact⟨k,e⟩
    subst aM;have:=aeL (P:=C.P) (w:=w) (len:=n) (k:=aR) (k':=bO) dL bE c2 c3 c4;simp[execOp,af,ae,Instr.sliceAt,Instr.slice,dD aE,cD,et,this,ja.size]
   unfold RM at fV;split at fV
   ·rename_i e xs e';simp only[aq.bN]at fV;split at fV
    ·rename_i he;subst he;simp only[Option.some.injEq,Prod.mk.injEq]at fV;obtain⟨rfl,rfl⟩:=fV;refine cJ.pure ar bf λa w κ F M bc hc=>?_;have ag:bB C.P s.aa κ F w (use (a7 C.aN s.ay x)).2 (a.eval x):=cO M x rfl bc.1;rw[e']at ag;obtain⟨_,a',cap,ax,m1,m2,m3,m4⟩:=(dV rfl).1 ag;have ax:=(List.cons.inj ax).1;simp only[fA]at hc;obtain⟨bE,c2,c3,c4⟩:=hc;subst c3;have hlen:((xs.take cW.toNat).drop (du l).toNat).length=cW.toNat - (du l).toNat:=by
      grind
     have axw:(xs.length:Int)<=cap:=by omega
     refine⟨_,runs a w κ F M bc.2.1 bc.2.2.1 bc.2.2.2 a' xs.length cap ax bE c2 (Int.le_refl _) (by omega),(dV rfl).2 ⟨rfl,?_⟩,_,by rw[hlen]⟩;refine⟨_,_,by rw[hlen],by omega,by omega,?_,λp an uW=>?_⟩
     ·intro aw;split at aw
      ·omega
      ·cases a' with
       | none=>grind
       | some q=>cases aw
     ·cases a' with
      | none=>grind
      | some q=>
       obtain⟨ec,ef,jl⟩:=m4 q rfl (by omega);have bt:p=⟨q.block,q.off+(du l).toNat*e.size,none⟩:=by
        split at an
        ·omega
        ·simp only[Option.map_some,Option.some.injEq]at an;rw[Cp ef]at an;grind
       subst bt;refine⟨ec,rfl,λi G=>?_⟩;rw[hlen]at G;obtain⟨bh,d1,d2⟩:=jl ((du l).toNat+i) (by omega);grind
    grind
   ·rename_i e';simp only[aq.bN,Option.some.injEq,Prod.mk.injEq]at fV;obtain⟨rfl,rfl⟩:=fV;refine cJ.pure ar bf λa w κ F M bc hc=>?_;have ag:bB C.P s.aa κ F w (use (a7 C.aN s.ay x)).2 (a.eval x):=cO M x rfl bc.1;rw[e']at ag;simp only[bB]at ag;simp only[fA]at hc;obtain⟨bE,c2,c3⟩:=hc;have c8:=runs a w κ F M bc.2.1 bc.2.2.1 bc.2.2.2 none 0 0 ag (by omega) (by omega) (by omega) (by omega);have aX:cW.toNat=0:=by omega
    have E:m.toNat=0:=by omega
    have U:(du l).toNat=0:=by omega
    rw[aX,E,U]at c8;simp only[if_true,Nat.sub_zero]at c8;exact⟨_,c8,(dV rfl).2 ⟨rfl,none,0,rfl,Nat.le_refl _,by decide,λ_=>rfl,λp an=>by simp⟩,none,rfl⟩
   ·rename_i b g e';simp only[aq.e3,aq.bN]at fV;split at fV
    ·rename_i bk;simp only[Bool.and_eq_true,decide_eq_true_eq]at bk;obtain⟨aB,fa⟩:=bk;simp only[Option.some.injEq,Prod.mk.injEq]at fV;obtain⟨rfl,rfl⟩:=fV;refine cJ.pure ar bf λa w κ F M bc hc=>?_;have ag:bB C.P s.aa κ F w (use (a7 C.aN s.ay x)).2 (a.eval x):=cO M x rfl bc.1;rw[e']at ag;have ae:=ag.2 aB.symm fa;obtain⟨ec,ef⟩:=zh M fa;simp only[fA]at hc;obtain⟨bE,c2,c3,c4⟩:=hc;cases aw:(κ b).e9 with
     | true=>
      have aX:=ec aw;simp only[bD.slice,aw,if_true]at ae;exact⟨_,runs a w κ F M bc.2.1 bc.2.2.1 bc.2.2.2 none 0 0 ae bE c2 c3 (by omega),trivial⟩
     | false=>
      have xa:=Kw M fa aw;simp only[bD.slice,aw,Bool.false_eq_true,if_false]at ae;exact⟨_,runs a w κ F M bc.2.1 bc.2.2.1 bc.2.2.2 _ _ _ ae bE c2 c3 (by omega),trivial⟩
    grind
   ·cases fV
  ·cases h
 ·cases h
theorem aeP{b:Nat}{e:ad}(W:(s.aa b).body=.bg e []):s.cx b ⟨(s.aa b).gen,.bg e []⟩=s:=by
 unfold aA.cx;have:(λi=>if i=b then (⟨(s.aa b).gen,.bg e []⟩:bJ) else s.aa i)=s.aa:=by
  funext i;by_cases G:i=b
  ·subst G;simp only[if_true];rw[<-W]
  grind
 rw[this]
theorem aeQ(aU:dT C.P T){args:Array Operand}{dq:Array TypeId}(bf:∀ i,o.dst=some i->i<C.nt)(af:o.op=.call { callee:=.builtin .append,args:=args,argTypes:=dq }){b g aY G:Nat}(aD:w2 (a7 C.aN s.ay) args.toList=some (b,g,aY,G))
  (h:(Cb T (a7 C.aN s.ay) args.toList dq.toList b g aY G).run s.aa=some res):cJ C o s res:=by
 obtain⟨args⟩:=args;obtain⟨dq⟩:=dq;have ar:∀ c,o.op≠.defer c:=by grind
 simp only[Cb]at h;split at h
 ·rename_i x y t u;have e':(use (a7 C.aN s.ay x)).2=.sub b g aY G:=by
   simp only[w2]at aD;grind
  split at h
  ·rename_i e aM aH hu;have dr:=aU.cb aH (by simp);have u5:=aU.cb hu (by simp);obtain⟨jL,aE,ja,oy⟩:=dr.sl;obtain⟨aeb,fT,_⟩:=u5.sl;obtain⟨inf,z,i1,i2,i3,i4,i5,i6⟩:=kq ja.kp;have lf:0<e.size:=Nat.pos_of_ne_zero oy;simp only[aq.e4,Option.bind_eq_some_iff,aq.e3,aq.bN]at h;obtain⟨⟨ys,l⟩,j7,h⟩:=h;split at h
   ·rename_i aB;split at h
    ·rename_i a6 xs W;split at h
     ·rename_i qY;subst qY;simp only[Option.some.injEq]at h;subst h;intro a w κ F Q M bc hc;change G+ys.length<=xs.length at hc;obtain⟨q',cap',tB,nR⟩:=r7 M j7 (cO M y rfl bc.2);have ag:bB C.P s.aa κ F w (use (a7 C.aN s.ay x)).2 (a.eval x):=cO M x rfl bc.1;rw[e']at ag;have aT:=M.bF b;unfold cE at aT;rw[W]at aT;obtain⟨⟨aO,aR⟩,bO⟩:=ag.2 aB.symm (by rw[W];rfl);rw[W]at aR bO;simp only[bQ.len,bQ.e2]at aR bO;have mM:∀ (w':World) v,(Builtin.append_ #[t,u] o.type #[a.eval x,a.eval y]).run C.P w=.ok v w'->(execOp a.eval o).run C.P w=.ok (.value v) w':=by
       intro w' v ae;refine w8 af ?_;simp[builtin,ae]
      have zx:(gh xs G ys).length=xs.length:=by simp[gh];omega
      have gq:fq s.aa κ (λi=>if i=b then (⟨(s.aa b).gen,.bg a6 (gh xs G ys)⟩:bJ) else s.aa i) κ:=
       qN rfl (λh=>by cases h) (λ_=>by rw[W];exact⟨rfl,zx,rfl⟩) (λh=>by cases h) (λh=>by cases h)
      rcases bO with⟨aw,ae⟩ | ⟨aw,mi,ae,hR,gA⟩
      ·have hT:=aT.1 aw;subst hT;have oA:G=0:=by grind
       subst oA;have K4:aY=0:=by omega
       subst K4;have KQ:ys=[]:=by grind
       subst KQ;obtain⟨ez,ec,ef⟩:=zn (P:=C.P) (w:=w) (cap:=cap') rfl nR;have c8:(Builtin.append_ #[t,u] o.type #[a.eval x,a.eval y]).run C.P w=.ok (.slice none 0 0) w:=by
        rw[ae,tB];simp only[List.length_nil]at ec ⊢;simp[Builtin.append_,dD aE,dD fT,r0 i1,Builtin.lenOf];simp_all
       have bG:gh ([]:List a6.ai) 0 []=[]:=by rfl
       refine ht ar (mM w _ c8) ⟨κ,F,bl.set (s:=s.cx b _) ?_ bf ⟨⟨by simp[aA.cx,aB],rfl⟩,λ_ _=>⟨by simp,.inl ⟨aw,rfl⟩⟩⟩⟩;rw[bG,aeP W];exact M
      ·obtain⟨cs,hU,bE,c2,c3,c4,c5⟩:=aT.2 aw;obtain⟨ez,ec,ef⟩:=zn (P:=C.P) (w:=w) (cap:=cap') rfl nR;have pe:=ef.1;have nO:=ef.one lf;have SC:xs.length*a6.size<=(κ b).cap*a6.size:=Nat.mul_le_mul_right _ c3;have CE:(G+ys.length)*a6.size<=xs.length*a6.size:=Nat.mul_le_mul_right _ hc;rw[Nat.add_mul]at CE;obtain⟨w',di,b_,cy,eg,ld,ku,mf⟩:∃ w' di,(storeCells ⟨(κ b).aa,mi+(G - aY)*a6.size,none⟩ ez).run C.P w=.ok () w'/\w'.heap[(κ b).aa]?=some (.cells di hU (0,0))/\di.toList=cs.toList.take ((κ b).off+G*a6.size)++(ez++cs.toList.drop ((κ b).off+G*a6.size+ez.length))/\
         (∀ r,r≠(κ b).aa->w'.heap[r]?=w.heap[r]?)/\w'.heap.size=w.heap.size/\dd w w':=by
        by_cases cc:aY<(κ b).cap
        ·have zy:mi+(G - aY)*a6.size=(κ b).off+G*a6.size:=by
          rw[gA cc,Nat.add_assoc,<-Nat.add_mul];grind
         rw[zy];obtain⟨w',di,b_,cy,eg,ld,ku,mf⟩:=u4 (P:=C.P) ez ((κ b).off+G*a6.size) 0 w cs bE (by omega) nO;grind
        ·have aX:ys.length=0:=by omega
         rw[aX,Nat.zero_mul]at pe;have:ez=[]:=List.eq_nil_of_length_eq_zero pe;subst this;exact⟨w,cs,by rfl,bE,by simp,λ_ _=>rfl,rfl,dd.refl w⟩
       have xb:G - aY+ys.length<=(κ b).cap - aY:=by omega
       have c8:(Builtin.append_ #[t,u] o.type #[a.eval x,a.eval y]).run C.P w=.ok (.slice (some ⟨(κ b).aa,mi,none⟩) (G - aY+ys.length) ((κ b).cap - aY)) w':=by
        rw[ae,tB];simp only[Builtin.append_,List.getElem?_toArray,List.getElem?_cons_zero,List.getElem?_cons_succ,Sem.run_bind,dD aE,dD fT,Result.andThen_ok,r0 i1,i2,Sem.run_pure,Builtin.lenOf,Bool.false_eq_true,if_false,if_pos xb,Bool.not_false,if_true,ec,u1];simp_all
       refine ht ar (mM w' _ c8) ⟨κ,F,bl.set (s:=s.cx b _) ?_ bf ⟨⟨by simp[aA.cx,aB],rfl⟩,λ_ _=>⟨by simp only[aA.cx,if_true,bQ.len,zx];omega,.inr ⟨aw,mi,?_,?_,?_⟩⟩⟩⟩
       ·refine M.o9 (b:=b) (by rw[W];simp[bQ.b1,aw]) (by simp[bQ.b1,aw]) gq (λh=>by cases h) (λh=>by cases h) ld ku mf λH mO cc he=>?_;refine⟨λh=>(by grind),λ_=>⟨di,hU,cy,?_,by omega,c4,?_⟩⟩
        ·have:di.size=cs.size:=by
          rw[<-Array.length_toList,eg];grind
         omega
        ·exact c5.gh he ef hc (by omega) eg
       ·grind
       ·simp only[aA.cx,if_true,bQ.e2];exact hR
       ·simp only[aA.cx,if_true,bQ.e2];exact gA
     grind
    grind
   grind
  ·cases h
 ·cases h
theorem aeR(aU:dT C.P T){args:Array Operand}{dq:Array TypeId}(bf:∀ i,o.dst=some i->i<C.nt)(af:o.op=.call { callee:=.builtin .clear,args:=args,argTypes:=dq })
  (h:(Cc T (a7 C.aN s.ay) args.toList dq.toList).run s.aa=some res):cJ C o s res:=by
 obtain⟨args⟩:=args;obtain⟨dq⟩:=dq;have ar:∀ c,o.op≠.defer c:=by grind
 simp only[Cc]at h;split at h
 ·rename_i x t;split at h
  ·rename_i e aH;have dr:=aU.cb aH (by simp);obtain⟨jL,aE,ja,oy⟩:=dr.sl;obtain⟨inf,z,i1,i2,i3,i4,i5,i6⟩:=kq ja.kp;have lf:0<e.size:=Nat.pos_of_ne_zero oy;split at h
   ·rename_i b g aY G e';simp only[aq.e3,aq.bN]at h;split at h
    ·rename_i aB;split at h
     ·rename_i a6 xs W;split at h
      ·rename_i qY;subst qY;simp only[Option.some.injEq]at h;subst h;intro a w κ F Q M bc _;have ag:bB C.P s.aa κ F w (use (a7 C.aN s.ay x)).2 (a.eval x):=cO M x rfl bc;rw[e']at ag;have aT:=M.bF b;unfold cE at aT;rw[W]at aT;obtain⟨⟨aO,aR⟩,bO⟩:=ag.2 aB.symm (by rw[W];rfl);rw[W]at aR bO;simp only[bQ.len,bQ.e2]at aR bO;have mM:∀ (w':World) v,(Builtin.clear_ #[t] o.type #[a.eval x]).run C.P w=.ok v w'->(execOp a.eval o).run C.P w=.ok (.value v) w':=by
        intro w' v ae;refine w8 af ?_;simp[builtin,ae]
       have tJ:(List.replicate (G - aY) a6.dh).length=G - aY:=by simp
       have zx:(gh xs aY (List.replicate (G - aY) a6.dh)).length=xs.length:=by simp[gh];omega
       have gq:fq s.aa κ (λi=>if i=b then (⟨(s.aa b).gen,.bg a6 (gh xs aY (List.replicate (G - aY) a6.dh))⟩:bJ) else s.aa i) κ:=
        qN rfl (λh=>by cases h) (λ_=>by rw[W];exact⟨rfl,zx,rfl⟩) (λh=>by cases h) (λh=>by cases h)
       have nothing:G - aY=0->gh xs aY (List.replicate (G - aY) a6.dh)=xs:=λaX=>by rw[aX];simp[gh]
       have hF:G - aY=0->s.cx b ⟨(s.aa b).gen,.bg a6 (gh xs aY (List.replicate (G - aY) a6.dh))⟩=s:=λaX=>by
        rw[nothing aX];unfold aA.cx;have:(λi=>if i=b then (⟨(s.aa b).gen,.bg a6 xs⟩:bJ) else s.aa i)=s.aa:=by
         funext i;by_cases G:i=b
         ·subst G;simp only[if_true];rw[<-W]
         grind
        rw[this]
       rcases bO with⟨aw,ae⟩ | ⟨aw,mi,ae,hR,gA⟩
       ·have hT:=aT.1 aw;subst hT;have oA:G - aY=0:=by grind
        have c8:(Builtin.clear_ #[t] o.type #[a.eval x]).run C.P w=.ok (.tuple #[]) w:=by
         rw[ae];simp[Builtin.clear_,dD aE]
        refine ht ar (mM w _ c8) ⟨κ,F,bl.set (s:=s.cx b _) ?_ bf trivial⟩;grind
       ·obtain⟨cs,hU,bE,c2,c3,c4,c5⟩:=aT.2 aw;by_cases aX:G - aY=0
        ·have c8:(Builtin.clear_ #[t] o.type #[a.eval x]).run C.P w=.ok (.tuple #[]) w:=by
          rw[ae,aX];simp[Builtin.clear_,dD aE]
         refine ht ar (mM w _ c8) ⟨κ,F,bl.set (s:=s.cx b _) ?_ bf trivial⟩;grind
        ·obtain⟨n,p_⟩:∃ n,G - aY=n+1:=⟨G - aY - 1,by omega⟩
         have jk:gr C.P a6 F w ((Array.range ((G - aY)*a6.size)).map (λi=>z.cells[i % z.cells.size]!)).toList (List.replicate (G - aY) a6.dh):=Sy i5 _;have tI:z.cells.size=a6.size:=by
          obtain⟨c,zw,mP,z2⟩:=uY (P:=C.P) (H:=λ_=>⟨0,.fz⟩) (κ:=λ_=>⟨0,0,0,true⟩) (F:=F) (w:=w) a6 i5;rw[List.append_nil]at zw;rw[<-Array.length_toList,zw];exact hP a6 mP
         have pe:=jk.1;rw[tJ]at pe;have nO:=jk.one lf;revert jk pe nO;generalize lg:((Array.range ((G - aY)*a6.size)).map (λi=>z.cells[i % z.cells.size]!)).toList=ez;intro jk pe nO;have SC:xs.length*a6.size<=(κ b).cap*a6.size:=Nat.mul_le_mul_right _ c3;have CE:(aY+(G - aY))*a6.size<=xs.length*a6.size:=Nat.mul_le_mul_right _ (by omega);rw[Nat.add_mul]at CE;have zy:mi=(κ b).off+aY*a6.size:=gA (by omega);obtain⟨w',di,b_,cy,eg,ld,ku,mf⟩:=u4 (P:=C.P) ez ((κ b).off+aY*a6.size) 0 w cs bE (by omega) nO;have c8:(Builtin.clear_ #[t] o.type #[a.eval x]).run C.P w=.ok (.tuple #[]) w':=by
          rw[ae,zy];have bk:(Builtin.zeroCells z.cells (G - aY)).toList=ez:=by rw[<-lg,<-tI];rfl
          simp only[Builtin.clear_,List.getElem?_toArray,List.getElem?_cons_zero,Sem.run_bind,dD aE,Result.andThen_ok,qR i1 i4,p_];simp_all
         refine ht ar (mM w' _ c8) ⟨κ,F,bl.set (s:=s.cx b _) ?_ bf trivial⟩;refine M.o9 (b:=b) (by rw[W];simp[bQ.b1,aw]) (by simp[bQ.b1,aw]) gq (λh=>by cases h) (λh=>by cases h) ld ku mf λH mO cc he=>?_;refine⟨λh=>(by grind),λ_=>⟨di,hU,cy,?_,by omega,c4,?_⟩⟩
         ·have:di.size=cs.size:=by
           rw[<-Array.length_toList,eg];grind
          omega
         ·exact c5.gh he jk (by omega) (by omega) (by omega)
      grind
     grind
    grind
   ·cases h
  ·cases h
 ·cases h
end
end Go.Fer
namespace Go.Fer
open Go.RowKit
section
variable {C:b9} {T:Nat->ad} {be:Nat->Option aL} {o:Oper} {s:aA} {res:eC}
theorem K5{place:Nat->Option (Nat×Nat)}{size:Nat}(an:∀ i,place i=some (i*size,size)):∀ (qs:List (Nat×Value)) (cs:Array Value),(∀ q∈qs,q.2.cells.size=size/\q.1*size+size<=cs.size)->(qs.map (·.1)).Nodup->
  ∃ di,Instr.fill place cs qs=some di/\di.size=cs.size/\∀ i,i*size+size<=cs.size->(di.toList.drop (i*size)).take size=(match qs.find? (λp=>p.1 == i) with | some q=>q.2.cells.toList | none=>(cs.toList.drop (i*size)).take size)
 | [],cs,_,_=>⟨cs,rfl,rfl,λi _=>rfl⟩
 | (k,v)::qs,cs,h,aw=>by
  obtain⟨E,U⟩:=h (k,v) (by simp);simp only at E U;have FQ:=FO v.cells.toList 0 (k*size) cs (by grind);have e:(v.cells.zipIdx.foldl (λ(cs:Array Value) (p:Value×Nat)=>cs.setIfInBounds (k*size+p.2) p.1) cs)=((v.cells.toList.zipIdx 0).foldl (λ(cs:Array Value) (p:Value×Nat)=>cs.setIfInBounds (k*size+p.2) p.1) cs):=by
   rw[<-Array.foldl_toList];simp
  generalize axx:(v.cells.zipIdx.foldl (λ(cs:Array Value) (p:Value×Nat)=>cs.setIfInBounds (k*size+p.2) p.1) cs)=F4 at *
  have SE:F4.toList=cs.toList.take (k*size)++(v.cells.toList++cs.toList.drop (k*size+size)):=by
   grind
  have cf:F4.size=cs.size:=by
   rw[<-Array.length_toList,SE];grind
  have CF:(qs.map (·.1)).Nodup/\k ∉ qs.map (·.1):=by
   grind
  obtain⟨di,aO,aR,bO⟩:=K5 an qs F4 (λq bt=>by grind) CF.1;refine⟨di,?_,by omega,λi G=>?_⟩
  ·simp only[Instr.fill,an];grind
  ·rw[bO i (by omega)];by_cases mR:k=i
   ·grind
   ·have:((k,v)::qs).find? (λp=>p.1 == i)=qs.find? (λp=>p.1 == i):=by grind
    rw[this];have jk:(F4.toList.drop (i*size)).take size=(cs.toList.drop (i*size)).take size:=by
     apply List.ext_getElem?;intro j;simp only[List.getElem?_take,List.getElem?_drop];split
     ·rename_i aE;rw[SE];have kP:(List.take (k*size) cs.toList).length=k*size:=by grind
      have w_:v.cells.toList.length=size:=by omega
      rcases Nat.lt_or_ge i k with ah | ah
      ·have:(i+1)*size<=k*size:=Nat.mul_le_mul_right _ (by omega);grind
      ·have:(k+1)*size<=i*size:=Nat.mul_le_mul_right _ (by omega);rw[Nat.add_mul]at this;rw[List.getElem?_append_right (by omega),kP,List.getElem?_append_right (by omega),List.getElem?_drop];congr 1;omega
     ·rfl
    grind
theorem aeS(aU:dT C.P T){ty n:Nat}{ps:Array (Nat×Operand)}(bf:∀ i,o.dst=some i->i<C.nt)(af:o.op=.buildSlice ty n ps)(h:(bw C.aN T be (a7 C.aN s.ay) o).run s.aa=some res):cJ C o s res:=by
 obtain⟨ps⟩:=ps;have ar:∀ c,o.op≠.defer c:=by grind
 simp only[bw,af]at h;split at h
 ·rename_i e aH;have dr:=aU.cb aH (by simp);obtain⟨jL,aE,ja,oy⟩:=dr.sl;obtain⟨inf,z,i1,i2,i3,i4,i5,i6⟩:=kq ja.kp;simp only[aq.e4,Option.bind_eq_some_iff,aq.run_bind]at h;obtain⟨⟨xs,bU⟩,hT,h⟩:=h;obtain⟨b,axy,al⟩:=qT h;split at al
  ·rename_i F5;obtain⟨axz,SF⟩:=F5;simp only[Bool.and_eq_true,Bool.not_eq_true',decide_eq_true_eq]at SF;obtain⟨⟨fW,tD⟩,K6⟩:=SF;have p6:b ∉ bU:=by grind
   simp only[Option.some.injEq]at al;subst al;intro a w κ F Q M bc _;obtain⟨F',f1,bb,f2⟩:=bl.lb (aen n 0 hT) M;obtain⟨aeT,F6,mP,z2⟩:=uY (P:=C.P) (H:=s.aa) (κ:=κ) (F:=F') (w:=w) e i5;rw[List.append_nil]at F6;have K7:=KB M ps bc;have j':=Sp M.bF f1 mP (ps:=iD (ps.map λp=>(p.1,a7 C.aN s.ay p.2))) (qs:=ps.map λp=>(p.1,a.eval p.2)) (by simp[iD]) K7 n 0 hT f2;have tI:=(Cl e (P:=C.P) i5).2;have K8:∀ p∈ps,p.1<n:=by
    intro p an;have:=List.all_eq_true.1 K6 (p.1,(use (a7 C.aN s.ay p.2)).2) (by simp only[iD,List.map_map,List.mem_map];grind);grind
   have K9:((ps.map λp=>(p.1,a.eval p.2)).map (·.1)).Nodup:=by
    have:(iD (ps.map λp=>(p.1,a7 C.aN s.ay p.2))).map (·.1)=(ps.map λp=>(p.1,a.eval p.2)).map (·.1):=by simp[iD]
    grind
   have SG:∀ q∈ps.map (λp=>(p.1,a.eval p.2)),q.2.cells.size=e.size/\q.1*e.size+e.size<=n*e.size:=by
    intro q bt;obtain⟨p,an,rfl⟩:=List.mem_map.1 bt;have cc:=K8 p an;refine⟨?_,by
     have:(p.1+1)*e.size<=n*e.size:=Nat.mul_le_mul_right _ (by omega);grind⟩
    obtain⟨bh,d1,d2⟩:=j'.2 p.1 (by omega);rw[Nat.zero_add]at d2;have va:(ps.map λp=>(p.1,a.eval p.2)).find? (λr=>r.1 == p.1)=some (p.1,a.eval p.2):=by
     have aeU:∀ (l:List (Nat×Value)),(l.map (·.1)).Nodup->∀ q∈l,l.find? (λr=>r.1 == q.1)=some q:=by
      intro l;induction l with
      | nil=>simp
      | cons c l aJ=>
       grind
     grind
    rw[va]at d2;have:=hP e d1;grind
   have K_:z.cells.size≠0:=by omega
   let base:Array Value:=(Array.range (n*e.size)).map (λi=>z.cells[i % z.cells.size]!);have axA:base.size=n*e.size:=by grind
   obtain⟨di,aO,aR,bO⟩:=K5 (place:=λi=>some (i*e.size,e.size)) (λi=>rfl) (ps.map λp=>(p.1,a.eval p.2)) base (by grind) K9;have axB:∀ i,i<n->(base.toList.drop (i*e.size)).take e.size=z.cells.toList:=by
    intro i G;have hle:(i+1)*e.size<=n*e.size:=Nat.mul_le_mul_right _ (by omega);rw[Nat.add_mul]at hle;apply List.ext_getElem?;intro j;simp only[List.getElem?_take,List.getElem?_drop];split
    ·rename_i aE;have fT:j<z.cells.size:=by omega
     rw[Array.getElem?_toList,Array.getElem?_toList];have zq:(i*e.size+j) % z.cells.size=j:=by rw[tI,Nat.add_comm,Nat.add_mul_mod_self_right,Nat.mod_eq_of_lt aE]
     grind
    grind
   have aeV:gr C.P e F' w di.toList xs:=by
    refine⟨by grind,λi G=>?_⟩;have dO:i<n:=by omega
    have hle:(i+1)*e.size<=n*e.size:=Nat.mul_le_mul_right _ (by omega);grind
   have c8:(execOp a.eval o).run C.P w=.ok (.value (.slice (some ⟨w.heap.size,0,none⟩) n n)) (w.alloc (.cells di jL)):=by
    have aeW:¬n*e.size > 2 ^ 24:=by omega
    simp only[execOp,af,Instr.buildSlice,Sem.run_bind,dD aE,Result.andThen_ok,r0 i1,i2,aeW,if_false];by_cases r':n*e.size=0
    ·have zz:base=#[]:=Array.eq_empty_of_size_eq_zero (by omega);rw[zz]at aO;simp only[r',if_true,Sem.run_bind,Sem.run_pure,Result.andThen_ok];rw[show ((Array.range 0).map (λi=>(#[]:Array Value)[i % (#[]:Array Value).size]!))=#[] from by simp];simp only[List.map_toArray]at aO ⊢;rw[show Instr.fill (λi=>some (i*e.size,e.size)) #[] (ps.map λx=>(x.1,a.eval x.2))=some di from aO];rfl
    ·simp only[r',if_false,Sem.run_bind,qR i1 i4,Result.andThen_ok,Sem.run_pure];simp only[List.map_toArray];rw[show Instr.fill (λi=>some (i*e.size,e.size)) ((Array.range (n*e.size)).map (λi=>z.cells[i % z.cells.size]!)) (ps.map λx=>(x.1,a.eval x.2))=some di from aO];rfl
   have mQ:s.ga ((jH bU).run s.aa++[(b,⟨(s.aa b).gen+1,.bg e xs⟩)])=(s.cz bU).cx b ⟨(s.aa b).gen+1,.bg e xs⟩:=by
    rw[Ck,tv]
   have pf:(s.cz bU).aa b=s.aa b:=by simp[aA.cz,p6]
   have ah:=bb.Cv (b:=b) (g:=(s.aa b).gen+1) (zs:=xs) (k:=⟨w.heap.size,0,n,false⟩) (w':=w.alloc (.cells di jL)) (by grind) (.inr rfl) (by simp) (λr M=>o8 w _ M) (λ_=>by simp) ⟨rfl,rfl,rfl⟩
    (λH κ'=>⟨λh=>(by cases h),λ_=>⟨di,jL,p0 w _,by grind,by grind,by
     have:n<=n*e.size:=Nat.le_mul_of_pos_right _ (Nat.pos_of_ne_zero oy);grind,(aeV.Ct (pre:=[]) (post:=[]) (by simp)).later (c7.alloc bb.dc _)⟩⟩)
   refine ht ar c8 ?_;simp only[aA.h7];rw[mQ];exact⟨_,F',bl.set ah bf ⟨⟨by simp[aA.cx],rfl⟩,λ_ _=>by simp[aA.cx,bD.slice,bQ.len,j'.1]⟩⟩
  grind
 ·cases h
theorem SH(nS:Nat):∀ (m:Nat) (l:List Value),l.length=m*nS->((List.range m).map λi=>(l.drop (i*nS)).take nS).flatten=l
 | 0,l,h=>by
  have:l=[]:=List.eq_nil_of_length_eq_zero (by omega);simp[this]
 | m+1,l,h=>by
  rw[Nat.add_mul]at h;have aJ:=SH nS m (l.take (m*nS)) (by grind);rw[List.range_succ,List.map_append,List.flatten_append];have e:((List.range m).map λi=>(l.drop (i*nS)).take nS)=((List.range m).map λi=>((l.take (m*nS)).drop (i*nS)).take nS):=by
   refine List.map_congr_left λi G=>?_;have hle:(i+1)*nS<=m*nS:=Nat.mul_le_mul_right _ (by have:=List.mem_range.1 G;omega);rw[Nat.add_mul]at hle;rw[List.drop_take,List.take_take,Nat.min_eq_left (by omega)]
  rw[e,aJ];have:(l.drop (m*nS)).take nS=l.drop (m*nS):=List.take_of_length_le (by grind);simp[this]
theorem aeX(aU:dT C.P T){ty m:Nat}{e:ad}{ps:Array (Nat×Operand)}(bf:∀ i,o.dst=some i->i<C.nt)(af:o.op=.build ty ps)(aH:T ty=.array m e)
  (h:((tq e (iD (ps.toList.map λp=>(p.1,a7 C.aN s.ay p.2))) 0 m).cQ λ(xs,bU)=>if (bU.isEmpty&&decide ((iD (ps.toList.map λp=>(p.1,a7 C.aN s.ay p.2))).map (·.1)).Nodup&&(iD (ps.toList.map λp=>(p.1,a7 C.aN s.ay p.2))).all (λp=>decide (p.1<m)))=true then bP (rY (ps.toList.map λp=>(p.1,a7 C.aN s.ay p.2))) True (.val (.array m e) xs) else .none).run s.aa=some res):cJ C o s res:=by
 obtain⟨ps⟩:=ps;simp only[aq.e4,Option.bind_eq_some_iff]at h;obtain⟨⟨xs,bU⟩,hT,h⟩:=h;have dr:=aU.cb aH (by simp);obtain⟨jL,aE,ja,oy⟩:=dr.bg;obtain⟨i,z,E,U,ah,a1,bK,dp⟩:=kq dr.kp;split at h
 ·rename_i hc;simp only[Bool.and_eq_true,decide_eq_true_eq,List.isEmpty_iff,List.all_eq_true]at hc;obtain⟨⟨rfl,tD⟩,K6⟩:=hc;simp only[bP,aq.bN,Option.some.injEq]at h;subst h;refine cJ.pure (by grind) bf λa w κ F M bc _=>?_;obtain⟨aeT,F6,mP,z2⟩:=uY (P:=C.P) (H:=s.aa) (κ:=κ) (F:=F) (w:=w) (.array m e) bK;rw[List.append_nil]at F6;have tI:=(Cl (.array m e) (P:=C.P) bK).2;have axC:z.cells.size=m*e.size:=tI;have K7:=KB M ps bc;have j':=λ(zero:List Value) (bk:bI C.P e F w zero e.dh)=>Sp M.bF (λ_ h=>h) bk (ps:=iD (ps.map λp=>(p.1,a7 C.aN s.ay p.2))) (qs:=ps.map λp=>(p.1,a.eval p.2)) (by simp[iD]) K7 m 0 hT (λ_ h=>by cases h);have K8:∀ p∈ps,p.1<m:=by
   intro p an;exact K6 (p.1,(use (a7 C.aN s.ay p.2)).2) (by simp only[iD,List.map_map,List.mem_map];grind)
  have K9:((ps.map λp=>(p.1,a.eval p.2)).map (·.1)).Nodup:=by
   have:(iD (ps.map λp=>(p.1,a7 C.aN s.ay p.2))).map (·.1)=(ps.map λp=>(p.1,a.eval p.2)).map (·.1):=by simp[iD]
   grind
  have jk:∀ i,i<m->bI C.P e F w ((z.cells.toList.drop (i*e.size)).take e.size) e.dh:=by
   intro i G;have aeY:bI C.P (.array m e) F w z.cells.toList (ad.array m e).dh:=by rw[F6];exact mP
   obtain⟨p,c,q,aO,aR,bO⟩:=Kv aeY G;have aj:=hP e bO;have:(ad.dh (.array m e)).getD i e.dh=e.dh:=by
    show (List.replicate m e.dh).getD i e.dh=e.dh;grind
   rw[this]at bO;have:(z.cells.toList.drop (i*e.size)).take e.size=c:=by
    rw[aO,<-aR];simp[aj]
   rw[this];exact bO
  have SI:xs.length=m:=by
   rcases Nat.eq_zero_or_pos m with aX | aX
   ·subst aX;simp only[tq,aq.bN,Option.some.injEq,Prod.mk.injEq]at hT;rw[<-hT.1];rfl
   ·exact (j' _ (jk 0 aX)).1
  have SG:∀ q∈ps.map (λp=>(p.1,a.eval p.2)),q.2.cells.size=e.size/\q.1*e.size+e.size<=z.cells.size:=by
   intro q bt;obtain⟨p,an,rfl⟩:=List.mem_map.1 bt;have cc:=K8 p an;refine⟨?_,by
    have:(p.1+1)*e.size<=m*e.size:=Nat.mul_le_mul_right _ (by omega);grind⟩
   obtain⟨bh,d1,d2⟩:=(j' _ (jk p.1 cc)).2 p.1 (by omega);rw[Nat.zero_add]at d2;have va:(ps.map λp=>(p.1,a.eval p.2)).find? (λr=>r.1 == p.1)=some (p.1,a.eval p.2):=by
    have aeU:∀ (l:List (Nat×Value)),(l.map (·.1)).Nodup->∀ q∈l,l.find? (λr=>r.1 == q.1)=some q:=by
     intro l;induction l with
     | nil=>simp
     | cons c l aJ=>
      grind
    grind
   rw[va]at d2;have:=hP e d1;grind
  obtain⟨di,aO,aR,bO⟩:=K5 (place:=λi=>some (i*e.size,e.size)) (λi=>rfl) (ps.map λp=>(p.1,a.eval p.2)) z.cells SG K9;refine⟨.agg di,?_,⟨di,rfl,by omega⟩,?_⟩
  ·simp only[execOp,af,Instr.build,Sem.run_bind,qR E a1,Result.andThen_ok,dD aE,ja.size];simp_all
  ·refine⟨(List.range m).map λi=>(di.toList.drop (i*e.size)).take e.size,(SH e.size m di.toList (by grind)).symm,by simp,SI,λi G dO=>?_⟩;simp only[List.getElem_map,List.getElem_range];have K3:i<m:=by omega
   have hle:(i+1)*e.size<=m*e.size:=Nat.mul_le_mul_right _ (by omega);rw[Nat.add_mul]at hle;obtain⟨bh,d1,d2⟩:=(j' _ (jk i K3)).2 i G;rw[Nat.zero_add]at d2;have:=bO i (by omega);have:(di.toList.drop (i*e.size)).take e.size=bh:=by
    rw[this];split at d2<;>simp_all
   rw[this];exact d1
 ·cases h
theorem fp.mono{P:Program}{t:ad}{F F':Nat->Prop}{w w':World}{aC:List Value}{x:t.ai}(h:fp P t F w aC x)(bn:∀ r,F r->F' r)(he:c7 F w w'):fp P t F' w' aC x:=⟨h.1,ff t bn he h.2⟩
theorem aeZ{k:FuncId}{c6:List Operand}(bf:∀ i,o.dst=some i->i<C.nt)(af:o.op=.makeFunc (.func k) #[] ⟨c6⟩){v:Fw}(ae:C.aN.tl k=some v)
  (h:((iY (gi (v.cs.map .bH)) ((c6.map (a7 C.aN s.ay)).map λv=>(use v).2)).cQ λ(y,bU)=>(jH bU).bind λwl=>.ret (some ⟨jI (c6.map (a7 C.aN s.ay)),True,.val (.fn (gi v.as) v.aV) (λx=>v.sh (Fv v.as (v.cs.map .bH) x y)),wl⟩):aq (Option eC)).run s.aa=some res):cJ C o s res:=by
 simp only[aq.e4,Option.bind_eq_some_iff,aq.run_bind,aq.bN,Option.some.injEq]at h;obtain⟨⟨y,l⟩,aS,rfl⟩:=h;intro a w κ F Q M bc _;obtain⟨F',f1,bb,f2⟩:=bl.lb (p8 _ aS) M;have dY:fp C.P (gi (v.cs.map .bH)) F' w (c6.map a.eval) y:=by
  refine u' M.bF f1 _ aS f2 (by simp) λi G dO=>?_;simp only[List.getElem_map];have dv:i<c6.length:=by grind
  have E:=r1 bc i (by grind);have ax:(c6.map (a7 C.aN s.ay)).getD i .undef=a7 C.aN s.ay c6[i]:=by grind
  rw[ax]at E;exact o' (j6 M c6[i]) E
 obtain⟨aD,xe⟩:=M.jF.tl k v ae;have c8:(execOp a.eval o).run C.P w=.ok (.value (.func (.func k) #[] (c6.map a.eval).toArray)) w:=by simp[execOp,af,Instr.makeFunc]
 refine ht (by grind) c8 ⟨κ,F',?_⟩;simp only[aA.h7];rw[tv];refine bl.set bb bf ((dV rfl).2 ⟨rfl,_,rfl,⟨rfl,rfl⟩,λek c_ zA xf tK xg args x E U ah=>⟨k,_,rfl,xe.enter,?_⟩⟩);have aE:=Rw v.as (v.cs.map .bH) aD (P:=C.P) (F:=ek) (w:=c_) ⟨E,U⟩ (dY.mono zA xf);have:=xe.iV ek c_ _ _ tK xg aE ah;have e:(args++c6.map a.eval).toArray=args.toArray++(c6.map a.eval).toArray:=by simp
 rw[e]at this;exact this.mono λe th ⟨v,y,ax,aM,⟨aC,cD,et,eb⟩,k8⟩=>⟨v,y,aC,ax,aM,cD,et,eb,k8⟩
theorem ae0{k:FuncId}{c6:List Operand}(bf:∀ i,o.dst=some i->i<C.nt)(af:o.op=.makeFunc (.func k) #[] ⟨c6⟩){v:wS}(ae:C.aN.wU k=some v)
  (h:((iY (gi (v.cs.map .bH)) ((c6.map (a7 C.aN s.ay)).map λv=>(use v).2)).cQ λ(y,bU)=>(jH bU).bind λwl=>.ret (some ⟨jI (c6.map (a7 C.aN s.ay)),True,.val (.ct v.aK) (v.S y),wl⟩):aq (Option eC)).run s.aa=some res):cJ C o s res:=by
 simp only[aq.e4,Option.bind_eq_some_iff,aq.run_bind,aq.bN,Option.some.injEq]at h;obtain⟨⟨y,l⟩,aS,rfl⟩:=h;intro a w κ F Q M bc _;obtain⟨F',f1,bb,f2⟩:=bl.lb (p8 _ aS) M;have dY:fp C.P (gi (v.cs.map .bH)) F' w (c6.map a.eval) y:=by
  refine u' M.bF f1 _ aS f2 (by simp) λi G dO=>?_;simp only[List.getElem_map];have dv:i<c6.length:=by grind
  have E:=r1 bc i (by grind);have ax:(c6.map (a7 C.aN s.ay)).getD i .undef=a7 C.aN s.ay c6[i]:=by grind
  rw[ax]at E;exact o' (j6 M c6[i]) E
 have xe:=M.jF.wU k v ae;have c8:(execOp a.eval o).run C.P w=.ok (.value (.func (.func k) #[] (c6.map a.eval).toArray)) w:=by simp[execOp,af,Instr.makeFunc]
 refine ht (by grind) c8 ⟨κ,F',?_⟩;simp only[aA.h7];rw[tv];refine bl.set bb bf ((dV rfl).2 ⟨rfl,_,rfl,⟨rfl,rfl⟩,λek c_ zA xf tK xg eP=>⟨k,_,rfl,xe.enter,λl I Y iG jr eB=>?_⟩⟩);exact xe.iV ek c_ _ _ tK xg (dY.mono zA xf) eP l I Y iG jr eB
theorem ae1{k:FuncId}{c6:Array Operand}(bf:∀ i,o.dst=some i->i<C.nt)(af:o.op=.makeFunc (.func k) #[] c6)(h:(bw C.aN T be (a7 C.aN s.ay) o).run s.aa=some res):cJ C o s res:=by
 obtain⟨c6⟩:=c6;simp only[bw,af,Array.isEmpty_empty,if_true]at h;split at h;case h_1 v ae=>exact aeZ bf af ae h
 split at h;case h_1 v ae=>exact ae0 bf af ae h
 simp only[bP,aq.bN,Option.some.injEq]at h;subst h;refine cJ.pure (by grind) bf λa w κ F M bc _=>?_;refine⟨.func (.func k) #[] (c6.map a.eval).toArray,by simp[execOp,af,Instr.makeFunc],c6.map a.eval,rfl,by simp,λi G=>?_⟩;have dO:i<c6.length:=by grind
 have E:(use ((c6.map (a7 C.aN s.ay)).getD i .undef)).1:=r1 bc i (by omega);have ax:(c6.map (a7 C.aN s.ay)).getD i .undef=a7 C.aN s.ay c6[i]:=by grind
 rw[ax]at E;have U:=o' (j6 M c6[i]) E;have aM:(c6.map a.eval).getD i Go.undef=a.eval c6[i]:=by grind
 have cD:hi ((c6.map (a7 C.aN s.ay)).map λv=>(use v).2) i=(use (a7 C.aN s.ay c6[i])).2:=by simp[hi,List.getD_eq_getElem?_getD,dO]
 grind
theorem ae2{k:FuncId}{first c6:Array Operand}(bf:∀ i,o.dst=some i->i<C.nt)(af:o.op=.makeFunc (.func k) first c6)(ao:first.isEmpty=false)(h:(bw C.aN T be (a7 C.aN s.ay) o).run s.aa=some res):cJ C o s res:=by
 obtain⟨first⟩:=first
 simp only[bw,af,ao,Bool.false_eq_true,if_false]at h;split at h
 ·rename_i hc;have hc:c6=#[]:=by grind
  subst hc;simp only[bP,aq.bN,Option.some.injEq]at h;subst h;refine cJ.pure (by grind) bf λa w κ F M bc _=>?_;refine⟨.func (.func k) (first.map a.eval).toArray #[],by simp[execOp,af,Instr.makeFunc],first.map a.eval,rfl,by simp,λi G=>?_⟩;have dO:i<first.length:=by omega
  have E:(use ((first.map (a7 C.aN s.ay)).getD i .undef)).1:=r1 bc i (by grind);have ax:(first.map (a7 C.aN s.ay)).getD i .undef=a7 C.aN s.ay first[i]:=by grind
  rw[ax]at E;have U:=o' (j6 M first[i]) E;have aM:(first.map a.eval).getD i Go.undef=a.eval first[i]:=by grind
  have cD:hi ((first.map (a7 C.aN s.ay)).map λv=>(use v).2) i=(use (a7 C.aN s.ay first[i])).2:=by simp[hi,List.getD_eq_getElem?_getD,dO]
  grind
 ·cases h
def lk(o:Oper)(nt:Nat):Bool:=
 (match o.dst with | some d=>decide (d<nt) | none=>true)&&(match o.op with | .store _ _ _=>o.dst.isNone | .mapUpdate _ _ _ _=>o.dst.isNone | .insert _ _ _ _=>o.dst.isNone | _=>true)
theorem xh(aU:dT C.P T)(cA:jn C.P be)(ar:lk o C.nt=true)(h:(bw C.aN T be (a7 C.aN s.ay) o).run s.aa=some res):cJ C o s res:=by
 simp only[lk,Bool.and_eq_true]at ar;have bf:∀ i,o.dst=some i->i<C.nt:=λi G=>by
  grind
 cases af:o.op with
 | move x=>exact adp bf af h
 | assign x=>exact adq bf af h
 | pick c a b=>exact adr bf af h
 | binOp op t x y cY=>exact adz aU bf af h
 | unOp op t x=>exact ads bf af h
 | extract t i=>exact adt bf af h
 | nilCheck x=>exact adu bf af h
 | fieldAddr t x f=>exact adv aU bf af h
 | field t x f=>exact adw aU bf af h
 | load t x=>exact adA aU bf af h
 | store t x y=>
  have:=ar.2;rw[af]at this;exact adT aU (by grind) af h
 | alloc t=>
  by_cases aH:T t=.cV
  ·simp only[bw,af,aH]at h;obtain⟨_,_,al⟩:=qT h;grind
  ·exact adK aU bf af h aH
 | box t x=>exact adM bf af h
 | build t ps=>
  by_cases FR:∀ m e,T t≠.array m e
  ·exact adR aU bf af FR h
  ·obtain⟨m,e,aH⟩:∃ m e,T t=.array m e:=by grind
   refine aeX aU bf af aH ?_;simpa only [bw,af,aH]using h
 | buildSlice t n ps=>exact aeS aU bf af h
 | indexAddr t x i=>exact adZ aU bf af h
 | index t x i=>exact adC aU bf af h
 | convert a b x=>exact aej aU bf af h
 | makeFunc fn first c6=>
  cases fn with
  | func k=>
   by_cases ao:first=#[]
   ·subst ao;exact ae1 bf af h
   ·exact ae2 bf af (by grind) h
  | _=>simp[bw,af,aq.none]at h
 | makeMap t r=>exact aet bf af h
 | lookup t m x ok=>exact aeu aU bf af h
 | mapUpdate t m x y=>
  have:=ar.2;rw[af]at this;exact KY aU (by grind) (.inl af) h
 | insert t m x y=>
  have:=ar.2;rw[af]at this;exact KY aU (by grind) (.inr af) h
 | makeSlice t l c=>exact aez aU bf af h
 | makeInterface t x=>exact SD (by simp[bw,af,bP]) h
 | panic x=>exact SD (by simp[bw,af,bP]) h
 | slice t x aY G o_=>
  cases o_ with
  | none=>exact ad1 aU bf af h
  | some m=>exact aeM aU bf af h
 | call c=>
  obtain⟨callee,args,dq⟩:=c;cases callee with
  | value f=>
   cases f with
   | func k=>exact aeo cA bf af h
   | _=>simp[bw,af,mK,aq.none]at h
  | invoke r m=>simp[bw,af,mK,aq.none]at h
  | builtin b=>
   cases b with
   | len=>exact adH aU bf af h
   | append=>
    cases aD:w2 (a7 C.aN s.ay) args.toList with
    | none=>exact aea aU bf af (by simpa [bw,af,mK,aD]using h)
    | some p=>exact aeQ aU bf af aD (by simpa [bw,af,mK,aD]using h)
   | clear=>exact aeR aU bf af (by simpa [bw,af,mK]using h)
   | copy=>exact aeH aU bf af h
   | min=>exact R2 (.inl ⟨rfl,rfl⟩) bf af (by simpa [bw,af,mK]using h)
   | max=>exact R2 (.inr ⟨rfl,rfl⟩) bf af (by simpa [bw,af,mK]using h)
   | cap=>exact adI aU bf af (by simpa [bw,af,mK]using h)
   | _=>simp[bw,af,mK,aq.none]at h
 | _=>simp[bw,af,aq.none]at h
end
end Go.Fer
namespace Go.Fer
open Go.RowKit
def aq.cX{ak:Type}(p:ak->Prop):aq ak->Prop
 | .ret a=>p a
 | .eT _ k=>∀ x,(k x).cX p
theorem K'{aI:Operand->aG}{k:IntKind}:∀ (l:List Operand) {ca:Prop} {h6:z1'},(∀ x∈l,(use (aI x)).1)->mJ aI k l=some (ca,h6)->ca
 | [],_,_,_,h=>by cases h
 | [x],ca,h6,hu,h=>by
  simp only[mJ]at h;split at h
  ·split at h
   ·cases h;exact hu x (by simp)
   ·cases h
  ·cases h
 | x::y::l,ca,h6,hu,h=>by
  simp only[mJ]at h;split at h
  ·rename_i aj;split at h
   ·cases h;exact⟨hu x (by simp),K' (y::l) (λz bk=>hu z (List.mem_cons_of_mem _ bk)) aj⟩
   ·cases h
  ·cases h
theorem aq.cX.run{ak:Type}{p:ak->Prop}{m:aq ak}(h:m.cX p)(H:Nat->bJ):p (m.run H):=by
 induction m with
 | ret a=>exact h
 | eT b k aJ=>exact aJ _ (h _)
theorem aq.cX.bind{ak β:Type}{p:β->Prop}{m:aq ak}{f:ak->aq β}(h:∀ a,(f a).cX p):(m.bind f).cX p:=by
 induction m with
 | ret a=>exact h a
 | eT b k aJ=>exact λx=>aJ x
def ll{ak:Type}(p:ak->Prop)(x:Option ak):Prop:=∀ a,x=some a->p a
theorem aq.cX.cQ{ak β:Type}{p:β->Prop}{m:aq (Option ak)}{f:ak->aq (Option β)}(h:∀ a,(f a).cX (ll p)):(m.cQ f).cX (ll p):=by
 refine aq.cX.bind λa=>?_;cases a with
 | none=>intro a h;cases h
 | some a=>grind
theorem aq.cX.SJ{ak β:Type}{q:ak->Prop}{p:β->Prop}{m:aq (Option ak)}{f:ak->aq (Option β)}(hm:m.cX (ll q))(h:∀ a,q a->(f a).cX (ll p)):(m.cQ f).cX (ll p):=by
 unfold aq.cQ;induction m with
 | ret a=>
  cases a with
  | none=>intro b W;cases W
  | some a=>exact h a (hm a rfl)
 | eT b k aJ=>exact λx=>aJ x (hm x)
theorem aq.cX.bY{ak:Type}{p:ak->Prop}:(aq.none:aq (Option ak)).cX (ll p):=by intro a h;cases h
theorem aq.cX.mW{ak:Type}{p:ak->Prop}{a:ak}(h:p a):(aq.ret (some a)).cX (ll p):=by intro b W;grind
theorem aq.cX.nil{ak:Type}{p:ak->Prop}:(aq.ret (Option.none:Option ak)).cX (ll p):=by intro b W;cases W
theorem aq.cX.bP{p:eC->Prop}{ca c:Prop}{v:aG}(h:p ⟨ca,c,v,[]⟩):(bP ca c v).cX (ll p):=aq.cX.mW h
theorem aq.cX.h5{p:eC->Prop}{d:Option Nat}{k:Nat->Nat->Option eC}(h:∀ b g,ll p (k b g)):(h5 d k).cX (ll p):=by
 unfold Go.Fer.h5;split
 ·exact .bY
 ·exact λx=>h _ _
def aG.zB:aG->Bool
 | .hC _ _=>true
 | _=>false
theorem F7{a:aG}(h:a.zB=false):(use a).1:=by
 cases a<;>first | trivial | cases h
def sa(aI:Operand->aG)(o:Oper):Bool:=o.op.operands.toList.all λx=>!(aI x).zB
def aG.ae3:aG->Bool
 | .fG _ _=>false
 | .val (.map _ _) _=>false
 | _=>true
def F8(aI:Operand->aG)(b:Builtin)(args:List Operand):Bool:=
 match b with
 | .len=>match args with
  | [x]=>(use (aI x)).2.ae3
  | _=>false
 | .min=>true
 | .max=>true
 | _=>false
def aG.SK:aG->Bool
 | .iW ..=>true
 | _=>false
def mX(aI:Operand->aG)(o:Oper):Bool:=
 match o.op with
 | .move _ | .assign _ | .pick .. | .unOp .. | .extract .. | .fieldAddr .. | .field .. | .alloc .. | .box .. | .build .. | .buildSlice .. | .convert .. | .makeFunc .. | .makeMap .. | .lookup .. | .mapUpdate .. | .insert ..=>true
 | .load _ x=>!(use (aI x)).2.SK
 | .store _ x _=>!(use (aI x)).2.SK
 | .binOp op _ x _ _=>match op with
  | .quo | .rem | .shl | .shr=>false
  | .add=>(use (aI x)).2.me.isSome
  | _=>true
 | .call c=>match c.callee with
  | .builtin b=>F8 aI b c.args.toList
  | _=>false
 | _=>false
theorem ae4{op:BinOp}{k:IntKind}{a b:Int}{c:Prop}{v:aG}(h:y7 op k a b=some (c,v))(E:op≠.quo)(U:op≠.rem):c:=by
 cases op<;>simp only[y7,Option.some.injEq,Prod.mk.injEq,reduceCtorEq]at h<;>first | (obtain⟨rfl,_⟩:=h;trivial) | contradiction
theorem ae5{op:BinOp}{a b:List UInt8}{c:Prop}{v:aG}(h:B6 op a b=some (c,v))(E:op≠.add):c:=by
 cases op<;>simp only[B6,Option.some.injEq,Prod.mk.injEq,reduceCtorEq]at h<;>first | (obtain⟨rfl,_⟩:=h;trivial) | contradiction
theorem ae6{op:BinOp}{t:ad}{x y:aG}:(y8 op t x y).cX (ll λr=>r.1):=by
 unfold y8;refine aq.cX.cQ λe=>?_;cases op<;>first | exact .mW trivial | exact .nil
section
variable {aP:dG} {T:Nat->ad} {be:Nat->Option aL} {aI:Operand->aG} {o:Oper}
theorem ae7{op:BinOp}{ty:TypeId}{x y:Operand}{t:TypeId}(af:o.op=.binOp op ty x y t)(hc:mX aI o=true):(bw aP T be aI o).cX (ll λr=>r.c):=by
 unfold bw;rw[af];simp only;simp only[mX,af]at hc;split
 ·rename_i k a k' b E U;split
  ·cases hc
  ·cases hc
  ·split
   ·split
    ·rename_i c v G;refine .bP (ae4 G ?_ ?_)<;>(grind)
    ·exact .bY
   ·exact .bY
 ·rename_i pg;split
  ·rename_i a b E U;split
   ·rename_i c v G;refine .bP (ae5 G ?_);intro e;subst e;simp only at hc;generalize (use (aI x)).2=z at hc E;cases z<;>try (cases E;done)
    rename_i t d;cases t<;>first | (cases E;done) | (cases hc;done)
   ·exact .bY
  ·exact aq.cX.SJ ae6 λr M=>.bP M
theorem La{p:eC->Prop}{ty:TypeId}{m x y:Operand}(h:∀ wl,p ⟨(use (aI m)).1/\(use (aI x)).1/\(use (aI y)).1,True,.undef,wl⟩):(qQ T aI ty m x y).cX (ll p):=by
 unfold qQ;split
 ·simp only;split
  ·split
   ·refine aq.cX.cQ λ_=>aq.cX.cQ λ_=>aq.cX.bind λ_=>λz=>?_;intro r M;split at M
    ·split at M
     ·simp only[Option.map_eq_some_iff]at M;grind
     grind
    grind
   ·exact .bY
  ·exact .bY
 ·exact .bY
theorem SL{ty:TypeId}{m x y:Operand}:(qQ T aI ty m x y).cX (ll λr=>r.c):=La λ_=>trivial
theorem zC(hc:mX aI o=true):(bw aP T be aI o).cX (ll λr=>r.c):=by
 cases af:o.op with
 | binOp op ty x y t=>exact ae7 af hc
 | move x=>unfold bw;rw[af];exact .bP trivial
 | assign x=>
  unfold bw;rw[af];simp only;split
  ·exact .h5 λb g=>λr M=>by grind
  ·exact .bP trivial
 | pick c a b=>
  unfold bw;rw[af];simp only;split
  ·split
   ·split
    ·exact .bP trivial
    ·exact .bY
   ·split
    ·exact .bP trivial
    ·exact .bY
   ·exact .bY
  ·exact .bY
 | unOp op t x=>
  unfold bw;rw[af];simp only;split
  ·exact .bP trivial
  ·exact .bP trivial
  ·exact .bY
 | extract x i=>
  unfold bw;rw[af];simp only;split
  ·split
   ·exact .bP trivial
   ·exact .bY
  ·exact .bY
 | fieldAddr ty x f=>
  unfold bw;rw[af];simp only;repeat' first | exact .bY | exact .bP trivial | split
  all_goals first
   | (intro z;intro r M;grind)
 | field ty x f=>
  unfold bw;rw[af];simp only;repeat' first | exact .bY | exact .bP trivial | split
 | load ty x=>
  simp only[mX,af]at hc;unfold bw;rw[af];simp only;split
  ·rename_i ag;rw[ag]at hc;cases hc
  ·exact aq.cX.cQ λ_=>.bP trivial
 | store ty x y=>
  simp only[mX,af]at hc;unfold bw;rw[af];simp only;split
  ·rename_i ag;rw[ag]at hc;cases hc
  ·exact aq.cX.cQ λ_=>.mW trivial
 | alloc ty=>
  unfold bw;rw[af];simp only;exact .h5 λb g=>λr M=>by grind
 | box ty x=>
  unfold bw;rw[af];simp only;split
  ·exact .h5 λb g=>λr M=>by grind
  ·exact .bY
 | build ty ps=>
  unfold bw;rw[af];simp only;repeat' first | exact .bY | exact .bP trivial | refine aq.cX.cQ λ_=>?_ | split
 | buildSlice ty n ps=>
  unfold bw;rw[af];simp only;split
  ·refine aq.cX.cQ λ_=>aq.cX.bind λ_=>.h5 λb g=>λr M=>by grind
  ·exact .bY
 | convert a b x=>
  unfold bw;rw[af];simp only;repeat' first | exact .bY | exact .bP trivial | exact aq.cX.cQ λ_=>.bP trivial | split
 | makeFunc fn first c6=>
  unfold bw;rw[af];simp only;split
  ·split
   ·split
    ·exact aq.cX.cQ λ_=>aq.cX.bind λ_=>.mW trivial
    ·split
     ·exact aq.cX.cQ λ_=>aq.cX.bind λ_=>.mW trivial
     ·exact .bP trivial
   ·split
    ·exact .bP trivial
    ·exact .bY
  ·exact .bY
 | makeMap ty r=>
  unfold bw;rw[af];simp only;split
  ·exact .bY
  ·split
   ·exact .h5 λb g=>λr M=>by grind
   ·exact .bY
 | lookup ty m x ok=>
  unfold bw;rw[af];simp only;unfold y';split
  ·simp only;split
   ·exact aq.cX.cQ λ_=>aq.cX.cQ λ_=>.bP trivial
   ·exact .bY
  ·exact .bY
 | mapUpdate ty m x y=>
  unfold bw;rw[af];exact SL
 | insert ty m x y=>
  unfold bw;rw[af];exact SL
 | call c=>
  obtain⟨callee,args,dq⟩:=c;simp only[mX,af]at hc;unfold bw;rw[af];simp only;unfold mK;cases callee with
  | builtin b=>
   simp only at hc ⊢;cases b with
   | len=>
    simp only[B8];split
    ·rename_i x t ax aM;simp only[F8,ax]at hc;generalize use (aI x)=u at hc;obtain⟨cB,dZ⟩:=u;simp only at hc ⊢;refine aq.cX.SJ (q:=λr:Prop×Int=>r.1) ?_ λr M=>.bP M;generalize T t=ty;cases ty<;>simp only[FA]<;>first | exact .bY | skip
     ·cases dZ<;>first | exact .bY | skip
      ·rename_i cY d;cases cY<;>first | exact .bY | exact .mW trivial
     ·cases dZ<;>first | exact .bY | exact .mW trivial | skip
      ·rename_i cY d;cases cY<;>first | exact .bY | exact .mW trivial
      ·intro z r M;grind
      ·intro z r M;grind
     ·cases dZ<;>first | exact .bY | (cases hc;done) | skip
      ·rename_i cY d;cases cY<;>first | exact .bY | cases hc
    ·exact .bY
   | min=>
    simp only[rZ];repeat' first | exact .bP trivial | exact .bY | split
   | max=>
    simp only[rZ];repeat' first | exact .bP trivial | exact .bY | split
   | _=>simp[F8]at hc
  | _=>cases hc
 | _=>simp[mX,af]at hc
theorem CG:∀ {l:List aG},(∀ v∈l,(use v).1)->jI l
 | [],_=>trivial
 | v::l,h=>by
  have E:=h v (by simp);have U:=CG (l:=l) λu hu=>h u (by grind);cases v<;>first | exact U | exact⟨E,U⟩
theorem Lb:∀ {l:List (Nat×aG)},(∀ v∈l,(use v.2).1)->rY l
 | [],_=>trivial
 | (i,v)::l,h=>by
  have E:=h (i,v) (by simp);have U:=Lb (l:=l) λu hu=>h u (by grind);cases v<;>first | exact U | exact⟨E,U⟩
theorem CH{x:Option Operand}{p:Prop}{n:Option Int}(h:k_ aI x=some (p,n))(ag:∀ y,x=some y->(use (aI y)).1):p:=by
 unfold k_ at h;grind
def q0(aI:Operand->aG)(o:Oper):Prop:=∀ x∈o.op.operands.toList,(use (aI x)).1
theorem Lc{aI:Operand->aG}{o:Oper}(h:sa aI o=true):q0 aI o:=λx ag=>F7 (by simpa using List.all_eq_true.1 h x ag)
theorem q0.use{aI:Operand->aG}{o:Oper}(h:q0 aI o){x:Operand}(ag:x∈o.op.operands.toList){ca:Prop}{v:aG}(hu:use (aI x)=(ca,v)):ca:=by
 have:=h x ag;grind
theorem SM(fB:q0 aI o):(bw aP T be aI o).cX (ll λr=>r.ca):=by
 unfold q0 at fB;have ao:∀ x∈o.op.operands.toList,(use (aI x)).1:=fB;have hu:∀ x∈o.op.operands.toList,∀ {ca:Prop} {v:aG},use (aI x)=(ca,v)->ca:=λx ag ca v h=>q0.use fB ag h;cases af:o.op with
 | move x=>unfold bw;rw[af];exact .bP trivial
 | assign x=>
  unfold bw;rw[af];simp only;split
  ·exact .h5 λb g=>λr M=>by grind
  ·exact .bP trivial
 | pick c a b=>
  rw[af]at hu;unfold bw;rw[af];simp only;split
  ·rename_i p3 i_ lS;have E:=hu c (by simp[Op.operands]) lS;split
   ·split
    ·rename_i za av a8;exact .bP ⟨E,λ_=>hu a (by simp[Op.operands]) a8⟩
    ·exact .bY
   ·split
    ·rename_i za av a8;exact .bP ⟨E,λ_=>hu b (by simp[Op.operands]) a8⟩
    ·exact .bY
   ·exact .bY
  ·exact .bY
 | binOp op ty x y t=>
  rw[af]at fB;have h:=And.intro (fB x (by simp[Op.operands])) (fB y (by simp[Op.operands]));unfold bw;rw[af];simp only;split
  ·split
   ·split
    ·exact .bP h
    ·exact .bY
   ·split
    ·exact .bP h
    ·exact .bY
   ·split
    ·split
     ·exact .bP h
     ·exact .bY
    ·exact .bY
  ·split
   ·split
    ·exact .bP h
    ·exact .bY
   ·exact aq.cX.cQ λ_=>.bP h
 | unOp op t x=>
  rw[af]at hu;unfold bw;rw[af];simp only;split
  ·rename_i ag;exact .bP (hu x (by simp[Op.operands]) ag)
  ·rename_i ag;exact .bP (hu x (by simp[Op.operands]) ag)
  ·exact .bY
 | extract x i=>
  rw[af]at hu;unfold bw;rw[af];simp only;split
  ·rename_i ag;split
   ·exact .bP (hu x (by simp[Op.operands]) ag)
   ·exact .bY
  ·exact .bY
 | nilCheck x=>
  rw[af]at hu;unfold bw;rw[af];simp only;split
  ·rename_i ag;intro z r M;split at M<;>cases M;exact hu x (by simp[Op.operands]) ag
  ·rename_i ag;exact .bP (hu x (by simp[Op.operands]) ag)
  ·rename_i ag;exact .bP (hu x (by simp[Op.operands]) ag)
  ·rename_i ag;intro z r M;split at M<;>cases M;exact hu x (by simp[Op.operands]) ag
  ·exact .bY
 | fieldAddr ty x f=>
  rw[af]at hu;unfold bw;rw[af];simp only;split
  ·split
   ·split
    ·rename_i ag;intro z r M;split at M<;>cases M;exact hu x (by simp[Op.operands]) ag
    ·rename_i ag;intro z r M;split at M<;>cases M;exact hu x (by simp[Op.operands]) ag
    ·rename_i ag;intro z r M;split at M<;>cases M;exact hu x (by simp[Op.operands]) ag
    ·rename_i ag;split
     ·split
      ·exact .bP (hu x (by simp[Op.operands]) ag)
      ·exact .bY
     ·exact .bY
    ·exact .bY
   ·exact .bY
  ·exact .bY
 | field ty x f=>
  rw[af]at hu;unfold bw;rw[af];simp only;split
  ·split
   ·rename_i ag;split
    ·split
     ·exact .bP (hu x (by simp[Op.operands]) ag)
     ·exact .bY
    ·exact .bY
   ·exact .bY
  ·exact .bY
 | load ty x=>
  rw[af]at hu;unfold bw;rw[af];simp only;split
  ·rename_i ag;have h:=hu x (by simp[Op.operands]) ag;intro z r M;repeat' split at M
   all_goals first | (cases M;exact h) | cases M
  ·rename_i ag;exact aq.cX.cQ λ_=>.bP (hu x (by simp[Op.operands]) ag)
 | store ty x y=>
  rw[af]at hu fB;unfold bw;rw[af];simp only;split
  ·rename_i ag;have h:=hu x (by simp[Op.operands]) ag;have dw:=fB y (by simp[Op.operands]);unfold Kl;split
   ·intro z r M;repeat' split at M
    all_goals first | (cases M;exact⟨h,dw⟩) | cases M
   ·exact .bY
  ·rename_i ag;exact aq.cX.cQ λ_=>.mW ⟨hu x (by simp[Op.operands]) ag,fB y (by simp[Op.operands])⟩
 | alloc ty=>
  unfold bw;rw[af];simp only;exact .h5 λb g=>λr M=>by grind
 | box ty x=>
  rw[af]at fB;unfold bw;rw[af];simp only;split
  ·exact .h5 λb g=>λr M=>by split at M<;>cases M;exact fB x (by simp[Op.operands])
  ·exact .bY
 | build ty ps=>
  rw[af]at ao;have h:rY (ps.toList.map λp=>(p.1,aI p.2)):=Lb λv ae=>by
   simp only[List.mem_map]at ae;obtain⟨p,an,rfl⟩:=ae;exact ao p.2 (by simp only[Op.operands,List.mem_map];grind)
  unfold bw;rw[af];simp only;repeat' first | exact .bY | exact .bP h | refine aq.cX.cQ λ_=>?_ | split
 | buildSlice ty n ps=>
  rw[af]at ao;have h:rY (ps.toList.map λp=>(p.1,aI p.2)):=Lb λv ae=>by
   simp only[List.mem_map]at ae;obtain⟨p,an,rfl⟩:=ae;exact ao p.2 (by simp only[Op.operands,List.mem_map];grind)
  unfold bw;rw[af];simp only;split
  ·refine aq.cX.cQ λ_=>aq.cX.bind λ_=>.h5 λb g=>λr M=>by grind
  ·exact .bY
 | indexAddr ty x i=>
  rw[af]at fB;have h:=And.intro (fB x (by simp[Op.operands])) (fB i (by simp[Op.operands]));unfold bw;rw[af];simp only;split
  ·exact aq.cX.cQ λ_=>.bP h
  ·split
   ·split
    ·exact .bP h
    ·exact .bY
   ·intro z r M;grind
   ·exact .bY
  ·exact .bY
 | index ty x i=>
  rw[af]at fB;have h:=And.intro (fB x (by simp[Op.operands])) (fB i (by simp[Op.operands]));unfold bw;rw[af];simp only;split
  ·exact .bP h
  ·split
   ·split
    ·exact .bP h
    ·exact .bY
   ·split
    ·exact .bP h
    ·exact .bY
   ·exact .bY
  ·exact .bY
 | convert a b x=>
  rw[af]at fB;unfold bw;rw[af];simp only;split
  ·exact .bP (fB x (by simp[Op.operands]))
  ·exact aq.cX.cQ λ_=>.bP (fB x (by simp[Op.operands]))
  ·exact .bY
 | makeFunc fn first c6=>
  rw[af]at ao;have h:jI (c6.toList.map aI):=CG λv ae=>by
   simp only[List.mem_map]at ae;obtain⟨p,an,rfl⟩:=ae;exact ao p (by simp[Op.operands];simp_all)
  have U:jI (first.toList.map aI):=CG λv ae=>by
   simp only[List.mem_map]at ae;obtain⟨p,an,rfl⟩:=ae;exact ao p (by simp[Op.operands];simp_all)
  unfold bw;rw[af];simp only;split
  ·split
   ·split
    ·exact aq.cX.cQ λ_=>aq.cX.bind λ_=>.mW h
    ·split
     ·exact aq.cX.cQ λ_=>aq.cX.bind λ_=>.mW h
     ·exact .bP h
   ·split
    ·exact .bP U
    ·exact .bY
  ·exact .bY
 | slice ty x aY G o_=>
  rw[af]at ao fB;unfold bw;rw[af];simp only;split
  ·unfold FD;simp only;split
   ·rename_i ol l qP h uZ m aj cW hm;have bc:=And.intro (fB x (by simp[Op.operands])) (And.intro (CH aj λy aS=>ao y (by subst aS;simp[Op.operands])) (And.intro (CH cW λy aS=>ao y (by subst aS;simp[Op.operands])) (CH hm λy aS=>ao y (by subst aS;simp[Op.operands]))));split
    ·exact aq.cX.cQ λ_=>.mW bc
    ·exact .bY
   ·exact .bY
  ·unfold FC;simp only;split
   ·rename_i ol l qP h aj cW;have bc:=And.intro (fB x (by simp[Op.operands])) (And.intro (CH aj λy aS=>ao y (by subst aS;simp[Op.operands])) (CH cW λy aS=>ao y (by subst aS;simp[Op.operands])));split
    ·exact aq.cX.cQ λ_=>.mW bc
    ·split
     ·exact .bP bc
     ·exact .bY
    ·exact .bY
   ·exact .bY
 | call c=>
  rw[af]at ao fB;obtain⟨callee,args,dq⟩:=c;have dY:∀ x∈args.toList,(use (aI x)).1:=λx ag=>ao x (by simp[Op.operands,Call.operands];simp_all);have ph:∀ x∈args.toList,(use (aI x)).1:=dY;have fR:jI (args.toList.map aI):=CG λv ae=>by
   grind
  unfold bw;rw[af];simp only;unfold mK;simp only;split
  ·split
   ·unfold B8;split
    ·rename_i x t ax aM;exact aq.cX.cQ λ_=>.bP (ph x (by grind))
    ·exact .bY
   ·split
    ·unfold Cb;split
     ·rename_i x y t u ax aM;have h:=And.intro (ph x (by grind)) (ph y (by grind));split
      ·simp only;refine aq.cX.cQ λ_=>λz=>?_;intro r M;grind
      ·exact .bY
     ·exact .bY
    unfold B9;split
    ·rename_i x y t u ax aM;have h:=And.intro (ph x (by grind)) (ph y (by grind));split
     ·simp only;unfold Kj;split
      ·intro z;dsimp only;split
       ·split
        ·exact aq.cX.cQ λ_=>.mW h
        ·exact .bY
       ·exact .bY
      ·intro z;dsimp only;split
       ·split
        ·exact aq.cX.cQ λ_=>.mW h
        ·exact .bY
       ·exact .bY
      ·exact aq.cX.cQ λ_=>.h5 λb g=>λr M=>by grind
      ·split
       ·exact aq.cX.cQ λ_=>.h5 λb g=>λr M=>by grind
       ·exact .bY
      ·exact .bY
     ·exact .bY
    ·exact .bY
   ·unfold Cc;split
    ·rename_i x t ax aM;have h:=ph x (by grind);split
     ·simp only;split
      ·intro z;intro r M;grind
      ·exact .bY
     ·exact .bY
    ·exact .bY
   ·unfold FG;split
    ·rename_i x y t u ax aM;have h:=And.intro (ph x (by grind)) (ph y (by grind));split
     ·simp only;split
      ·refine aq.cX.cQ λ_=>λz=>?_;intro r M;grind
      ·exact .bY
     ·exact .bY
    ·exact .bY
   ·unfold rZ;split
    ·rename_i x y l ax;split
     ·split
      ·rename_i aj;exact .bP ⟨ph x (by grind),K' (y::l) (λp an=>ph p (by rw[ax];exact List.mem_cons_of_mem _ an)) aj⟩
      ·exact .bY
     ·exact .bY
    ·exact .bY
   ·unfold rZ;split
    ·rename_i x y l ax;split
     ·split
      ·rename_i aj;exact .bP ⟨ph x (by grind),K' (y::l) (λp an=>ph p (by rw[ax];exact List.mem_cons_of_mem _ an)) aj⟩
      ·exact .bY
     ·exact .bY
    ·exact .bY
   ·unfold B_;split
    ·rename_i x t ax aM;have h:=ph x (by grind);split
     ·rename_i cD;exact .bP (by grind)
     ·exact .bY
    ·exact .bY
   ·exact .bY
  ·split
   ·unfold FE;simp only;split
    ·refine aq.cX.cQ λ_=>?_;split
     ·refine aq.cX.bind λ_=>.h5 λb g=>λr M=>?_;split at M
      ·cases M
      ·cases M;exact fR
     ·exact aq.cX.bind λ_=>.mW fR
    ·exact .bY
   ·exact .bY
  ·exact .bY
 | makeMap ty r=>
  unfold bw;rw[af];simp only;split
  ·exact .bY
  ·split
   ·exact .h5 λb g=>λr M=>by grind
   ·exact .bY
 | lookup ty m x ok=>
  rw[af]at fB;have h:=And.intro (fB m (by simp[Op.operands])) (fB x (by simp[Op.operands]));unfold bw;rw[af];simp only;unfold y';split
  ·simp only;split
   ·exact aq.cX.cQ λ_=>aq.cX.cQ λ_=>.bP h
   ·exact .bY
  ·exact .bY
 | mapUpdate ty m x y=>
  rw[af]at fB;unfold bw;rw[af];exact La λ_=>⟨fB m (by simp[Op.operands]),fB x (by simp[Op.operands]),fB y (by simp[Op.operands])⟩
 | insert ty m x y=>
  rw[af]at fB;unfold bw;rw[af];exact La λ_=>⟨fB m (by simp[Op.operands]),fB x (by simp[Op.operands]),fB y (by simp[Op.operands])⟩
 | makeSlice ty l c=>
  rw[af]at fB;have h:=And.intro (fB l (by simp[Op.operands])) (fB c (by simp[Op.operands]));unfold bw;rw[af];simp only;unfold FF;split
  ·simp only;split
   ·exact .h5 λb g=>λr M=>by grind
   ·exact .bY
  ·exact .bY
 | makeInterface t x=>unfold bw;rw[af];exact .bP trivial
 | panic x=>unfold bw;rw[af];exact .bP trivial
 | _=>unfold bw;rw[af];exact .bY
theorem SN(hc:sa aI o=true):(bw aP T be aI o).cX (ll λr=>r.ca):=SM (Lc hc)
end
end Go.Fer
namespace Go.Fer
open Go.RowKit
theorem Ld{aI js:Operand->aG}{k:IntKind}:∀ (l:List Operand),(∀ x∈l,aI x=js x)->mJ aI k l=mJ js k l
 | [],_=>rfl
 | [x],h=>by simp only[mJ,h x (by simp)]
 | x::y::l,h=>by simp only[mJ,h x (by simp),Ld (y::l) λz bk=>h z (List.mem_cons_of_mem _ bk)]
section
variable {aP:dG} {T:Nat->ad} {be:Nat->Option aL} {aI js:Operand->aG} {o:Oper}
theorem Le{x:Option Operand}(h:∀ y,x=some y->aI y=js y):k_ aI x=k_ js x:=by
 cases x with
 | none=>rfl
 | some y=>have:=h y rfl;unfold k_;grind
theorem ae8(h:∀ x∈o.op.operands.toList,aI x=js x):bw aP T be aI o=bw aP T be js o:=by
 cases af:o.op with
 | move x=>rw[af]at h;have E:=h x (by simp[Op.operands]);unfold bw;simp_all
 | assign x=>rw[af]at h;have E:=h x (by simp[Op.operands]);unfold bw;simp_all
 | pick c a b=>
  rw[af]at h;have E:=h c (by simp[Op.operands]);have U:=h a (by simp[Op.operands]);have ah:=h b (by simp[Op.operands]);unfold bw;simp_all
 | binOp op ty x y t=>
  rw[af]at h;have E:=h x (by simp[Op.operands]);have U:=h y (by simp[Op.operands]);unfold bw;simp_all
 | unOp op t x=>rw[af]at h;have E:=h x (by simp[Op.operands]);unfold bw;simp_all
 | extract x i=>rw[af]at h;have E:=h x (by simp[Op.operands]);unfold bw;simp_all
 | nilCheck x=>rw[af]at h;have E:=h x (by simp[Op.operands]);unfold bw;simp_all
 | fieldAddr ty x f=>rw[af]at h;have E:=h x (by simp[Op.operands]);unfold bw;simp_all
 | field ty x f=>rw[af]at h;have E:=h x (by simp[Op.operands]);unfold bw;simp_all
 | load ty x=>rw[af]at h;have E:=h x (by simp[Op.operands]);unfold bw;simp_all
 | store ty x y=>
  rw[af]at h;have E:=h x (by simp[Op.operands]);have U:=h y (by simp[Op.operands]);unfold bw;simp_all
 | alloc ty=>unfold bw;rw[af]
 | box ty x=>rw[af]at h;have E:=h x (by simp[Op.operands]);unfold bw;simp_all
 | build ty ps=>
  rw[af]at h;have E:ps.toList.map (λp=>(p.1,aI p.2))=ps.toList.map (λp=>(p.1,js p.2)):=List.map_congr_left λp an=>by rw[h p.2 (by simp only[Op.operands,List.mem_map];grind)]
  unfold bw;rw[af];simp only[E]
 | buildSlice ty n ps=>
  rw[af]at h;have E:ps.toList.map (λp=>(p.1,aI p.2))=ps.toList.map (λp=>(p.1,js p.2)):=List.map_congr_left λp an=>by rw[h p.2 (by simp only[Op.operands,List.mem_map];grind)]
  unfold bw;rw[af];simp only[E]
 | indexAddr ty x i=>
  rw[af]at h;have E:=h x (by simp[Op.operands]);have U:=h i (by simp[Op.operands]);unfold bw;simp_all
 | index ty x i=>
  rw[af]at h;have E:=h x (by simp[Op.operands]);have U:=h i (by simp[Op.operands]);unfold bw;simp_all
 | convert a b x=>rw[af]at h;have E:=h x (by simp[Op.operands]);unfold bw;simp_all
 | makeFunc fn first c6=>
  rw[af]at h;have E:c6.toList.map aI=c6.toList.map js:=List.map_congr_left λp an=>h p (by simp[Op.operands];simp_all);have U:first.toList.map aI=first.toList.map js:=List.map_congr_left λp an=>h p (by simp[Op.operands];simp_all)
  unfold bw;rw[af];simp only[E,U]
 | lookup ty m x ok=>
  rw[af]at h;have E:=h m (by simp[Op.operands]);have U:=h x (by simp[Op.operands]);unfold bw;rw[af];simp only[y',E,U]
 | mapUpdate ty m x y=>
  rw[af]at h;have E:=h m (by simp[Op.operands]);have U:=h x (by simp[Op.operands]);have ah:=h y (by simp[Op.operands]);unfold bw;rw[af];simp only[qQ,E,U,ah]
 | insert ty m x y=>
  rw[af]at h;have E:=h m (by simp[Op.operands]);have U:=h x (by simp[Op.operands]);have ah:=h y (by simp[Op.operands]);unfold bw;rw[af];simp only[qQ,E,U,ah]
 | makeSlice ty l c=>
  rw[af]at h;have E:=h l (by simp[Op.operands]);have U:=h c (by simp[Op.operands]);unfold bw;rw[af];simp only[FF,E,U]
 | slice ty x aY G o_=>
  rw[af]at h;have E:=h x (by simp[Op.operands]);have U:k_ aI aY=k_ js aY:=Le λy aS=>h y (by subst aS;simp[Op.operands]);have ah:k_ aI G=k_ js G:=Le λy aS=>h y (by subst aS;simp[Op.operands]);have a1:k_ aI o_=k_ js o_:=Le λy aS=>h y (by subst aS;simp[Op.operands]);unfold bw;rw[af];simp only[FC,FD,E,U,ah,a1]
 | call c=>
  rw[af]at h;obtain⟨callee,args,dq⟩:=c;have dY:∀ x∈args.toList,aI x=js x:=λx ag=>h x (by simp[Op.operands,Call.operands];simp_all);have aj:args.toList.map aI=args.toList.map js:=List.map_congr_left dY;unfold bw;rw[af];simp only;unfold mK;simp only;split
  ·split
   ·unfold B8;grind
   ·have q1:w2 aI args.toList=w2 js args.toList:=by
     unfold w2;grind
    rw[q1];split
    ·unfold Cb;split
     ·rename_i x y t u ax aM;rw[dY x (by simp[ax]),dY y (by simp[ax])]
     ·rfl
    ·unfold B9;grind
   ·unfold Cc;split
    ·rename_i x t ax aM;rw[dY x (by simp[ax])]
    ·rfl
   ·unfold FG;split
    ·rename_i x y t u ax aM;rw[dY x (by grind),dY y (by grind)]
    ·rfl
   ·unfold rZ;split
    ·rename_i x y l ax;have aj:∀ k,mJ aI k (y::l)=mJ js k (y::l):=λk=>Ld (y::l) λp an=>dY p (by rw[ax];exact List.mem_cons_of_mem _ an);simp only[dY x (by simp[ax]),aj]
    ·rfl
   ·unfold rZ;split
    ·rename_i x y l ax;have aj:∀ k,mJ aI k (y::l)=mJ js k (y::l):=λk=>Ld (y::l) λp an=>dY p (by rw[ax];exact List.mem_cons_of_mem _ an);simp only[dY x (by simp[ax]),aj]
    ·rfl
   ·unfold B_;grind
   ·rfl
  ·split
   ·unfold FE;simp only[aj]
   ·rfl
  ·rfl
 | _=>unfold bw;rw[af]
end
end Go.Fer
namespace Go.Fer
open Go.RowKit
def F9(want b:Bool):Bool:=match want with | true=>b | false=>!b
def kv(s:Nat->aG)(ops:Array Oper):Option (Nat×Bool)->Option (Option Bool)
 | none=>some none
 | some (j,want)=>match ops[j]? with
  | some o=>match o.dst with
   | some d=>match s d with
    | .val .bool b=>some (some (F9 want b))
    | .hC g (.val .bool b)=>some (some (g&&F9 want b))
    | _=>none
   | none=>none
  | none=>none
def F_(ops:Array Oper):Option (Nat×Bool)->List Nat
 | none=>[]
 | some (j,_)=>match ops[j]? with
  | some o=>o.dst.toList
  | none=>[]
def ae9(l:List Operand):List Nat:=l.filterMap fun | .tmp t=>some t | _=>none
def CJ(ops:Array Oper)(o:Oper):List Nat:=F_ ops o.guard++ae9 o.op.operands.toList
structure eQ where
 cs:List Prop
 dst:Option Nat
 e_:aG
 hE:List (Nat×bJ)
 kx:List Nat
 tL:List Nat
def eQ.h8(r:eQ)(s:aA):aA:=(s.ga r.hE).set r.dst r.e_
def eQ.nT(r:eQ):List Nat:=r.dst.toList
def eQ.mY(r:eQ):List Nat:=r.hE.map (·.1)
def CK(ds dI:Bool)(ca c:Prop):List Prop:=(match ds with | true=>[] | false=>[ca])++(match dI with | true=>[] | false=>[c])
def vb(aP:dG)(T:Nat->ad)(be:Nat->Option aL)(ops:Array Oper)(s:aA)(o:Oper):Option eQ:=
 match kv s.ay ops o.guard with
 | none=>none
 | some g=>match (bw aP T be (a7 aP s.ay) o).run s.aa with
  | none=>none
  | some res=>match g with
   | none=>some ⟨CK (sa (a7 aP s.ay) o) (mX (a7 aP s.ay) o) res.ca res.c,o.dst,res.e_,res.hE,CJ ops o,(bw aP T be (a7 aP s.ay) o).looks s.aa⟩
   | some b=>match res.hE with
    | []=>some ⟨CK (sa (a7 aP s.ay) o&&(mX (a7 aP s.ay) o&&!res.e_.zB)) true (b=true->res.ca/\(res.c/\(use res.e_).1)) True,o.dst,.hC b (use res.e_).2,[],CJ ops o,(bw aP T be (a7 aP s.ay) o).looks s.aa⟩
    | _=>none
def xi(aP:dG)(T:Nat->ad)(be:Nat->Option aL)(ops:Array Oper):List Oper->aA->Option (List eQ×aA)
 | [],s=>some ([],s)
 | o::os,s=>match vb aP T be ops s o with
  | none=>none
  | some r=>match xi aP T be ops os (r.h8 s) with
   | none=>none
   | some (l,s')=>some (r::l,s')
def CL(a b:List Nat):Bool:=a.all λx=>!b.contains x
def eQ.apart(a b:eQ):Bool:=CL a.nT (b.kx++b.nT)&&CL a.kx b.nT&&CL a.mY (b.tL++b.mY)&&CL a.tL b.mY
def h9(o:Oper):List Nat:=o.after.toList.filterMap λe=>if Region.binds .any e then some e.on else none
def CM(acc:List Nat):List Nat->List Nat
 | []=>acc
 | x::l=>match acc.contains x with | true=>CM acc l | false=>CM (x::acc) l
theorem Lf{x:Nat}:∀ {l acc:List Nat},x∈CM acc l->x∈acc\/x∈l
 | [],acc,h=>.inl h
 | y::l,acc,h=>by
  unfold CM at h;split at h
  ·exact (Lf h).imp_right (List.mem_cons_of_mem _)
  ·rcases Lf h with h | h
   ·rcases List.mem_cons.1 h with h | h
    ·exact .inr (h ▸ List.mem_cons_self)
    ·exact .inl h
   ·exact .inr (List.mem_cons_of_mem _ h)
def zD(acc:List (List Nat))(o:Oper):List (List Nat):=acc++[CM [] ((h9 o).flatMap λj=>j::acc.getD j [])]
def ij(ops:List Oper):List (List Nat):=ops.foldl zD []
def ae_(cl:List (List Nat))(l:List eQ):Bool:=
 (List.range l.length).all λj=>(List.range j).all λi=>match l[i]?,l[j]? with
  | some a,some b=>(cl.getD j []).contains i||a.apart b
  | _,_=>false
def CN(ops:List Oper):Bool:=(List.range ops.length).all λj=>match ops[j]? with
 | some o=>(h9 o).all λi=>decide (i<j)
 | none=>false
def zE(ops:List Oper)(l:List eQ):Bool:=CN ops&&ae_ (ij ops) l
def xj(R:List Nat)(s s':aA):Prop:=∀ t∈R,s.ay t=s'.ay t
def xk(B:List Nat)(s s':aA):Prop:=∀ b∈B,s.aa b=s'.aa b
theorem Ga{a b:List Nat}(h:CL a b=true){x:Nat}(ag:x∈a):x ∉ b:=by
 have:=List.all_eq_true.1 h x ag;grind
theorem zF(s:aA):∀ (l:List (Nat×bJ)),(s.ga l).ay=s.ay:=by
 intro l;induction l generalizing s with
 | nil=>rfl
 | cons p l aJ=>simp only[aA.ga];rw[aJ];rfl
theorem Lg{b:Nat}:∀ (l:List (Nat×bJ)) (s:aA),b ∉ l.map (·.1)->(s.ga l).aa b=s.aa b:=by
 intro l;induction l with
 | nil=>intro s _;rfl
 | cons p l aJ=>
  intro s h;simp only[List.map_cons,List.mem_cons,not_or]at h;simp only[aA.ga];rw[aJ _ h.2];simp[aA.cx,h.1]
theorem Lh{b:Nat}:∀ (l:List (Nat×bJ)) (s s':aA),b∈l.map (·.1)->(s.ga l).aa b=(s'.ga l).aa b:=by
 intro l;induction l with
 | nil=>simp
 | cons p l aJ=>
  intro s s' h;simp only[aA.ga];by_cases W:b∈l.map (·.1)
  ·grind
  ·rw[Lg l _ W,Lg l _ W];have:b=p.1:=by grind
   simp[aA.cx,this]
theorem ae'(s:aA)(d:Option Nat)(v:aG):(s.set d v).aa=s.aa:=by cases d<;>rfl
theorem Gb(r:eQ)(s:aA)(t:Nat):(r.h8 s).ay t=if t∈r.nT then r.e_ else s.ay t:=by
 unfold eQ.h8 eQ.nT;cases h:r.dst with
 | none=>simp[aA.set,zF]
 | some d=>simp[aA.set,zF,eq_comm]
theorem xl(r:eQ)(s:aA)(b:Nat):(r.h8 s).aa b=(s.ga r.hE).aa b:=by unfold eQ.h8;rw[ae']
theorem SO{r:eQ}{s:aA}{t:Nat}(h:t ∉ r.nT):(r.h8 s).ay t=s.ay t:=by rw[Gb,if_neg h]
theorem tM{r:eQ}{s:aA}{b:Nat}(h:b ∉ r.mY):(r.h8 s).aa b=s.aa b:=by rw[xl];exact Lg _ _ h
theorem aA.ext'{s s':aA}(E:∀ t,s.ay t=s'.ay t)(U:∀ b,s.aa b=s'.aa b):s=s':=by
 obtain⟨a,b⟩:=s;obtain⟨a',bd⟩:=s';rw[show a=a' from funext E,show b=bd from funext U]
theorem afa{a b:eQ}(E:∀ t∈a.nT,t ∉ b.nT)(U:∀ x∈a.mY,x ∉ b.mY)(s:aA):a.h8 (b.h8 s)=b.h8 (a.h8 s):=by
 apply aA.ext'
 ·intro t;simp only[Gb];grind
 ·intro x;by_cases a8:x∈a.mY
  ·have W:=U x a8;rw[tM W,xl,xl];exact Lh _ _ _ a8
  ·rw[tM a8];by_cases W:x∈b.mY
   ·rw[xl,xl];exact Lh _ _ _ W
   ·rw[tM W,tM W,tM a8]
def jM(l:List eQ)(s:aA):aA:=l.foldl (λs r=>r.h8 s) s
theorem afb{R B:List Nat}:∀ (l:List eQ) (s:aA),(∀ r∈l,(∀ t∈R,t ∉ r.nT)/\∀ b∈B,b ∉ r.mY)->xj R (jM l s) s/\xk B (jM l s) s:=by
 intro l;induction l with
 | nil=>intro s _;exact⟨λ_ _=>rfl,λ_ _=>rfl⟩
 | cons r l aJ=>
  intro s h;obtain⟨E,U⟩:=aJ (r.h8 s) λpX bb=>h pX (List.mem_cons_of_mem _ bb);have M:=h r (List.mem_cons_self);exact⟨λt aH=>(E t aH).trans (SO (M.1 t aH)),λb W=>(U b W).trans (tM (M.2 b W))⟩
theorem afc{R B:List Nat}{r:eQ}{s s':aA}(E:xj R s s')(U:xk B s s'):xj R (r.h8 s) (r.h8 s')/\xk B (r.h8 s) (r.h8 s'):=by
 refine⟨λt aH=>?_,λb W=>?_⟩
 ·rw[Gb,Gb];split
  ·rfl
  ·exact E t aH
 ·by_cases hw:b∈r.mY
  ·rw[xl,xl];exact Lh _ _ _ hw
  ·rw[tM hw,tM hw];exact U b W
theorem afd{R B:List Nat}(p:Nat×eQ->Bool):∀ (l:List (Nat×eQ)) (s s':aA),xj R s s'->xk B s s'->(∀ r∈l,p r=false->(∀ t∈R,t ∉ r.2.nT)/\∀ b∈B,b ∉ r.2.mY)->
  xj R (jM ((l.filter p).map (·.2)) s) (jM (l.map (·.2)) s')/\xk B (jM ((l.filter p).map (·.2)) s) (jM (l.map (·.2)) s'):=by
 intro l;induction l with
 | nil=>intro s s' E U _;exact⟨E,U⟩
 | cons r l aJ=>
  intro s s' E U h;have aj:=λpX bb=>h pX (List.mem_cons_of_mem _ bb);cases an:p r with
  | true=>
   rw[List.filter_cons_of_pos an];obtain⟨aO,aR⟩:=afc (r:=r.2) E U;exact aJ _ _ aO aR aj
  | false=>
   rw[List.filter_cons_of_neg (by grind)];have M:=h r (List.mem_cons_self) an;exact aJ _ _ (λt aH=>(E t aH).trans (SO (M.1 t aH)).symm) (λb W=>(U b W).trans (tM (M.2 b W)).symm) aj
theorem afe{r:eQ}:∀ (l:List eQ) (s:aA),(∀ x∈l,(∀ t∈r.nT,t ∉ x.nT)/\∀ b∈r.mY,b ∉ x.mY)->jM l (r.h8 s)=r.h8 (jM l s):=by
 intro l;induction l with
 | nil=>intro s _;rfl
 | cons x l aJ=>
  intro s h;have ag:=h x (List.mem_cons_self);show jM l (x.h8 (r.h8 s))=r.h8 (jM l (x.h8 s));rw[<-afa ag.1 ag.2 s];grind
def iH:Nat->List eQ->List (Nat×eQ)
 | _,[]=>[]
 | n,r::l=>(n,r)::iH (n+1) l
theorem SP:∀ (l m:List eQ) (n:Nat),iH n (l++m)=iH n l++iH (n+l.length) m
 | [],m,n=>by rfl
 | r::l,m,n=>by simp only[List.cons_append,iH,SP l m (n+1),List.length_cons];grind
theorem CO:∀ (l:List eQ) (n:Nat),(iH n l).map (·.2)=l
 | [],_=>rfl
 | r::l,n=>by simp only[iH,List.map_cons,CO l (n+1)]
theorem zG:∀ {l:List eQ} {n j:Nat} {x:eQ},(j,x)∈iH n l->n<=j/\l[j - n]?=some x
 | r::l,n,j,x,h=>by
  simp only[iH,List.mem_cons,Prod.mk.injEq]at h;rcases h with⟨rfl,rfl⟩ | h
  ·simp
  ·obtain⟨E,U⟩:=zG h;grind
 | [],_,_,_,h=>by cases h
def jt(l:List eQ)(s:aA)(f:Nat->Bool):aA:=jM (((iH 0 l).filter λp=>f p.1).map (·.2)) s
theorem SQ(l m:List eQ)(s:aA):jM (l++m) s=jM m (jM l s):=by simp[jM]
theorem Li{a b:eQ}(h:a.apart b=true):(∀ t∈a.nT,t ∉ b.kx/\t ∉ b.nT)/\(∀ t∈a.kx,t ∉ b.nT)/\(∀ x∈a.mY,x ∉ b.tL/\x ∉ b.mY)/\∀ x∈a.tL,x ∉ b.mY:=by
 simp only[eQ.apart,Bool.and_eq_true]at h;obtain⟨⟨⟨E,U⟩,ah⟩,a1⟩:=h;refine⟨λt aH=>?_,λt aH=>Ga U aH,λx ag=>?_,λx ag=>Ga a1 ag⟩
 ·have:=Ga E aH;grind
 ·have:=Ga ah ag;grind
theorem SR{l:List eQ}{s:aA}{f:Nat->Bool}{i:Nat}{r:eQ}(G:l[i]?=some r)(ao:f i=false)
  (gJ:∀ j x,j<i->l[j]?=some x->f j=false->x.apart r=true) (tN:∀ j x,i<j->l[j]?=some x->f j=true->r.apart x=true) :
  xj r.kx (jt l s f) (jM (l.take i) s)/\xk r.tL (jt l s f) (jM (l.take i) s)/\jt l s (λj=>if j=i then true else f j)=r.h8 (jt l s f):=by
 obtain⟨cc,eW⟩:=List.getElem?_eq_some_iff.1 G;have hlen:(l.take i).length=i:=by grind
 have SS:iH 0 l=iH 0 (l.take i)++(i,r)::iH (i+1) (l.drop (i+1)):=by
  have E:l=l.take i++r::l.drop (i+1):=by
   have:=List.take_append_drop i l;rw[List.drop_eq_getElem_cons cc,eW]at this;grind
  have U:=SP (l.take i) (r::l.drop (i+1)) 0;rw[<-E,hlen]at U;simpa [iH]using U
 have aff:∀ p∈iH 0 (l.take i),p.1<i/\l[p.1]?=some p.2:=by
  rintro⟨j,x⟩ an;obtain⟨_,U⟩:=zG an;grind
 have axD:∀ p∈iH (i+1) (l.drop (i+1)),i<p.1/\l[p.1]?=some p.2:=by
  rintro⟨j,x⟩ an;obtain⟨E,U⟩:=zG an;grind
 have SU:∀ x∈((iH (i+1) (l.drop (i+1))).filter λp=>f p.1).map (·.2),r.apart x=true:=by
  grind
 have ik:jt l s f=jM (((iH (i+1) (l.drop (i+1))).filter λp=>f p.1).map (·.2)) (jM (((iH 0 (l.take i)).filter λp=>f p.1).map (·.2)) s):=by
  unfold jt;rw[SS,List.filter_append,List.filter_cons_of_neg (by grind),List.map_append,SQ]
 have q1:=afb (R:=r.kx) (B:=r.tL) (((iH (i+1) (l.drop (i+1))).filter λp=>f p.1).map (·.2)) (jM (((iH 0 (l.take i)).filter λp=>f p.1).map (·.2)) s)
  (λx ag=>by
   have:=Li (SU x ag);grind)
 have q2:=afd (R:=r.kx) (B:=r.tL) (λp=>f p.1) (iH 0 (l.take i)) s s (λ_ _=>rfl) (λ_ _=>rfl) (λp an afg=>by
  obtain⟨E,U⟩:=aff p an;have:=Li (gJ p.1 p.2 E U afg);grind)
 rw[CO]at q2;refine⟨λt aH=>by rw[ik];exact (q1.1 t aH).trans (q2.1 t aH),λb W=>by rw[ik];exact (q1.2 b W).trans (q2.2 b W),?_⟩;rw[ik];unfold jt;have ax:(iH 0 (l.take i)).filter (λp=>if p.1=i then true else f p.1)=(iH 0 (l.take i)).filter λp=>f p.1:=by
  apply List.filter_congr;grind
 have aM:(iH (i+1) (l.drop (i+1))).filter (λp=>if p.1=i then true else f p.1)=(iH (i+1) (l.drop (i+1))).filter λp=>f p.1:=by
  apply List.filter_congr;grind
 rw[SS,List.filter_append,List.filter_cons_of_pos (by simp),ax,aM,List.map_append,SQ];show jM _ (r.h8 _)=_;refine afe _ _ λx ag=>?_;have:=Li (SU x ag);grind
theorem xm{p:Nat->Prop}:∀ (ops:List Oper) (acc:List (List Nat)),(∀ j i,i∈acc.getD j []->p j->p i)->(∀ j o,ops[j]?=some o->∀ i∈h9 o,p (acc.length+j)->p i)->
  ∀ j i,i∈(ops.foldl zD acc).getD j []->p j->p i:=by
 intro ops;induction ops with
 | nil=>simp
 | cons o ops aJ=>
  intro acc h ar;refine aJ (zD acc o) (λj i G aE=>?_) λj hS ka i G aE=>ar (j+1) hS (by grind) i G (by
   have:(zD acc o).length=acc.length+1:=by simp[zD]
   grind)
  unfold zD at G;rw[List.getD_eq_getElem?_getD,List.getElem?_append]at G;split at G
  ·grind
  ·rename_i cc;by_cases e:j=acc.length
   ·subst e;simp only[Nat.sub_self,List.getElem?_cons_zero,Option.getD_some]at G;have G:=(Lf G).resolve_left (by simp);simp only[List.mem_flatMap,List.mem_cons]at G;obtain⟨k,al,G⟩:=G;have vc:=ar 0 o (by simp) k al (by omega);grind
   grind
theorem SV{aP:dG}{T:Nat->ad}{be:Nat->Option aL}{ops:Array Oper}:∀ (os:List Oper) (s:aA) {l:List eQ} {s':aA},xi aP T be ops os s=some (l,s')->
  l.length=os.length/\s'=jM l s/\∀ i o,os[i]?=some o->∃ r,l[i]?=some r/\vb aP T be ops (jM (l.take i) s) o=some r:=by
 intro os;induction os with
 | nil=>intro s l s' h;cases h;exact⟨rfl,rfl,λi o h=>by cases h⟩
 | cons o os aJ=>
  intro s l s' h;simp only[xi]at h;split at h
  ·cases h
  ·rename_i r M;split at h
   ·cases h
   ·rename_i dJ axE aj;cases h;obtain⟨E,U,ah⟩:=aJ _ aj;refine⟨by grind,U,λi hS ka=>?_⟩;cases i with
    | zero=>
     simp only[List.getElem?_cons_zero,Option.some.injEq]at ka;subst ka;exact⟨r,by simp,M⟩
    | succ i=>
     obtain⟨pX,aO,aR⟩:=ah i hS (by grind);exact⟨pX,by grind,aR⟩
theorem Lj{ops:Array Oper}{f iE:Nat->aG}{g:Option (Nat×Bool)}(h:∀ t∈F_ ops g,f t=iE t):kv f ops g=kv iE ops g:=by
 unfold kv;cases g with
 | none=>rfl
 | some p=>
  obtain⟨j,want⟩:=p;simp only;cases aE:ops[j]? with
  | none=>rfl
  | some o=>
   simp only;cases ar:o.dst with
   | none=>rfl
   | some d=>
    simp only;rw[h d (by simp[F_,aE,ar])]
theorem SW{aP:dG}{T:Nat->ad}{be:Nat->Option aL}{ops:Array Oper}{s s':aA}{o:Oper}{r:eQ}(h:vb aP T be ops s o=some r)(E:xj r.kx s' s)(U:xk r.tL s' s):vb aP T be ops s' o=some r:=by
 have SX:r.kx=CJ ops o/\r.tL=(bw aP T be (a7 aP s.ay) o).looks s.aa:=by
  unfold vb at h;grind
 rw[SX.1]at E;rw[SX.2]at U;have kQ:∀ x∈o.op.operands.toList,a7 aP s'.ay x=a7 aP s.ay x:=by
  intro x ag;cases x with
  | tmp t=>
   refine E t ?_;simp only[CJ,List.mem_append];exact .inr (List.mem_filterMap.2 ⟨.tmp t,ag,rfl⟩)
  | _=>rfl
 have ax:kv s'.ay ops o.guard=kv s.ay ops o.guard:=Lj λt aH=>E t (by simp[CJ,aH]);have aM:bw aP T be (a7 aP s'.ay) o=bw aP T be (a7 aP s.ay) o:=ae8 kQ;have cD:=aq.Rx (H:=s.aa) (H':=s'.aa) (bw aP T be (a7 aP s.ay) o) U;have et:sa (a7 aP s'.ay) o=sa (a7 aP s.ay) o:=by
  unfold sa;grind
 have eb:mX (a7 aP s'.ay) o=mX (a7 aP s.ay) o:=by
  unfold mX;cases af:o.op with
  | binOp op ty x y t=>
   rw[af]at kQ;simp only;rw[kQ x (by simp[Op.operands])]
  | load ty x=>rw[af]at kQ;simp only;rw[kQ x (by simp[Op.operands])]
  | store ty x y=>rw[af]at kQ;simp only;rw[kQ x (by simp[Op.operands])]
  | call c=>
   obtain⟨callee,args,dq⟩:=c;rw[af]at kQ;cases callee with
   | builtin b=>
    have cW:∀ x∈args.toList,a7 aP s'.ay x=a7 aP s.ay x:=λx ag=>kQ x (by simp[Op.operands,Call.operands];simp_all);simp only;unfold F8;grind
   | _=>rfl
  | _=>rfl
 unfold vb at h ⊢;simp_all
universe u
def A.fail{β:Type}:A β:=⟨False,λ_=>False⟩
inductive bW where
 | undef
 | val (t:ad)
 | dW (t:ad)
 | aW (b off:Nat)
 | own (b:Nat)
 | sub (b:Nat)
 | fG (b:Nat)
 | j1 (b:Nat)
 | cv
 | iA (k:FuncId) (fX:z8')
 | aV (aK:ad)
 | hg
 | hG (bs:List Nat)
 | iW (b:Nat)
 deriving DecidableEq
inductive b2 where
 | cells (t:ad) (l:List bW)
 | bg (e:ad)
 | hD (e:ad)
 | mp (k v:ad)
 | jh (k v:ad)
 | gb (t:ad)
 | gG (t:ad)
 | ct (k v:ad)
 | gj (e:ad) (t:bW)
def bW.cons(t:bW)(R:Type):Type:=
 match t with
 | .val t=>t.ai×R
 | .dW t=>t.ai×R
 | .sub _=>(Nat×Nat)×R
 | .aV aK=>(Nat×(List aK.ai->Prop)×List aK.ai×Bool)×R
 | .hg=>Nat×R
 | .iW _=>Nat×R
 | _=>R
def qa:List bW->Type->Type
 | [],R=>R
 | t::l,R=>t.cons (qa l R)
def b2.cons(t:b2)(R:Type):Type:=
 match t with
 | .cells _ l=>qa l R
 | .bg e=>List e.ai×R
 | .hD e=>List e.ai×R
 | .mp k v=>List (k.ai×v.ai)×R
 | .jh k v=>List (k.ai×v.ai)×R
 | .gb t=>t.ai×R
 | .gG t=>t.ai×R
 | .ct k v=>(Option (k.ai×v.ai)×List (k.ai×v.ai))×R
 | .gj e t=>(List e.ai×Nat)×t.cons R
def b2.CP:b2->Bool
 | .cells _ _ | .bg _ | .mp _ _ | .gb _ | .ct _ _ | .gj _ _=>true
 | _=>false
def b2.Gc(t u:b2):Bool:=
 match t,u with
 | .cells _ _,.cells _ _ | .cells _ _,.gb _ | .gb _,.cells _ _ | .gb _,.gb _ | .gG _,.cells _ _ | .gG _,.gb _=>true
 | .mp _ _,.mp _ _ | .jh _ _,.mp _ _=>true
 | .bg e,.bg a6=>decide (e=a6)
 | .hD _,.bg _=>true
 | _,_=>false
structure dK where
 bT:List (Nat×bW)
 bF:List (Nat×b2)
def pj:List (Nat×b2)->Type
 | []=>Unit
 | p::l=>p.2.cons (pj l)
def oB:List (Nat×bW)->Type->Type
 | [],R=>R
 | p::l,R=>p.2.cons (oB l R)
def dK.ai(sh:dK):Type:=oB sh.bT (pj sh.bF)
def vd(g:Nat->Nat×Nat)(fX:z8'):Nat->aG:=hi (fX.map λp=>.aW (g p.1).1 (g p.1).2 p.2)
def ve(g:Nat->Nat×Nat)(bs:List Nat):Nat->aG:=hi (bs.map λb=>.own (g b).1 (g b).2)
def bW.av(g:Nat->Nat×Nat)(t:bW){R:Type}(x:t.cons R):aG×R:=
 match t,x with
 | .undef,x=>(.undef,x)
 | .val t,x=>(.val t x.1,x.2)
 | .dW t,x=>(.dW t x.1,x.2)
 | .aW b off,x=>(.aW (g b).1 (g b).2 off,x)
 | .own b,x=>(.own (g b).1 (g b).2,x)
 | .sub b,x=>(.sub (g b).1 (g b).2 x.1.1 x.1.2,x.2)
 | .fG b,x=>(.fG (g b).1 (g b).2,x)
 | .j1 b,x=>(.j1 (g b).1 (g b).2,x)
 | .cv,x=>(.cv,x)
 | .iA k fX,x=>(.iA k fX.length (vd g fX),x)
 | .aV aK,x=>(.aV x.1.1 aK x.1.2.1 x.1.2.2.1 x.1.2.2.2,x.2)
 | .hg,x=>(.hg x.1,x.2)
 | .hG bs,x=>(.agg bs.length (ve g bs),x)
 | .iW b,x=>(.iW (g b).1 (g b).2 x.1,x.2)
def pk(g:Nat->Nat×Nat):(l:List bW)->{R:Type}->qa l R->List aG×R
 | [],_,x=>([],x)
 | t::l,_,x=>let (a,y):=t.av g x;let (as,z):=pk g l y;(a::as,z)
def b2.body(g:Nat->Nat×Nat)(t:b2){R:Type}(x:t.cons R):bQ×R:=
 match t,x with
 | .cells t l,x=>let (as,y):=pk g l x;(.cells t (hi as),y)
 | .bg e,x=>(.bg e x.1,x.2)
 | .hD e,x=>(.hD e x.1,x.2)
 | .mp k v,x=>(.mp k v x.1,x.2)
 | .jh k v,x=>(.jh k v x.1,x.2)
 | .gb t,x=>(.cells t (hi (nI t x.1)),x.2)
 | .gG t,x=>(.gG t x.1,x.2)
 | .ct k v,x=>(.ct k v x.1.1 x.1.2,x.2)
 | .gj e t,x=>let (a,y):=t.av g x.2;(.gj e x.1.1 x.1.2 a,y)
def eD(g:Nat->Nat×Nat):(l:List (Nat×bW))->{R:Type}->oB l R->List (Nat×aG)×R
 | [],_,x=>([],x)
 | p::l,_,x=>let (a,y):=p.2.av g x;let (as,z):=eD g l y;((p.1,a)::as,z)
def hk(g:Nat->Nat×Nat):(l:List (Nat×b2))->pj l->List (Nat×bQ)
 | [],_=>[]
 | p::l,x=>let (a,y):=p.2.body g x;(p.1,a)::hk g l y
def fr:List (Nat×aG)->Nat->aG
 | [],_=>.undef
 | p::l,i=>if i=p.1 then p.2 else fr l i
def eR:List (Nat×bQ)->Nat->bJ
 | [],_=>⟨0,.fz⟩
 | p::l,i=>if i=p.1 then ⟨0,p.2⟩ else eR l i
def SY(afh:List (Nat×aG))(bs:List (Nat×bQ)):aA:=⟨fr afh,eR bs⟩
def da(b:Nat):Nat×Nat:=(b,0)
def dK.st(sh:dK)(D:sh.ai):aA:=
 SY (eD da sh.bT D).1 (hk da sh.bF (eD da sh.bT D).2)
def xn(H:Nat->bJ)(t:ad)(av:aG){R:Type}(r:Option (R×List Nat)):Option ((t.ai×R)×List Nat):=
 match (dA t av).run H with
 | some (x,l)=>match r with
  | some (y,m)=>some ((x,y),l++m)
  | none=>none
 | none=>none
def Lk(t:ad)(av:aG){R:Type}(r:Option (R×List Nat)):Option ((t.ai×R)×List Nat):=
 match av with
 | .dW cY x=>match r with
  | some (y,m)=>if h:cY=t then some ((h ▸ x,y),m) else none
  | none=>none
 | _=>none
def Ll(H:Nat->bJ)(b:Nat)(av:aG){R:Type}(r:Option (R×List Nat)):Option (((Nat×Nat)×R)×List Nat):=
 match r with
 | some (y,m)=>match av with
  | .own bd g=>if (bd == b&&g == (H b).gen&&(H b).body.fh)=true then some (((0,(H b).body.len),y),m) else none
  | .sub bd g aY G=>if (bd == b&&g == (H b).gen)=true then some (((aY,G),y),m) else none
  | _=>none
 | none=>none
def Lm(aK:ad)(av:aG){R:Type}(r:Option (R×List Nat)):Option (((Nat×(List aK.ai->Prop)×List aK.ai×Bool)×R)×List Nat):=
 match av with
 | .aV l ky L n st=>match r with
  | some (y,m)=>if h:ky=aK then some (((l,h ▸ L,h ▸ n,st),y),m) else none
  | none=>none
 | _=>none
def Ln(av:aG){R:Type}(r:Option (R×List Nat)):Option ((Nat×R)×List Nat):=
 match av with
 | .hg l=>match r with
  | some (y,m)=>some ((l,y),m)
  | none=>none
 | _=>none
def Lo(H:Nat->bJ)(b:Nat)(av:aG){R:Type}(r:Option (R×List Nat)):Option ((Nat×R)×List Nat):=
 match av with
 | .iW bd g i=>match r with
  | some (y,m)=>if (bd == b&&g == (H b).gen)=true then some ((i,y),m) else none
  | none=>none
 | _=>none
def Gd(H:Nat->bJ)(b off:Nat)(av:aG):Bool:=
 match av with
 | .aW bd g afi=>bd == b&&afi == off&&g == (H b).gen
 | _=>false
def Ge(H:Nat->bJ)(b:Nat)(av:aG):Bool:=
 match av with
 | .own bd g=>bd == b&&g == (H b).gen
 | _=>false
def Lp(H:Nat->bJ)(b:Nat)(av:aG):Bool:=
 match av with
 | .fG bd g=>bd == b&&g == (H b).gen
 | _=>false
def Lq(H:Nat->bJ)(b:Nat)(av:aG):Bool:=
 match av with
 | .j1 bd g=>bd == b&&g == (H b).gen
 | _=>false
def Lr(av:aG):Bool:=
 match av with
 | .cv=>true
 | _=>false
def Ls(H:Nat->bJ)(f:Nat->Nat)(k:FuncId)(fX:z8')(av:aG):Bool:=
 match av with
 | .iA k' n c6=>k' == k&&n == fX.length&&(List.range n).all λi=>match fX[i]? with
  | some p=>Gd H (f p.1) p.2 (c6 i)
  | none=>false
 | _=>false
def Lt(H:Nat->bJ)(f:Nat->Nat)(bs:List Nat)(av:aG):Bool:=
 match av with
 | .agg n h=>n == bs.length&&(List.range n).all λi=>match bs[i]? with
  | some b=>Ge H (f b) (h i)
  | none=>false
 | _=>false
def vf{ak:Type}(b:Bool)(r:Option ak):Option ak:=match b with | true=>r | false=>none
def bW.jb(H:Nat->bJ)(f:Nat->Nat)(t:bW)(av:aG){R:Type}(r:Option (R×List Nat)):Option (t.cons R×List Nat):=
 match t with
 | .undef=>r
 | .val t=>xn H t av r
 | .dW t=>Lk t av r
 | .aW b off=>vf (Gd H (f b) off av) r
 | .own b=>vf (Ge H (f b) av) r
 | .sub b=>Ll H (f b) av r
 | .fG b=>vf (Lp H (f b) av) r
 | .j1 b=>vf (Lq H (f b) av) r
 | .cv=>vf (Lr av) r
 | .iA k fX=>vf (Ls H f k fX av) r
 | .aV aK=>Lm aK av r
 | .hg=>Ln av r
 | .hG bs=>vf (Lt H f bs av) r
 | .iW b=>Lo H (f b) av r
def zH(H:Nat->bJ)(f:Nat->Nat):(l:List bW)->(Nat->aG)->Nat->{R:Type}->Option (R×List Nat)->Option (qa l R×List Nat)
 | [],_,_,_,r=>r
 | t::l,c,i,_,r=>t.jb H f (c i) (zH H f l c (i+1) r)
def Lu(H:Nat->bJ)(f:Nat->Nat)(t:ad)(l:List bW)(b:bQ){R:Type}(r:Option (R×List Nat)):Option (qa l R×List Nat):=
 match b with
 | .cells cY c=>if cY=t/\t.size=l.length then zH H f l c 0 r else none
 | _=>none
def Lv(e:ad)(b:bQ){R:Type}(r:Option (R×List Nat)):Option ((List e.ai×R)×List Nat):=
 match b with
 | .bg a6 xs=>match r with
  | some (y,m)=>if h:a6=e then some ((h ▸ xs,y),m) else none
  | none=>none
 | _=>none
def Lw(k v:ad)(b:bQ){R:Type}(r:Option (R×List Nat)):Option ((List (k.ai×v.ai)×R)×List Nat):=
 match b with
 | .mp k' h4 es=>match r with
  | some (y,m)=>if h:k'=k/\h4=v then some ((h.1 ▸ h.2 ▸ es,y),m) else none
  | none=>none
 | _=>none
def Lx(k v:ad)(b:bQ){R:Type}(r:Option (R×List Nat)):Option (((Option (k.ai×v.ai)×List (k.ai×v.ai))×R)×List Nat):=
 match b with
 | .ct k' h4 c es=>match r with
  | some (y,m)=>if h:k'=k/\h4=v then some (((h.1 ▸ h.2 ▸ c,h.1 ▸ h.2 ▸ es),y),m) else none
  | none=>none
 | _=>none
def Ly(H:Nat->bJ)(f:Nat->Nat)(e:ad)(t:bW)(b:bQ){R:Type}(r:Option (R×List Nat)):Option (((List e.ai×Nat)×t.cons R)×List Nat):=
 match b with
 | .gj a6 xs i v=>match t.jb H f v r with
  | some (y,m)=>if h:a6=e then some (((h ▸ xs,i),y),m) else none
  | none=>none
 | _=>none
def Lz(H:Nat->bJ)(t:ad)(b:bQ){R:Type}(r:Option (R×List Nat)):Option ((t.ai×R)×List Nat):=
 match b with
 | .cells cY f=>if cY=t then xn H t (.agg t.size f) r else none
 | _=>none
def LA(H:Nat->bJ)(t:ad)(b:Nat){R:Type}(r:Option (R×List Nat)):Option ((t.ai×R)×List Nat):=
 match (dA (.bH t) (.aW b (H b).gen 0)).run H with
 | some (some x,l)=>match r with
  | some (y,m)=>some ((x,y),l++m)
  | none=>none
 | _=>none
def b2.jb(H:Nat->bJ)(f:Nat->Nat)(t:b2)(b:Nat){R:Type}(r:Option (R×List Nat)):Option (t.cons R×List Nat):=
 match t with
 | .cells t l=>Lu H f t l (H b).body r
 | .bg e=>Lv e (H b).body r
 | .hD e=>xn H (.slice e) (.own b (H b).gen) r
 | .mp k v=>Lw k v (H b).body r
 | .jh k v=>xn H (.map k v) (.fG b (H b).gen) r
 | .gb t=>Lz H t (H b).body r
 | .gG t=>LA H t b r
 | .ct k v=>Lx k v (H b).body r
 | .gj e t=>Ly H f e t (H b).body r
def xo(H:Nat->bJ)(f:Nat->Nat):(l:List (Nat×b2))->Option (pj l×List Nat)
 | []=>some ((),[])
 | p::l=>p.2.jb H f (f p.1) (xo H f l)
def xp(H:Nat->bJ)(f:Nat->Nat):(l:List (Nat×bW))->(Nat->aG)->{R:Type}->Option (R×List Nat)->Option (oB l R×List Nat)
 | [],_,_,r=>r
 | p::l,c,_,r=>p.2.jb H f (c p.1) (xp H f l c r)
def dK.oC(sh:dK):List Nat:=sh.bF.filterMap λp=>if p.2.CP then some p.1 else none
def dK.zI(sh:dK)(f:Nat->Nat)(s:aA):Option (sh.ai×List Nat):=
 match xp s.aa f sh.bT s.ay (xo s.aa f sh.bF) with
 | some (D,bU)=>if sh.oC.all (λb=>!bU.contains (f b))=true then some (D,bU) else none
 | none=>none
def LB:List (Nat×b2)->Nat->Option b2
 | [],_=>none
 | p::l,b=>if b=p.1 then some p.2 else LB l b
def LC(s:aA)(i b bd g':Nat):aA:=
 match decide (bd≠b/\g'=(s.aa bd).gen),(s.aa bd).body with
 | true,.bg e xs=>⟨λj=>if j=i then .own b ((s.aa b).gen+1) else s.ay j,λj=>if j=b then ⟨(s.aa b).gen+1,.bg e xs⟩ else if j=bd then ⟨(s.aa bd).gen+1,.fz⟩ else s.aa j⟩
 | _,_=>s
def LD(bs:List (Nat×b2))(s:aA)(i b:Nat):aA:=
 match s.ay i,LB bs b with
 | .cv,some (.bg e)=>⟨λj=>if j=i then .own b ((s.aa b).gen+1) else s.ay j,(s.cx b ⟨(s.aa b).gen+1,.bg e []⟩).aa⟩
 | .own bd g',some (.bg _)=>LC s i b bd g'
 | _,_=>s
def LF(bs:List (Nat×b2))(s:aA)(c j b:Nat):aA:=
 match (s.aa c).body with
 | .cells t f=>match f j,(s.aa b).body,LB bs b with
  | .cv,.fz,some (.bg e)=>(s.cx b ⟨(s.aa b).gen+1,.bg e []⟩).cx c ⟨(s.aa c).gen,.cells t λq=>if q=j then .own b ((s.aa b).gen+1) else f q⟩
  | _,_,_=>s
 | _=>s
def Gf(bs:List (Nat×b2)):List (Nat×bW)->aA->aA
 | [],s=>s
 | p::l,s=>Gf bs l (match p.2 with | .own b=>LD bs s p.1 b | _=>s)
def Gg(bs:List (Nat×b2))(c:Nat):List bW->Nat->aA->aA
 | [],_,s=>s
 | t::l,j,s=>Gg bs c l (j+1) (match t with | .own b=>LF bs s c j b | _=>s)
def Gh(bs:List (Nat×b2)):List (Nat×b2)->aA->aA
 | [],s=>s
 | p::l,s=>Gh bs l (match p.2 with | .cells _ ts=>Gg bs p.1 ts 0 s | _=>s)
def dK.Gi(sh:dK)(s:aA):aA:=Gh sh.bF sh.bF (Gf sh.bF sh.bT s)
def b2.SZ:b2->Bool
 | .bg _ | .hD _ | .gj _ _=>true
 | _=>false
def dK.Gj(sh:dK)(s:aA):Bool:=sh.bF.all λp=>!(decide (wX<=p.1)&&p.2.SZ)||decide ((s.aa p.1).gen=0)
def dK.jb(sh:dK)(s:aA):Option (sh.ai):=
 match sh.Gj (sh.Gi s) with
 | true=>(sh.zI (λb=>b) (sh.Gi s)).map (·.1)
 | false=>none
def dK.mZ{β:Type}(sh:dK)(s:aA)(k:sh.ai->A β):A β:=
 match sh.jb s with
 | some D=>k D
 | none=>A.fail
def bW.xq(t:bW){R:Type}(r:R):t.cons R:=
 match t with
 | .val t=>(t.dh,r)
 | .dW t=>(t.dh,r)
 | .sub _=>((0,0),r)
 | .aV _=>((0,λ_=>False,[],false),r)
 | .hg=>(0,r)
 | .iW _=>(0,r)
 | .undef | .aW _ _ | .own _ | .fG _ | .j1 _ | .cv | .iA _ _ | .hG _=>r
def S0:(l:List bW)->{R:Type}->R->qa l R
 | [],_,r=>r
 | t::l,_,r=>t.xq (S0 l r)
def b2.xq(t:b2){R:Type}(r:R):t.cons R:=
 match t with
 | .cells _ l=>S0 l r
 | .bg _=>([],r)
 | .hD _=>([],r)
 | .mp _ _=>([],r)
 | .jh _ _=>([],r)
 | .gb t=>(t.dh,r)
 | .gG t=>(t.dh,r)
 | .ct _ _=>((none,[]),r)
 | .gj _ t=>(([],0),t.xq r)
def S1:(l:List (Nat×b2))->pj l
 | []=>()
 | p::l=>p.2.xq (S1 l)
def S2:(l:List (Nat×bW))->{R:Type}->R->oB l R
 | [],_,r=>r
 | p::l,_,r=>p.2.xq (S2 l r)
def dK.xq(sh:dK):sh.ai:=S2 sh.bT (S1 sh.bF)
structure hH where
 ts:ad
 aV:ad
 sh:ts.ai->A aV.ai
 dR:Bool
def aL.dx(c:aL):hH:=⟨c.ts,c.aV,c.sh,true⟩
def A.CQ{ak:Type}(m:A ak):Prop:=∀ x y,m.bL x->m.bL y->x=y
open Classical in
def A.val{ak:Type}(m:A ak)(d:ak):ak:=if h:∃ x,m.bL x then h.choose else d
def hH.Gk(c:hH):aL:=⟨c.ts,c.aV,λx=>(c.sh x).ck,λx=>(c.sh x).val c.aV.dh⟩
structure cK where
 cp:dK
 bL:dK
 kz:z9'
 kc:Nat
 sh:cp.ai->A bL.ai
structure zJ where
 ts:ad
 aK:ad
 pre:ts.ai->Prop
 seq:ts.ai->List aK.ai
inductive e5 where
 | dx (c:hH)
 | fb (c:cK)
 | ct (c:zJ)
 | LG (c:hH)
 | Gl (c:cK) (sh:Nat->c.cp.ai->A c.bL.ai) (ids:List Nat)
 | kA (c:aL)
def Gm(be:Nat->Option aL)(Ψ:Nat->Option e5)(k:Nat):Option aL:=
 match Ψ k with
 | some (.dx c)=>match c.dR&&!nK c.aV with
  | true=>some c.Gk
  | false=>none
 | some (.kA c)=>some c
 | some _=>none
 | none=>be k
def LH(be:Nat->Option aL)(Ψ:Nat->Option e5)(k:Nat):Option hH:=
 match Ψ k with
 | some (.dx c)=>some c
 | some _=>none
 | none=>(be k).bind λc=>if nK c.aV=true then none else some c.dx
structure hV where
 ak:Type
 d:ak
 ca:Prop
 m:A ak
 st:ak->aA
 CR:Option (Bool->ak->aA)
def q3(s:aA)(o:Oper)(aV:ad)(bU:List Nat)(v:aG):aA:=(if aV.pure then s else s.cz bU).set o.dst v
def CS(aP:dG)(s:aA)(o:Oper)(args:List Operand)(dx:hH):Option hV:=
 match (iY dx.ts ((args.map (a7 aP s.ay)).map λv=>(use v).2)).run s.aa with
 | some (x,bU)=>some ⟨dx.aV.ai,dx.aV.dh,jI (args.map (a7 aP s.ay)),dx.sh x,λy=>q3 s o dx.aV bU (qO dx.aV y),some λg y=>q3 s o dx.aV bU (.hC g (qO dx.aV y))⟩
 | none=>none
def Gn(aP:dG)(s:aA)(o:Oper)(args:List Operand)(dx:hH):Option hV:=
 match (iY dx.ts ((args.map (a7 aP s.ay)).map λv=>(use v).2)).run s.aa with
 | some (x,_)=>some ⟨dx.aV.ai,dx.aV.dh,jI (args.map (a7 aP s.ay)),dx.sh x,λy=>s.set o.dst (qO dx.aV y),none⟩
 | none=>none
def CT(aP:dG)(s:aA)(o:Oper)(t:Nat)(args:List Operand):Option hV:=
 match use (s.ay t) with
 | (ca,.val (.fn a b) f)=>match (iY a ((args.map (a7 aP s.ay)).map λv=>(use v).2)).run s.aa with
  | some (x,bU)=>some ⟨b.ai,b.dh,ca/\jI (args.map (a7 aP s.ay)),f x,λy=>q3 s o b bU (qO b y),some λg y=>q3 s o b bU (.hC g (qO b y))⟩
  | none=>none
 | _=>none
def S3(t:bW)(av:aG):z8':=
 match t,av with
 | .aW bd _,.aW b _ _=>[(bd,b)]
 | .own bd,.own b _=>[(bd,b)]
 | .sub bd,.own b _=>[(bd,b)]
 | .sub bd,.sub b _ _ _=>[(bd,b)]
 | .fG bd,.fG b _=>[(bd,b)]
 | .j1 bd,.j1 b _=>[(bd,b)]
 | .iA _ fX,.iA _ _ c6=>(List.range fX.length).filterMap λi=>match fX[i]?,c6 i with
  | some p,.aW b _ _=>some (p.1,b)
  | _,_=>none
 | _,_=>[]
def S4:List bW->(Nat->aG)->Nat->z8'
 | [],_,_=>[]
 | t::l,c,i=>S3 t (c i)++S4 l c (i+1)
def LI:z8'->Nat->Option Nat
 | [],_=>none
 | p::l,b=>if b=p.1 then some p.2 else LI l b
def S5(H:Nat->bJ):List (Nat×b2)->z8'->z8'
 | [],m=>m
 | p::l,m=>S5 H l (m++match p.2,LI m p.1 with
  | .cells _ ts,some b=>(match (H b).body with | .cells _ c=>S4 ts c 0 | _=>[])
  | _,_=>[])
def afj(sh:dK)(s:aA):z8':=S5 s.aa sh.bF (sh.bT.flatMap λp=>S3 p.2 (s.ay p.1))
def sb(s:aA)(avs:List aG):aA:=⟨λi=>if i=b4 then s.ay b4 else if i<avs.length then avs.getD i .undef else .undef,s.aa⟩
def m_:Nat:=99999
def sc(s:aA)(d:Nat)(f:Nat->Nat)(ins:List Nat):List (Nat×b2)->Nat->z6'
 | [],_=>[]
 | p::l,j=>(if ins.contains p.1 then (p.1,(f p.1,match p.2 with
   | .cells _ _ | .gb _ | .mp _ _ | .gG _ | .jh _ _=>(s.aa (f p.1)).gen
   | .bg _=>if wX<=p.1 then (s.aa (f p.1)).gen else (s.aa (f p.1)).gen+1
   | _=>(s.aa (f p.1)).gen+1)) else (p.1,(50000+10*d+j,(s.aa (50000+10*d+j)).gen+1)))::sc s d f ins l (j+1)
def hW:z6'->Nat->Nat×Nat
 | [],_=>(m_,0)
 | p::l,b=>if b=p.1 then p.2 else hW l b
def pn:z9'->(Nat->aG)->Nat->List aG
 | [],_,_=>[]
 | none::l,c,i=>c i::pn l c (i+1)
 | some n::l,c,i=>.agg n (λj=>c (i+j))::pn l c (i+n)
def LJ(l:List aG):aG:=
 match l with
 | [v]=>v
 | l=>.pY l.length (hi l)
def xr(s:aA)(c:cK)(f:Nat->Nat)(cg:z6')(bm:c.bL.ai):aA:=
 ⟨λi=>if i=b4 then (if c.bL.bT.any (λp=>p.1 == b4) then fr (eD (hW cg) c.bL.bT bm).1 b4 else if c.cp.bT.any (λp=>p.1 == b4) then .undef else s.ay b4) else s.ay i,λb=>match cg.find? (λp=>p.2.1 == b) with
  | some p=>⟨p.2.2,(eR (hk (hW cg) c.bL.bF (eD (hW cg) c.bL.bT bm).2) p.1).body⟩
  | none=>if (c.cp.oC.map f).contains b then ⟨(s.aa b).gen+1,.fz⟩ else s.aa b⟩
def afk(s:aA)(o:Oper)(c:cK)(f:Nat->Nat)(cg:z6')(bm:c.bL.ai):aA:=
 aA.set (xr s c f cg bm) o.dst (LJ (pn c.kz (fr (eD (hW cg) c.bL.bT bm).1) 0))
def Gp(l:List Nat):Bool:=decide l.Nodup
def CU(c:cK)(f:Nat->Nat)(dN:aA)(cg:z6')(d n:Nat):Bool:=
  decide (d < 4000) && decide (c.bL.bF.length <= 10) && Gp (c.cp.bF.map (·.1)) && Gp (c.cp.bF.map λp => f p.1) && Gp (cg.map (·.1)) && Gp (cg.map (·.2.1)) && (c.cp.bF.map (·.1)).all (λb => decide (eS <= b))
        &&!(cg.map (·.2.1)).contains m_&&(match (dN.aa m_).body with | .fz=>true | _=>false)&&c.bL.bF.all (λp=>c.cp.bF.all λq=>!(p.1 == q.1&&q.2.CP)||p.2.Gc q.2)&&(decide (n=c.kc)&&decide (n<=eS))
def q4(aP:dG)(s:aA)(args:List Operand):List aG:=(args.map (a7 aP s.ay)).map λv=>(use v).2
def q5(c:cK)(ey:aA)(b:Nat):Nat:=(LI (afj c.cp ey) b).getD m_
def xt(aP:dG)(s:aA)(o:Oper)(args:List Operand)(c:cK):Option hV:=
 match c.cp.zI (q5 c (sb s (q4 aP s args))) (sb s (q4 aP s args)) with
 | some (D,bU)=>match CU c (q5 c (sb s (q4 aP s args))) (s.cz bU) (sc (s.cz bU) (o.dst.getD 0) (q5 c (sb s (q4 aP s args))) c.cp.oC c.bL.bF 0) (o.dst.getD 0) args.length with
  | true=>some ⟨c.bL.ai,c.bL.xq,jI (args.map (a7 aP s.ay)),c.sh D,λbm=>afk (s.cz bU) o c (q5 c (sb s (q4 aP s args))) (sc (s.cz bU) (o.dst.getD 0) (q5 c (sb s (q4 aP s args))) c.cp.oC c.bL.bF 0) bm,none⟩
  | false=>none
 | none=>none
def S6:Nat:=999999
def S7(c:cK)(sh:Nat->c.cp.ai->A c.bL.ai)(ids:List Nat)(n:Option Nat):cK:={ c with sh:=λD=>A.ab (∃ k∈ids,n=some k) (sh (n.getD 0) D) }
def Gq(aP:dG)(Ψ:Nat->Option e5)(s:aA)(o:Oper)(t:Nat)(args:List Operand):Option hV:=
 match s.ay t with
 | .val .ep n=>match Ψ S6 with
  | some (.Gl c sh ids)=>xt aP s o args (S7 c sh ids n)
  | _=>none
 | _=>none
def Gr(aP:dG)(s:aA)(o:Oper)(t:Nat)(args:List Operand):Option hV:=
 match s.ay t,s.ay b4 with
 | .hg dJ,.aV l aK L n st=>match (iY aK ((args.map (a7 aP s.ay)).map λv=>(use v).2)).run s.aa with
  | some (x,bU)=>some ⟨Bool,false,jI (args.map (a7 aP s.ay)),A.ab (dJ=l/\st=false/\∃ T,L (n++x::T)) (A.any λ_=>True),λb=>aA.set ⟨λi=>if i=b4 then .aV l aK L (n++[x]) (!b) else s.ay i,(s.cz bU).aa⟩ o.dst (.val .bool b),none⟩
  | none=>none
 | _,_=>none
def Gs(aP:dG)(T:Nat->ad)(s:aA)(o:Oper)(ty:TypeId)(x:Operand):Option hV:=
 match T ty,o.dst with
 | .map k v,some d=>match use (a7 aP s.ay x) with
  | (ca,av)=>match (dA (.map k v) av).run s.aa with
   | some (es,bU)=>if bU.contains d then none else
    some ⟨Unit,(),ca,A.pure (),λ_=>((s.cz bU).cx d ⟨(s.aa d).gen+1,.ct k v none es⟩).set o.dst (.j1 d ((s.aa d).gen+1)),none⟩
   | none=>none
 | _,_=>none
def Gt{ak:Type}(l:List ak):A (Option Nat):=⟨True,λx=>match x with | none=>l=[] | some i=>i<l.length⟩
def S8(i:Option Nat):Nat:=match i with | none=>0 | some _=>2
def nU{ak:Type}(c:Option ak)(cm:List ak)(i:Option Nat):Option ak:=match i with | none=>c | some i=>cm[i]?
def CV{ak:Type}(cm:List ak)(i:Option Nat):List ak:=match i with | none=>cm | some i=>cm.eraseIdx i
def Gu(aP:dG)(s:aA)(o:Oper)(x:Operand)(str:Bool):Option hV:=
 match str,a7 aP s.ay x with
 | false,.j1 b g=>if (s.aa b).gen=g then (match (s.aa b).body with
  | .ct k v c cm=>some ⟨Option Nat,none,True,Gt cm,λi=>(s.cx b ⟨g,.ct k v (nU c cm i) (CV cm i)⟩).set o.dst (.pY (Nat.succ (S8 i)) (hi [.val .bool i.isSome])),none⟩
  | _=>none) else none
 | _,_=>none
def Gv(aP:dG)(s:aA)(o:Oper)(x:Operand):Option hV:=
 match a7 aP s.ay x with
 | .j1 b g=>if (s.aa b).gen=g then (match (s.aa b).body with
  | .ct k v c _=>some ⟨Unit,(),True,A.ab (c.isSome=true) (A.pure ()),λ_=>s.set o.dst (.pY 2 (hi [.val k ((c.map (·.1)).getD k.dh),.val v ((c.map (·.2)).getD v.dh)])),none⟩
  | _=>none) else none
 | _=>none
def CW(aP:dG)(T:Nat->ad)(s:aA)(o:Oper)(op:BinOp)(ty:TypeId)(x y:Operand):Option hV:=
 match T ty,a7 aP s.ay y with
 | .slice e,.cv=>match (dA (.slice e) (use (a7 aP s.ay x)).2).run s.aa with
  | some (xs,_)=>match op with
   | .eql=>some ⟨Bool,false,(use (a7 aP s.ay x)).1,A.any λb=>b=true->xs=[],λb=>s.set o.dst (.val .bool b),none⟩
   | .neq=>some ⟨Bool,false,(use (a7 aP s.ay x)).1,A.any λb=>b=true->xs=[],λb=>s.set o.dst (.val .bool (!b)),none⟩
   | _=>none
  | none=>none
 | _,_=>none
def q6(aP:dG)(T:Nat->ad)(be:Nat->Option aL)(Ψ:Nat->Option e5)(s:aA)(o:Oper):Option hV:=
 match o.op with
 | .call c=>match c.callee with
  | .value f=>match f with
   | .func k=>match Ψ k with
    | some (.fb c')=>xt aP s o c.args.toList c'
    | some (.LG c')=>Gn aP s o c.args.toList c'
    | _=>match LH be Ψ k with
     | some dx=>CS aP s o c.args.toList dx
     | none=>none
   | .tmp t=>match CT aP s o t c.args.toList with
    | some r=>some r
    | none=>match Gq aP Ψ s o t c.args.toList with
     | some r=>some r
     | none=>Gr aP s o t c.args.toList
   | _=>none
  | _=>none
 | .range ty x=>Gs aP T s o ty x
 | .next x str=>Gu aP s o x str
 | .entry x=>Gv aP s o x
 | .binOp op ty x y _=>CW aP T s o op ty x y
 | _=>none
def cq{ak:Type}(g:Bool)(m:A ak)(d:ak):A ak:=if g=true then m else A.pure d
def sd{β:Type}(b:Bool)(p:Prop)(m:A β):A β:=match b with | true=>m | false=>A.ab p m
def CX(o:Oper)(e_:aG)(l:List (Nat×bJ)):Option (List (Nat×bJ)×aG):=
 match l with
 | []=>some ([],e_)
 | p::dJ=>match o.op with
  | .makeFunc ..=>some (p::dJ,e_)
  | .buildSlice _ n _=>match dJ,e_,p.2.body with
   | [],.own bd g',.bg e xs=>if (bd=p.1/\g'=p.2.gen)/\n≠0 then some ([(p.1,⟨p.2.gen,.fz⟩)],.val (.slice e) xs) else none
   | _,_,_=>none
  | _=>none
def S9(hE:List (Nat×bJ))(e_:aG):aG:=
 match e_ with
 | .own b _=>match hE.find? (λp=>p.1 == b) with
  | some (_,⟨_,.bg e xs⟩)=>.val (.slice e) xs
  | _=>e_
 | _=>e_
abbrev po:=List (Nat×(Nat×Bool))
def se(ops:Array Oper)(j d:Nat):Bool:=match ops[j]? with | some o=>(match o.dst with | some e=>e == d | none=>false) | none=>false
def afl(tg:po)(t:Nat)(k:Nat×Bool):Bool:=tg.any λp=>p.1 == t&&(p.2.1 == k.1&&p.2.2 == k.2)
def xu(ops:Array Oper)(tg:po)(o:Oper):po:=
 match o.dst with
 | none=>tg
 | some d=>match o.guard with
  | some k=>if se ops k.1 d=true then tg.filter λp=>p.1 != d&&!se ops p.2.1 d else (d,k)::tg.filter λp=>p.1 != d&&!se ops p.2.1 d
  | none=>tg.filter λp=>p.1 != d&&!se ops p.2.1 d
def xv(aI:Operand->aG)(tg:po)(gk:Option (Nat×Bool))(x:Operand):Bool:=
 !(aI x).zB||(match x,gk with | .tmp t,some k=>afl tg t k | _,_=>false)
def Gw(ops:Array Oper)(tg:po)(c x:Operand)(want:Bool):Bool:=
 match c,x with
 | .tmp c,.tmp t=>tg.any λp=>p.1 == t&&(se ops p.2.1 c&&p.2.2 == want)
 | _,_=>false
def LK(aI:Operand->aG)(tg:po)(gk:Option (Nat×Bool))(o:Oper):Bool:=o.op.operands.toList.all (xv aI tg gk)
def zK(aI:Operand->aG)(ops:Array Oper)(tg:po)(gk:Option (Nat×Bool))(o:Oper):Bool:=
 match o.op with
 | .pick c a b=>xv aI tg gk c&&((xv aI tg gk a||Gw ops tg c a true)&&(xv aI tg gk b||Gw ops tg c b false))
 | _=>LK aI tg gk o
def LL(aI:Operand->aG)(tg:po)(gk:Option (Nat×Bool))(o:Oper)(e_:aG):Bool:=
 !e_.zB||(match o.op with | .move x=>xv aI tg gk x | _=>false)
def h_:Operand->Option Nat
 | .tmp t=>some t
 | _=>none
def zL(o gA kS:Oper):Option (Oper×Nat×Nat):=
 match o.op with
 | .mapEntry ty m x=>match gA.op with
  | .extract e 1=>match kS.op with
   | .entryStore mL dz a6 y=>match o.dst,gA.dst,kS.dst with
    | some d1,some d2,none=>if h_ e=some d1/\h_ a6=some d2/\mL=ty/\(h_ dz).isSome=true/\h_ dz=h_ m/\(h_ y).isSome=true/\h_ m≠some d1/\h_ m≠some d2/\h_ y≠some d1/\h_ y≠some d2/\o.guard.isNone=true/\gA.guard.isNone=true/\kS.guard.isNone=true
     then some ({ kS with op:=.mapUpdate ty m x y },d1,d2) else none
    | _,_,_=>none
   | _=>none
  | _=>none
 | _=>none
def zM(o:Oper)(os:List Oper):Option (Oper×Nat×Nat):=
 match os with
 | gA::kS::_=>zL o gA kS
 | _=>none
def Gx{β:Type}:Nat->Int->(Nat->A β)->A β
 | 0,_,_=>A.fail
 | 1,_,k=>k 0
 | n+2,v,k=>if v=((n+1:Nat):Int) then k (n+1) else Gx (n+1) v k
theorem S_{β:Type}{O:β->Prop}{k:Nat->A β}{v:Int}:∀ {n:Nat},A.cw (Gx n v k) O->0<=v->v<(n:Int)->A.cw (k v.toNat) O
 | 0,h,_,_=>h.1.elim
 | 1,h,aX,E=>by
  have:v.toNat=0:=by omega
  rw[this];exact h
 | n+2,h,aX,E=>by
  unfold Gx at h;split at h
  ·grind
  ·exact S_ h aX (by omega)
def mj{β:Type}(aP:dG)(T:Nat->ad)(be:Nat->Option aL)(Ψ:Nat->Option e5)(ops:Array Oper):List Oper->po->aA->(aA->A β)->A β
 | [],_,s,k=>k s
 | o::os,tg,s,k=>
  match zM o os with
  | some (kd,d1,d2)=>match os with
   | _::_::afm=>match (bw aP T be (a7 aP s.ay) kd).run s.aa with
    | some res=>A.ab res.ca (A.ab res.c (mj aP T be Ψ ops afm [] (((s.h7 none res).set (some d1) .undef).set (some d2) .undef) k))
    | none=>A.fail
   | _=>A.fail
  | none=>
  match kv s.ay ops o.guard with
  | none=>A.fail
  | some none=>match (bw aP T be (a7 aP s.ay) o).run s.aa with
   | some res=>sd (zK (a7 aP s.ay) ops tg none o) res.ca (sd (mX (a7 aP s.ay) o) res.c (mj aP T be Ψ ops os (xu ops tg o) (s.h7 o.dst res) k))
   | none=>match q6 aP T be Ψ s o with
    | some cd=>sd (sa (a7 aP s.ay) o) cd.ca (A.bind cd.m λy=>mj aP T be Ψ ops os [] (cd.st y) k)
    | none=>A.fail
  | some (some g)=>match (bw aP T be (a7 aP s.ay) o).run s.aa with
   | some ⟨ca,c,e_,hE⟩=>match CX o e_ hE with
    | some (xw,sf)=>sd (zK (a7 aP s.ay) ops tg o.guard o&&(mX (a7 aP s.ay) o&&LL (a7 aP s.ay) tg o.guard o sf)) (g=true->ca/\(c/\(use sf).1)) (mj aP T be Ψ ops os (xu ops tg o) ((s.ga xw).set o.dst (.hC g (use sf).2)) k)
    | none=>if g=true then A.ab ca (A.ab c (mj aP T be Ψ ops os [] (s.h7 o.dst ⟨ca,c,e_,hE⟩) k)) else mj aP T be Ψ ops os [] (s.set o.dst (.hC false (S9 hE (use e_).2))) k
   | none=>match q6 aP T be Ψ s o with
    | some cd=>match cd.CR with
     | some gs=>sd (LK (a7 aP s.ay) tg o.guard o) (g=true->cd.ca) (A.bind (cq g cd.m cd.d) λy=>mj aP T be Ψ ops os (xu ops tg o) (gs g y) k)
     | none=>if g=true then A.ab cd.ca (A.bind cd.m λy=>mj aP T be Ψ ops os [] (cd.st y) k) else mj aP T be Ψ ops os [] (s.set o.dst (.hC false (use ((cd.st cd.d).ay (o.dst.getD 0))).2)) k
    | none=>A.fail
def CY{β:Type}:List Prop->A β->A β
 | [],m=>m
 | p::l,m=>A.ab p (CY l m)
def zN(cl:List (List Nat)):Nat->Nat
 | 0=>0
 | n+1=>if (List.range n).all (λi=>(cl.getD n []).contains i)=true then zN cl n else n+1
def LM(gB il hI iI lT:Oper):Bool:=
 match gB.op,il.op,hI.op with
 | .lookup ty m x false,.binOp .add _ (.tmp t) (.const (.int k c)) _,.mapEntry mL dz dM=>match gB.dst,il.dst,zL hI iI lT with
  | some eh,some fJ,some (_,d1,d2)=>decide (t=eh/\mL=ty/\fS k c/\h_ dz=h_ m/\h_ dM=h_ x/\eh≠fJ/\eh≠d1/\eh≠d2/\fJ≠d1/\fJ≠d2/\d1≠d2/\
    (h_ m).isSome=true/\(h_ x).isSome=true/\h_ m≠some eh/\h_ m≠some fJ/\h_ m≠some d1/\h_ m≠some d2/\h_ x≠some eh/\h_ x≠some fJ/\h_ x≠some d1/\h_ x≠some d2/\gB.guard.isNone=true/\il.guard.isNone=true)
  | _,_,_=>false
 | _,_,_=>false
def Gy(ops:List Oper):Bool:=
 match ops.drop (ops.length - 5) with
 | [gB,il,hI,iI,lT]=>LM gB il hI iI lT&&(CN ops&&((List.range 5).all λq=>(List.range (ops.length - 5)).all λi=>((ij ops).getD (ops.length - 5+q) []).contains i)&&
   ((ij ops).getD (ops.length - 5+1) []).contains (ops.length - 5)&&((ij ops).getD (ops.length - 5+3) []).contains (ops.length - 5+2)&&((List.range 4).all λq=>((ij ops).getD (ops.length - 5+4) []).contains (ops.length - 5+q))&&
   (h9 hI).all (λi=>decide (i<ops.length - 5))&&(h9 iI).all (λi=>decide (i<ops.length - 5)||decide (i=ops.length - 5+2)))
 | _=>false
def lU(ops:List Oper):Nat:=if Gy ops=true then ops.length - 5 else zN (ij ops) ops.length
def A.afn{ak:Type}(l:List (A ak)):A ak:=⟨∀ m∈l,m.ck,λx=>∃ m∈l,m.bL x⟩
def vg(ops:List Oper)(done:List Nat):List Nat:=(List.range ops.length).filter λi=>!done.contains i&&match ops[i]? with | some o=>(h9 o).all λj=>done.contains j | none=>false
def q7(ops:List Oper):Nat->List Nat->List (List Nat)
 | 0,_=>[[]]
 | f+1,done=>match vg ops done with
  | []=>[[]]
  | l=>l.flatMap λi=>(q7 ops f (i::done)).map (i::·)
def Gz(ops:List Oper):Nat->List Nat->Bool
 | 0,done=>(vg ops done).isEmpty
 | f+1,done=>(vg ops done).all λi=>Gz ops f (i::done)
def GA{β:Type}(aP:dG)(T:Nat->ad)(be:Nat->Option aL)(Ψ:Nat->Option e5)(ops:Array Oper)(o:Oper)(s:aA)(k:aA->A β):A β:=
 match o.guard with
 | some _=>A.fail
 | none=>match (bw aP T be (a7 aP s.ay) o).run s.aa with
  | some res=>sd (zK (a7 aP s.ay) ops [] none o) res.ca (sd (mX (a7 aP s.ay) o) res.c (k (s.h7 o.dst res)))
  | none=>match q6 aP T be Ψ s o with
   | some cd=>sd (sa (a7 aP s.ay) o) cd.ca (A.bind cd.m λy=>k (cd.st y))
   | none=>A.fail
def zO{β:Type}(aP:dG)(T:Nat->ad)(be:Nat->Option aL)(Ψ:Nat->Option e5)(ops:Array Oper):List Nat->aA->(aA->A β)->A β
 | [],s,k=>k s
 | i::cb,s,k=>match ops[i]? with
  | some o=>GA aP T be Ψ ops o s λs'=>zO aP T be Ψ ops cb s' k
  | none=>A.fail
def S'{β:Type}(aP:dG)(T:Nat->ad)(be:Nat->Option aL)(Ψ:Nat->Option e5)(ops:Array Oper)(s:aA)(k:aA->A β):A β:=
 match Gz ops.toList ops.size [] with
 | true=>A.afn ((q7 ops.toList ops.size []).map λl=>zO aP T be Ψ ops l s k)
 | false=>A.fail
def zP{β:Type}(aP:dG)(T:Nat->ad)(be:Nat->Option aL)(Ψ:Nat->Option e5)(ops:Array Oper)(s:aA)(k:aA->A β):A β:=
 match xi aP T be ops ops.toList s with
 | some (l,s')=>match zE ops.toList l with
  | true=>CY (l.flatMap eQ.cs) (k s')
  | false=>A.fail
 | none=>match xi aP T be ops (ops.toList.take (lU ops.toList)) s with
  | some (l,s')=>match zE (ops.toList.take (lU ops.toList)) l&&CN ops.toList with
   | true=>CY (l.flatMap eQ.cs) (mj aP T be Ψ ops (ops.toList.drop (lU ops.toList)) [] s' k)
   | false=>A.fail
  | none=>S' aP T be Ψ ops s k
def ln(ops:List Oper):List Oper:=
 match ops with
 | []=>[]
 | o::l=>o::l.map λp=>{ p with after:=p.after.push ⟨0,.phase⟩ }
def LN(ops:Array Oper):Bool:=
 match ops.toList with
 | []=>false
 | o::l=>(match o.op with | .move _=>true | _=>false)&&(o.guard.isNone&&(o.after.isEmpty&&(Region.noSelect ops&&l.all λp=>(h9 p).contains 0||o.apart ops p)))
inductive cC where
 | eO
 | seq (a b:cC)
 | join (sh:dK) (a b:cC)
 | cond (a b:cC)
 | block (a:cC)
 | loop (sh:dK) (a:cC)
 | scope (a:cC)
 | range (sh rin rout:dK) (a b:cC)
 | nV (a b:cC)
 | split (i off n:Nat) (a:cC)
 | num (i n:Nat) (a:cC)
 | nQ (i:Nat) (a:cC)
 | GB (b:Nat) (a:cC)
 | GC
def cC.ej:cC->Bool
 | .eO=>true
 | .seq a b=>a.ej&&b.ej
 | .join _ a b=>a.ej&&b.ej
 | .cond a b=>a.ej&&b.ej
 | .block a=>a.ej
 | .loop _ a=>a.ej
 | .scope a=>a.ej
 | .range ..=>false
 | .nV a b=>a.ej&&b.ej
 | .split _ _ _ a=>a.ej
 | .num _ _ a=>a.ej
 | .nQ _ a=>a.ej
 | .GB _ a=>a.ej
 | .GC=>false
def cC.oD:cC->Bool
 | .nV ..=>true
 | .eO=>true
 | _=>false
inductive dj where
 | normal
 | exit (id:Nat)
 | ret
def dj.pq:dj->Exit
 | .normal=>.normal
 | .exit id=>.exit id
 | .ret=>.ret
open A (V)
def Ta{β:Type}(k:dj->aA->A β)(f:aA->A β)(e:dj)(s:aA):A β:=
 match e with
 | .normal=>f s
 | .exit id=>k (.exit id) s
 | .ret=>k .ret s
def xx{D β:Type}(k:dj->aA->A β)(f:aA->A (V D β))(e:dj)(s:aA):A (V D β):=
 match e with
 | .normal=>f s
 | .exit id=>A.bind (k (.exit id) s) λr=>A.pure (.done r)
 | .ret=>A.bind (k .ret s) λr=>A.pure (.done r)
def Tb{β:Type}(id:Nat)(k:dj->aA->A β)(e:dj)(s:aA):A β:=
 match e with
 | .normal=>k .normal s
 | .exit GD=>if GD=id then k .normal s else k (.exit GD) s
 | .ret=>k .ret s
def V.bz{D β:Type}(f:D->A β)(st:V D β):A β:=
 match st with
 | .next x=>f x
 | .done r=>A.pure r
def Tc{β:Type}(v:aG)(m n:A β):A β:=
 match v with
 | .val .bool t=>if t=true then m else n
 | .hC g (.val .bool t)=>A.ab (g=true) (if t=true then m else n)
 | _=>A.fail
def qb(s:aA)(i off:Nat):Option (Int×(Nat->aA)):=
 match s.ay i with
 | .aW b _ o=>match (s.aa b).body with
  | .cells t f=>match f (o+off) with
   | .val (.int tO) x=>some (x,λj=>⟨s.ay,λbd=>if bd=b then ⟨(s.aa b).gen,.cells t λq=>if q=o+off then .val (.int tO) (j:Int) else f q⟩ else s.aa bd⟩)
   | _=>none
  | _=>none
 | _=>none
theorem afo{s:aA}{i off:Nat}{x:Int}{f:Nat->aA}(h:qb s i off=some (x,f))(aX:0<=x):f x.toNat=s:=by
 unfold qb at h;split at h
 ·rename_i b g o aD;split at h
  ·rename_i t iE W;split at h
   ·rename_i tO dM ag;simp only[Option.some.injEq,Prod.mk.injEq]at h;obtain⟨rfl,rfl⟩:=h;have bG:((dM.toNat:Nat):Int)=dM:=by omega
    have ax:(λq=>if q=o+off then aG.val (.int tO) (show (ad.int tO).ai from ((dM.toNat:Nat):Int)) else iE q)=iE:=by
     grind
    have aM:(λbd=>if bd=b then (⟨(s.aa b).gen,.cells t iE⟩:bJ) else s.aa bd)=s.aa:=by
     funext q;split
     ·rename_i e;rw[e,<-W]
     ·rfl
    simp_all
   grind
  grind
 grind
def q8(s:aA)(i:Nat):Option (Int×(Nat->aA)):=
 match s.ay i with
 | .val (.int tO) x=>some (x,λn=>⟨λj=>if j=i then .val (.int tO) (n:Int) else s.ay j,s.aa⟩)
 | _=>none
theorem afp{s:aA}{i n:Nat}{x:Int}{f:Nat->aA}(h:q8 s i=some (x,f))(aX:x=(n:Int)):f n=s:=by
 unfold q8 at h;split at h
 ·rename_i tO dM aD;simp only[Option.some.injEq,Prod.mk.injEq]at h;obtain⟨rfl,rfl⟩:=h;have ax:(λj=>if j=i then aG.val (.int tO) (show (ad.int tO).ai from (n:Int)) else s.ay j)=s.ay:=by
   grind
  simp_all
 grind
def LO(s:aA)(i:Nat):Option aA:=
 match s.ay i with
 | .oq b g n off=>match (s.aa b).body,off with
  | .bg (.st (.slice e)) xs,0=>if g=(s.aa b).gen then some ⟨λj=>if j=i then .iW b g n else s.ay j,λbd=>if bd=b then ⟨g,.gj (.st (.slice e)) xs n (.val (.slice e) (xs.getD n []))⟩ else s.aa bd⟩ else none
  | _,_=>none
 | _=>none
def LP(s:aA)(b:Nat):Option aA:=
 match (s.aa b).body with
 | .gj (.st (.slice e)) xs n v=>match (dA (.slice e) v).run s.aa with
  | some (y,bU)=>if bU.contains b then none else some ((s.cz bU).cx b ⟨(s.aa b).gen,.bg (.st (.slice e)) (xs.set n y)⟩)
  | none=>none
 | _=>none
def jN{D ak:Type}(body:D->ak->A (dj×D)):List ak->D->A (dj×D)
 | [],D=>A.pure (.normal,D)
 | x::xs,D=>A.bind (body D x) λp=>match p.1 with
  | .normal=>jN body xs p.2
  | .exit id=>A.pure (.exit id,p.2)
  | .ret=>A.pure (.ret,p.2)
def zQ(aK:ad)(x:aK.ai):List Tmp->Nat->(Nat->aG)->Nat->aG
 | [],_,f=>f
 | p::ps,i,f=>zQ aK x ps (i+1) (λj=>if j=p then kr aK x i else f j)
def xy(s:aA)(aK:ad)(x:aK.ai)(ps:List Tmp):aA:=⟨λi=>if i=b4 then s.ay b4 else zQ aK x ps 0 s.ay i,s.aa⟩
def vh(rin rout:dK):cK:=⟨rin,rout,[],0,λ_=>A.fail⟩
def tP{bm:Type}(sh rin rout:dK)(aK:ad)(ps:List Tmp)(D:sh.ai)(x:aK.ai)(run:aA->A (bm×rout.ai)):A (bm×sh.ai):=
 match rin.zI (q5 (vh rin rout) (xy (sh.st D) aK x ps)) (xy (sh.st D) aK x ps) with
 | some (aI,bU)=>match CU (vh rin rout) (q5 (vh rin rout) (xy (sh.st D) aK x ps)) ((sh.st D).cz bU) (sc ((sh.st D).cz bU) 0 (q5 (vh rin rout) (xy (sh.st D) aK x ps)) rin.oC rout.bF 0) 0 0 with
  | true=>A.bind (run (rin.st aI)) λp=>sh.mZ (xr ((sh.st D).cz bU) (vh rin rout) (q5 (vh rin rout) (xy (sh.st D) aK x ps)) (sc ((sh.st D).cz bU) 0 (q5 (vh rin rout) (xy (sh.st D) aK x ps)) rin.oC rout.bF 0) p.2) λiJ=>A.pure (p.1,iJ)
  | false=>A.fail
 | none=>A.fail
def nW(sh rout:dK)(aK:ad)(ps:List Tmp)(nt:Nat):Bool:=
 rout.bT.isEmpty&&!sh.bT.any (λp=>p.1 == b4)&&decide (aK≠.cV)&&decide (ps.length=j4 aK)&&ps.all λp=>decide (p<nt)
def GF{β:Type}(f:aA->A β)(e:dj)(s:aA):A β:=
 match e with
 | .normal=>f s
 | .exit _=>A.fail
 | .ret=>A.fail
def sg{β:Type}(n:A β)(x:Nat->A β)(r:A β)(e:dj):A β:=
 match e with
 | .normal=>n
 | .exit id=>x id
 | .ret=>r
def LQ{β:Type}(k:dj->aA->A β)(e:dj)(s:aA):A β:=sg (k .normal s) (λid=>k (.exit id) s) (k .ret s) e
theorem Td{β:Type}(k:dj->aA->A β)(e:dj)(s:aA):LQ k e s=k e s:=by cases e<;>rfl
def eI(aP:dG)(T:Nat->ad)(be:Nat->Option aL)(Ψ:Nat->Option e5):cC->{β:Type}->Code->aA->(dj->aA->A β)->A β
 | .seq a b,_,c,s,k=>match c with
  | .seq x y=>eI aP T be Ψ a x s (Ta k λs'=>eI aP T be Ψ b y s' k)
  | _=>A.fail
 | .join sh a b,β,c,s,k=>match c with
  | .seq x y=>A.bind (eI aP T be Ψ a (β:=V sh.ai β) x s (xx k λs'=>sh.mZ s' λD=>A.pure (.next D))) (V.bz λD=>eI aP T be Ψ b y (sh.st D) k)
  | _=>A.fail
 | .cond a b,_,c,s,k=>match c with
  | .cond c x y=>Tc (a7 aP s.ay c) (eI aP T be Ψ a x s k) (eI aP T be Ψ b y s k)
  | _=>A.fail
 | .block a,_,c,s,k=>match c with
  | .block id c=>eI aP T be Ψ a c s (Tb id k)
  | _=>A.fail
 | .loop sh a,β,c,s,k=>match c with
  | .loop c=>sh.mZ s λD=>A.loop (λD=>eI aP T be Ψ a (β:=V sh.ai β) c (sh.st D) (xx k λs'=>sh.mZ s' λiJ=>A.pure (.next iJ))) D
  | _=>A.fail
 | .nV a b,_,c,s,k=>match c with
  | .loop x=>match b.oD with
   | true=>eI aP T be Ψ a x s (Ta k λs'=>eI aP T be Ψ b (.loop x) s' k)
   | false=>A.fail
  | _=>A.fail
 | .scope a,_,c,s,k=>match c with
  | .scope c=>eI aP T be Ψ a c s k
  | _=>A.fail
 | .num i n a,_,c,s,k=>match q8 s i with
  | some (x,f)=>A.ab (x=(n:Int)) (eI aP T be Ψ a c (f n) k)
  | none=>A.fail
 | .nQ i a,_,c,s,k=>match LO s i with
  | some s'=>eI aP T be Ψ a c s' k
  | none=>A.fail
 | .GB b a,_,c,s,k=>match LP s b with
  | some s'=>eI aP T be Ψ a c s' k
  | none=>A.fail
 | .split i off n a,_,c,s,k=>match qb s i off with
  | some (x,f)=>A.ab (0<=x/\x<(n:Int)) (Gx n x λj=>eI aP T be Ψ a c (f j) k)
  | none=>A.fail
 | .range sh rin rout a b,_,c,s,k=>match c with
  | .rangeFunc g ps assign body=>match a7 aP s.ay g with
   | .rV q9 n eV=>match Ψ q9 with
    | some (.ct ic)=>match (iY ic.ts ((List.range n).map eV)).run s.aa with
     | some (x,bU)=>match nW sh rout ic.aK ps.toList eS&&(a.ej&&b.ej) with
      | true=>sh.mZ (s.cz bU) λD=>A.ab (ic.pre x) (A.bind (jN (λD y=>tP sh rin rout ic.aK ps.toList D y λey=>
       eI aP T be Ψ a (β:=dj×rout.ai) assign ey (GF λdN=>eI aP T be Ψ b body dN λe eJ=>rout.mZ eJ λbm=>A.pure (e,bm))) (ic.seq x) D) λp=>LQ k p.1 (sh.st p.2))
      | false=>A.fail
     | none=>A.fail
    | _=>A.fail
   | .val (.ct aK) S=>match nW sh rout aK ps.toList eS&&(a.ej&&b.ej) with
    | true=>sh.mZ s λD=>A.bind (A.any S) λL=>A.bind (jN (λD y=>tP sh rin rout aK ps.toList D y λey=>
     eI aP T be Ψ a (β:=dj×rout.ai) assign ey (GF λdN=>eI aP T be Ψ b body dN λe eJ=>rout.mZ eJ λbm=>A.pure (e,bm))) L D) λp=>LQ k p.1 (sh.st p.2)
    | false=>A.fail
   | _=>A.fail
  | _=>A.fail
 | .GC,_,c,s,k=>match c with
  | .region _ ops draw=>match draw&&LN ops with
   | true=>zP aP T (Gm be Ψ) Ψ (ln ops.toList).toArray s (k .normal)
   | false=>A.fail
  | _=>A.fail
 | .eO,_,c,s,k=>match c with
  | .region _ ops draw=>match draw with
   | true=>zP aP T (Gm be Ψ) Ψ ops s (k .normal)
   | false=>mj aP T be Ψ ops ops.toList [] s (k .normal)
  | .skip=>k .normal s
  | .label _=>k .normal s
  | .exit id=>k (.exit id) s
  | .ret=>k .ret s
  | _=>A.fail
def lo(nt:Nat):Code->Bool
 | .region _ ops _=>ops.toList.all λo=>lk o nt
 | .seq a b=>lo nt a&&lo nt b
 | .cond _ a b=>lo nt a&&lo nt b
 | .block _ a=>lo nt a
 | .loop a=>lo nt a
 | .scope a=>lo nt a
 | .rangeFunc _ ps a b=>ps.toList.all (λp=>decide (p<nt))&&(lo nt a&&lo nt b)
 | .skip=>true
 | .label _=>true
 | .exit _=>true
 | .ret=>true
 | _=>false
end Go.Fer
