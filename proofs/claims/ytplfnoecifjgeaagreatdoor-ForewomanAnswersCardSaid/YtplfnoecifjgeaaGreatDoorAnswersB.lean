/- Part 2 of the proof of Answers: shallow programs of Go functions, and what they compute. No condition. -/
import Derived.Test.YtplfnoecifjgeaaGreatDoorAnswersA
import Derived.Laws.BytesString
noncomputable section
set_option linter.unusedVariables false
set_option linter.unusedSimpArgs false
namespace Go.Fer
open Go.RowKit
theorem CP{p:Addr}(h:p.spot=none)(n:Nat):p.add n=⟨p.block,p.off+n,none⟩:=by
 obtain⟨b,o,sp⟩:=p;simp only at h;subst h;exact vs b o n
theorem K8{e:ab}{xs:List e.aj}{i:Int}(E:0<=i)(U:i<(xs.length:Int)):kV e xs i=xs[i.toNat]'(by omega):=by
 unfold kV;grind
section
variable {C:b9} {T:Nat->ab} {bf:Nat->Option aN} {o:Oper} {s:aB} {res:eB}
theorem K9{P:Program}{w:World}{e:ab}{ty:TypeId}(h:b8 P (.slice e) ty){p:Addr}(ao:p.spot=none){n cap:Nat}{k:IntKind}{i:Int}(E:0<=i)(U:i<(n:Int)) :
  (Instr.indexAt ty (.slice (some p) n cap) (.int k i)).run P w=.ok (.pointer (some ⟨p.block,p.off+i.toNat*e.size,none⟩)) w:=by
 obtain⟨j,aF,jb,_⟩:=h.sl;simp[Instr.indexAt,asIntOf,dB aF,E,U,jb.size,CP ao]
theorem aea(aV:dS C.P T){ty:TypeId}{x i:Operand}(bg:∀ i,o.dst=some i->i<C.nt)(af:o.op=.indexAddr ty x i)(h:(bt C.aO T bf (a1 C.aO s.az) o).run s.aa=some res):cH C o s res:=by
 simp only[bt,af]at h;split at h
 ·rename_i bF k n aM G;have dq:=aV.cc aM (by simp);simp only[bO,aq.e2,Option.bind_eq_some_iff,aq.bM,Option.some.injEq]at h;obtain⟨⟨c,v⟩,hk,rfl⟩:=h;refine cH.pure (by grind) bg λa w κ F M bc hc=>?_;have ah:bz C.P s.aa κ F w (use (a1 C.aO s.az x)).2 (a.eval x):=cN M x rfl bc.1;have U:=oL (cN M i rfl bc.2) G;have zU:∀ (xs:List bF.aj),bI C.P (.slice bF) F w [a.eval x] xs->0<=n/\n<(xs.length:Int)->∃ r,(execOp a.eval o).run C.P w=.ok (.value r) w/\bz C.P s.aa κ F w (.dV bF (kV bF xs n)) r:=by
   intro xs hV aw;obtain⟨a',cap,ay,m1,m2,m3,m4⟩:=hV;have ay:=(List.cons.inj ay).1;cases a' with
   | none=>grind
   | some p=>
    obtain⟨dO,ej,jM⟩:=m4 p rfl (by omega);obtain⟨bj,d1,d2⟩:=jM n.toNat (by omega);refine⟨_,by simp[execOp,af,ay,U.1,K9 dq ej aw.1 aw.2],⟨p.block,p.off+n.toNat*bF.size,none⟩,bj,rfl,d1,?_⟩;rw[K8 aw.1 aw.2];exact d2
  unfold RN at hk;split at hk
  ·rename_i e xs e8;simp only[aq.bM]at hk;split at hk
   ·rename_i he;subst he;simp only[Option.some.injEq,Prod.mk.injEq]at hk;obtain⟨rfl,rfl⟩:=hk;rw[e8]at ah;exact zU xs ((dU rfl).1 ah).2 hc
   grind
  ·rename_i b g e8;rw[e8]at ah;simp only[aq.e1,aq.bM]at hk;split at hk
   ·rename_i aC;have aT:=M.bC b;unfold cD at aT;split at hk
    ·rename_i e xs bS;split at hk
     ·rename_i he;subst he;simp only[Option.some.injEq,Prod.mk.injEq]at hk;obtain⟨rfl,rfl⟩:=hk;have ae:=ah.2 aC.symm (by rw[bS];rfl);rw[bS]at ae aT;have vz:(κ b).e6=false:=by
       cases aw:(κ b).e6 with
       | false=>rfl
       | true=>rw[aT.1 aw]at hc;grind
      simp only[bB.slice,vz,Bool.false_eq_true,if_false,bQ.len]at ae;refine⟨_,by simp[execOp,af,ae,U.1,K9 dq (p:=⟨(κ b).aa,(κ b).off,none⟩) rfl hc.1 hc.2];rfl,⟨ah.1.1,rfl⟩,λ_ _=>?_⟩;rw[bS];exact⟨by simp only[bQ.len];omega,vz,rfl⟩
     grind
    ·rename_i e xs bS;split at hk
     ·rename_i he;subst he;simp only[Option.some.injEq,Prod.mk.injEq]at hk;obtain⟨rfl,rfl⟩:=hk;have ae:=ah.2 aC.symm (by rw[bS];rfl);rw[bS]at ae aT;simp only[bQ.len]at ae;refine zU xs ?_ hc;rw[ae];exact aT
     grind
    grind
   grind
  ·rename_i b g aY G e8;rw[e8]at ah;simp only[aq.e1,aq.bM]at hk;split at hk
   ·rename_i aC;have aT:=M.bC b;unfold cD at aT;split at hk
    ·rename_i e xs bS;split at hk
     ·rename_i he;subst he;simp only[Option.some.injEq,Prod.mk.injEq]at hk;obtain⟨rfl,rfl⟩:=hk;obtain⟨⟨aR,aW⟩,bL⟩:=ah.2 aC.symm (by rw[bS];rfl);rw[bS]at aW bL aT;simp only[bQ.len,bQ.e0]at aW bL;rcases bL with⟨aw,_⟩ | ⟨aw,mA,ae,gE,gF⟩
      ·rw[aT.1 aw]at aW;grind
      ·obtain⟨cs,hW,bD,c2,c3,c4,c5⟩:=aT.2 aw;refine⟨_,by simp[execOp,af,ae,U.1,K9 dq (p:=⟨(κ b).aa,mA,none⟩) rfl hc.1 hc.2];rfl,⟨ah.1.1,rfl⟩,λ_ _=>?_⟩;rw[bS];refine⟨by simp only[bQ.len];omega,aw,?_⟩;rw[gF (by omega)];simp only[bQ.e0,Nat.add_mul];grind
     grind
    ·rename_i e xs bS;split at hk
     ·rename_i he;subst he;simp only[Option.some.injEq,Prod.mk.injEq]at hk;obtain⟨rfl,rfl⟩:=hk;obtain⟨⟨aR,aW⟩,bL⟩:=ah.2 aC.symm (by rw[bS];rfl);rw[bS]at aW bL aT;simp only[bQ.len,bQ.e0]at aW bL;have hlen:((xs.take G).drop aY).length=G - aY:=by grind
      obtain⟨r,cg,cJ⟩:=zU ((xs.take G).drop aY) (F1 aT aR aW bL) (by omega);refine⟨r,cg,?_⟩;have ay:kV e ((xs.take G).drop aY) n=kV e xs ((aY:Int)+n):=by
       rw[K8 hc.1 (by omega),K8 (by omega) (by omega)];grind
      grind
     grind
    grind
   grind
  ·simp_all
  ·cases hk
 ·rename_i m bF k n aM G;split at h
  ·rename_i dx aZ xs e8;split at h
   ·rename_i he;obtain⟨rfl,rfl⟩:=he;simp only[bO,aq.bM,Option.some.injEq]at h;subst h;refine cH.pure (by grind) bg λa w κ F M bc hc=>?_;have ah:bz C.P s.aa κ F w (use (a1 C.aO s.az x)).2 (a.eval x):=cN M x rfl bc.1;rw[e8]at ah;have U:=oL (cN M i rfl bc.2) G;obtain⟨j,aF,ru,_⟩:=(aV.cc aM (by simp)).bh;obtain⟨p,bj,ae,cU,nZ⟩:=ah;obtain⟨bD,c2,c3,rfl,aP,cw⟩:=KV nZ (i:=n.toNat) (by omega);refine⟨.pointer (some ⟨p.block,p.off+n.toNat*aZ.size,none⟩),?_,⟨p.block,p.off+n.toNat*aZ.size,none⟩,c2,rfl,⟨cU.1,rfl,λq bq=>?_⟩,cw⟩
    ·simp[execOp,af,Instr.indexAt,ae,U.1,asIntOf,dB aF,hc.1,hc.2,ru.size,CP cU.2.1,Instr.sureAddr]
    ·have:=cU.2.2 (bD.length+q) (by grind);grind
   ·cases h
  ·rename_i b g off e8;simp only[aq.e1,aq.bM]at h;split at h
   ·rename_i bk;simp only[Bool.and_eq_true,decide_eq_true_eq]at bk;simp only[Option.some.injEq]at h;subst h;refine cH.pure (by grind) bg λa w κ F M bc hc=>?_;have E:bz C.P s.aa κ F w (use (a1 C.aO s.az x)).2 (a.eval x):=cN M x rfl bc.1;rw[e8]at E;have U:=oL (cN M i rfl bc.2) G;have ag:=E.2 bk.1.symm bk.2;obtain⟨j,aF,ru,_⟩:=(aV.cc aM (by simp)).bh;exact⟨_,by simp[execOp,af,Instr.indexAt,ag,U.1,asIntOf,dB aF,hc.1,hc.2,ru.size,CP (p:=⟨(κ b).aa,off,none⟩) rfl,Instr.sureAddr],⟨E.1.1,rfl⟩,λ_ _=>rfl⟩
   grind
  ·cases h
 ·cases h
theorem CQ{a:Act}{w:World}{κ:Nat->bB}{F:Nat->Prop}(M:bl C s a w κ F){x:Option Operand}{p:Prop}{n:Option Int}(h:lk (a1 C.aO s.az) x=some (p,n))(ao:p) :
  (x=none/\n=none)\/∃ y k m,x=some y/\n=some m/\a.eval y=.int k m:=by
 cases x with
 | none=>simp only[lk,Option.some.injEq,Prod.mk.injEq]at h;grind
 | some y=>
  simp only[lk]at h;split at h
  ·rename_i q k m hu;simp only[Option.some.injEq,Prod.mk.injEq]at h;obtain⟨rfl,rfl⟩:=h;exact .inr ⟨y,k,m,rfl,rfl,(gV.1 (cN M y hu ao)).1⟩
  grind
theorem Se{P:Program}{w:World}{isS:Bool}{len cap:Nat}{aY G:Option Value}{l h:Option Int}(ai:(aY=none/\l=none)\/∃ k m,aY=some (.int k m)/\l=some m)(cU:(G=none/\h=none)\/∃ k m,G=some (.int k m)/\h=some m)
  (E:0<=dr l) (U:dr l<=fz len h) (ag:fz len h<=(cap:Int)) (_h4:len<=cap):(Instr.sliceBounds isS len cap aY G none).run P w=.ok ((dr l).toNat,(fz len h).toNat,cap) w:=by
 rcases ai with⟨rfl,rfl⟩ | ⟨k,m,rfl,rfl⟩<;>rcases cU with⟨rfl,rfl⟩ | ⟨k',dx,rfl,rfl⟩<;>simp only[dr,fz]at E U ag ⊢
 ·rfl
 ·have:0<=dx/\dx<=(cap:Int):=by omega
  simp[Instr.sliceBounds,Instr.sliceBound,asIntOf,this]
 ·have:0<=m/\m<=(len:Int):=by omega
  simp[Instr.sliceBounds,Instr.sliceBound,asIntOf,this]
 ·have ay:0<=dx/\dx<=(cap:Int):=by omega
  have aP:0<=m/\m<=dx:=by omega
  have cw:max dx 0=dx:=by omega
  simp[Instr.sliceBounds,Instr.sliceBound,asIntOf,ay,aP,cw]
theorem aeb{l h:Option Int}{n m:Nat}(Sf:n<=m):Cu l h n m<=m:=by
 unfold Cu;grind
theorem aec(aV:dS C.P T){ty:TypeId}{x:Operand}{aY G:Option Operand}(bg:∀ i,o.dst=some i->i<C.nt)(af:o.op=.slice ty x aY G none)(h:(bt C.aO T bf (a1 C.aO s.az) o).run s.aa=some res):cH C o s res:=by
 simp only[bt,af,Option.isSome_none,Bool.false_eq_true,if_false,F4]at h;split at h
 ·rename_i ol l rm lW sz K_;have ar:∀ c,o.op≠.defer c:=by grind
  have sk:∀ (a:Act) (w:World) κ F,bl C s a w κ F->ol->rm->((aY.map a.eval=none/\l=none)\/∃ k m,aY.map a.eval=some (.int k m)/\l=some m)/\((G.map a.eval=none/\lW=none)\/∃ k m,G.map a.eval=some (.int k m)/\lW=some m):=by
   intro a w κ F M CR CS;constructor
   ·rcases CQ M sz CR with⟨rfl,rfl⟩ | ⟨y,k,m,rfl,rfl,e⟩
    ·exact .inl ⟨rfl,rfl⟩
    ·exact .inr ⟨k,m,by simp[e],rfl⟩
   ·rcases CQ M K_ CS with⟨rfl,rfl⟩ | ⟨y,k,m,rfl,rfl,e⟩
    ·exact .inl ⟨rfl,rfl⟩
    ·exact .inr ⟨k,m,by simp[e],rfl⟩
  split at h
  ·rename_i bF aM;have dq:=aV.cc aM (by simp);obtain⟨j,aF,jb,oN⟩:=dq.sl;simp only[aq.e2,Option.bind_eq_some_iff]at h;obtain⟨⟨c,v⟩,fT,h⟩:=h;simp only[bO,aq.bM,Option.some.injEq]at h;subst h;have runs:∀ (a:Act) (w:World) κ F,bl C s a w κ F->ol->rm->∀ (q:Option Addr) (n cap:Nat),a.eval x=.slice q n cap->n<=cap->0<=dr l/\dr l<=fz n lW/\fz n lW<=(cap:Int)->
     (execOp a.eval o).run C.P w=.ok (.value (.slice (if cap=(dr l).toNat then q else q.map (·.add ((dr l).toNat*bF.size))) ((fz n lW).toNat - (dr l).toNat) (cap - (dr l).toNat))) w:=by
    intro a w κ F M CR CS q n cap ae aw hc;obtain⟨ds,ec⟩:=sk a w κ F M CR CS;have:=Se (P:=C.P) (w:=w) (isS:=true) ds ec hc.1 hc.2.1 hc.2.2 aw;simp[execOp,af,ae,Instr.sliceAt,Instr.slice,dB aF,this,jb.size]
   unfold RO at fT;split at fT
   ·rename_i e xs e8;simp only[aq.bM]at fT;split at fT
    ·rename_i he;subst he;simp only[Option.some.injEq,Prod.mk.injEq]at fT;obtain⟨rfl,rfl⟩:=fT;refine cH.pure ar bg λa w κ F M bc hc=>?_;have ah:bz C.P s.aa κ F w (use (a1 C.aO s.az x)).2 (a.eval x):=cN M x rfl bc.1;rw[e8]at ah;obtain⟨_,a',cap,ay,m1,m2,m3,m4⟩:=(dU rfl).1 ah;have ay:=(List.cons.inj ay).1;refine⟨_,runs a w κ F M bc.2.1 bc.2.2 a' xs.length cap ay m1 ⟨hc.1,hc.2.1,by omega⟩,(dU rfl).2 ⟨rfl,?_⟩⟩;have hlen:((xs.take (fz xs.length lW).toNat).drop (dr l).toNat).length=(fz xs.length lW).toNat - (dr l).toNat:=by
      simp;omega
     refine⟨_,_,by rw[hlen],by omega,by omega,?_,λp ao vn=>?_⟩
     ·intro aw;split at aw
      ·omega
      ·cases a' with
       | none=>have:=m3 rfl;omega
       | some q=>cases aw
     ·cases a' with
      | none=>split at ao<;>cases ao
      | some q=>
       obtain⟨dO,ej,jM⟩:=m4 q rfl (by omega);have bq:∃ d,p=⟨q.block,q.off+d,none⟩/\(d=(dr l).toNat*e.size\/cap=(dr l).toNat):=by
        split at ao
        ·omega
        ·simp only[Option.map_some,Option.some.injEq]at ao;rw[CP ej]at ao;grind
       obtain⟨d,rfl,xj⟩:=bq;refine⟨dO,rfl,λi G=>?_⟩;rw[hlen]at G;obtain⟨bj,d1,d2⟩:=jM ((dr l).toNat+i) (by omega);rcases xj with rfl | xw
       ·refine⟨bj,⟨d1.1,rfl,λk al=>?_⟩,?_⟩
        ·have:=d1.2.2 k al;rw[Nat.add_mul]at this;rw[show q.off+(dr l).toNat*e.size+i*e.size=q.off+((dr l).toNat*e.size+i*e.size) from by omega];exact this
        ·have aP:((xs.take (fz xs.length lW).toNat).drop (dr l).toNat)[i]'(by rw[hlen];exact G)=xs[(dr l).toNat+i]'(by omega):=by simp
         rw[aP];exact d2
       ·omega
    grind
   ·rename_i e8;simp only[aq.bM,Option.some.injEq,Prod.mk.injEq]at fT;obtain⟨rfl,rfl⟩:=fT;refine cH.pure ar bg λa w κ F M bc hc=>?_;have ah:bz C.P s.aa κ F w (use (a1 C.aO s.az x)).2 (a.eval x):=cN M x rfl bc.1;rw[e8]at ah;simp only[bz]at ah;have jO:0<=dr l/\dr l<=fz 0 lW/\fz 0 lW<=((0:Nat):Int):=hc;have c7:=runs a w κ F M bc.2.1 bc.2.2 none 0 0 ah (Nat.le_refl _) jO;have aU:(fz 0 lW).toNat=0:=by omega
    rw[aU]at c7;refine⟨_,c7,?_⟩;simp only[bz];simp
   ·rename_i b g e8;simp only[aq.e1,aq.bM]at fT;split at fT
    ·rename_i bk;simp only[Bool.and_eq_true,decide_eq_true_eq,beq_iff_eq]at bk;obtain⟨⟨aC,e9⟩,CG⟩:=bk;simp only[Option.some.injEq,Prod.mk.injEq]at fT;obtain⟨rfl,rfl⟩:=fT;refine cH.pure ar bg λa w κ F M bc hc=>?_;have ah:bz C.P s.aa κ F w (use (a1 C.aO s.az x)).2 (a.eval x):=cN M x rfl bc.1;rw[e8]at ah;have ae:=ah.2 aC.symm e9;obtain⟨dO,ej⟩:=zP M e9;cases aw:(κ b).e6 with
     | true=>
      have aU:=dO aw;simp only[bB.slice,aw,if_true]at ae;rw[aU]at hc;have c7:=runs a w κ F M bc.2.1 bc.2.2 none 0 0 ae (Nat.le_refl _) hc;refine⟨_,c7,⟨ah.1.1,by rfl⟩,λ_ _=>⟨by grind,.inl ⟨aw,?_⟩⟩⟩;grind
     | false=>
      have xw:=KW M e9 aw;simp only[bB.slice,aw,Bool.false_eq_true,if_false]at ae;have c7:=runs a w κ F M bc.2.1 bc.2.2 _ _ _ ae xw ⟨hc.1,hc.2.1,by omega⟩;refine⟨_,c7,⟨ah.1.1,by rfl⟩,λ_ _=>⟨by omega,.inr ⟨aw,?_⟩⟩⟩;rw[<-CG];by_cases lR:(κ b).cap=(dr l).toNat
      ·grind
      ·rw[if_neg lR];simp only[Option.map_some,vs];simp
    grind
   ·rename_i b g fg aU e8;simp only[aq.e1,aq.bM]at fT;split at fT
    ·rename_i bk;simp only[Bool.and_eq_true,decide_eq_true_eq,beq_iff_eq]at bk;obtain⟨⟨aC,e9⟩,CG⟩:=bk;simp only[Option.some.injEq,Prod.mk.injEq]at fT;obtain⟨rfl,rfl⟩:=fT;refine cH.pure ar bg λa w κ F M bc hc=>?_;have ah:bz C.P s.aa κ F w (use (a1 C.aO s.az x)).2 (a.eval x):=cN M x rfl bc.1;rw[e8]at ah;obtain⟨⟨aR,aW⟩,bL⟩:=ah.2 aC.symm e9;obtain⟨dO,ej⟩:=zP M e9;have sA:Cu l lW (aU - fg) ((s.aa b).body.len - fg)<=(s.aa b).body.len - fg:=aeb (by omega);revert hc sA;generalize Cu l lW (aU - fg) ((s.aa b).body.len - fg)=lim;intro hc sA;rcases bL with⟨aw,ae⟩ | ⟨aw,mA,ae,gE,gF⟩
     ·have K':=dO aw;have bF:aU - fg=0:=by omega
      have elim:lim=0:=by omega
      rw[bF,elim]at hc;grind
     ·have xw:=KW M e9 aw;have c7:=runs a w κ F M bc.2.1 bc.2.2 _ _ _ ae (by omega) ⟨hc.1,hc.2.1,by omega⟩;refine⟨_,c7,⟨ah.1.1,by rfl⟩,λ_ _=>⟨by omega,.inr ⟨aw,?_⟩⟩⟩;rw[<-CG];rw[<-CG]at c7;have ay:(fz (aU - fg) lW).toNat - (dr l).toNat=fg+(fz (aU - fg) lW).toNat - (fg+(dr l).toNat):=by omega
      have aP:(κ b).cap - fg - (dr l).toNat=(κ b).cap - (fg+(dr l).toNat):=by omega
      rw[ay,aP];have cw:(fg+(dr l).toNat)*(s.aa b).body.e0=fg*(s.aa b).body.e0+(dr l).toNat*(s.aa b).body.e0:=Nat.add_mul _ _ _;by_cases lR:(κ b).cap - fg=(dr l).toNat
      ·rw[if_pos lR];exact⟨_,rfl,by omega,λh=>by omega⟩
      ·rw[if_neg lR];simp only[Option.map_some,vs];exact⟨_,rfl,by omega,λh=>by omega⟩
    grind
   ·cases fT
  ·rename_i aM;have dq:=(aV.cc aM (by simp)).str;split at h
   ·rename_i c v fT;simp only[bO,aq.bM,Option.some.injEq]at h;subst h;unfold RP at fT;split at fT
    ·rename_i xs e8;simp only[Option.some.injEq,Prod.mk.injEq]at fT;obtain⟨rfl,rfl⟩:=fT;refine cH.pure ar bg λa w κ F M bc hc=>?_;have ah:bz C.P s.aa κ F w (use (a1 C.aO s.az x)).2 (a.eval x):=cN M x rfl bc.1;rw[e8]at ah;obtain⟨ae,ck⟩:=mo.1 ah;obtain⟨ds,ec⟩:=sk a w κ F M bc.2.1 bc.2.2;have aE:ByteArray.size ⟨xs.toArray⟩=xs.length:=by rfl
     have:=Se (P:=C.P) (w:=w) (isS:=false) (len:=xs.length) (cap:=xs.length) ds ec hc.1 hc.2.1 hc.2.2 (Nat.le_refl _);refine⟨.string ⟨((xs.take (fz xs.length lW).toNat).drop (dr l).toNat).toArray⟩,?_,mo.2 ⟨rfl,by grind⟩⟩;simp only[execOp,af,ae,Instr.sliceAt,Instr.slice,Sem.run_bind,dB dq,Result.andThen_ok,Option.map_none,Option.isSome_none,Bool.false_eq_true,if_false,aE,this,Sem.run_pure];have he:ByteArray.extract ⟨xs.toArray⟩ (dr l).toNat (fz xs.length lW).toNat=⟨((xs.take (fz xs.length lW).toNat).drop (dr l).toNat).toArray⟩:=by
      apply ByteArray.ext;rw[ByteArray.data_extract];grind
     rw[he]
    grind
   ·cases h
  ·cases h
 ·cases h
end
end Go.Fer
namespace Go.Fer
open Go.RowKit
def gu(P:Program)(e:ab)(F:Nat->Prop)(w:World)(all:List Value)(xs:List e.aj):Prop:=
 all.length=xs.length*e.size/\∀ i (h:i<xs.length),bI P e F w ((all.drop (i*e.size)).take e.size) xs[i]
theorem gu.append{P:Program}{e:ab}{F:Nat->Prop}{w:World}{l m:List Value}{xs ys:List e.aj}(h:gu P e F w l xs)(k:gu P e F w m ys):gu P e F w (l++m) (xs++ys):=by
 refine⟨by simp[h.1,k.1,Nat.add_mul],λi G=>?_⟩;by_cases ah:i<xs.length
 ·have ay:(xs++ys)[i]=xs[i]:=List.getElem_append_left ah;rw[ay];have hle:(i+1)*e.size<=xs.length*e.size:=Nat.mul_le_mul_right _ (by omega);rw[Nat.add_mul,Nat.one_mul]at hle;have:((l++m).drop (i*e.size)).take e.size=(l.drop (i*e.size)).take e.size:=by
   rw[List.drop_append_of_le_length (by rw[h.1];omega),List.take_append_of_le_length (by simp[h.1];omega)]
  rw[this];exact h.2 i ah
 ·have dJ:i - xs.length<ys.length:=by grind
  have ay:(xs++ys)[i]=ys[i - xs.length]:=List.getElem_append_right (by omega);rw[ay];have hm:i*e.size=xs.length*e.size+(i - xs.length)*e.size:=by rw[<-Nat.add_mul];grind
  have:(l++m).drop (i*e.size)=m.drop ((i - xs.length)*e.size):=by
   rw[hm,<-h.1,List.drop_append,List.drop_of_length_le (by omega)];simp
  rw[this];exact k.2 _ dJ
theorem gu.CT{P:Program}{e:ab}{F:Nat->Prop}{w:World}{all pre post:List Value}{cs:Array Value}{xs:List e.aj}(h:gu P e F w all xs)(hc:cs.toList=pre++(all++post)):lL P e F w cs pre.length xs:=by
 intro i G;have hle:(i+1)*e.size<=xs.length*e.size:=Nat.mul_le_mul_right _ (by omega);rw[Nat.add_mul,Nat.one_mul]at hle;refine⟨_,λj aF=>?_,h.2 i G⟩;have fS:j<e.size:=by grind
 rw[<-Array.getElem?_toList,hc,List.getElem?_append_right (by omega),List.getElem?_append_left (by grind)];grind
theorem Gl{P:Program}{e:ab}{F:Nat->Prop}{w:World}:∀ {xs:List e.aj} {p:Addr},(0<xs.length->p.spot=none)->(∀ i (h:i<xs.length),∃ bj,kD w ⟨p.block,p.off+i*e.size,none⟩ bj/\bI P e F w bj xs[i])->
  ∃ all,gu P e F w all xs/\kD w p all
 | [],p,ao,_=>⟨[],⟨by simp,λi G=>by grind⟩,λh=>by grind,λj aF=>by grind⟩
 | x::xs,p,ao,h=>by
  obtain⟨bj,d1,d2⟩:=h 0 (by simp);have vy:=hS e d2;obtain⟨all,ca,a2⟩:=Gl (P:=P) (F:=F) (w:=w) (xs:=xs) (p:=⟨p.block,p.off+e.size,none⟩) (λ_=>rfl) (λi G=>by
   obtain⟨Sd,aR,aW⟩:=h (i+1) (by grind);grind)
  refine⟨bj++all,?_,λ_=>ao (by simp),λj aF=>?_⟩
  ·have E:gu P e F w bj [x]:=⟨by grind,λi G=>by
    have:i=0:=by grind
    subst this;grind⟩
   exact E.append ca
  ·rcases Nat.lt_or_ge j bj.length with E | E
   ·rw[List.getElem_append_left E];have:=d1.2 j E;grind
   ·rw[List.getElem_append_right E];have:=a2.2 (j - bj.length) (by grind);grind
section
variable {C:b9} {T:Nat->ab} {bf:Nat->Option aN} {o:Oper} {s:aB} {res:eB}
theorem sB{a:Act}{w:World}{κ:Nat->bB}{F:Nat->Prop}(M:bl C s a w κ F){e:ab}{av:aH}{v:Value}{ys:List e.aj}{l:List Nat}(h:(dz (.slice e) av).run s.aa=some (ys,l))(ae:bz C.P s.aa κ F w av v) :
  ∃ q cap,v=.slice q ys.length cap/\((q=none/\ys=[]/\cap=0)\/∃ p all,q=some p/\gu C.P e F w all ys/\kD w p all):=by
 have zU:∀ {xs:List e.aj},bI C.P (.slice e) F w [v] xs->∃ q cap,v=.slice q xs.length cap/\((q=none/\xs=[]/\cap=0)\/∃ p all,q=some p/\gu C.P e F w all xs/\kD w p all):=by
  intro xs ah;obtain⟨q,cap,ay,m1,m2,m3,m4⟩:=ah;refine⟨q,cap,(List.cons.inj ay).1,?_⟩;cases q with
  | none=>
   simp_all
  | some p=>
   obtain⟨all,ca,a2⟩:=Gl (P:=C.P) (F:=F) (w:=w) (xs:=xs) (p:=p) (λh=>(m4 p rfl (by omega)).2.1) (λi G=>let ⟨bj,d1,d2⟩:=(m4 p rfl (by omega)).2.2 i G;⟨bj,d1.KO,d2⟩);grind
 cases av with
 | val cW y=>
  simp only[dz,aq.bM,Option.map_eq_some_iff,Prod.mk.injEq]at h;obtain⟨z,bk,rfl,_⟩:=h;exact zU (((dU rfl).1 (FZ bk ae)).2)
 | dn=>
  simp only[dz,ky,ab.eG,if_true,dW,aq.bM,Option.some.injEq,Prod.mk.injEq]at h;obtain⟨rfl,_⟩:=h;simp only[bz]at ae;grind
 | an b g=>
  simp only[dz,ky,ab.eG,if_true,dW,aq.e1,aq.bM]at h;split at h
  ·rename_i aC;have aT:=M.bC b;unfold cD at aT;split at h
   ·rename_i aZ xs bS;simp only[Option.map_eq_some_iff,Prod.mk.injEq]at h;obtain⟨z,bk,rfl,_⟩:=h;obtain⟨rv,rfl⟩:=kU bk;cases rv;have uc:=ae.2 aC.symm (by rw[bS];rfl);rw[bS]at uc aT;simp only[bQ.len]at uc;cases aw:(κ b).e6 with
    | true=>
     have hV:=aT.1 aw;subst hV;simp only[bB.slice,aw,if_true]at uc;grind
    | false=>
     obtain⟨cs,hW,bD,c2,c3,c4,c5⟩:=aT.2 aw;simp only[bB.slice,aw,Bool.false_eq_true,if_false]at uc;obtain⟨all,ca,a2⟩:=Gl (P:=C.P) (F:=F) (w:=w) (xs:=xs) (p:=⟨(κ b).aa,(κ b).off,none⟩) (λ_=>rfl) (λi G=>by
      obtain⟨bj,d1,d2⟩:=c5 i G;exact⟨bj,⟨λ_=>rfl,λj aF=>by rw[vu bD];grind⟩,d2⟩)
     grind
   ·rename_i aZ xs bS;simp only[Option.map_eq_some_iff,Prod.mk.injEq]at h;obtain⟨z,bk,rfl,_⟩:=h;obtain⟨rv,rfl⟩:=kU bk;cases rv;have uc:=ae.2 aC.symm (by rw[bS];rfl);rw[bS]at uc aT;simp only[bQ.len]at uc;simp only[jG]at aT;grind
   grind
  grind
 | sub b g aY G=>
  simp only[dz,ky,ab.eG,if_true,dW,aq.e1,aq.bM]at h;split at h
  ·rename_i aC;have aT:=M.bC b;unfold cD at aT;split at h
   ·rename_i aZ xs bS;simp only[Option.map_eq_some_iff,Prod.mk.injEq]at h;obtain⟨z,bk,rfl,_⟩:=h;obtain⟨rv,rfl⟩:=kU bk;cases rv;obtain⟨⟨aR,aW⟩,bL⟩:=ae.2 aC.symm (by rw[bS];rfl);rw[bS]at aW bL aT;simp only[bQ.len,bQ.e0]at aW bL;have hlen:((xs.take G).drop aY).length=G - aY:=by grind
    rcases bL with⟨aw,uc⟩ | ⟨aw,mA,uc,gE,gF⟩
    ·have hV:=aT.1 aw;grind
    ·obtain⟨cs,hW,bD,c2,c3,c4,c5⟩:=aT.2 aw;obtain⟨all,ca,a2⟩:=Gl (P:=C.P) (F:=F) (w:=w) (xs:=(xs.take G).drop aY) (p:=⟨(κ b).aa,mA,none⟩) (λ_=>rfl) (λi dJ=>by
      rw[hlen]at dJ;obtain⟨bj,d1,d2⟩:=c5 (aY+i) (by omega);refine⟨bj,⟨λ_=>rfl,λj aF=>?_⟩,?_⟩
      ·rw[vu bD,<-d1 j aF];grind
      grind)
     grind
   ·rename_i aZ xs bS;simp only[Option.map_eq_some_iff,Prod.mk.injEq]at h;obtain⟨z,bk,rfl,_⟩:=h;obtain⟨rv,rfl⟩:=kU bk;cases rv;obtain⟨⟨aR,aW⟩,bL⟩:=ae.2 aC.symm (by rw[bS];rfl);rw[bS]at aW bL aT;exact zU (F1 aT aR aW bL)
   grind
  grind
 | dV cW y=>simp[dz,ky,ab.eG,dW,aq.none]at h
 | jF u=>simp[dz,ky,ab.eG,dW,Cq]at h
 | _=>simp[dz,ky,ab.eG,dW,aq.none]at h
theorem zV{P:Program}{w:World}{e:ab}{q:Option Addr}{n cap:Nat}{xs:List e.aj}{F:Nat->Prop}(aw:n=xs.length)(h:(q=none/\xs=[]/\cap=0)\/∃ p all,q=some p/\gu P e F w all xs/\kD w p all) :
  ∃ all,(Builtin.firstCells e.size n (.slice q n cap)).run P w=.ok all.toArray w/\gu P e F w all xs:=by
 subst aw;rcases h with⟨rfl,rfl,rfl⟩ | ⟨p,all,rfl,ca,a2⟩
 ·exact⟨[],by rfl,by simp[gu]⟩
 ·refine⟨all,?_,ca⟩;simp only[Builtin.firstCells];rw[<-ca.1];exact Ga a2
theorem aed(n:Nat):∀ (k c:Nat),Builtin.growBy n k c<=max c (2*n+768):=by
 intro k;induction k with
 | zero=>intro c;simp only[Builtin.growBy];omega
 | succ k aI=>
  intro c;simp only[Builtin.growBy];grind
theorem aee{Gm cap:Nat}(h:cap<Gm):Builtin.nextslicecap Gm cap<=2*Gm+768:=by
 unfold Builtin.nextslicecap;split
 ·omega
 ·split
  ·omega
  ·have:=aed Gm 4 cap;omega
theorem aef{z:Array Value}{n k:Nat}(h:z.size=k):(Builtin.zeroCells z n).size=n*k:=by simp[Builtin.zeroCells,h]
theorem aeg{P:Program}{w:World}{e:ab}{ty mV:TypeId}{F:Nat->Prop}(h:b8 P (.slice e) ty)(dt:b8 P (.slice e) mV\/∃ aZ,b8 P (.slice aZ) mV){q q':Option Addr}{cap cap':Nat}{xs ys:List e.aj}
  (ah:(q=none/\xs=[]/\cap=0)\/∃ p all,q=some p/\gu P e F w all xs/\kD w p all) (aS:(q'=none/\ys=[]/\cap'=0)\/∃ p all,q'=some p/\gu P e F w all ys/\kD w p all)
  (hc:cap<xs.length+ys.length) (ai:b_ (xs.length+ys.length)) (rt:TypeId) :
  ∃ jP ry cs,(Builtin.append_ #[ty,mV] rt #[.slice q xs.length cap,.slice q' ys.length cap']).run P w=.ok (.slice (some ⟨w.heap.size,0,none⟩) (xs.length+ys.length) ry) (w.drew.alloc (.cells cs jP))/\
   ry<2 ^ 63/\xs.length+ys.length<=ry/\cs.size=ry*e.size/\lL P e F w cs 0 (xs++ys):=by
 obtain⟨jP,aF,jb,oN⟩:=h.sl;obtain⟨kg,fS⟩:∃ kg,P.underlying mV=some (.slice kg):=by
  rcases dt with dt | ⟨aZ,dt⟩
  ·obtain⟨kg,k,_⟩:=dt.sl;grind
  ·obtain⟨kg,k,_⟩:=dt.sl;grind
 obtain⟨i,z,i1,i2,i3,i4,i5,i6⟩:=kA jb.kz;have bk:=(CL e (P:=P) i5).2;have aeh:∀ t:Nat,xs.length+ys.length<=xs.length+ys.length+t % (2 ^ 63 - (xs.length+ys.length))/\xs.length+ys.length+t % (2 ^ 63 - (xs.length+ys.length))<2 ^ 63:=by
  intro t;unfold b_ at ai;have:t % (2 ^ 63 - (xs.length+ys.length))<2 ^ 63 - (xs.length+ys.length):=Nat.mod_lt _ (by omega);omega
 generalize La:xs.length+ys.length+(w.tape w.drawn (.appendCap (xs.length+ys.length) cap jP)) % (2 ^ 63 - (xs.length+ys.length))=ry;have Lb:=aeh (w.tape w.drawn (.appendCap (xs.length+ys.length) cap jP));rw[La]at Lb;have Sg:∀ {p:Addr} {all:List Value},kD w p all->kD w.drew p all:=λh=>h;have Sh:∀ {all:List Value} {zs:List e.aj},gu P e F w all zs->gu P e F w.drew all zs:=λh=>⟨h.1,λi G=>fc e (F:=F) (F':=F) (w:=w) (w':=w.drew) (λ_ M=>M) ⟨Nat.le_refl _,λ_ _=>rfl⟩ (h.2 i G)⟩
 have nY:(q=none/\xs=[]/\cap=0)\/∃ p all,q=some p/\gu P e F w.drew all xs/\kD w.drew p all:=ah.imp id λ⟨p,all,a,b,c⟩=>⟨p,all,a,Sh b,Sg c⟩
 have CU:(q'=none/\ys=[]/\cap'=0)\/∃ p all,q'=some p/\gu P e F w.drew all ys/\kD w.drew p all:=aS.imp id λ⟨p,all,a,b,c⟩=>⟨p,all,a,Sh b,Sg c⟩
 obtain⟨vA,gE,gF⟩:=zV (P:=P) (w:=w.drew) (cap:=cap) rfl nY;obtain⟨ey,dO,ej⟩:=zV (P:=P) (w:=w.drew) (cap:=cap') rfl CU;refine⟨jP,ry,vA.toArray++ey.toArray++Builtin.zeroCells z.cells (ry - (xs.length+ys.length)),?_,Lb.2,Lb.1,?_,?_⟩
 ·have W:=aee hc;have rz:Builtin.nextslicecap (xs.length+ys.length) cap*i.bytes<=281474976710656:=by
   unfold b_ at ai;calc Builtin.nextslicecap (xs.length+ys.length) cap*i.bytes<=(2*4294967296+768)*1024:=Nat.mul_le_mul (by omega) i3
    _<=281474976710656:=by decide
  have zW:¬((xs.length+ys.length:Nat):Int) > IntKind.i64.max:=by
   unfold b_ at ai;have:IntKind.i64.max=9223372036854775807:=by decide
   omega
  have aei:¬Builtin.nextslicecap (xs.length+ys.length) cap*i.bytes > 2 ^ 48:=by
   omega
  have Si:(Question.appendCap (xs.length+ys.length) cap jP).cut (w.tape w.drawn (.appendCap (xs.length+ys.length) cap jP))=ry:=by
   rw[<-La];rfl
  have aej:(Question.appendCap (xs.length+ys.length) cap jP).forced=false:=rfl;simp only[Builtin.append_,List.getElem?_toArray,List.getElem?_cons_zero,List.getElem?_cons_succ,Sem.run_bind,dB aF,dB fS,Result.andThen_ok,ss i1,i2,Sem.run_pure,Builtin.lenOf,Bool.false_eq_true,if_false,if_neg (show ¬xs.length+ys.length<=cap by omega),zW,false_and,F9 i1,aei,run_choose,aej,Si,run_askRoom,Bool.not_false,if_true,World.drew_eq,gE,dO,rp i1 i4];rfl
 ·have E:=gF.1;have U:=ej.1;simp only[Array.size_append,List.size_toArray,aef bk,E,U];rw[<-Nat.add_mul,<-Nat.add_mul];grind
 ·have jo:=gF.append ej;have aek:gu P e F w (vA++ey) (xs++ys):=⟨jo.1,λi G=>fc e (F:=F) (F':=F) (w:=w.drew) (w':=w) (λ_ M=>M) ⟨Nat.le_refl _,λ_ _=>rfl⟩ (jo.2 i G)⟩
  exact aek.CT (pre:=[]) (post:=(Builtin.zeroCells z.cells (ry - (xs.length+ys.length))).toList) (by simp)
end
end Go.Fer
namespace Go.Fer
open Go.RowKit
section
variable {C:b9} {T:Nat->ab} {bf:Nat->Option aN} {o:Oper} {s:aB} {res:eB}
theorem bl.CV{a:Act}{w w':World}{κ:Nat->bB}{F:Nat->Prop}(h:bl C s a w κ F){b g:Nat}{e:ab}{zs:List e.aj}{k:bB}(aC:(s.aa b).gen<g)(lp:k.e6=true\/k.aa=w.heap.size)(cf:w.heap.size<=w'.heap.size)
  (n1:∀ r,r<w.heap.size->w'.heap[r]?=w.heap[r]?) (ck:k.e6=false->k.aa<w'.heap.size) (hc:dd w w')
  (bS:∀ H κ',jG C.P H κ' F w' k (.bh e zs)):bl C (s.cx b ⟨g,.bh e zs⟩) a w' (λi=>if i=b then k else κ i) F:=by
 have ai:fq s.aa κ (λi=>if i=b then (⟨g,.bh e zs⟩:bK) else s.aa i) (λi=>if i=b then k else κ i):=zy aC λbe de=>by grind
 have he:c6 F w w':=⟨cf,λr M=>n1 r (h.db r M)⟩
 refine h.move (H':=λi=>if i=b then (⟨g,.bh e zs⟩:bK) else s.aa i) ai (λ_ M=>M) (λ_ M=>.inl M) cf (λr M _=>n1 r M) hc (λ_=>?_) ?_ ?_ (λr M=>Nat.lt_of_lt_of_le (h.db r M) cf) (zz (.inr ⟨rfl,rfl⟩) λbe de=>by grind)
 ·intro i;by_cases G:i=b
  ·subst G;simp only[cD,if_true];grind
  ·exact cD.lj (h.bC i) ai (λ_ M=>M) he (by grind) (by grind) λaf=>n1 _ (h.an i af).1
 ·intro i G;by_cases eM:i=b
  ·subst eM;simp only[if_true,bQ.bZ,Bool.not_eq_true']at G ⊢;have al:=lp.resolve_left (by grind);refine⟨ck G,λau=>?_,.inr (by omega)⟩;have:=h.db _ au;omega
  ·simp only[if_neg eM]at G ⊢;have:=h.an i G;grind
 ·intro i j G aF aZ;by_cases eM:i=b<;>by_cases mr:j=b
  ·omega
  ·simp only[if_pos eM,if_neg mr,bQ.bZ,Bool.not_eq_true']at G aF aZ;have al:=lp.resolve_left (by grind);have:=(h.an j aF).1;omega
  ·simp only[if_neg eM,if_pos mr,bQ.bZ,Bool.not_eq_true']at G aF aZ;have al:=lp.resolve_left (by grind);have:=(h.an i G).1;omega
  ·simp only[if_neg eM,if_neg mr]at G aF aZ;exact h.inj i j G aF aZ
theorem ael(s:aB)(b:Nat)(x y:bK):(s.cx b x).cx b y=s.cx b y:=by
 unfold aB.cx;grind
theorem bl.aem{a:Act}{w:World}{κ:Nat->bB}{F:Nat->Prop}(h:bl C s a w κ F){b:Nat}{e:ab}{xs:List e.aj}(W:(s.aa b).body=.bh e xs){aY G:Nat}(E:aY<=G)(U:G<=xs.length){v:Value}(aE:FY (κ b) e.size aY G v) :
  ∃ κ',bl C (s.cx b ⟨(s.aa b).gen+1,.bh e ((xs.take G).drop aY)⟩) a w κ' F/\v=(κ' b).slice ((xs.take G).drop aY).length:=by
 have hlen:((xs.take G).drop aY).length=G - aY:=by grind
 have gr:∀ κ':Nat->bB,(∀ be,be≠b->κ' be=κ be)->fq s.aa κ (λi=>if i=b then (⟨(s.aa b).gen+1,.bh e ((xs.take G).drop aY)⟩:bK) else s.aa i) κ':=
  λκ' Co=>zy (Nat.lt_succ_self _) Co
 have aT:=h.bC b;unfold cD at aT;rw[W]at aT;rcases aE with⟨aw,rfl⟩ | ⟨aw,o,rfl,gE,gF⟩
 ·have hV:=aT.1 aw;subst hV;refine⟨κ,?_,by simp[bB.slice,aw]⟩;refine h.move (H':=λi=>if i=b then (⟨(s.aa b).gen+1,.bh e ((([]:List e.aj).take G).drop aY)⟩:bK) else s.aa i) (gr κ λ_ _=>rfl) (λ_ M=>M) (λ_ M=>.inl M) (Nat.le_refl _) (λ_ _ _=>rfl) (dd.refl _) (λ_=>?_) ?_ ?_ h.db (zz (.inr ⟨rfl,rfl⟩) λ_ _=>rfl)
  ·intro i;by_cases G:i=b
   ·subst G;simp only[cD,if_true];exact⟨λ_=>by simp,λh=>by grind⟩
   ·exact cD.lj (h.bC i) (gr κ λ_ _=>rfl) (λ_ M=>M) (c6.refl _ _) (by grind) rfl λ_=>rfl
  ·intro i G;by_cases eM:i=b
   ·subst eM;simp[bQ.bZ,aw]at G
   ·simp only[if_neg eM]at G;exact⟨(h.an i G).1,(h.an i G).2.1,.inl ⟨i,G,rfl⟩⟩
  ·intro i j G aF aZ;by_cases eM:i=b
   ·subst eM;simp[bQ.bZ,aw]at G
   ·by_cases mr:j=b
    ·subst mr;simp[bQ.bZ,aw]at aF
    ·simp only[if_neg eM,if_neg mr]at G aF;exact h.inj i j G aF aZ
 ·obtain⟨cs,hW,bD,c2,c3,c4,c5⟩:=aT.2 aw;let k':bB:=⟨(κ b).aa,o,(κ b).cap - aY,false⟩
  let κ':Nat->bB:=λi=>if i=b then k' else κ i
  have CW:∀ be,be≠b->κ' be=κ be:=λbe h=>if_neg h;have zX:κ' b=k':=if_pos rfl;have gm:=h.an b (by rw[W];simp[bQ.bZ,aw]);refine⟨κ',?_,by rw[zX,hlen];rfl⟩;refine h.move (H':=λi=>if i=b then (⟨(s.aa b).gen+1,.bh e ((xs.take G).drop aY)⟩:bK) else s.aa i) (gr κ' CW) (λ_ M=>M) (λ_ M=>.inl M) (Nat.le_refl _) (λ_ _ _=>rfl) (dd.refl _) (λ_=>?_) ?_ ?_ h.db (zz (.inr ⟨rfl,rfl⟩) CW)
  ·intro i;by_cases dJ:i=b
   ·subst dJ;simp only[cD,if_true,zX];have hmul:aY*e.size<=(κ i).cap*e.size:=Nat.mul_le_mul_right _ (by omega);refine⟨λh=>(by cases h),λ_=>⟨cs,hW,bD,?_,by grind,by grind,λj aF=>?_⟩⟩
    ·simp only[k'];rw[Nat.sub_mul];omega
    ·rw[hlen]at aF;obtain⟨bj,d1,d2⟩:=c5 (aY+j) (by omega);grind
   ·exact cD.lj (h.bC i) (gr κ' CW) (λ_ M=>M) (c6.refl _ _) (by grind) (CW i dJ) λ_=>rfl
  ·intro i dJ;by_cases eM:i=b
   ·subst eM;rw[zX];exact⟨gm.1,gm.2.1,.inl ⟨i,by rw[W];simp[bQ.bZ,aw],rfl⟩⟩
   ·simp only[if_neg eM]at dJ;rw[CW i eM]at dJ ⊢;exact⟨(h.an i dJ).1,(h.an i dJ).2.1,.inl ⟨i,dJ,rfl⟩⟩
  ·intro i j dJ aF aZ;have Sj:∀ i,(κ' i).aa=(κ i).aa:=λi=>by
    grind
   have cb:∀ i,((if i=b then (⟨(s.aa b).gen+1,.bh e ((xs.take G).drop aY)⟩:bK) else s.aa i).body.bZ (κ' i)=true)->(s.aa i).body.bZ (κ i)=true:=λi G=>by
    by_cases eM:i=b
    ·subst eM;rw[W];simp[bQ.bZ,aw]
    grind
   rw[Sj,Sj]at aZ;exact h.inj i j (cb i dJ) (cb j aF) aZ
theorem lL.lh{P:Program}{e:ab}{F:Nat->Prop}{w w':World}{cs:Array Value}{off:Nat}{xs:List e.aj}(h:lL P e F w cs off xs)(he:c6 F w w'):lL P e F w' cs off xs:=h.mono (λ_ M=>M) he
theorem aen(aV:dS C.P T){args:Array Operand}{dp:Array TypeId}(bg:∀ i,o.dst=some i->i<C.nt)(af:o.op=.call { callee:=.builtin .append,args:=args,argTypes:=dp })(h:(Cw T (a1 C.aO s.az) o.dst args.toList dp.toList).run s.aa=some res):cH C o s res:=by
 obtain⟨args⟩:=args;obtain⟨dp⟩:=dp;have ar:∀ c,o.op≠.defer c:=by grind
 simp only[Cw]at h;split at h
 ·rename_i x y t u;split at h
  ·rename_i e aP aM hu;have dq:=aV.cc aM (by simp);have vw:=aV.cc hu (by simp);obtain⟨jP,aF,jb,oN⟩:=dq.sl;obtain⟨aeo,fS,_⟩:=vw.sl;obtain⟨inf,z,i1,i2,i3,i4,i5,i6⟩:=kA jb.kz;have mW:∀ (a:Act) (w w':World) v,(Builtin.append_ #[t,u] o.type #[a.eval x,a.eval y]).run C.P w=.ok v w'->(execOp a.eval o).run C.P w=.ok (.value v) w':=by
    intro a w w' v ae;refine xt af ?_;simp[builtin,ae]
   have main:∀ (s:aB) (a:Act) (w:World) (κ:Nat->bB) (F:Nat->Prop) (Q:Exit->Act->World->Prop) (b g:Nat) (xs ys:List e.aj),bl C s a w κ F->
     (∃ q cap,a.eval y=.slice q ys.length cap/\((q=none/\ys=[]/\cap=0)\/∃ p all,q=some p/\gu C.P e F w all ys/\kD w p all))->
     (s.aa b).gen<g->(∃ q cap,a.eval x=.slice q xs.length cap/\((q=none/\xs=[]/\cap=0)\/∃ p all,q=some p/\gu C.P e F w all xs/\kD w p all))->
     (∀ q cap,a.eval x=.slice q xs.length cap->q≠none->xs.length+ys.length<=cap->(s.aa b).body=.bh e xs/\(κ b).e6=false/\q=some ⟨(κ b).aa,(κ b).off,none⟩/\cap=(κ b).cap)->b_ (xs.length+ys.length)->
     o.wpIn (dR C.r) 0 C.P a w (λa' w'=>ct C ((s.cx b ⟨g,.bh e (xs++ys)⟩).set o.dst (.an b g)) a' w') Q:=by
    intro s a w κ F Q b g xs ys M n2 Lc sC aep hlen;obtain⟨q,cap,sC,Ld⟩:=sC;obtain⟨q',cap',ud,n2⟩:=n2;have Le:∀ (κ':Nat->bB) (v:Value) (w':World),bl C (s.cx b ⟨g,.bh e (xs++ys)⟩) a w' κ' F->v=(κ' b).slice (xs++ys).length->ct C ((s.cx b ⟨g,.bh e (xs++ys)⟩).set o.dst (.an b g)) (a.put o.dst v) w':=by
     intro κ' v w' ba ae;refine⟨κ',F,bl.set ba bg ⟨⟨by simp[aB.cx],?_⟩,λ_ _=>?_⟩⟩
     ·rw[ae];unfold bB.slice;split<;>rfl
     ·rw[ae];simp[aB.cx,bQ.len]
    by_cases xx:xs.length+ys.length<=cap
    ·cases bq:q with
     | none=>
      subst bq;obtain⟨aeq,vn⟩:xs=[]/\cap=0:=by
       grind
      subst aeq;subst vn;have Lf:ys=[]:=by grind
      subst Lf;obtain⟨ey,dO,ej⟩:=zV (P:=C.P) (w:=w) (cap:=cap') rfl n2;have c7:(Builtin.append_ #[t,u] o.type #[a.eval x,a.eval y]).run C.P w=.ok (.slice none 0 0) w:=by
       rw[sC,ud];simp only[List.length_nil]at dO ⊢;simp[Builtin.append_,dB aF,dB fS,ss i1,Builtin.lenOf];rw[i2,dO];simp
      refine hy ar (mW a w w _ c7) (Le _ _ _ (M.CV (k:=⟨0,0,0,true⟩) Lc (.inl rfl) (Nat.le_refl _) (λ_ _=>rfl) (λh=>by cases h) (dd.refl _) λH κ'=>⟨λ_=>rfl,λh=>by cases h⟩) ?_);simp[bB.slice]
     | some Gn=>
      obtain⟨W,vz,ao,xw⟩:=aep q cap sC (by grind) xx;rw[bq]at ao;have ao:=Option.some.inj ao;subst ao;subst xw;have aT:=M.bC b;unfold cD at aT;rw[W]at aT;obtain⟨cs,hW,bD,c2,c3,c4,c5⟩:=aT.2 vz;obtain⟨ey,dO,ej⟩:=zV (P:=C.P) (w:=w) (cap:=cap') rfl n2;have pE:=ej.1;have n0:∀ v∈ey,v.oneCell'=true:=by
       intro v ae;obtain⟨j,aF,rfl⟩:=List.mem_iff_getElem.1 ae;have lo:0<e.size:=Nat.pos_of_ne_zero oN;have hdiv:j / e.size<ys.length:=(Nat.div_lt_iff_lt_mul lo).2 (by omega);have nZ:=ej.2 (j / e.size) hdiv;have iE:=zC (P:=C.P) (H:=λ_=>⟨0,.fy⟩) (κ:=λ_=>⟨0,0,0,true⟩) e nZ;have zY:=Nat.mod_lt j lo;have aer:j / e.size*e.size+j % e.size=j:=Nat.div_add_mod' j e.size;have CX:((ey.drop (j / e.size*e.size)).take e.size).length=e.size:=hS e nZ;have:=(iE.kV (j % e.size) (by rw[iE.len,CX];omega)).2;grind
      have aes:(κ b).off+xs.length*e.size+0+ey.length<=cs.size:=by
       rw[pE];have:(xs.length+ys.length)*e.size<=(κ b).cap*e.size:=Nat.mul_le_mul_right _ xx;grind
      obtain⟨w',di,cg,cJ,et,lS,lT,mx⟩:=vv (P:=C.P) ey ((κ b).off+xs.length*e.size) 0 w cs bD aes n0;have c7:(Builtin.append_ #[t,u] o.type #[a.eval x,a.eval y]).run C.P w=.ok (.slice (some ⟨(κ b).aa,(κ b).off,none⟩) (xs.length+ys.length) (κ b).cap) w':=by
       rw[sC,ud,bq];simp only[Builtin.append_,List.getElem?_toArray,List.getElem?_cons_zero,List.getElem?_cons_succ,Sem.run_bind,dB aF,dB fS,Result.andThen_ok,ss i1,i2,Sem.run_pure,Builtin.lenOf,Bool.false_eq_true,if_false,if_pos xx,Bool.not_false,if_true,dO,vs];simp only[cg,Result.andThen_ok]
      have gr:fq s.aa κ (λi=>if i=b then (⟨g,.bh e (xs++ys)⟩:bK) else s.aa i) κ:=zy Lc λ_ _=>rfl;refine hy ar (mW a w w' _ c7) (Le κ _ _ (M.px (b:=b) (by rw[W];simp[bQ.bZ,vz]) (by simp[bQ.bZ,vz]) gr (λh=>by cases h) (λh=>by cases h) lS lT mx λH mY ck he=>?_) (by simp[bB.slice,vz]));refine⟨λh=>(by grind),λ_=>?_⟩;have Gj:di.size=cs.size:=by
       rw[<-Array.length_toList,et];grind
      refine⟨di,hW,cJ,by omega,by grind,c4,λi G=>?_⟩;simp only[Nat.add_zero]at et;have gP:(cs.toList.take ((κ b).off+xs.length*e.size)).length=(κ b).off+xs.length*e.size:=by grind
      by_cases Sk:i<xs.length
      ·obtain⟨bj,d1,d2⟩:=c5 i Sk;have ay:(xs++ys)[i]=xs[i]:=List.getElem_append_left Sk;rw[ay];refine⟨bj,λk al=>?_,fc e (λ_ M=>M) he d2⟩;have Sl:=hS e d2;have hle:(i+1)*e.size<=xs.length*e.size:=Nat.mul_le_mul_right _ (by omega);rw[Nat.add_mul]at hle;rw[<-Array.getElem?_toList,et,List.getElem?_append_left (by omega),List.getElem?_take,if_pos (by omega)];grind
      ·have dJ:i - xs.length<ys.length:=by grind
       have ay:(xs++ys)[i]=ys[i - xs.length]:=List.getElem_append_right (by omega);rw[ay];have CY:=ej.CT (pre:=cs.toList.take ((κ b).off+xs.length*e.size)) (post:=cs.toList.drop ((κ b).off+xs.length*e.size+ey.length)) et;obtain⟨bj,d1,d2⟩:=CY (i - xs.length) dJ;refine⟨bj,λk al=>?_,fc e (λ_ M=>M) he d2⟩;have:=d1 k al;rw[gP]at this;rw[<-this];congr 1;have:i*e.size=xs.length*e.size+(i - xs.length)*e.size:=by rw[<-Nat.add_mul];grind
       omega
    ·obtain⟨aet,ry,cs,cg,cJ,et,lS,lT⟩:=aeg (P:=C.P) (w:=w) (F:=F) (cap:=cap) (cap':=cap') dq (.inr ⟨aP,vw⟩) Ld n2 (by omega) hlen o.type;rw[<-sC,<-ud]at cg;refine hy ar (mW a w _ _ cg) (Le _ _ _ (M.CV (k:=⟨w.heap.size,0,ry,false⟩) Lc (.inr rfl) (by simp) (λr M=>?_) (λ_=>by simp) ⟨rfl,rfl,rfl⟩ λH κ'=>⟨λh=>(by cases h),λ_=>⟨cs,aet,?_,by grind,by grind,cJ,?_⟩⟩) ?_)
     ·exact pw w.drew _ M
     ·exact qt w.drew _
     ·exact lT.lh ⟨by simp,λr ba=>pw w.drew _ (M.db r ba)⟩
     ·simp[bB.slice]
   simp only[KK]at h;split at h
   ·rename_i b g e8;simp only[aq.e1]at h;split at h
    ·rename_i aZ xs bS;split at h
     ·rename_i rA;subst rA;simp only[aq.e2,Option.bind_eq_some_iff,aq.bM,Option.some.injEq]at h;obtain⟨⟨ys,l⟩,ke,rfl⟩:=h;have aC:(s.aa b).gen=g/\(s.aa b).body=.bh aZ xs:=by
       grind
      intro a w κ F Q M bc hc;have ah:bz C.P s.aa κ F w (use (a1 C.aO s.az x)).2 (a.eval x):=cN M x rfl bc.1;have nY:=ah;rw[e8]at nY;have ae:=nY.2 aC.1.symm (by rw[aC.2];rfl);rw[aC.2]at ae;simp only[bQ.len]at ae;have hV:(dz (.slice aZ) (use (a1 C.aO s.az x)).2).run s.aa=some (xs,[b]):=by
       rw[e8];simp[dz,ky,ab.eG,dW,aC.1,aC.2,eS]
      refine main s a w κ F Q b (g+1) xs ys M (sB M ke (cN M y rfl bc.2)) (by omega) (sB M hV ah) (λq cap bq Lg _=>?_) hc;rw[ae]at bq;cases aw:(κ b).e6 with
      | true=>
       simp only[bB.slice,aw,if_true,Value.slice.injEq]at bq;grind
      | false=>
       simp only[bB.slice,aw,Bool.false_eq_true,if_false,Value.slice.injEq]at bq;grind
     ·cases h
    ·cases h
   ·rename_i b g aY G e8;simp only[aq.e1]at h;split at h
    ·rename_i aZ xs bS;split at h
     ·rename_i rA;subst rA;simp only[aq.e2,Option.bind_eq_some_iff,aq.bM,Option.some.injEq]at h;obtain⟨⟨ys,l⟩,ke,rfl⟩:=h;have aC:(s.aa b).gen=g/\(s.aa b).body=.bh aZ xs:=by
       grind
      intro a w κ F Q M bc hc;have ah:bz C.P s.aa κ F w (use (a1 C.aO s.az x)).2 (a.eval x):=cN M x rfl bc.1;rw[e8]at ah;obtain⟨⟨aR,aW⟩,bL⟩:=ah.2 aC.1.symm (by rw[aC.2];rfl);rw[aC.2]at aW bL;simp only[bQ.len,bQ.e0]at aW bL;obtain⟨κ',ba,ae⟩:=M.aem aC.2 aR aW bL;have n2:=sB M ke (cN M y rfl bc.2);have Sm:(s.cx b ⟨(s.aa b).gen+1,.bh aZ ((xs.take G).drop aY)⟩).aa b=⟨(s.aa b).gen+1,.bh aZ ((xs.take G).drop aY)⟩:=by simp[aB.cx]
      have hV:(dz (.slice aZ) (.an b (g+1))).run (s.cx b ⟨(s.aa b).gen+1,.bh aZ ((xs.take G).drop aY)⟩).aa=some ((xs.take G).drop aY,[b]):=by
       simp[dz,ky,ab.eG,dW,aB.cx,aC.1,eS]
      have Ld:bz C.P (s.cx b ⟨(s.aa b).gen+1,.bh aZ ((xs.take G).drop aY)⟩).aa κ' F w (.an b (g+1)) (a.eval x):=by
       refine⟨⟨by grind,ah.1.2⟩,λ_ _=>?_⟩;rw[Sm];exact ae
      have:=main (s.cx b ⟨(s.aa b).gen+1,.bh aZ ((xs.take G).drop aY)⟩) a w κ' F Q b (g+2) ((xs.take G).drop aY) ys ba n2 (by grind) (sB ba hV Ld) (λq cap bq Lg _=>?_) hc
      ·rw[ael]at this;exact this
      ·rw[ae]at bq;cases aw:(κ' b).e6 with
       | true=>
        simp only[bB.slice,aw,if_true,Value.slice.injEq]at bq;grind
       | false=>
        simp only[bB.slice,aw,Bool.false_eq_true,if_false,Value.slice.injEq]at bq;grind
     ·cases h
    ·cases h
   ·rename_i e8;simp only[aq.e2,Option.bind_eq_some_iff]at h;obtain⟨⟨ys,l⟩,ke,h⟩:=h;obtain⟨b,W,al⟩:=rr h;simp only[Option.some.injEq]at al;subst al;intro a w κ F Q M bc hc;have ah:bz C.P s.aa κ F w (use (a1 C.aO s.az x)).2 (a.eval x):=cN M x rfl bc.1;rw[e8]at ah;simp only[bz]at ah;have:=main s a w κ F Q b ((s.aa b).gen+1) [] ys M (sB M ke (cN M y rfl bc.2)) (Nat.lt_succ_self _) ⟨none,0,ah,.inl ⟨rfl,rfl,rfl⟩⟩ (λq cap bq Lg _=>by grind) (by grind);exact this
   ·rename_i aZ xs e8;split at h
    ·rename_i rA;subst rA;simp only[aq.e2,Option.bind_eq_some_iff]at h;obtain⟨⟨ys,l⟩,ke,h⟩:=h;obtain⟨b,W,al⟩:=rr h;simp only[Option.some.injEq]at al;subst al;intro a w κ F Q M bc hc;have ah:bz C.P s.aa κ F w (use (a1 C.aO s.az x)).2 (a.eval x):=cN M x rfl bc.1;rw[e8]at ah;obtain⟨K5,CJ,Gk⟩:=ah;have hV:(dz (.slice aZ) (.val (.slice aZ) xs)).run s.aa=some (xs,[]):=by
      simp[dz,eS]
     exact main s a w κ F Q b ((s.aa b).gen+1) xs ys M (sB M ke (cN M y rfl bc.2)) (Nat.lt_succ_self _) (sB M hV K5) (λq cap bq Lg xx=>by
      grind) hc.2
    ·cases h
   ·cases h
  ·cases h
 ·cases h
theorem aeu{P:Program}{F:Nat->Prop}{w:World}{all:List Value}{ys:z1'}(h:gu P (.int .u8) F w all ys):all=ys.map (Value.int .u8):=by
 obtain⟨E,U⟩:=h;have E:all.length=ys.length:=E.trans (Nat.mul_one _);apply List.ext_getElem (by simpa using E);intro i G dJ;have dA:i<ys.length:=by omega
 obtain⟨e,_⟩:=U i dA;have aE:ab.size (.int .u8)=1:=rfl;rw[aE,Nat.mul_one,List.drop_eq_getElem_cons G]at e;have:=(List.cons.inj e).1;rw[this];simp
theorem Sn:∀ (ys:z1') (s:ByteArray),ys.foldl (λr n=>r.push (UInt8.ofNat n.toNat)) s=⟨s.data++(vr ys).toArray⟩
 | [],s=>by simp[vr]
 | y::ys,s=>by
  rw[List.foldl_cons,Sn ys];refine congrArg ByteArray.mk ?_;apply Array.ext';simp[vr,ByteArray.push]
theorem aev(ys:z1'):ys.foldl (λr n=>r.push (UInt8.ofNat n.toNat)) ByteArray.empty=⟨(vr ys).toArray⟩:=by
 rw[Sn];refine congrArg ByteArray.mk ?_;apply Array.ext';simp[ByteArray.empty,ByteArray.emptyWithCapacity];rfl
theorem aew(aV:dS C.P T){Lh Li:TypeId}{x:Operand}(bg:∀ i,o.dst=some i->i<C.nt)(af:o.op=.convert Lh Li x)(h:(bt C.aO T bf (a1 C.aO s.az) o).run s.aa=some res):cH C o s res:=by
 simp only[bt,af]at h;split at h
 ·rename_i aR k aW n t1 t2 ah;simp only[bO,aq.bM,Option.some.injEq]at h;subst h;refine cH.pure (by grind) bg λa w κ F M bc _=>?_;have E:=oL (cN M x rfl bc) ah;have ay:=(aV.cc t1 (by simp)).int;have aP:=(aV.cc t2 (by simp)).int;refine⟨.int k (k.wrap n),?_,gV.2 ⟨rfl,qx _ _⟩⟩;simp[execOp,af,convert,dB ay,dB aP,E.1,Conv.intToInt]
 ·rename_i t1 t2;simp only[aq.e2,Option.bind_eq_some_iff,bO,aq.bM,Option.some.injEq]at h;obtain⟨⟨ys,l⟩,ke,rfl⟩:=h;refine cH.pure (by grind) bg λa w κ F M bc _=>?_;have hu:=cN M x rfl bc;obtain⟨q,cap,ae,n2⟩:=sB M ke hu;have ck:ys.length<2 ^ 63:=by
   have E:=mv (F':=λ_=>True) M.bC (λ_ _=>trivial) ke (λ_ _ _=>trivial) hu;obtain⟨_,U⟩:=(dU rfl).1 E;obtain⟨q',cap',ay,m1,m2,_⟩:=U;have aP:=(List.cons.inj (ay.symm.trans rfl)).1;omega
  obtain⟨jP,aF,jb,_⟩:=(aV.cc t1 (by simp)).sl;have ay:=jb.int;have aP:=(aV.cc t2 (by simp)).str;refine⟨.string ⟨(vr ys).toArray⟩,?_,mo.2 ⟨rfl,by simpa [vr]using ck⟩⟩;have hc:(convert Lh Li (a.eval x)).run C.P w=.ok (.string ⟨(vr ys).toArray⟩) w:=by
   rw[ae,run_convert_bytes_string w Lh Li jP q ys.length cap aF ay aP];rcases n2 with⟨rfl,rfl,rfl⟩ | ⟨p,all,rfl,a_,oO⟩
   ·rfl
   ·have fG:all=ys.map (Value.int .u8):=aeu a_;have ai:=Ga (P:=C.P) oO;rw[fG,List.length_map]at ai;rw[run_bytesToString w p ys.length cap ys ai];refine congrArg (λs=>Result.ok (Value.string s) w) ?_;exact aev ys
  simp[execOp,af,hc]
 ·cases h
end
end Go.Fer
namespace Go.Fer
open Go.RowKit
theorem h7.zB{P:Program}{k:FuncId}{ts aX:ab}{sh Sp:ts.aj->A aX.aj}(h:h7 P k ts aX sh)(aE:∀ x,A.le (sh x) (Sp x)):h7 P k ts aX Sp where
 enter:=h.enter
 iW:=λF w args x bn gn a_ rB=>by
  obtain⟨E,U⟩:=aE x rB;exact (h.iW F w args x bn gn a_ E).mono λe w' ⟨v,y,ay,aP,cw⟩=>⟨v,y,ay,U y aP,cw⟩
def aN.sh(c:aN)(x:c.ts.aj):A c.aX.aj:=A.dQ (c.pre x) (c.g x)
def aex(P:Program)(k:FuncId)(ts:ab)(x:ts.aj)(e:ab)(ys:List e.aj):Prop:=
 ∀ (F:Nat->Prop) (w:World) (args:List Value),(∀ r,F r->r<w.heap.size)->nT P F w->fp P ts F w args x->Calls P k args.toArray w λz w'=>∃ (b:bB) (F':Nat->Prop),z=.returned (b.slice ys.length)/\(∀ r,F r->F' r)/\(∀ r,F' r->F r\/(w.heap.size<=r/\r<w'.heap.size))/\
  (b.e6=true->ys=[])/\(b.e6=false->(w.heap.size<=b.aa/\b.aa<w'.heap.size/\¬F' b.aa)/\∃ cs T,w'.heap[b.aa]?=some (.cells cs T (0,0))/\b.off+b.cap*e.size<=cs.size/\ys.length<=b.cap/\b.cap<2 ^ 63/\lL P e F' w' cs b.off ys)/\Below w.heap.size w w'
def CZ(P:Program)(k:FuncId)(c:aN):Prop:=(∀ args w,(callFunc k args).run P w=.ok (.enter k args) w)/\∀ x,c.pre x->∀ y,Cy c.aX (c.g x)=some y->aex P k c.ts x y.1 y.2
def jq(P:Program)(bf:Nat->Option aN):Prop:=∀ k c,bf k=some c->(nW c.aX=false->h7 P k c.ts c.aX c.sh)/\(nW c.aX=true->CZ P k c)
theorem aey{t:ab}{y:t.aj}{z:(e:ab)×List e.aj}(h:Cy t y=some z):nW t=true:=by
 unfold Cy at h;unfold nW;split at h<;>simp_all
theorem aez{t:ab}{y:t.aj}(h:Cy t y=none):nW t=false:=by
 cases hc:nW t with
 | false=>rfl
 | true=>
  unfold nW at hc;split at hc
  ·cases h
  ·cases hc
theorem kh{t:ab}(aM:t.gD=true)(avs:List aH):iZ t avs=(match avs with | [v]=>dz t v | _=>.none:aq (Option (t.aj×List Nat))):=by
 cases t<;>first
  | (cases aM;done)
  | (rcases avs with _ | ⟨v,_ | ⟨u,aD⟩⟩<;>rfl)
theorem vC{P:Program}{H:Nat->bK}{κ:Nat->bB}{F F':Nat->Prop}{w:World}(aT:∀ b,cD P H κ F w b)(bn:∀ r,F r->F' r):∀ (t:ab) {avs:List aH} {aD:List Value} {x:t.aj} {l:List Nat},(iZ t avs).run H=some (x,l)->
  iY H κ F' l->avs.length=aD.length->(∀ i (h:i<avs.length) (dt:i<aD.length),bz P H κ F w avs[i] aD[i])->fp P t F' w aD x:=by
 have gD:∀ (t:ab),t.gD=true->∀ {avs:List aH} {aD:List Value} {x:t.aj} {l:List Nat},(match avs with | [v]=>dz t v | _=>.none:aq (Option (t.aj×List Nat))).run H=some (x,l)->
   iY H κ F' l->avs.length=aD.length->(∀ i (h:i<avs.length) (dt:i<aD.length),bz P H κ F w avs[i] aD[i])->fp P t F' w aD x:=by
  intro t aM avs aD x l h ai hlen fG;split at h
  ·rename_i v;match aD,hlen with
   | [u],_=>
    refine (si aM).2 ⟨u,rfl,mv aT bn h ai ?_⟩;exact fG 0 (by simp) (by simp)
  ·cases h
 intro t;induction t with
 | aA a b fx eK=>
  intro avs aD x l h ai hlen fG;match avs,aD,hlen with
  | [],_,_=>simp[iZ,aq.none]at h
  | v::avs,u::aD,hlen=>
   simp only[iZ,aq.e2,Option.bind_eq_some_iff,aq.bM,Option.some.injEq,Prod.mk.injEq]at h;obtain⟨⟨y,m⟩,E,⟨z,dx⟩,U,rfl,rfl⟩:=h;refine Ck.2 ⟨mv aT bn E ai.left (fG 0 (by simp) (by simp)),?_⟩;exact eK U ai.right (by grind) λi G dJ=>by
    have:=fG (i+1) (by grind) (by grind);grind
 | cT=>
  intro avs aD x l h ai hlen fG;match avs,aD,hlen with
  | [],[],_=>exact⟨rfl,rfl⟩
  | _::_,_,_=>simp[iZ,aq.none]at h
 | bool=>intro avs aD x l h;rw[kh rfl]at h;exact gD _ rfl h
 | int k=>intro avs aD x l h;rw[kh rfl]at h;exact gD (.int k) rfl h
 | str=>intro avs aD x l h;rw[kh rfl]at h;exact gD _ rfl h
 | st t _=>intro avs aD x l h;rw[kh rfl]at h;exact gD (.st t) rfl h
 | slice e _=>intro avs aD x l h;rw[kh rfl]at h;exact gD (.slice e) rfl h
 | array n e _=>intro avs aD x l h;rw[kh rfl]at h;exact gD (.array n e) rfl h
 | bH e _=>intro avs aD x l h;rw[kh rfl]at h;exact gD (.bH e) rfl h
 | map k v _ _=>intro avs aD x l h;rw[kh rfl]at h;exact gD (.map k v) rfl h
 | fn a b _ _=>intro avs aD x l h;rw[kh rfl]at h;exact gD (.fn a b) rfl h
 | cr a _=>intro avs aD x l h;rw[kh rfl]at h;exact gD (.cr a) rfl h
 | eo=>intro avs aD x l h;rw[kh rfl]at h;exact gD .eo rfl h
theorem qB{H:Nat->bK}:∀ (t:ab) {avs:List aH} {x:t.aj} {l:List Nat},(iZ t avs).run H=some (x,l)->gO H l:=by
 have gD:∀ (t:ab),t.gD=true->∀ {avs:List aH} {x:t.aj} {l:List Nat},(match avs with | [v]=>dz t v | _=>.none:aq (Option (t.aj×List Nat))).run H=some (x,l)->gO H l:=by
  intro t _ avs x l h;split at h
  ·exact mX h
  ·cases h
 intro t;induction t with
 | aA a b fx eK=>
  intro avs x l h;match avs with
  | []=>simp[iZ,aq.none]at h
  | v::avs=>
   simp only[iZ,aq.e2,Option.bind_eq_some_iff,aq.bM,Option.some.injEq,Prod.mk.injEq]at h;obtain⟨⟨y,m⟩,E,⟨z,dx⟩,U,rfl,rfl⟩:=h;exact (mX E).append (eK U)
 | cT=>
  intro avs x l h;match avs with
  | []=>
   simp only[iZ,aq.bM,Option.some.injEq,Prod.mk.injEq]at h;rw[<-h.2];exact .nil H
  | _::_=>simp[iZ,aq.none]at h
 | bool=>intro avs x l h;rw[kh rfl]at h;exact gD _ rfl h
 | int k=>intro avs x l h;rw[kh rfl]at h;exact gD (.int k) rfl h
 | str=>intro avs x l h;rw[kh rfl]at h;exact gD _ rfl h
 | st t _=>intro avs x l h;rw[kh rfl]at h;exact gD (.st t) rfl h
 | slice e _=>intro avs x l h;rw[kh rfl]at h;exact gD (.slice e) rfl h
 | array n e _=>intro avs x l h;rw[kh rfl]at h;exact gD (.array n e) rfl h
 | bH e _=>intro avs x l h;rw[kh rfl]at h;exact gD (.bH e) rfl h
 | map k v _ _=>intro avs x l h;rw[kh rfl]at h;exact gD (.map k v) rfl h
 | fn a b _ _=>intro avs x l h;rw[kh rfl]at h;exact gD (.fn a b) rfl h
 | cr a _=>intro avs x l h;rw[kh rfl]at h;exact gD (.cr a) rfl h
 | eo=>intro avs x l h;rw[kh rfl]at h;exact gD .eo rfl h
theorem aeA{H:Nat->bK}{e:ab}{ps:List (Nat×aH)}:∀ (n i:Nat) {xs:List e.aj} {l:List Nat},(tX e ps i n).run H=some (xs,l)->gO H l:=by
 intro n;induction n with
 | zero=>intro i xs l h;cases h;exact .nil H
 | succ n aI=>
  intro i xs l h;simp only[tX,aq.e2,Option.bind_eq_some_iff,aq.bM,Option.some.injEq,Prod.mk.injEq]at h;obtain⟨⟨x,m⟩,E,⟨ys,dx⟩,U,rfl,rfl⟩:=h;refine gO.append ?_ (aI (i+1) U);split at E
  ·exact mX E
  ·simp only[aq.bM,Option.some.injEq,Prod.mk.injEq]at E;rw[<-E.2];exact .nil H
theorem Sq{P:Program}{F F':Nat->Prop}{w w':World}{t:ab}{aD:List Value}{x:t.aj}(aM:t.pure=true)(h:fp P t F w aD x):fp P t F' w' aD x:=⟨h.1,adn t aM h.2⟩
theorem ue{P:Program}{H:Nat->bK}{κ:Nat->bB}{F:Nat->Prop}{w:World}:∀ (t:ab) {aD:List Value} {y:t.aj},fp P t F w aD y->t≠.cT->aD.length=ka t/\∀ i,i<ka t->bz P H κ F w (kB t y i) (aD.getD i Go.undef):=by
 intro t;induction t with
 | aA a b _ eK=>
  intro aD y h _;obtain⟨v,us,rfl,E,U⟩:=FV h;by_cases W:b=.cT
  ·subst W;have:us=[]:=U.1;subst this;refine⟨rfl,λi G=>?_⟩;cases i with
   | zero=>exact E
   | succ i=>simp only[ka]at G;omega
  ·obtain⟨aR,aW⟩:=eK U W;refine⟨by simp[ka,aR],λi G=>?_⟩;cases i with
   | zero=>exact E
   | succ i=>
    have:=aW i (by simp only[ka]at G;omega);simpa [kB]using this
 | cT=>simp
 | _=>
  intro aD y h _;obtain⟨v,rfl,E⟩:=(si rfl).1 h;refine⟨rfl,λi G=>?_⟩;simp only[ka]at G;have:i=0:=by omega
  subst this;exact E
theorem C0{P:Program}{H:Nat->bK}{κ:Nat->bB}{F:Nat->Prop}{w:World}{t:ab}{v:Value}{y:t.aj}(h:tR P t F w v y):bz P H κ F w (rl t y) v:=by
 have qp:=@ue P H κ F w;obtain⟨aD,E,U⟩:=h;cases t with
 | aA a b=>
  simp only[zu]at E;obtain⟨aR,aW⟩:=qp (.aA a b) U (by simp);exact⟨aD,E,aR,aW⟩
 | cT=>exact E.1
 | _=>
  obtain⟨u,rfl,hu⟩:=(si rfl).1 U;have:v=u:=by simpa [zu,eq_comm]using E
  rw[this];exact hu
section
variable {C:b9} {T:Nat->ab} {bf:Nat->Option aN} {o:Oper} {s:aB} {res:eB}
theorem bl.grow{a:Act}{w w':World}{κ:Nat->bB}{F:Nat->Prop}(h:bl C s a w κ F)(W:Below w.heap.size w w'):bl C s a w' κ (vk F w w'):=by
 have he:c6 F w w':=⟨W.size,λr M=>W.block r (h.db r M)⟩
 refine h.move (H':=s.aa) (fq.refl _ _) (λ_ M=>.inl M) (λr M=>M.imp id λM=>.inr M.1) W.size (λr M _=>W.block r M) ⟨W.os,W.tape,W.output⟩ (λ_=>?_) ?_ h.inj ?_ (λ_ _ h=>⟨rfl,h⟩)
 ·intro b;exact cD.lj (h.bC b) (fq.refl _ _) (λ_ M=>.inl M) he rfl rfl λaf=>W.block _ (h.an b af).1
 ·intro b af;have:=h.an b af;refine⟨Nat.lt_of_lt_of_le this.1 W.size,λau=>?_,.inl ⟨b,af,rfl⟩⟩;rcases au with au | ⟨au,_⟩
  ·exact this.2.1 au
  ·omega
 ·intro r M;rcases M with M | ⟨_,M⟩
  ·exact Nat.lt_of_lt_of_le (h.db r M) W.size
  omega
theorem C2{r:Option Nat}{P:Program}{o:Oper}{a:Act}{w:World}{K:Act->World->Prop}{Q:Exit->Act->World->Prop}{f:FuncId}{args:Array Value}{R:Ending->World->Prop}(ar:∀ c,o.op≠.defer c)
  (h:(execOp a.eval o).run P w=.ok (.enter f args) w) (hc:Calls P f args w R) (al:∀ e w',R e w'->∃ v,e=.returned v/\K (a.put o.dst v) w'):o.wpIn (dR r) 0 P a w K Q:=by
 refine⟨λ_ _=>trivial,?_⟩;rw[zL ar,h];refine⟨λaE=>(by cases aE),?_⟩;have E:CallsIn Fence.wide 0 P f args w R:=callsIn_wide.2 hc;have U:CallsIn (dR r) 0 P f args w R:=by
  cases r with
  | none=>exact E
  | some l=>exact CallsIn.inRound l E
 refine U.mono λe w' he=>?_;grind
theorem Sr{a:Act}{w:World}{κ:Nat->bB}{F:Nat->Prop}{ts:ab}(M:bl C s a w κ F){args:Array Operand}(bc:jL (args.toList.map (a1 C.aO s.az))){x:ts.aj}{l:List Nat}
  (ah:(iZ ts ((args.toList.map (a1 C.aO s.az)).map λv=>(use v).2)).run s.aa=some (x,l)):∃ F',(∀ r,F r->F' r)/\bl C (s.cz l) a w κ F'/\fp C.P ts F' w (args.toList.map a.eval) x:=by
 obtain⟨args⟩:=args;obtain⟨F',f1,ba,f2⟩:=bl.ln (qB ts ah) M;refine⟨F',f1,ba,vC M.bC f1 ts ah f2 (by simp) λi G dJ=>?_⟩;simp only[List.getElem_map];have dA:i<args.length:=by grind
 have E:=sv bc i (by grind);have ay:(args.map (a1 C.aO s.az)).getD i .undef=a1 C.aO s.az args[i]:=by grind
 rw[show (List.map (a1 C.aO s.az) (⟨args⟩:Array Operand).toList)=args.map (a1 C.aO s.az) from rfl,ay]at E;exact pz (kd M args[i]) E
theorem Ss{a:Act}{w:World}{κ:Nat->bB}{F:Nat->Prop}{Q:Exit->Act->World->Prop}{K:Act->World->Prop}{k:FuncId}{ts aX:ab}{sh:ts.aj->A aX.aj}(M:bl C s a w κ F)(au:h7 C.P k ts aX sh)
  (bg:∀ i,o.dst=some i->i<C.nt) {args:Array Operand} {dp:Array TypeId} (af:o.op=.call { callee:=.value (.func k),args:=args,argTypes:=dp }) (bc:jL (args.toList.map (a1 C.aO s.az))) {x:ts.aj} {l:List Nat}
  (ah:(iZ ts ((args.toList.map (a1 C.aO s.az)).map λv=>(use v).2)).run s.aa=some (x,l)) (aE:(sh x).b2)
  (al:∀ y w',(sh x).bR y->∀ v,ct C ((if aX.pure then s else s.cz l).set o.dst (rl aX y)) (a.put o.dst v) w'->K (a.put o.dst v) w'):o.wpIn (dR C.r) 0 C.P a w K Q:=by
 have ar:∀ c,o.op≠.defer c:=by grind
 obtain⟨args⟩:=args;have c7:(execOp a.eval o).run C.P w=.ok (.enter k (args.map a.eval).toArray) w:=by
  simp only[execOp,af,Sem.run_bind,resolve,Act.eval,Deferred.ofValue,Sem.run_pure,Result.andThen_ok,invoke];have:=au.enter (args.map a.eval).toArray w;grind
 obtain⟨F',f1,ba,dX⟩:=Sr M bc ah;refine C2 ar c7 (au.iW F' w _ x ba.db ba.iD dX aE) λe w' ⟨v,y,he,aS,gp,W⟩=>⟨v,he,al y w' aS v ?_⟩
 by_cases ao:aX.pure=true
 ·rw[if_pos ao];have aC:=M.grow W;refine⟨κ,_,aC.set bg (C0 ?_)⟩;obtain⟨aD,dh,dK⟩:=gp;exact⟨aD,dh,Sq ao dK⟩
 ·rw[if_neg ao];have aC:=ba.grow W;exact⟨κ,_,aC.set bg (C0 gp)⟩
theorem bl.hI{a:Act}{w w':World}{κ:Nat->bB}{F F':Nat->Prop}(h:bl C s a w κ F){b g:Nat}{e:ab}{ys:List e.aj}{k:bB}(Cp:b<eQ)(aC:(s.aa b).gen<g)(W:Below w.heap.size w w')
  (bn:∀ r,F r->F' r) (tQ:∀ r,F' r->F r\/(w.heap.size<=r/\r<w'.heap.size)) (E:k.e6=true->ys=[])
  (U:k.e6=false->(w.heap.size<=k.aa/\k.aa<w'.heap.size/\¬F' k.aa)/\∃ cs T,w'.heap[k.aa]?=some (.cells cs T (0,0))/\k.off+k.cap*e.size<=cs.size/\ys.length<=k.cap/\k.cap<2 ^ 63/\lL C.P e F' w' cs k.off ys) :
  bl C (s.cx b ⟨g,.bh e ys⟩) a w' (λi=>if i=b then k else κ i) F':=by
 have ai:fq s.aa κ (λi=>if i=b then ⟨g,.bh e ys⟩ else s.aa i) (λi=>if i=b then k else κ i):=zy aC λbe de=>by grind
 refine h.move (H':=λi=>if i=b then ⟨g,.bh e ys⟩ else s.aa i) ai bn (λr M=>(tQ r M).imp id λh=>.inr h.1) W.size (λr M _=>W.block r M) ⟨W.os,W.tape,W.output⟩ (λhe=>?_) ?_ ?_ ?_ (zz (.inl Cp) λbe de=>by grind)
 ·intro i;by_cases G:i=b
  ·subst G;simp only[cD,if_true];exact⟨E,λaw=>(U aw).2⟩
  ·refine cD.lj (h.bC i) ai bn he (by grind) (by grind) λaf=>?_;exact W.block _ (h.an i af).1
 ·intro i G;by_cases eM:i=b
  ·subst eM;simp only[if_true,bQ.bZ,Bool.not_eq_true']at G ⊢;obtain⟨⟨aR,aW,bL⟩,_⟩:=U G;exact⟨aW,bL,.inr aR⟩
  ·simp only[if_neg eM]at G ⊢;have:=h.an i G;refine⟨Nat.lt_of_lt_of_le this.1 W.size,λau=>?_,.inl ⟨i,G,rfl⟩⟩;rcases tQ _ au with au | au
   ·exact this.2.1 au
   ·omega
 ·intro i j G aF aZ;by_cases eM:i=b<;>by_cases mr:j=b
  ·omega
  ·simp only[if_pos eM,if_neg mr,bQ.bZ,Bool.not_eq_true']at G aF aZ;have:=(h.an j aF).1;have:=(U G).1.1;omega
  ·simp only[if_neg eM,if_pos mr,bQ.bZ,Bool.not_eq_true']at G aF aZ;have:=(h.an i G).1;have:=(U aF).1.1;omega
  ·simp only[if_neg eM,if_neg mr]at G aF aZ;exact h.inj i j G aF aZ
 ·intro r M;rcases tQ r M with dt | dt
  ·exact Nat.lt_of_lt_of_le (h.db r dt) W.size
  ·exact dt.2
theorem aeB(cA:jq C.P bf){k:FuncId}{args:Array Operand}{dp:Array TypeId}(bg:∀ i,o.dst=some i->i<C.nt)(af:o.op=.call { callee:=.value (.func k),args:=args,argTypes:=dp })(h:(bt C.aO T bf (a1 C.aO s.az) o).run s.aa=some res):cH C o s res:=by
 simp only[bt,af,mU,F6]at h;split at h
 ·rename_i c hc;simp only[aq.e2,Option.bind_eq_some_iff]at h;obtain⟨⟨x,l⟩,ah,h⟩:=h;split at h
  ·rename_i y aS;simp only[aq.run_bind]at h;obtain⟨d,ar,h⟩:=rr h;split at h
   ·cases h
   rename_i uf;cases h;have uf:d ∉ l:=by simpa using uf
   have Lj:=bg d ar;intro a w κ F Q M bc gP;obtain⟨aR,aW⟩:=(cA k c hc).2 (aey aS);obtain⟨F',f1,ba,dX⟩:=Sr M bc ah;have c7:(execOp a.eval o).run C.P w=.ok (.enter k (args.map a.eval)) w:=by
    simp only[execOp,af,Sem.run_bind,resolve,Act.eval,Deferred.ofValue,Sem.run_pure,Result.andThen_ok,invoke];have:=aR (args.map a.eval) w;grind
   have jr:=aW x gP y aS F' w _ ba.db ba.iD dX;rw[show (args.toList.map a.eval).toArray=args.map a.eval from by rw[<-Array.toList_map,Array.toArray_toList]]at jr;refine C2 (by grind) c7 jr λz w' ⟨b,ek,bk,g1,ei,g3,g4,g5⟩=>⟨_,bk,?_⟩
   have zZ:(s.cz l).aa d=s.aa d:=by simp[aB.cz,uf]
   have jo:=ba.hI (b:=d) (g:=(s.aa d).gen+1) (e:=y.1) (ys:=y.2) (k:=b) (Nat.lt_of_lt_of_le Lj M.gl) (by rw[zZ];omega) g5 g1 ei g3 g4;refine⟨λi=>if i=d then b else κ i,ek,?_⟩;simp only[aB.h'];rw[CK,t_];refine jo.set bg ⟨⟨by simp[aB.cx],by unfold bB.slice;split<;>rfl⟩,λ_ _=>by simp[aB.cx,bQ.len]⟩
  rename_i aS;simp only[aq.run_bind,aq.bM,Option.some.injEq]at h;subst h;intro a w κ F Q M bc gP;refine Ss M ((cA k c hc).1 (aez aS)) bg af bc ah gP λy w' aS v ki=>?_;have aS:y=c.g x:=aS;subst aS;have e:∀ (r:aq (List (Nat×bK))),r=(if c.aX.pure then .ret [] else jK l)->s.f_ (r.run s.aa)=(if c.aX.pure then s else s.cz l):=by
   intro r M;subst M;split
   ·rfl
   ·exact t_ s l
  simp only[aB.h'];grind
 ·cases h
theorem St{P:Program}{H:Nat->bK}{κ:Nat->bB}{F F':Nat->Prop}{w:World}(aT:∀ b,cD P H κ F w b)(bn:∀ r,F r->F' r){e:ab}{zero:List Value}(bk:bI P e F' w zero e.df){ps:List (Nat×aH)}{qs:List (Nat×Value)}(hlen:ps.length=qs.length)
  (fG:∀ i (h:i<ps.length) (dt:i<qs.length),ps[i].1=qs[i].1/\bz P H κ F w ps[i].2 qs[i].2):∀ (n i:Nat) {xs:List e.aj} {l:List Nat},(tX e ps i n).run H=some (xs,l)->
  iY H κ F' l->xs.length=n/\∀ j (h:j<xs.length),∃ bj,bI P e F' w bj xs[j]/\(match qs.find? (λp=>p.1 == i+j) with | some q=>bj=q.2.cells.toList | none=>bj=zero):=by
 have find:∀ (ps:List (Nat×aH)) (qs:List (Nat×Value)),ps.length=qs.length->(∀ i (h:i<ps.length) (dt:i<qs.length),ps[i].1=qs[i].1/\bz P H κ F w ps[i].2 qs[i].2)->∀ i,(ps.find? (λp=>p.1 == i)=none/\qs.find? (λp=>p.1 == i)=none)\/∃ p q,ps.find? (λp=>p.1 == i)=some p/\qs.find? (λp=>p.1 == i)=some q/\bz P H κ F w p.2 q.2:=by
  intro ps;induction ps with
  | nil=>grind
  | cons p ps aI=>
   intro qs ai h i;cases qs with
   | nil=>grind
   | cons q qs=>
    have aU:=h 0 (by simp) (by simp);simp only[List.getElem_cons_zero]at aU;by_cases ao:p.1=i
    ·grind
    ·have bq:q.1≠i:=by omega
     have:=aI qs (by grind) (λj aF fS=>by have:=h (j+1) (by grind) (by grind);grind) i;grind
 intro n;induction n with
 | zero=>intro i xs l h _;cases h;simp
 | succ n aI=>
  intro i xs l h ai;simp only[tX,aq.e2,Option.bind_eq_some_iff,aq.bM,Option.some.injEq,Prod.mk.injEq]at h;obtain⟨⟨x,m⟩,E,⟨ys,dx⟩,U,rfl,rfl⟩:=h;obtain⟨aR,aW⟩:=aI (i+1) U ai.right;refine⟨by grind,λj aF=>?_⟩;cases j with
  | zero=>
   rcases find ps qs hlen fG i with⟨f1,f2⟩ | ⟨p,q,f1,f2,f3⟩
   ·rw[f1]at E;simp only[aq.bM,Option.some.injEq,Prod.mk.injEq]at E;grind
   ·rw[f1]at E;refine⟨q.2.cells.toList,(mv aT bn E ai.left f3).2,?_⟩;grind
  | succ j=>
   obtain⟨bj,d1,d2⟩:=aW j (by grind);grind
end
end Go.Fer
namespace Go.Fer
open Go.RowKit
def sD(d:Nat)(em:Bool)(xs:Array Value):List Field->Sem Unit
 | []=>pure ()
 | f::eT=>
  if f.name ≠ "_" then do
   let a <-part f.type xs f.offset
   Instr.checkKey em d f.type a
   sD d em xs eT
  else sD d em xs eT
theorem aeC{P:Program}(w:World)(em:Bool)(d:Nat)(t:TypeId)(xs:Array Value)(aM:P.underlying t=some (.struct (P.fieldsOf t))) :
  (Instr.checkKey em (d+1) t (.agg xs)).run P w=(sD d em xs (P.fieldsOf t).toList).run P w:=by
 simp only[Instr.checkKey,Sem.run_bind,dB aM,Result.andThen_ok];rw[<-Array.forIn_toList];generalize (P.fieldsOf t).toList=eT;clear aM;induction eT generalizing w with
 | nil=>rfl
 | cons f eT aI=>
  simp only[List.forIn_cons,sD,Sem.run_bind,Sem.run_ite];split
  ·generalize (part f.type xs f.offset).run P w=cg;cases cg with
   | ok a b'=>
    simp only[Result.andThen_ok];generalize (Instr.checkKey em d f.type a).run P b'=cJ;cases cJ with
    | ok b c8=>
     simp_all
    | halt x c8=>rfl
   | halt x b'=>rfl
  simp_all
theorem C3{P:Program}{F:Nat->Prop}{w:World}{em:Bool}:∀ (t:ab) (d:Nat),t.kW=true->t.kc<=d->
  (∀ {id:TypeId} {v:Value} {x:t.aj},b8 P t id->ep P t F w v x->(Instr.checkKey em d id v).run P w=.ok () w)/\
  (∀ {l:List Field} {off:Nat} {xs:Array Value} {p c q:List Value} {x:t.aj},cE P t (.inr (l,off))=true->xs.toList=p++(c++q)->p.length=off->bI P t F w c x->
   (sD d em xs l).run P w=.ok () w):=by
 intro t;induction t with
 | bool=>
  intro d _ ar;refine⟨λ{id v x} h E=>?_,λh=>by simp[cE]at h⟩;rw[fe.1 E];obtain⟨d,rfl⟩:∃ e,d=e+1:=⟨d - 1,by simp only[ab.kc]at ar;omega⟩
  unfold b8 at h;simp only[cE,Bool.and_eq_true]at h;obtain⟨_,h⟩:=h;split at h
  ·rename_i hu;simp[Instr.checkKey,dB hu]
  grind
 | int k=>
  intro d _ ar;refine⟨λ{id v x} h E=>?_,λh=>by simp[cE]at h⟩;rw[(gV.1 E).1];obtain⟨d,rfl⟩:∃ e,d=e+1:=⟨d - 1,by simp only[ab.kc]at ar;omega⟩
  simp[Instr.checkKey,dB (b8.int h)]
 | str=>
  intro d _ ar;refine⟨λ{id v x} h E=>?_,λh=>by simp[cE]at h⟩;rw[(mo.1 E).1];obtain⟨d,rfl⟩:∃ e,d=e+1:=⟨d - 1,by simp only[ab.kc]at ar;omega⟩
  simp[Instr.checkKey,dB (b8.str h)]
 | cT=>intro d h;cases h
 | slice e _=>intro d h;cases h
 | array n e _=>intro d h;cases h
 | bH e _=>intro d h;cases h
 | map k v _ _=>intro d h;cases h
 | fn a b _ _=>intro d h;cases h
 | cr a _=>intro d h;cases h
 | eo=>intro d h;cases h
 | aA a b fx eK=>
  intro d hc ar;simp only[ab.kW,Bool.and_eq_true]at hc;simp only[ab.kc]at ar;have KS:=fx d hc.1 (by omega);have pt:=eK d hc.2 (by omega);refine⟨λh=>by unfold b8 at h;simp[cE]at h,?_⟩;intro l off xs p c q x h ah ao pB;simp only[bI]at pB;obtain⟨bD,c2,rfl,aR,aW⟩:=pB;have ez:=hS a aR;have step : ∀ (f : Field) (cm : List Field), f.offset = off -> b8 P a f.type -> f.name ≠ "_" -> (sD d em xs (f :: cm)).run P w = (sD d em xs cm).run P w := by
   intro f cm af au aw;obtain⟨v,cg,cJ⟩:=rq (cs:=xs) (p:=p) (c:=bD) (q:=c2++q) au (by grind) aR;simp only[sD,aw,ne_eq,not_false_eq_true,if_true,Sem.run_bind];rw[af,<-ao,cg,Result.andThen_ok,KS.1 au cJ,Result.andThen_ok]
  match l,h with
  | [],h=>rfl
  | [f],h=>simp only[cE,Bool.false_eq_true]at h
  | [f,g],h=>
   simp only[cE,Bool.and_eq_true,beq_iff_eq,bne_iff_ne,ne_eq]at h;obtain⟨⟨⟨⟨E,U⟩,ag⟩,a7⟩,⟨⟨⟨bN,du⟩,gL⟩,iV⟩⟩:=h;rw[step f [g] E U a7];obtain⟨v,cg,cJ⟩:=rq (cs:=xs) (p:=p++bD) (c:=c2) (q:=q) du (by grind) aW;have ay:(p++bD).length=g.offset:=by grind
   rw[ay]at cg;simp only[sD,iV,ne_eq,not_false_eq_true,if_true,Sem.run_bind,cg,Result.andThen_ok,pt.1 du cJ,Sem.run_pure]
  | f::g::i::l,h=>
   simp only[cE,Bool.and_eq_true,beq_iff_eq,bne_iff_ne,ne_eq]at h;obtain⟨⟨⟨⟨E,U⟩,ag⟩,a7⟩,bN⟩:=h;rw[step f _ E U a7,pt.2 bN (p:=p++bD) (c:=c2) (q:=q) (by grind) (by grind) aW]
 | st t aI=>
  intro d hc ar;simp only[ab.kc]at ar;obtain⟨d,rfl⟩:∃ e,d=e+1:=⟨d - 1,by omega⟩
  refine⟨λ{id v x} h E=>?_,λh=>by simp[cE]at h⟩;have i:=aI d hc (by omega);obtain⟨ay,aP,cw,ed⟩:=h.CC;obtain⟨⟨xs,rfl,hV⟩,pB⟩:=E;simp only[Value.cells,bI]at pB;rw[aeC w em d id xs ed];rcases cw with cw | ⟨f,cw,gW,j8,su⟩ | ⟨rfl,cw⟩
  ·exact i.2 cw (p:=[]) (c:=xs.toList) (q:=[]) (by simp) rfl pB
  ·rw[cw];obtain⟨v,cg,cJ⟩:=rq (cs:=xs) (p:=[]) (c:=xs.toList) (q:=[]) j8 (by simp) pB;simp only[List.length_nil]at cg;simp only[sD,su,ne_eq,not_false_eq_true,if_true,Sem.run_bind,gW,cg,Result.andThen_ok,i.1 j8 cJ,Sem.run_pure]
  ·cases hc
theorem Lk:∀ (t:ab),t.kW=true->∀ (x y:t.aj),gN t x y=true<->x=y:=by
 intro t;induction t with
 | bool=>intro _ x y;simp[gN]
 | int k=>intro _ x y;simp[gN]
 | str=>intro _ x y;simp[gN]
 | st t aI=>intro h x y;exact aI h x y
 | aA a b fx eK=>
  intro h x y;simp only[ab.kW,Bool.and_eq_true]at h;simp only[gN,Bool.and_eq_true,fx h.1,eK h.2];grind
 | _=>intro h;cases h
def z1{k:ab}{β:Type}(x:k.aj)(es:List MapEntry)(xs:List (k.aj×β))(i:Nat)(r:Option (Nat×Value)):Prop:=
 (r=none/\∀ p∈xs,gN k x p.1=false)\/∃ j e p,es[j]?=some e/\xs[j]?=some p/\gN k x p.1=true/\(∀ kg q,kg<j->xs[kg]?=some q->gN k x q.1=false)/\r=some (i+j,e.val)
theorem z1.next{k:ab}{β:Type}{x:k.aj}{e:MapEntry}{es:List MapEntry}{p:k.aj×β}{xs:List (k.aj×β)}{i:Nat}{r:Option (Nat×Value)}(h:z1 x es xs (i+1) r)(ao:gN k x p.1=false):z1 x (e::es) (p::xs) i r:=by
 rcases h with⟨E,U⟩ | ⟨j,aZ,p',E,U,ag,a7,bN⟩
 ·exact .inl ⟨E,λq bq=>by
   grind⟩
 ·refine .inr ⟨j+1,aZ,p',by grind,by grind,ag,λkg q fS bq=>?_,by grind⟩;grind
theorem Su{P:Program}{F:Nat->Prop}{w:World}{k:ab}{β:Type}(hc:k.kW=true)(aw:k.kc<=10000){lq:TypeId}(al:b8 P k lq){ug:Value}{x:k.aj}(ah:ep P k F w ug x):∀ (es:List MapEntry) (xs:List (k.aj×β)) (i:Nat),es.length=xs.length->(∀ (j:Nat) (e:MapEntry) (p:k.aj×β),es[j]?=some e->xs[j]?=some p->ep P k F w e.key p.1)->∃ r,(Instr.findAsking lq ug es i).run P w=.ok r w/\z1 x es xs i r
 | [],[],i,_,_=>⟨none,rfl,.inl ⟨rfl,λp ao=>by cases ao⟩⟩
 | e::es,p::xs,i,ai,h=>by
  have aU:=h 0 e p rfl rfl;have he:=(KR k 10000 hc aw).1 al ah aU;obtain⟨r,cg,cJ⟩:=Su (β:=β) hc aw al ah es xs (i+1) (by grind) λj aZ p' E U=>h (j+1) aZ p' (by grind) (by grind);cases bq:gN k x p.1 with
  | true=>
   refine⟨some (i,e.val),by simp[Instr.findAsking,Op.equal,Op.maxDepth,he,bq],.inr ⟨0,e,p,rfl,rfl,bq,λkg q fS=>by omega,rfl⟩⟩
  | false=>exact⟨r,by simp[Instr.findAsking,Op.equal,Op.maxDepth,he,bq,cg],cJ.next bq⟩
theorem Sv{P:Program}{F:Nat->Prop}{w:World}{k:ab}{lq:TypeId}(al:b8 P k lq){d:TypeDesc}(ar:P.underlying lq=some d){u v:Value}{x y:k.aj}(hu:ep P k F w u x)(ae:ep P k F w v y){b:Bool}(h:Instr.sameNow d u v=some b):b=gN k x y:=by
 cases k with
 | bool=>
  rw[fe.1 hu,fe.1 ae]at h;cases d<;>simp only[Instr.sameNow,Option.some.injEq,reduceCtorEq]at h;rw[<-h];rfl
 | int k=>
  rw[(gV.1 hu).1,(gV.1 ae).1]at h;cases d<;>simp only[Instr.sameNow,if_true,Option.some.injEq,reduceCtorEq]at h;rw[<-h];rfl
 | str=>
  rw[(mo.1 hu).1,(mo.1 ae).1]at h;cases d<;>simp only[Instr.sameNow,Option.some.injEq,reduceCtorEq]at h;rw[<-h,beq_toListBytes,ByteArray.toList_eq,ByteArray.toList_eq];simp only[gN];grind
 | st t=>
  obtain⟨⟨us,rfl,_⟩,_⟩:=hu;cases d<;>cases v<;>simp[Instr.sameNow]at h
 | array n t=>
  obtain⟨⟨us,rfl,_⟩,_⟩:=hu;cases d<;>cases v<;>simp[Instr.sameNow]at h
 | cT=>exact hu.1.elim
 | aA a b=>exact hu.1.elim
 | slice e=>
  obtain⟨_,a,cap,ay,_⟩:=(dU rfl).1 hu;obtain rfl:=(List.cons.inj ay).1;cases d<;>simp[Instr.sameNow]at h
 | bH e=>
  obtain⟨_,ah⟩:=(dU rfl).1 hu;rcases ah with⟨ay,_⟩ | ⟨p,y,bj,ay,_⟩<;>(obtain rfl:=(List.cons.inj ay).1;cases d<;>simp[Instr.sameNow]at h)
 | map k' h8=>
  obtain⟨_,ah⟩:=(dU rfl).1 hu;rcases ah with⟨ay,_⟩ | ⟨r,es,clk,ay,_⟩<;>(obtain rfl:=(List.cons.inj ay).1;cases d<;>simp[Instr.sameNow]at h)
 | fn a b=>
  obtain⟨i,z,E,U,ag,a7,bN,du⟩:=kA al.kz;unfold b8 at al;simp only[cE,Bool.and_eq_true,ar]at al;cases d<;>simp[Instr.sameNow]at al h
 | cr a=>
  obtain⟨i,z,E,U,ag,a7,bN,du⟩:=kA al.kz;unfold b8 at al;simp only[cE,Bool.and_eq_true,ar]at al;cases d<;>simp[Instr.sameNow]at al h
 | eo=>
  obtain⟨i,z,E,U,ag,a7,bN,du⟩:=kA al.kz;unfold b8 at al;simp only[cE,Bool.and_eq_true,ar]at al;cases d<;>simp[Instr.sameNow]at al h
theorem Sw{P:Program}{F:Nat->Prop}{w:World}{k:ab}{β:Type}{lq:TypeId}(al:b8 P k lq){d:TypeDesc}(ar:P.underlying lq=some d){ug:Value}{x:k.aj}(ah:ep P k F w ug x):∀ (es:List MapEntry) (xs:List (k.aj×β)) (i:Nat) {r:Option (Nat×Value)},es.length=xs.length->(∀ (j:Nat) (e:MapEntry) (p:k.aj×β),es[j]?=some e->xs[j]?=some p->ep P k F w e.key p.1)->Instr.findNow d ug es i=some r->z1 x es xs i r
 | [],[],i,r,_,_,h=>by cases h;exact .inl ⟨rfl,λp ao=>by cases ao⟩
 | e::es,p::xs,i,r,ai,h,au=>by
  have aU:=h 0 e p rfl rfl;simp only[Instr.findNow]at au;split at au
  ·rename_i aE;have:=Sv al ar ah aU aE;cases au;exact .inr ⟨0,e,p,rfl,rfl,this.symm,λkg q fS=>by omega,rfl⟩
  ·rename_i aE;have:=Sv al ar ah aU aE;exact (Sw al ar ah es xs (i+1) (by grind) (λj aZ p' E U=>h (j+1) aZ p' (by grind) (by grind)) au).next this.symm
  grind
theorem b8.aeD{P:Program}{t:ab}{id:TypeId}(h:b8 P t id)(hc:t.kW=true):∃ d,P.underlying id=some d:=by
 cases t with
 | bool=>
  unfold b8 at h;simp only[cE,Bool.and_eq_true]at h;grind
 | int k=>exact⟨_,b8.int h⟩
 | str=>exact⟨_,b8.str h⟩
 | st t=>exact⟨_,h.CC.2.2.2⟩
 | aA a b=>unfold b8 at h;simp[cE]at h
 | _=>cases hc
theorem xy{P:Program}{F:Nat->Prop}{w:World}{k:ab}{β:Type}(hc:tY k=true){lq:TypeId}(al:b8 P k lq){ug:Value}{x:k.aj}(ah:ep P k F w ug x){es:List MapEntry}{xs:List (k.aj×β)}
  (ai:es.length=xs.length) (h:∀ (j:Nat) (e:MapEntry) (p:k.aj×β),es[j]?=some e->xs[j]?=some p->ep P k F w e.key p.1):∃ r,(Instr.findKey lq ug es).run P w=.ok r w/\z1 x es xs 0 r:=by
 simp only[tY,Bool.and_eq_true,decide_eq_true_eq]at hc;obtain⟨d,ar⟩:=al.aeD hc.1;simp only[Instr.findKey,Sem.run_bind,dB ar,Result.andThen_ok];cases aw:Instr.findNow d ug es 0 with
 | some r=>exact⟨r,rfl,Sw al ar ah es xs 0 ai h aw⟩
 | none=>exact Su hc.1 (by omega) al ah es xs 0 ai h
theorem Sx{k v:ab}{es:List (k.aj×v.aj)}{x:k.aj}:∀ {j:Nat} {p:k.aj×v.aj},es[j]?=some p->gN k x p.1=true->(∀ kg q,kg<j->es[kg]?=some q->gN k x q.1=false)->zG es x=some p.2/\∀ y,lP es x y=es.set j (p.1,y):=by
 induction es with
 | nil=>simp
 | cons q es aI=>
  intro j p E U ag;cases j with
  | zero=>
   simp at E;subst E;exact⟨by simp[zG,U],λy=>by simp[lP,U]⟩
  | succ j=>
   have aU:=ag 0 q (by omega) rfl;obtain⟨aR,aW⟩:=aI (j:=j) (p:=p) (by grind) U λkg q' fS ub=>ag (kg+1) q' (by omega) (by grind);exact⟨by simpa [zG,List.find?_cons,aU]using aR,λy=>by simp[lP,aU,aW y]⟩
theorem Sy{k v:ab}{es:List (k.aj×v.aj)}{x:k.aj}(h:∀ p∈es,gN k x p.1=false):zG es x=none/\∀ y,lP es x y=es++[(x,y)]:=by
 induction es with
 | nil=>exact⟨rfl,λ_=>rfl⟩
 | cons q es aI=>
  have aU:=h q (by simp);obtain⟨aR,aW⟩:=aI λp ao=>h p (by grind);exact⟨by simpa [zG,List.find?_cons,aU]using aR,λy=>by simp[lP,aU,aW y]⟩
section
variable {C:b9} {T:Nat->ab} {bf:Nat->Option aN} {o:Oper} {s:aB} {res:eB}
theorem aeE{P:Program}{F:Nat->Prop}{w:World}{v:ab}{z:Value}(ae:v.eG=true\/v.isAgg=true)(i5:j' v z.cells.toList=some [])(i6:(∃ cs,z=.agg cs)<->v.isAgg=true):ep P v F w z v.df:=by
 obtain⟨c,e,kf,z2⟩:=vp (P:=P) (H:=λ_=>⟨0,.fy⟩) (κ:=λ_=>⟨0,0,0,true⟩) (F:=F) (w:=w) v i5;rw[List.append_nil]at e;refine⟨?_,by grind⟩;have ai:=hS v kf;rcases ae with ae | ae
 ·obtain⟨u,rfl,hu⟩:=Cl ae kf;have Gi:∀ cs,z≠.agg cs:=λcs bk=>by
   have:=i6.1 ⟨cs,bk⟩;cases v<;>simp[ab.eG,ab.isAgg]at ae this
  have bk:z.cells=#[z]:=by
   cases z<;>first | rfl | grind
  cases v<;>simp only[ab.eG,Bool.false_eq_true]at ae<;>exact bk
 ·obtain⟨cs,rfl⟩:=i6.2 ae;have aZ:cs.toList=c:=e;cases v<;>simp only[ab.isAgg,Bool.false_eq_true]at ae
  ·exact⟨cs,rfl,by rw[<-Array.length_toList,aZ,ai];rfl⟩
  ·exact⟨cs,rfl,by rw[<-Array.length_toList,aZ,ai];rfl⟩
def Ll(P:Program)(k v:ab)(F:Nat->Prop)(w:World)(ms:List MapEntry)(xs:List (k.aj×v.aj)):Prop:=
 ms.length=xs.length/\∀ (j:Nat) (e:MapEntry) (p:k.aj×v.aj),ms[j]?=some e->xs[j]?=some p->ep P k F w e.key p.1/\ep P v F w e.val p.2
theorem vl.es{P:Program}{k v:ab}{F:Nat->Prop}{w:World}{ms:Array MapEntry}{clk:Nat}{xs:List (k.aj×v.aj)}(h:vl P k v F w ms clk xs):Ll P k v F w ms.toList xs:=by
 obtain⟨E,U,ag,a7⟩:=h;refine⟨by omega,λj e p he ao=>?_⟩;obtain⟨aF,rfl⟩:=List.getElem?_eq_some_iff.1 ao;obtain⟨fS,rfl⟩:=List.getElem?_eq_some_iff.1 he;obtain⟨a,b,c,d,_⟩:=ag j aF (by omega);exact⟨⟨a,by grind⟩,c,by grind⟩
theorem aeF{a:Act}{w:World}{κ:Nat->bB}{F:Nat->Prop}(M:bl C s a w κ F){k v:ab}{av:aH}{u:Value}{xs:List (k.aj×v.aj)}(h:(Cz k v av).run s.aa=some xs)(hu:bz C.P s.aa κ F w av u) :
  (u=.map none/\xs=[])\/∃ r ms clk,u=.map (some r)/\w.heap[r]?=some (.map ms clk)/\Ll C.P k v F w ms.toList xs:=by
 have cz:∀ {xs:List (k.aj×v.aj)},bI C.P (.map k v) F w [u] xs->(u=.map none/\xs=[])\/∃ r ms clk,u=.map (some r)/\w.heap[r]?=some (.map ms clk)/\Ll C.P k v F w ms.toList xs:=by
  intro xs ah;rcases ah with⟨ay,aP⟩ | ⟨r,ms,clk,ay,E,U,ag,a7,bN,du⟩
  ·grind
  ·exact .inr ⟨r,ms,clk,(List.cons.inj ay).1,U,vl.es ⟨ag,a7,bN,du⟩⟩
 cases av with
 | val t es=>
  simp only[Cz,aq.bM]at h;exact cz ((dU rfl).1 (FZ h hu)).2
 | jF x=>
  simp only[bz]at hu;subst hu;have ah:u=.map none/\xs=[]:=by
   unfold Cz at h;split at h
   ·grind
   ·simp_all
   ·grind
   ·cases h
  grind
 | fH b g=>
  simp only[Cz,aq.e1,aq.bM]at h;split at h
  ·rename_i aC;have aT:=M.bC b;unfold cD at aT;split at h
   ·rename_i k' h8 es W;obtain⟨e,rfl⟩:=kU h;cases e;rw[W]at aT;obtain⟨ms,clk,E,U⟩:=aT;exact .inr ⟨_,ms,clk,hu.2 aC.symm (by rw[W];rfl),E,U.es⟩
   ·rename_i k' h8 es W;obtain⟨e,rfl⟩:=kU h;cases e;rw[W]at aT;have:=hu.2 aC.symm (by rw[W];rfl);simp only[jG]at aT;grind
   grind
  grind
 | _=>cases h
theorem aeG{ty:TypeId}{r:Option Operand}(bg:∀ i,o.dst=some i->i<C.nt)(af:o.op=.makeMap ty r)(h:(bt C.aO T bf (a1 C.aO s.az) o).run s.aa=some res):cH C o s res:=by
 simp only[bt,af]at h;split at h
 ·cases h
 ·rename_i Sz;have Sz:r=none:=by simp_all
  subst Sz;split at h
  ·rename_i k v aM;obtain⟨b,ar,al⟩:=rr h;simp only[Option.some.injEq]at al;subst al;intro a w κ F Q M _ _;have c7:(execOp a.eval o).run C.P w=.ok (.value (.map (some w.heap.size))) (w.alloc (.map #[] 0)):=by
    simp[execOp,af,Instr.makeMap]
   have E:=M.alloc (b:=b) (x:=⟨(s.aa b).gen+1,.mp k v []⟩) (M.gq (bg b ar)) (Nat.lt_succ_self _) (o:=.map #[] 0) (k:=⟨w.heap.size,0,0,false⟩) rfl λH κ' _ _ _=>
    ⟨#[],0,qt _ _,rfl,by simp,λi G=>by simp,λi j G=>by simp⟩
   refine hy (by grind) c7 ⟨_,F,bl.set (s:=s.cx b _) E bg ⟨⟨by simp[aB.cx],rfl⟩,λ_ _=>by simp⟩⟩
  ·cases h
theorem aeH(aV:dS C.P T){ty:TypeId}{m x:Operand}{ok:Bool}(bg:∀ i,o.dst=some i->i<C.nt)(af:o.op=.lookup ty m x ok)(h:(bt C.aO T bf (a1 C.aO s.az) o).run s.aa=some res):cH C o s res:=by
 simp only[bt,af,zH]at h;split at h
 ·rename_i k v aM;split at h
  ·rename_i hc;simp only[Bool.and_eq_true,Bool.or_eq_true]at hc;obtain⟨i,j,G,m_,hk⟩:=(aV.cc aM (by simp)).mp;simp only[aq.e2,Option.bind_eq_some_iff,bO,aq.bM,Option.some.injEq]at h;obtain⟨es,pC,⟨y,l⟩,aS,rfl⟩:=h;refine cH.pure (by grind) bg λa w κ F M bc _=>?_;have hm:=cN M m rfl bc.1;have ah:=CF M aS (cN M x rfl bc.2);obtain⟨inf,z,i1,i2,i3,i4,i5,i6⟩:=kA hk.kz;have hzero:ep C.P v F w z v.df:=aeE hc.2 i5 i6;have fin:∀ (u:Value) (q:Option v.aj),ep C.P v F w u (q.getD v.df)->bz C.P s.aa κ F w (RR v q ok) (if ok=true then .tuple #[u,.bool q.isSome] else u):=by
    intro u q ag;cases ok with
    | true=>
     refine⟨[u,.bool q.isSome],rfl,rfl,λi G=>?_⟩;match i,G with
     | 0,_=>exact ag
     | 1,_=>exact fe.2 rfl
    | false=>exact ag
   have mq:tY k=true:=hc.1;have fi:k.kW=true/\k.kc<=100:=by simpa [tY]using mq
   rcases aeF M pC hm with⟨hu,aw⟩ | ⟨r,ms,clk,hu,hw,kE⟩
   ·subst aw;have ea:=(C3 (em:=true) k 10000 fi.1 (by omega)).1 m_ ah;obtain⟨f,f1,f2⟩:=xy (β:=v.aj) (xs:=[]) (es:=[]) mq m_ ah rfl (λj e p h=>by cases h);rcases f2 with⟨rfl,_⟩ | ⟨j,e,p,E,_⟩
    ·refine⟨_,?_,fin z none hzero⟩;simp only[execOp,af,hu,Instr.lookup,Sem.run_bind,dB G,Result.andThen_ok,Sem.run_pure];simp only[show (#[]:Array MapEntry).isEmpty=true from rfl,ea,Result.andThen_ok,f1];cases ok<;>simp[rp i1 i4]
    grind
   ·have ea:=(C3 (em:=ms.isEmpty) k 10000 fi.1 (by omega)).1 m_ ah;obtain⟨f,f1,f2⟩:=xy (β:=v.aj) (xs:=es) (es:=ms.toList) mq m_ ah kE.1 (λj e p E U=>by
     have:=(kE.2 j e p E U).1;exact⟨this.1,fc k (λ_ _=>trivial) (c6.refl F w) this.2⟩)
    have eU:(getObj r).run C.P w=.ok (.map ms clk) w:=by simp[getObj,Sem.run,hw]
    rcases f2 with⟨rfl,eC⟩ | ⟨j,e,p,E,U,ag,a7,rfl⟩
    ·refine⟨_,?_,by rw[(Sy eC).1];exact fin z none hzero⟩;simp only[execOp,af,hu,Instr.lookup,Sem.run_bind,dB G,Result.andThen_ok,Sem.run_pure,eU,ea,f1,rp i1 i4];rfl
    ·refine⟨_,?_,by rw[(Sx U ag a7).1];exact fin e.val (some p.2) (kE.2 j e p E U).2⟩;simp only[execOp,af,hu,Instr.lookup,Sem.run_bind,dB G,Result.andThen_ok,Sem.run_pure,eU,ea,f1];rfl
  ·cases h
 ·cases h
theorem Lm(P:Program)(w:World)(vA ey:Value):∃ k' w',(Instr.keyThatStays vA ey).run P w=.ok k' w'/\(k'=ey\/k'=vA)/\(w'=w\/w'=w.drew):=by
 unfold Instr.keyThatStays;split
 ·exact⟨ey,w,rfl,.inl rfl,.inl rfl⟩
 ·have au : (Question.extern "map.whichKeyStays" 2).forced = false := rfl;simp only[Sem.run_bind,run_choose,au,Bool.false_eq_true,if_false,Result.andThen_ok];split
  ·exact⟨ey,_,rfl,.inl rfl,.inr rfl⟩
  ·exact⟨vA,_,rfl,.inr rfl,.inr rfl⟩
theorem sE{P:Program}{w:World}{r:Nat}{es:Array MapEntry}{clk:Nat}(h:w.heap[r]?=some (.map es clk))(o:Obj):(setObj r o).run P w=.ok () { w with heap:=w.heap.setIfInBounds r o }:=by
 simp[setObj,Sem.run,h]
theorem Ln(aV:dS C.P T){ty:TypeId}{m x y:Operand}(Lj:o.dst=none)(af:o.op=.mapUpdate ty m x y\/o.op=.insert ty m x y)(h:(bt C.aO T bf (a1 C.aO s.az) o).run s.aa=some res):cH C o s res:=by
 have ar:∀ c,o.op≠.defer c:=by grind
 have kY:∀ aJ,bt C.aO T bf aJ o=rn T aJ ty m x y:=λaJ=>by rcases af with af | af<;>simp only[bt,af]
 have hex:∀ aJ w,(execOp aJ o).run C.P w=(do Instr.mapUpdate ty (aJ m) (aJ x) (aJ y);pure .skip:Sem Next).run C.P w:=λaJ w=>by rcases af with af | af<;>simp only[execOp,af]
 rw[kY]at h;simp only[rn]at h;split at h
 ·rename_i k v aM;obtain⟨lq,z6,G,m_,hk⟩:=(aV.cc aM (by simp)).mp;split at h
  ·rename_i hc;split at h
   ·rename_i b g uh;simp only[aq.e2,Option.bind_eq_some_iff,aq.run_bind,aq.e1,aq.bM]at h;obtain⟨⟨dI,oJ⟩,ah,⟨m',oK⟩,aS,h⟩:=h;split at h
    ·rename_i aC;obtain⟨aC,qz⟩:=aC;have qz:b ∉ oJ++oK:=by
      grind
     split at h
     ·rename_i k' h8 es W;simp only[Option.map_eq_some_iff]at h;obtain⟨SA,pC,rfl⟩:=h;obtain⟨e,rfl⟩:=kU pC;cases e;intro a w κ F Q M bc _;obtain⟨F',f1,ba,f2⟩:=bl.ln ((mX ah).append (mX aS)) M;have hm:bz C.P s.aa κ F w (use (a1 C.aO s.az m)).2 (a.eval m):=cN M m rfl bc.1;rw[uh]at hm;have kZ:=hm.2 aC.symm (by rw[W];rfl);have ui:=mv M.bC f1 ah f2.left (cN M x rfl bc.2.1);have Gp:=mv M.bC f1 aS f2.right (cN M y rfl bc.2.2);have pF:(s.cz (oJ++oK)).aa b=s.aa b:=by simp only[aB.cz];grind
      have aT:=ba.bC b;unfold cD at aT;rw[pF,W]at aT;obtain⟨ms,clk,hw,uj⟩:=aT;have fi:k.kW=true/\k.kc<=100:=by simpa [tY]using hc
      have ea:=(C3 (em:=false) k 10000 fi.1 (by omega)).1 m_ ui;have kE:=uj.es;obtain⟨f,dh,dK⟩:=xy (β:=v.aj) (xs:=es) (es:=ms.toList) hc m_ ui kE.1 (λj e p E U=>(kE.2 j e p E U).1);have eU:(getObj (κ b).aa).run C.P w=.ok (.map ms clk) w:=by simp[getObj,Sem.run,hw]
      have pD:s.f_ ((jK (oJ++oK)).run s.aa++[(b,⟨(s.aa b).gen,.mp k v (lP es dI m')⟩)])=(s.cz (oJ++oK)).cx b ⟨(s.aa b).gen,.mp k v (lP es dI m')⟩:=by
       rw[CK,t_]
      have gr:fq (s.cz (oJ++oK)).aa κ (λi=>if i=b then (⟨(s.aa b).gen,.mp k v (lP es dI m')⟩:bK) else (s.cz (oJ++oK)).aa i) κ:=
       rk (by rw[pF]) (λh=>by cases h) (λh=>by cases h) (λ_=>by rw[pF,W];rfl) (λh=>by cases h)
      obtain⟨hx,Lo,Gq,SB⟩:=uj;have done:∀ (b':World) (Gr:Array MapEntry) (Gs:Nat),(b'=w\/b'=w.drew)->
        (execOp a.eval o).run C.P w=.ok .skip { b' with heap:=b'.heap.setIfInBounds (κ b).aa (.map Gr Gs) }->
        (∀ {w'},c6 F' w w'->vl C.P k v F' w' Gr Gs (lP es dI m'))->
        o.wpIn (dR C.r) 0 C.P a w (λa' w'=>ct C (s.h' o.dst ⟨(use (a1 C.aO s.az m)).1/\(use (a1 C.aO s.az x)).1/\(use (a1 C.aO s.az y)).1,True,.undef,(jK (oJ++oK)).run s.aa++[(b,⟨(s.aa b).gen,.mp k v (lP es dI m')⟩)]⟩) a' w') Q:=by
       intro b' Gr Gs lX c7 aeI;have cU:b'.heap=w.heap:=by rcases lX with rfl | rfl<;>rfl
       have ja:dd w b':=by rcases lX with rfl | rfl<;>exact⟨rfl,rfl,rfl⟩
       refine Gb ar c7 ⟨κ,F',?_⟩;simp only[aB.h'];rw[pD,Lj];refine ba.px (b:=b) (x:=⟨(s.aa b).gen,.mp k v (lP es dI m')⟩) (by rw[pF,W];rfl) rfl gr (λh=>by cases h) (λ_=>by rw[pF,W];rfl) (λr Lp=>?_) (by grind) ⟨ja.os,ja.tape,ja.output⟩ λH _ _ he=>?_
       ·grind
       ·have ck:(κ b).aa<w.heap.size:=(Array.getElem?_eq_some_iff.1 hw).1;exact⟨Gr,Gs,by grind,aeI he⟩
      rcases dK with⟨rfl,eC⟩ | ⟨j,e,p,E,U,ag,a7,rfl⟩
      ·refine done w (ms.push { key:=a.eval x,val:=a.eval y,born:=clk }) (clk+1) (.inl rfl) ?_ λ{w'} he=>?_
       ·rw[hex];simp only[kZ,Instr.mapUpdate,Sem.run_bind,dB G,Result.andThen_ok,eU,ea,dh,sE hw,Sem.run_pure]
       ·rw[(Sy eC).2];refine⟨by grind,?_,λi G dJ=>?_,λi j G aF e=>?_⟩
        ·rw[List.map_append,List.nodup_append];refine⟨Lo,by simp,λq bq q' ub=>?_⟩;obtain⟨p,ao,rfl⟩:=List.mem_map.1 bq;simp only[List.map_cons,List.map_nil,List.mem_singleton]at ub;subst ub;intro e;have:=eC p ao;rw[e,(Lk k fi.1 _ _).2 rfl]at this;grind
        ·by_cases qC:i<es.length
         ·obtain⟨aR,aW,bL,fA,pG⟩:=Gq i qC (by omega);have ay:(es++[(dI,m')])[i]=es[i]:=List.getElem_append_left qC;have aP:(ms.push { key:=a.eval x,val:=a.eval y,born:=clk })[i]=ms[i]'(by omega):=Array.getElem_push_lt (by omega);rw[ay,aP];exact⟨aR,fc k (λ_ h=>h) he aW,bL,fc v (λ_ h=>h) he fA,by omega⟩
         ·have aeJ:i=es.length:=by grind
          subst aeJ;have ay:(es++[(dI,m')])[es.length]=(dI,m'):=by simp
          have aP:(ms.push { key:=a.eval x,val:=a.eval y,born:=clk })[es.length]={ key:=a.eval x,val:=a.eval y,born:=clk }:=by
           grind
          rw[ay,aP];exact⟨ui.1,fc k (λ_ h=>h) he ui.2,Gp.1,fc v (λ_ h=>h) he Gp.2,by simp⟩
        ·have born:∀ i (h:i<(ms.push { key:=a.eval x,val:=a.eval y,born:=clk }).size),(∃ dt:i<ms.size,(ms.push { key:=a.eval x,val:=a.eval y,born:=clk })[i]=ms[i])\/(i=ms.size/\((ms.push { key:=a.eval x,val:=a.eval y,born:=clk })[i]).born=clk):=by
          grind
         grind
      ·have aF:j<es.length:=(List.getElem?_eq_some_iff.1 U).1;have xz:j<ms.size:=by omega
       have Lq:ms[j]=e:=by
        grind
       have na:es[j]=p:=(List.getElem?_eq_some_iff.1 U).2;have aeK:dI=p.1:=(Lk k fi.1 _ _).1 ag;obtain⟨js,b',cg,cJ,et⟩:=Lm C.P w e.key (a.eval x);have lX:b'.heap[(κ b).aa]?=some (.map ms clk):=by rcases et with rfl | rfl<;>exact hw
       refine done b' (ms.modify j λe=>{ e with key:=js,val:=a.eval y }) clk et ?_ λ{w'} he=>?_
       ·rw[hex];rw[Nat.zero_add]at dh;simp only[kZ,Instr.mapUpdate,Sem.run_bind,dB G,Result.andThen_ok,eU,ea,dh];have n1:((ms[j]?).map (·.key)).getD (a.eval x)=e.key:=by
         grind
        rw[n1,cg];simp only[Result.andThen_ok,sE lX,Sem.run_pure]
       ·rw[(Sx U ag a7).2];refine⟨by grind,?_,λi G dJ=>?_,λi kg G fS aZ=>?_⟩
        ·have:(es.set j (p.1,m')).map (·.1)=es.map (·.1):=by
          apply List.ext_getElem?;grind
         grind
        ·have qC:i<es.length:=by grind
         have Lr:i<ms.size:=by omega
         obtain⟨aR,aW,bL,fA,pG⟩:=Gq i qC Lr;by_cases z7:j=i
         ·subst z7;have ay:(es.set j (p.1,m'))[j]=(p.1,m'):=by simp
          have aP:(ms.modify j λe=>{ e with key:=js,val:=a.eval y })[j]={ key:=js,val:=a.eval y,born:=ms[j].born }:=by grind
          rw[ay,aP];have vt:ep C.P k F' w js p.1:=by
           rcases cJ with rfl | rfl
           ·grind
           ·rw[<-Lq,<-na];exact⟨aR,aW⟩
          exact⟨vt.1,fc k (λ_ h=>h) he vt.2,Gp.1,fc v (λ_ h=>h) he Gp.2,pG⟩
         ·have ay:(es.set j (p.1,m'))[i]=es[i]:=by grind
          have aP:(ms.modify j λe=>{ e with key:=js,val:=a.eval y })[i]=ms[i]:=by grind
          rw[ay,aP];exact⟨aR,fc k (λ_ h=>h) he aW,bL,fc v (λ_ h=>h) he fA,pG⟩
        grind
     grind
    grind
   ·cases h
  ·cases h
 ·cases h
end
end Go.Fer
namespace Go.Fer
open Go.RowKit
section
variable {C:b9} {T:Nat->ab} {bf:Nat->Option aN} {o:Oper} {s:aB} {res:eB}
theorem SC{P:Program}{F:Nat->Prop}{w:World}{e:ab}{z:Value}(bN:j' e z.cells.toList=some [])(n:Nat) :
  gu P e F w ((Array.range (n*e.size)).map (λi=>z.cells[i % z.cells.size]!)).toList (List.replicate n e.df):=by
 obtain⟨c,z8,kf,z2⟩:=vp (P:=P) (H:=λ_=>⟨0,.fy⟩) (κ:=λ_=>⟨0,0,0,true⟩) (F:=F) (w:=w) e bN;rw[List.append_nil]at z8;have uk:z.cells.size=e.size:=by rw[<-Array.length_toList,z8];exact hS e kf
 refine⟨by simp,λi G=>?_⟩;have dJ:i<n:=by grind
 have hle:(i+1)*e.size<=n*e.size:=Nat.mul_le_mul_right _ (by omega);rw[Nat.add_mul]at hle;have:((((Array.range (n*e.size)).map (λi=>z.cells[i % z.cells.size]!)).toList.drop (i*e.size)).take e.size)=z.cells.toList:=by
  apply List.ext_getElem?;intro j;simp only[List.getElem?_take,List.getElem?_drop];split
  ·rename_i aF;have fS:j<z.cells.size:=by omega
   rw[Array.getElem?_toList,Array.getElem?_toList];have zY:(i*e.size+j) % z.cells.size=j:=by rw[uk,Nat.add_comm,Nat.add_mul_mod_self_right,Nat.mod_eq_of_lt aF]
   grind
  grind
 grind
theorem aeL{n:Int}(aU:0<=n)(E:n<=4294967296):IntKind.i64.wrap n=n:=by
 simp only[IntKind.wrap,IntKind.signed,IntKind.bits];grind
theorem aeM(aV:dS C.P T){ty:TypeId}{l c:Operand}(bg:∀ i,o.dst=some i->i<C.nt)(af:o.op=.makeSlice ty l c)(h:(bt C.aO T bf (a1 C.aO s.az) o).run s.aa=some res):cH C o s res:=by
 simp only[bt,af,F7]at h;split at h
 ·rename_i e aM;split at h
  ·rename_i n m ai hm;have dq:=aV.cc aM (by simp);obtain⟨jP,aF,jb,oN⟩:=dq.sl;obtain⟨inf,z,i1,i2,i3,i4,i5,i6⟩:=kA jb.kz;obtain⟨b,ar,al⟩:=rr h;simp only[Option.some.injEq]at al;subst al;intro a w κ F Q M bc hc;have aeN:=oL (cN M l rfl bc.1) ai;have ja:=oL (cN M c rfl bc.2) hm;obtain⟨c0,rfl,bD⟩:0<=n/\n=m/\b_ n.toNat:=hc;unfold b_ at bD;obtain⟨k,rfl⟩:∃ k:Nat,n=k:=⟨n.toNat,by omega⟩
   simp only[Int.toNat_natCast]at bD;have hw:IntKind.i64.wrap (k:Int)=k:=aeL (by omega) (by omega);let cs:Array Value:=(Array.range (k*e.size)).map (λi=>z.cells[i % z.cells.size]!);have jo:gu C.P e F w cs.toList (List.replicate k e.df):=SC i5 k;have ax5:inf.bytes*k<=2 ^ 47:=by
    calc inf.bytes*k<=1024*4294967296:=Nat.mul_le_mul i3 (by omega)
     _<=2 ^ 47:=by decide
   have c7:(execOp a.eval o).run C.P w=.ok (.value (.slice (some ⟨w.heap.size,0,none⟩) k k)) (w.alloc (.cells cs jP)):=by
    have aeO:¬((inf.bytes:Int)*(k:Int) > 2 ^ 48):=by
     omega
    have nb:¬((k:Int)<0):=by omega
    have xx:¬(k*inf.bytes > roomBytes):=by
     have:roomBytes=2 ^ 47:=rfl;grind
    have vt:¬((k:Int) > (k:Int)):=by omega
    simp only[execOp,af,Instr.makeSlice,aeN.1,ja.1,Sem.run_bind,dB aF,Result.andThen_ok,asInt,asIntOf,Sem.run_pure,F9 i1,hw,aeO,nb,vt,decide_false,Bool.or_false,Bool.false_or,Bool.false_eq_true,if_false,run_askRoom,Int.toNat_natCast,ss i1,i2];by_cases sF:k*e.size=0
    ·have aeP:cs=#[]:=Array.eq_empty_of_size_eq_zero (by grind);rw[aeP];have aeQ:(Array.map (λ_:Nat=>(default:Value)) (Array.range 0))=#[]:=by simp
     simp[sF,newRow];rw[aeQ]
    ·simp[sF,rp i1 i4,newRow,cs]
   have ag:=M.CV (b:=b) (g:=(s.aa b).gen+1) (zs:=List.replicate k e.df) (k:=⟨w.heap.size,0,k,false⟩) (w':=w.alloc (.cells cs jP)) (Nat.lt_succ_self _) (.inr rfl) (by simp) (λr M=>pw w _ M) (λ_=>by simp) ⟨rfl,rfl,rfl⟩
    (λH κ'=>⟨λh=>(by cases h),λ_=>⟨cs,jP,qt w _,by grind,by simp,by grind,(jo.CT (pre:=[]) (post:=[]) (by simp)).lh (c6.alloc M.db _)⟩⟩)
   refine hy (by grind) c7 ⟨_,F,bl.set (s:=s.cx b _) ag bg ⟨⟨by simp[aB.cx],rfl⟩,λ_ _=>by simp[aB.cx,bB.slice,bQ.len]⟩⟩
  ·cases h
 ·cases h
theorem gu.take{P:Program}{e:ab}{F:Nat->Prop}{w:World}{all:List Value}{xs:List e.aj}(h:gu P e F w all xs){n:Nat}(aw:n<=xs.length):gu P e F w (all.take (n*e.size)) (xs.take n):=by
 have hle:n*e.size<=xs.length*e.size:=Nat.mul_le_mul_right _ aw;refine⟨by simp only[List.length_take,h.1];simp,λi G=>?_⟩;have dJ:i<n:=by grind
 have aeR:(i+1)*e.size<=n*e.size:=Nat.mul_le_mul_right _ (by omega);rw[Nat.add_mul]at aeR;have:((all.take (n*e.size)).drop (i*e.size)).take e.size=(all.drop (i*e.size)).take e.size:=by
  rw[List.drop_take,List.take_take,Nat.min_eq_left (by omega)]
 rw[this];simpa using h.2 i (by omega)
theorem SD{P:Program}{w:World}{e:ab}{q:Option Addr}{n cap:Nat}{xs:List e.aj}{F:Nat->Prop}(aw:n<=xs.length)(h:(q=none/\xs=[]/\cap=0)\/∃ p all,q=some p/\gu P e F w all xs/\kD w p all) :
  ∃ all,(Builtin.firstCells e.size n (.slice q xs.length cap)).run P w=.ok all.toArray w/\gu P e F w all (xs.take n):=by
 rcases h with⟨rfl,rfl,rfl⟩ | ⟨p,all,rfl,ca,a2⟩
 ·exact⟨[],by rfl,by simp[gu]⟩
 ·have hle:n*e.size<=xs.length*e.size:=Nat.mul_le_mul_right _ aw;refine⟨all.take (n*e.size),?_,ca.take aw⟩;simp only[Builtin.firstCells];have ai:(all.take (n*e.size)).length=n*e.size:=by simp only[List.length_take,ca.1];omega
  have M:kD w p (all.take (n*e.size)):=⟨λaU=>a2.1 (by grind),λj aF=>by
   have fS:j<all.length:=by grind
   rw[List.getElem_take];exact a2.2 j fS⟩
  have:=Ga (P:=P) M;grind
theorem lL.gh{P:Program}{e:ab}{F:Nat->Prop}{w w':World}{cs di:Array Value}{off aY:Nat}{xs zs:List e.aj}{ey:List Value}(h:lL P e F w cs off xs)(he:c6 F w w')(aw:gu P e F w ey zs)(ai:aY+zs.length<=xs.length)
  (pA:off+xs.length*e.size<=cs.size) (hc:di.toList=cs.toList.take (off+aY*e.size)++(ey++cs.toList.drop (off+aY*e.size+ey.length))):lL P e F w' di off (Go.Fer.gh xs aY zs):=by
 have hlen:(Go.Fer.gh xs aY zs).length=xs.length:=by simp[Go.Fer.gh];omega
 have aeS:(aY+zs.length)*e.size<=xs.length*e.size:=Nat.mul_le_mul_right _ ai;rw[Nat.add_mul]at aeS;have pE:=aw.1;have gP:(cs.toList.take (off+aY*e.size)).length=off+aY*e.size:=by grind
 intro i G;rw[hlen]at G;have aeT:i<aY\/(aY<=i/\i<aY+zs.length)\/aY+zs.length<=i:=by omega
 rcases aeT with E | ⟨E,U⟩ | E
 ·obtain⟨bj,d1,d2⟩:=h i G;have Sl:=hS e d2;have ay:(Go.Fer.gh xs aY zs)[i]'(by omega)=xs[i]:=by
   simp only[Go.Fer.gh,List.append_assoc];grind
  rw[ay];refine⟨bj,λj aF=>?_,fc e (λ_ h=>h) he d2⟩;have hle:(i+1)*e.size<=aY*e.size:=Nat.mul_le_mul_right _ (by omega);rw[Nat.add_mul]at hle;rw[<-Array.getElem?_toList,hc,List.getElem?_append_left (by omega),List.getElem?_take,if_pos (by omega),Array.getElem?_toList];grind
 ·have CY:=aw.CT (pre:=cs.toList.take (off+aY*e.size)) (post:=cs.toList.drop (off+aY*e.size+ey.length)) hc;obtain⟨bj,d1,d2⟩:=CY (i - aY) (by omega);have ay:(Go.Fer.gh xs aY zs)[i]'(by omega)=zs[i - aY]'(by omega):=by
   simp only[Go.Fer.gh,List.append_assoc];grind
  rw[ay];refine⟨bj,λj aF=>?_,fc e (λ_ h=>h) he d2⟩;have:=d1 j aF;rw[gP]at this;rw[<-this];congr 1;have:i*e.size=aY*e.size+(i - aY)*e.size:=by rw[<-Nat.add_mul];grind
  omega
 ·obtain⟨bj,d1,d2⟩:=h i G;have Sl:=hS e d2;have ay:(Go.Fer.gh xs aY zs)[i]'(by omega)=xs[i]:=by
   simp only[Go.Fer.gh,List.append_assoc];have gr:(xs.take aY).length=aY:=by grind
   rw[List.getElem_append_right (by omega),List.getElem_append_right (by omega)];grind
  rw[ay];refine⟨bj,λj aF=>?_,fc e (λ_ h=>h) he d2⟩;have Gt:(aY+zs.length)*e.size<=i*e.size:=Nat.mul_le_mul_right _ E;rw[Nat.add_mul]at Gt;rw[<-Array.getElem?_toList,hc,List.getElem?_append_right (by omega),List.getElem?_append_right (by omega),List.getElem?_drop,gP];grind
theorem gu.one{P:Program}{e:ab}{F:Nat->Prop}{w:World}{ey:List Value}{ys:List e.aj}(h:gu P e F w ey ys)(lo:0<e.size):∀ v∈ey,v.oneCell'=true:=by
 intro v ae;obtain⟨j,aF,rfl⟩:=List.mem_iff_getElem.1 ae;have hdiv:j / e.size<ys.length:=(Nat.div_lt_iff_lt_mul lo).2 (by rw[<-h.1];exact aF);have nZ:=h.2 (j / e.size) hdiv;have iE:=zC (P:=P) (H:=λ_=>⟨0,.fy⟩) (κ:=λ_=>⟨0,0,0,true⟩) e nZ;have zY:=Nat.mod_lt j lo;have aer:j / e.size*e.size+j % e.size=j:=Nat.div_add_mod' j e.size;have CX:((ey.drop (j / e.size*e.size)).take e.size).length=e.size:=hS e nZ;have:=(iE.kV (j % e.size) (by rw[iE.len,CX];omega)).2;grind
theorem aeU(aV:dS C.P T){args:Array Operand}{dp:Array TypeId}(bg:∀ i,o.dst=some i->i<C.nt)(af:o.op=.call { callee:=.builtin .copy,args:=args,argTypes:=dp })(h:(bt C.aO T bf (a1 C.aO s.az) o).run s.aa=some res):cH C o s res:=by
 obtain⟨args⟩:=args;obtain⟨dp⟩:=dp;have ar:∀ c,o.op≠.defer c:=by grind
 simp only[bt,af,mU,F8]at h;split at h
 ·rename_i x y t u;split at h
  ·rename_i e aP aM hu;have dq:=aV.cc aM (by simp);obtain⟨jP,aF,jb,oN⟩:=dq.sl;obtain⟨inf,z,i1,i2,i3,i4,i5,i6⟩:=kA jb.kz;have lo:0<e.size:=Nat.pos_of_ne_zero oN;split at h
   ·rename_i b g aY G C4;simp only[aq.e2,Option.bind_eq_some_iff,aq.e1,aq.bM]at h;obtain⟨⟨ys,l⟩,ke,h⟩:=h;split at h
    ·rename_i aC;split at h
     ·rename_i aZ xs W;split at h
      ·rename_i rA;subst rA;simp only[Option.some.injEq]at h;subst h;intro a w κ F Q M bc _;obtain⟨q',cap',ud,n2⟩:=sB M ke (cN M y rfl bc.2);have ah:bz C.P s.aa κ F w (use (a1 C.aO s.az x)).2 (a.eval x):=cN M x rfl bc.1;have aT:=M.bC b;unfold cD at aT;rw[W]at aT;have place:aY<=G.getD xs.length/\G.getD xs.length<=xs.length/\(((κ b).e6=true/\∃ cap,a.eval x=.slice none 0 cap)\/((κ b).e6=false/\∃ mA cap,a.eval x=.slice (some ⟨(κ b).aa,mA,none⟩) (G.getD xs.length - aY) cap/\(aY<G.getD xs.length->mA=(κ b).off+aY*aZ.size))):=by
        split at C4
        ·rename_i be g' e8;simp only[Option.some.injEq,Prod.mk.injEq]at C4;obtain⟨rfl,rfl,rfl,rfl⟩:=C4;rw[e8]at ah;have ae:=ah.2 aC.symm (by rw[W];rfl);rw[W]at ae;simp only[bQ.len]at ae;refine⟨Nat.zero_le _,Nat.le_refl _,?_⟩;cases aw:(κ be).e6 with
         | true=>exact .inl ⟨rfl,0,by simpa [bB.slice,aw]using ae⟩
         | false=>exact .inr ⟨rfl,(κ be).off,(κ be).cap,by simpa [bB.slice,aw]using ae,λ_=>by simp⟩
        ·rename_i be g' ax6 dJ e8;simp only[Option.some.injEq,Prod.mk.injEq]at C4;obtain⟨rfl,rfl,rfl,rfl⟩:=C4;rw[e8]at ah;obtain⟨⟨aR,aW⟩,bL⟩:=ah.2 aC.symm (by rw[W];rfl);rw[W]at aW bL;simp only[bQ.len,bQ.e0]at aW bL;refine⟨aR,aW,?_⟩;rcases bL with⟨aw,ae⟩ | ⟨aw,mA,ae,gE,gF⟩
         ·grind
         ·obtain⟨cs,hW,bD,c2,c3,c4,c5⟩:=aT.2 aw;grind
        grind
       obtain⟨jN,qA,mz⟩:=place;have SE:∀ m:Nat,m<=ys.length->m<=xs.length->fR .i64 (m:Int):=by
        intro m _ hm;have:=zP M (b:=b) (by rw[W];rfl);rw[W]at this;simp only[bQ.len]at this;exact CH (by omega)
       generalize SF:G.getD xs.length=cU at *
       have Sf:Nat.min ys.length (cU - aY)=min (cU - aY) ys.length:=Nat.min_comm _ _;have aeV:(ys.take (cU - aY)).length=min (cU - aY) ys.length:=by simp
       have z_:(gh xs aY (ys.take (cU - aY))).length=xs.length:=by simp[gh];omega
       have gr:fq s.aa κ (λi=>if i=b then (⟨(s.aa b).gen,.bh aZ (gh xs aY (ys.take (cU - aY)))⟩:bK) else s.aa i) κ:=
        rk rfl (λh=>by cases h) (λ_=>by rw[W];exact⟨rfl,z_,rfl⟩) (λh=>by cases h) (λh=>by cases h)
       have mW:∀ (w':World) v,(Builtin.copy_ #[t,u] o.type #[a.eval x,a.eval y]).run C.P w=.ok v w'->(execOp a.eval o).run C.P w=.ok (.value v) w':=by
        intro w' v ae;refine xt af ?_;simp[builtin,ae]
       rcases mz with⟨aw,cap,sC⟩ | ⟨aw,mA,cap,sC,aeW⟩
       ·have hV:=aT.1 aw;subst hV;have aeX:cU=0:=by grind
        subst aeX;have Ls:aY=0:=by omega
        subst Ls;obtain⟨ey,dO,ej⟩:=SD (P:=C.P) (w:=w) (n:=0) (Nat.zero_le _) n2;have c7:(Builtin.copy_ #[t,u] o.type #[a.eval x,a.eval y]).run C.P w=.ok (.int .i64 ((0:Nat):Int)) w:=by
         simp only[Builtin.copy_,List.getElem?_toArray,List.getElem?_cons_zero,List.getElem?_cons_succ,Sem.run_bind,dB aF,Result.andThen_ok,sC,ud,Builtin.lenOf,Sem.run_pure,ss i1,i2,Nat.min_zero];rw[dO];rfl
        refine hy ar (mW w _ c7) ⟨κ,F,bl.set (s:=s.cx b _) ?_ bg (gV.2 ⟨by simp,SE _ (by simp) (by simp)⟩)⟩;have bF:gh ([]:List aZ.aj) 0 (ys.take (0 - 0))=[]:=by rfl
        have es:s.cx b ⟨(s.aa b).gen,.bh aZ (gh ([]:List aZ.aj) 0 (ys.take (0 - 0)))⟩=s:=by
         rw[bF];unfold aB.cx;have:(λi=>if i=b then (⟨(s.aa b).gen,.bh aZ []⟩:bK) else s.aa i)=s.aa:=by
          funext i;by_cases G:i=b
          ·subst G;simp only[if_true];rw[<-W]
          grind
         rw[this]
        grind
       ·obtain⟨cs,hW,bD,c2,c3,c4,c5⟩:=aT.2 aw;have CM:min (cU - aY) ys.length<=ys.length:=Nat.min_le_right _ _;obtain⟨ey,dO,ej⟩:=SD (P:=C.P) (w:=w) CM n2;have kX:ys.take (min (cU - aY) ys.length)=ys.take (cU - aY):=by
         simp
        rw[kX]at ej;have pE:=ej.1;rw[aeV]at pE;have n0:=ej.one lo;have SG:xs.length*aZ.size<=(κ b).cap*aZ.size:=Nat.mul_le_mul_right _ c3;have C5:(aY+min (cU - aY) ys.length)*aZ.size<=xs.length*aZ.size:=Nat.mul_le_mul_right _ (by omega);rw[Nat.add_mul]at C5;obtain⟨w',di,cg,cJ,et,lS,lT,mx⟩:∃ w' di,(storeCells ⟨(κ b).aa,mA,none⟩ ey).run C.P w=.ok () w'/\w'.heap[(κ b).aa]?=some (.cells di hW (0,0))/\di.toList=cs.toList.take ((κ b).off+aY*aZ.size)++(ey++cs.toList.drop ((κ b).off+aY*aZ.size+ey.length))/\
          (∀ r,r≠(κ b).aa->w'.heap[r]?=w.heap[r]?)/\w'.heap.size=w.heap.size/\dd w w':=by
         by_cases ck:aY<cU
         ·rw[aeW ck];obtain⟨w',di,cg,cJ,et,lS,lT,mx⟩:=vv (P:=C.P) ey ((κ b).off+aY*aZ.size) 0 w cs bD (by omega) n0;grind
         ·have aU:min (cU - aY) ys.length=0:=by omega
          rw[aU,Nat.zero_mul]at pE;have:ey=[]:=List.eq_nil_of_length_eq_zero pE;subst this;exact⟨w,cs,by rfl,bD,by simp,λ_ _=>rfl,rfl,dd.refl w⟩
        have c7:(Builtin.copy_ #[t,u] o.type #[a.eval x,a.eval y]).run C.P w=.ok (.int .i64 ((min (cU - aY) ys.length:Nat):Int)) w':=by
         simp only[Builtin.copy_,List.getElem?_toArray,List.getElem?_cons_zero,List.getElem?_cons_succ,Sem.run_bind,dB aF,Result.andThen_ok,sC,ud,Builtin.lenOf,Sem.run_pure,ss i1,i2];rw[Sf,dO];simp only[Result.andThen_ok,cg];rfl
        refine hy ar (mW w' _ c7) ⟨κ,F,bl.set (s:=s.cx b _) ?_ bg (gV.2 ⟨rfl,SE _ (by omega) (by omega)⟩)⟩;refine M.px (b:=b) (by rw[W];simp[bQ.bZ,aw]) (by simp[bQ.bZ,aw]) gr (λh=>by cases h) (λh=>by cases h) lS lT mx λH mY ck he=>?_;refine⟨λh=>(by grind),λ_=>⟨di,hW,cJ,?_,by omega,c4,?_⟩⟩
        ·have:di.size=cs.size:=by
          rw[<-Array.length_toList,et];simp only[List.length_append,List.length_take,List.length_drop,Array.length_toList];omega
         omega
        ·exact c5.gh he ej (by omega) (by omega) et
      grind
     grind
    grind
   ·cases h
  ·cases h
 ·cases h
theorem SH(af:(bt C.aO T bf (a1 C.aO s.az) o).run s.aa=some ⟨True,False,.undef,[]⟩)(h:(bt C.aO T bf (a1 C.aO s.az) o).run s.aa=some res):cH C o s res:=by
 rw[af]at h;cases h;intro a w κ F Q _ _ hc;grind
end
end Go.Fer
namespace Go.Fer
open Go.RowKit
section
variable {C:b9} {T:Nat->ab} {bf:Nat->Option aN} {o:Oper} {s:aB} {res:eB}
theorem aeY{P:Program}{w:World}{len cap:Nat}{aY:Option Value}{l:Option Int}{k k':IntKind}{h m:Int}(ai:(aY=none/\l=none)\/∃ k m,aY=some (.int k m)/\l=some m)
  (E:0<=dr l) (U:dr l<=h) (ag:h<=m) (a7:m<=(cap:Int)):(Instr.sliceBounds true len cap aY (some (.int k h)) (some (.int k' m))).run P w=.ok ((dr l).toNat,h.toNat,m.toNat) w:=by
 rcases ai with⟨rfl,rfl⟩ | ⟨k,n,rfl,rfl⟩<;>simp only[dr]at E U ⊢
 ·have ay:0<=m/\m<=(cap:Int):=by omega
  have aP:0<=h/\h<=m:=by omega
  have cw:max m 0=m:=by omega
  simp[Instr.sliceBounds,Instr.sliceBound,asIntOf,ay,aP,cw]
 ·have ay:0<=m/\m<=(cap:Int):=by omega
  have aP:0<=h/\h<=m:=by omega
  have cw:max m 0=m:=by omega
  have ed:0<=n/\n<=h:=by omega
  have gW:max h 0=h:=by omega
  simp[Instr.sliceBounds,Instr.sliceBound,asIntOf,ay,aP,cw,ed,gW]
theorem aeZ(aV:dS C.P T){ty:TypeId}{x:Operand}{aY G:Option Operand}{py:Operand}(bg:∀ i,o.dst=some i->i<C.nt)(af:o.op=.slice ty x aY G (some py))(h:(bt C.aO T bf (a1 C.aO s.az) o).run s.aa=some res):cH C o s res:=by
 simp only[bt,af,Option.isSome_some,if_true,F5]at h;split at h
 ·rename_i ol l rm cU vq m sz K_ ae0;have ar:∀ c,o.op≠.defer c:=by grind
  split at h
  ·rename_i bF aM;have dq:=aV.cc aM (by simp);obtain⟨j,aF,jb,oN⟩:=dq.sl;simp only[aq.e2,Option.bind_eq_some_iff]at h;obtain⟨⟨c,v⟩,fT,h⟩:=h;simp only[bO,aq.bM,Option.some.injEq]at h;subst h;have runs:∀ (a:Act) (w:World) κ F,bl C s a w κ F->ol->rm->vq->∀ (q:Option Addr) (n cap:Nat),a.eval x=.slice q n cap->0<=dr l->dr l<=cU->cU<=m->m<=(cap:Int)->
     (execOp a.eval o).run C.P w=.ok (.value (.slice (if m.toNat=(dr l).toNat then q else q.map (·.add ((dr l).toNat*bF.size))) (cU.toNat - (dr l).toNat) (m.toNat - (dr l).toNat))) w:=by
    intro a w κ F M CR CS ae1 q n cap ae bD c2 c3 c4;have ds:(aY.map a.eval=none/\l=none)\/∃ k m,aY.map a.eval=some (.int k m)/\l=some m:=by
     rcases CQ M sz CR with⟨rfl,rfl⟩ | ⟨y,k,m,rfl,rfl,e⟩
     ·exact .inl ⟨rfl,rfl⟩
     ·exact .inr ⟨k,m,by simp[e],rfl⟩
    obtain⟨SI,aW,m2,rfl,aP,cw⟩:∃ y k n,G=some y/\cU=n/\a.eval y=.int k n:=by
     rcases CQ M K_ CS with⟨_,h⟩ | ⟨y,k,m,rfl,h,e⟩
     ·cases h
     ·exact⟨y,k,m,rfl,Option.some.inj h,e⟩
    obtain⟨bL,ed⟩:∃ k,a.eval py=.int k m:=by
     rcases CQ M ae0 ae1 with⟨h,_⟩ | ⟨y,k,m,E,U,e⟩
     ·cases h
     ·cases E;cases U;exact⟨k,e⟩
    subst aP;have:=aeY (P:=C.P) (w:=w) (len:=n) (k:=aW) (k':=bL) ds bD c2 c3 c4;simp[execOp,af,ae,Instr.sliceAt,Instr.slice,dB aF,cw,ed,this,jb.size]
   unfold RQ at fT;split at fT
   ·rename_i e xs e8;simp only[aq.bM]at fT;split at fT
    ·rename_i he;subst he;simp only[Option.some.injEq,Prod.mk.injEq]at fT;obtain⟨rfl,rfl⟩:=fT;refine cH.pure ar bg λa w κ F M bc hc=>?_;have ah:bz C.P s.aa κ F w (use (a1 C.aO s.az x)).2 (a.eval x):=cN M x rfl bc.1;rw[e8]at ah;obtain⟨_,a',cap,ay,m1,m2,m3,m4⟩:=(dU rfl).1 ah;have ay:=(List.cons.inj ay).1;simp only[fz]at hc;obtain⟨bD,c2,c3,c4⟩:=hc;subst c3;have hlen:((xs.take cU.toNat).drop (dr l).toNat).length=cU.toNat - (dr l).toNat:=by
      grind
     have ax7:(xs.length:Int)<=cap:=by omega
     refine⟨_,runs a w κ F M bc.2.1 bc.2.2.1 bc.2.2.2 a' xs.length cap ay bD c2 (Int.le_refl _) (by omega),(dU rfl).2 ⟨rfl,?_⟩,_,by rw[hlen]⟩;refine⟨_,_,by rw[hlen],by omega,by omega,?_,λp ao vn=>?_⟩
     ·intro aw;split at aw
      ·omega
      ·cases a' with
       | none=>grind
       | some q=>cases aw
     ·cases a' with
      | none=>grind
      | some q=>
       obtain⟨dO,ej,jM⟩:=m4 q rfl (by omega);have bq:p=⟨q.block,q.off+(dr l).toNat*e.size,none⟩:=by
        split at ao
        ·omega
        ·simp only[Option.map_some,Option.some.injEq]at ao;rw[CP ej]at ao;grind
       subst bq;refine⟨dO,rfl,λi G=>?_⟩;rw[hlen]at G;obtain⟨bj,d1,d2⟩:=jM ((dr l).toNat+i) (by omega);grind
    grind
   ·rename_i e8;simp only[aq.bM,Option.some.injEq,Prod.mk.injEq]at fT;obtain⟨rfl,rfl⟩:=fT;refine cH.pure ar bg λa w κ F M bc hc=>?_;have ah:bz C.P s.aa κ F w (use (a1 C.aO s.az x)).2 (a.eval x):=cN M x rfl bc.1;rw[e8]at ah;simp only[bz]at ah;simp only[fz]at hc;obtain⟨bD,c2,c3⟩:=hc;have c7:=runs a w κ F M bc.2.1 bc.2.2.1 bc.2.2.2 none 0 0 ah (by omega) (by omega) (by omega) (by omega);have aU:cU.toNat=0:=by omega
    have E:m.toNat=0:=by omega
    have U:(dr l).toNat=0:=by omega
    rw[aU,E,U]at c7;simp only[if_true,Nat.sub_zero]at c7;exact⟨_,c7,(dU rfl).2 ⟨rfl,none,0,rfl,Nat.le_refl _,by decide,λ_=>rfl,λp ao=>by simp⟩,none,rfl⟩
   ·rename_i b g e8;simp only[aq.e1,aq.bM]at fT;split at fT
    ·rename_i bk;simp only[Bool.and_eq_true,decide_eq_true_eq]at bk;obtain⟨aC,e9⟩:=bk;simp only[Option.some.injEq,Prod.mk.injEq]at fT;obtain⟨rfl,rfl⟩:=fT;refine cH.pure ar bg λa w κ F M bc hc=>?_;have ah:bz C.P s.aa κ F w (use (a1 C.aO s.az x)).2 (a.eval x):=cN M x rfl bc.1;rw[e8]at ah;have ae:=ah.2 aC.symm e9;obtain⟨dO,ej⟩:=zP M e9;simp only[fz]at hc;obtain⟨bD,c2,c3,c4⟩:=hc;cases aw:(κ b).e6 with
     | true=>
      have aU:=dO aw;simp only[bB.slice,aw,if_true]at ae;exact⟨_,runs a w κ F M bc.2.1 bc.2.2.1 bc.2.2.2 none 0 0 ae bD c2 c3 (by omega),trivial⟩
     | false=>
      have xw:=KW M e9 aw;simp only[bB.slice,aw,Bool.false_eq_true,if_false]at ae;exact⟨_,runs a w κ F M bc.2.1 bc.2.2.1 bc.2.2.2 _ _ _ ae bD c2 c3 (by omega),trivial⟩
    grind
   ·cases fT
  ·cases h
 ·cases h
theorem ae2{b:Nat}{e:ab}(W:(s.aa b).body=.bh e []):s.cx b ⟨(s.aa b).gen,.bh e []⟩=s:=by
 unfold aB.cx;have:(λi=>if i=b then (⟨(s.aa b).gen,.bh e []⟩:bK) else s.aa i)=s.aa:=by
  funext i;by_cases G:i=b
  ·subst G;simp only[if_true];rw[<-W]
  grind
 rw[this]
theorem ae3(aV:dS C.P T){args:Array Operand}{dp:Array TypeId}(bg:∀ i,o.dst=some i->i<C.nt)(af:o.op=.call { callee:=.builtin .append,args:=args,argTypes:=dp }){b g aY G:Nat}(aE:xm (a1 C.aO s.az) args.toList=some (b,g,aY,G))
  (h:(CA T (a1 C.aO s.az) args.toList dp.toList b g aY G).run s.aa=some res):cH C o s res:=by
 obtain⟨args⟩:=args;obtain⟨dp⟩:=dp;have ar:∀ c,o.op≠.defer c:=by grind
 simp only[CA]at h;split at h
 ·rename_i x y t u;have e8:(use (a1 C.aO s.az x)).2=.sub b g aY G:=by
   simp only[xm]at aE;grind
  split at h
  ·rename_i e aP aM hu;have dq:=aV.cc aM (by simp);have vw:=aV.cc hu (by simp);obtain⟨jP,aF,jb,oN⟩:=dq.sl;obtain⟨aeo,fS,_⟩:=vw.sl;obtain⟨inf,z,i1,i2,i3,i4,i5,i6⟩:=kA jb.kz;have lo:0<e.size:=Nat.pos_of_ne_zero oN;simp only[aq.e2,Option.bind_eq_some_iff,aq.e1,aq.bM]at h;obtain⟨⟨ys,l⟩,ke,h⟩:=h;split at h
   ·rename_i aC;split at h
    ·rename_i aZ xs W;split at h
     ·rename_i rA;subst rA;simp only[Option.some.injEq]at h;subst h;intro a w κ F Q M bc hc;change G+ys.length<=xs.length at hc;obtain⟨q',cap',ud,n2⟩:=sB M ke (cN M y rfl bc.2);have ah:bz C.P s.aa κ F w (use (a1 C.aO s.az x)).2 (a.eval x):=cN M x rfl bc.1;rw[e8]at ah;have aT:=M.bC b;unfold cD at aT;rw[W]at aT;obtain⟨⟨aR,aW⟩,bL⟩:=ah.2 aC.symm (by rw[W];rfl);rw[W]at aW bL;simp only[bQ.len,bQ.e0]at aW bL;have mW:∀ (w':World) v,(Builtin.append_ #[t,u] o.type #[a.eval x,a.eval y]).run C.P w=.ok v w'->(execOp a.eval o).run C.P w=.ok (.value v) w':=by
       intro w' v ae;refine xt af ?_;simp[builtin,ae]
      have z_:(gh xs G ys).length=xs.length:=by simp[gh];omega
      have gr:fq s.aa κ (λi=>if i=b then (⟨(s.aa b).gen,.bh aZ (gh xs G ys)⟩:bK) else s.aa i) κ:=
       rk rfl (λh=>by cases h) (λ_=>by rw[W];exact⟨rfl,z_,rfl⟩) (λh=>by cases h) (λh=>by cases h)
      rcases bL with⟨aw,ae⟩ | ⟨aw,mA,ae,gE,gF⟩
      ·have hV:=aT.1 aw;subst hV;have oP:G=0:=by grind
       subst oP;have Ls:aY=0:=by omega
       subst Ls;have Lf:ys=[]:=by grind
       subst Lf;obtain⟨ey,dO,ej⟩:=zV (P:=C.P) (w:=w) (cap:=cap') rfl n2;have c7:(Builtin.append_ #[t,u] o.type #[a.eval x,a.eval y]).run C.P w=.ok (.slice none 0 0) w:=by
        rw[ae,ud];simp only[List.length_nil]at dO ⊢;simp[Builtin.append_,dB aF,dB fS,ss i1,Builtin.lenOf];simp_all
       have bF:gh ([]:List aZ.aj) 0 []=[]:=by rfl
       refine hy ar (mW w _ c7) ⟨κ,F,bl.set (s:=s.cx b _) ?_ bg ⟨⟨by simp[aB.cx,aC],rfl⟩,λ_ _=>⟨by simp,.inl ⟨aw,rfl⟩⟩⟩⟩;rw[bF,ae2 W];exact M
      ·obtain⟨cs,hW,bD,c2,c3,c4,c5⟩:=aT.2 aw;obtain⟨ey,dO,ej⟩:=zV (P:=C.P) (w:=w) (cap:=cap') rfl n2;have pE:=ej.1;have n0:=ej.one lo;have SG:xs.length*aZ.size<=(κ b).cap*aZ.size:=Nat.mul_le_mul_right _ c3;have C5:(G+ys.length)*aZ.size<=xs.length*aZ.size:=Nat.mul_le_mul_right _ hc;rw[Nat.add_mul]at C5;obtain⟨w',di,cg,cJ,et,lS,lT,mx⟩:∃ w' di,(storeCells ⟨(κ b).aa,mA+(G - aY)*aZ.size,none⟩ ey).run C.P w=.ok () w'/\w'.heap[(κ b).aa]?=some (.cells di hW (0,0))/\di.toList=cs.toList.take ((κ b).off+G*aZ.size)++(ey++cs.toList.drop ((κ b).off+G*aZ.size+ey.length))/\
         (∀ r,r≠(κ b).aa->w'.heap[r]?=w.heap[r]?)/\w'.heap.size=w.heap.size/\dd w w':=by
        by_cases ck:aY<(κ b).cap
        ·have z':mA+(G - aY)*aZ.size=(κ b).off+G*aZ.size:=by
          rw[gF ck,Nat.add_assoc,<-Nat.add_mul];grind
         rw[z'];obtain⟨w',di,cg,cJ,et,lS,lT,mx⟩:=vv (P:=C.P) ey ((κ b).off+G*aZ.size) 0 w cs bD (by omega) n0;grind
        ·have aU:ys.length=0:=by omega
         rw[aU,Nat.zero_mul]at pE;have:ey=[]:=List.eq_nil_of_length_eq_zero pE;subst this;exact⟨w,cs,by rfl,bD,by simp,λ_ _=>rfl,rfl,dd.refl w⟩
       have xx:G - aY+ys.length<=(κ b).cap - aY:=by omega
       have c7:(Builtin.append_ #[t,u] o.type #[a.eval x,a.eval y]).run C.P w=.ok (.slice (some ⟨(κ b).aa,mA,none⟩) (G - aY+ys.length) ((κ b).cap - aY)) w':=by
        rw[ae,ud];simp only[Builtin.append_,List.getElem?_toArray,List.getElem?_cons_zero,List.getElem?_cons_succ,Sem.run_bind,dB aF,dB fS,Result.andThen_ok,ss i1,i2,Sem.run_pure,Builtin.lenOf,Bool.false_eq_true,if_false,if_pos xx,Bool.not_false,if_true,dO,vs];simp_all
       refine hy ar (mW w' _ c7) ⟨κ,F,bl.set (s:=s.cx b _) ?_ bg ⟨⟨by simp[aB.cx,aC],rfl⟩,λ_ _=>⟨by simp only[aB.cx,if_true,bQ.len,z_];omega,.inr ⟨aw,mA,?_,?_,?_⟩⟩⟩⟩
       ·refine M.px (b:=b) (by rw[W];simp[bQ.bZ,aw]) (by simp[bQ.bZ,aw]) gr (λh=>by cases h) (λh=>by cases h) lS lT mx λH mY ck he=>?_;refine⟨λh=>(by grind),λ_=>⟨di,hW,cJ,?_,by omega,c4,?_⟩⟩
        ·have:di.size=cs.size:=by
          rw[<-Array.length_toList,et];grind
         omega
        ·exact c5.gh he ej hc (by omega) et
       ·grind
       ·simp only[aB.cx,if_true,bQ.e0];exact gE
       ·simp only[aB.cx,if_true,bQ.e0];exact gF
     grind
    grind
   grind
  ·cases h
 ·cases h
theorem ae4(aV:dS C.P T){args:Array Operand}{dp:Array TypeId}(bg:∀ i,o.dst=some i->i<C.nt)(af:o.op=.call { callee:=.builtin .clear,args:=args,argTypes:=dp })
  (h:(CB T (a1 C.aO s.az) args.toList dp.toList).run s.aa=some res):cH C o s res:=by
 obtain⟨args⟩:=args;obtain⟨dp⟩:=dp;have ar:∀ c,o.op≠.defer c:=by grind
 simp only[CB]at h;split at h
 ·rename_i x t;split at h
  ·rename_i e aM;have dq:=aV.cc aM (by simp);obtain⟨jP,aF,jb,oN⟩:=dq.sl;obtain⟨inf,z,i1,i2,i3,i4,i5,i6⟩:=kA jb.kz;have lo:0<e.size:=Nat.pos_of_ne_zero oN;split at h
   ·rename_i b g aY G e8;simp only[aq.e1,aq.bM]at h;split at h
    ·rename_i aC;split at h
     ·rename_i aZ xs W;split at h
      ·rename_i rA;subst rA;simp only[Option.some.injEq]at h;subst h;intro a w κ F Q M bc _;have ah:bz C.P s.aa κ F w (use (a1 C.aO s.az x)).2 (a.eval x):=cN M x rfl bc;rw[e8]at ah;have aT:=M.bC b;unfold cD at aT;rw[W]at aT;obtain⟨⟨aR,aW⟩,bL⟩:=ah.2 aC.symm (by rw[W];rfl);rw[W]at aW bL;simp only[bQ.len,bQ.e0]at aW bL;have mW:∀ (w':World) v,(Builtin.clear_ #[t] o.type #[a.eval x]).run C.P w=.ok v w'->(execOp a.eval o).run C.P w=.ok (.value v) w':=by
        intro w' v ae;refine xt af ?_;simp[builtin,ae]
       have um:(List.replicate (G - aY) aZ.df).length=G - aY:=by simp
       have z_:(gh xs aY (List.replicate (G - aY) aZ.df)).length=xs.length:=by simp[gh];omega
       have gr:fq s.aa κ (λi=>if i=b then (⟨(s.aa b).gen,.bh aZ (gh xs aY (List.replicate (G - aY) aZ.df))⟩:bK) else s.aa i) κ:=
        rk rfl (λh=>by cases h) (λ_=>by rw[W];exact⟨rfl,z_,rfl⟩) (λh=>by cases h) (λh=>by cases h)
       have nothing:G - aY=0->gh xs aY (List.replicate (G - aY) aZ.df)=xs:=λaU=>by rw[aU];simp[gh]
       have hH:G - aY=0->s.cx b ⟨(s.aa b).gen,.bh aZ (gh xs aY (List.replicate (G - aY) aZ.df))⟩=s:=λaU=>by
        rw[nothing aU];unfold aB.cx;have:(λi=>if i=b then (⟨(s.aa b).gen,.bh aZ xs⟩:bK) else s.aa i)=s.aa:=by
         funext i;by_cases G:i=b
         ·subst G;simp only[if_true];rw[<-W]
         grind
        rw[this]
       rcases bL with⟨aw,ae⟩ | ⟨aw,mA,ae,gE,gF⟩
       ·have hV:=aT.1 aw;subst hV;have oP:G - aY=0:=by grind
        have c7:(Builtin.clear_ #[t] o.type #[a.eval x]).run C.P w=.ok (.tuple #[]) w:=by
         rw[ae];simp[Builtin.clear_,dB aF]
        refine hy ar (mW w _ c7) ⟨κ,F,bl.set (s:=s.cx b _) ?_ bg trivial⟩;grind
       ·obtain⟨cs,hW,bD,c2,c3,c4,c5⟩:=aT.2 aw;by_cases aU:G - aY=0
        ·have c7:(Builtin.clear_ #[t] o.type #[a.eval x]).run C.P w=.ok (.tuple #[]) w:=by
          rw[ae,aU];simp[Builtin.clear_,dB aF]
         refine hy ar (mW w _ c7) ⟨κ,F,bl.set (s:=s.cx b _) ?_ bg trivial⟩;grind
        ·obtain⟨n,qD⟩:∃ n,G - aY=n+1:=⟨G - aY - 1,by omega⟩
         have jo:gu C.P aZ F w ((Array.range ((G - aY)*aZ.size)).map (λi=>z.cells[i % z.cells.size]!)).toList (List.replicate (G - aY) aZ.df):=SC i5 _;have uk:z.cells.size=aZ.size:=by
          obtain⟨c,z8,kf,z2⟩:=vp (P:=C.P) (H:=λ_=>⟨0,.fy⟩) (κ:=λ_=>⟨0,0,0,true⟩) (F:=F) (w:=w) aZ i5;rw[List.append_nil]at z8;rw[<-Array.length_toList,z8];exact hS aZ kf
         have pE:=jo.1;rw[um]at pE;have n0:=jo.one lo;revert jo pE n0;generalize lp:((Array.range ((G - aY)*aZ.size)).map (λi=>z.cells[i % z.cells.size]!)).toList=ey;intro jo pE n0;have SG:xs.length*aZ.size<=(κ b).cap*aZ.size:=Nat.mul_le_mul_right _ c3;have C5:(aY+(G - aY))*aZ.size<=xs.length*aZ.size:=Nat.mul_le_mul_right _ (by omega);rw[Nat.add_mul]at C5;have z':mA=(κ b).off+aY*aZ.size:=gF (by omega);obtain⟨w',di,cg,cJ,et,lS,lT,mx⟩:=vv (P:=C.P) ey ((κ b).off+aY*aZ.size) 0 w cs bD (by omega) n0;have c7:(Builtin.clear_ #[t] o.type #[a.eval x]).run C.P w=.ok (.tuple #[]) w':=by
          rw[ae,z'];have bk:(Builtin.zeroCells z.cells (G - aY)).toList=ey:=by rw[<-lp,<-uk];rfl
          simp only[Builtin.clear_,List.getElem?_toArray,List.getElem?_cons_zero,Sem.run_bind,dB aF,Result.andThen_ok,rp i1 i4,qD];simp_all
         refine hy ar (mW w' _ c7) ⟨κ,F,bl.set (s:=s.cx b _) ?_ bg trivial⟩;refine M.px (b:=b) (by rw[W];simp[bQ.bZ,aw]) (by simp[bQ.bZ,aw]) gr (λh=>by cases h) (λh=>by cases h) lS lT mx λH mY ck he=>?_;refine⟨λh=>(by grind),λ_=>⟨di,hW,cJ,?_,by omega,c4,?_⟩⟩
         ·have:di.size=cs.size:=by
           rw[<-Array.length_toList,et];grind
          omega
         ·exact c5.gh he jo (by omega) (by omega) (by omega)
      grind
     grind
    grind
   ·cases h
  ·cases h
 ·cases h
end
end Go.Fer
namespace Go.Fer
open Go.RowKit
section
variable {C:b9} {T:Nat->ab} {bf:Nat->Option aN} {o:Oper} {s:aB} {res:eB}
theorem Lt{place:Nat->Option (Nat×Nat)}{size:Nat}(ao:∀ i,place i=some (i*size,size)):∀ (qs:List (Nat×Value)) (cs:Array Value),(∀ q∈qs,q.2.cells.size=size/\q.1*size+size<=cs.size)->(qs.map (·.1)).Nodup->
  ∃ di,Instr.fill place cs qs=some di/\di.size=cs.size/\∀ i,i*size+size<=cs.size->(di.toList.drop (i*size)).take size=(match qs.find? (λp=>p.1 == i) with | some q=>q.2.cells.toList | none=>(cs.toList.drop (i*size)).take size)
 | [],cs,_,_=>⟨cs,rfl,rfl,λi _=>rfl⟩
 | (k,v)::qs,cs,h,aw=>by
  obtain⟨E,U⟩:=h (k,v) (by simp);simp only at E U;have Gh:=Gf v.cells.toList 0 (k*size) cs (by grind);have e:(v.cells.zipIdx.foldl (λ(cs:Array Value) (p:Value×Nat)=>cs.setIfInBounds (k*size+p.2) p.1) cs)=((v.cells.toList.zipIdx 0).foldl (λ(cs:Array Value) (p:Value×Nat)=>cs.setIfInBounds (k*size+p.2) p.1) cs):=by
   rw[<-Array.foldl_toList];simp
  generalize ax8:(v.cells.zipIdx.foldl (λ(cs:Array Value) (p:Value×Nat)=>cs.setIfInBounds (k*size+p.2) p.1) cs)=Gu at *
  have SJ:Gu.toList=cs.toList.take (k*size)++(v.cells.toList++cs.toList.drop (k*size+size)):=by
   grind
  have cf:Gu.size=cs.size:=by
   rw[<-Array.length_toList,SJ];grind
  have C6:(qs.map (·.1)).Nodup/\k ∉ qs.map (·.1):=by
   grind
  obtain⟨di,aR,aW,bL⟩:=Lt ao qs Gu (λq bq=>by grind) C6.1;refine⟨di,?_,by omega,λi G=>?_⟩
  ·simp only[Instr.fill,ao];grind
  ·rw[bL i (by omega)];by_cases m_:k=i
   ·grind
   ·have:((k,v)::qs).find? (λp=>p.1 == i)=qs.find? (λp=>p.1 == i):=by grind
    rw[this];have jo:(Gu.toList.drop (i*size)).take size=(cs.toList.drop (i*size)).take size:=by
     apply List.ext_getElem?;intro j;simp only[List.getElem?_take,List.getElem?_drop];split
     ·rename_i aF;rw[SJ];have kX:(List.take (k*size) cs.toList).length=k*size:=by grind
      have xv:v.cells.toList.length=size:=by omega
      rcases Nat.lt_or_ge i k with ag | ag
      ·have:(i+1)*size<=k*size:=Nat.mul_le_mul_right _ (by omega);grind
      ·have:(k+1)*size<=i*size:=Nat.mul_le_mul_right _ (by omega);rw[Nat.add_mul]at this;rw[List.getElem?_append_right (by omega),kX,List.getElem?_append_right (by omega),List.getElem?_drop];congr 1;omega
     ·rfl
    grind
theorem ae5(aV:dS C.P T){ty n:Nat}{ps:Array (Nat×Operand)}(bg:∀ i,o.dst=some i->i<C.nt)(af:o.op=.buildSlice ty n ps)(h:(bt C.aO T bf (a1 C.aO s.az) o).run s.aa=some res):cH C o s res:=by
 obtain⟨ps⟩:=ps;have ar:∀ c,o.op≠.defer c:=by grind
 simp only[bt,af]at h;split at h
 ·rename_i e aM;have dq:=aV.cc aM (by simp);obtain⟨jP,aF,jb,oN⟩:=dq.sl;obtain⟨inf,z,i1,i2,i3,i4,i5,i6⟩:=kA jb.kz;simp only[aq.e2,Option.bind_eq_some_iff,aq.run_bind]at h;obtain⟨⟨xs,bV⟩,hV,h⟩:=h;obtain⟨b,ax9,al⟩:=rr h;split at al
  ·rename_i Gv;obtain⟨ax_,SK⟩:=Gv;simp only[Bool.and_eq_true,Bool.not_eq_true',decide_eq_true_eq]at SK;obtain⟨⟨fU,uf⟩,Lu⟩:=SK;have qz:b ∉ bV:=by grind
   simp only[Option.some.injEq]at al;subst al;intro a w κ F Q M bc _;obtain⟨F',f1,ba,f2⟩:=bl.ln (aeA n 0 hV) M;obtain⟨ae6,Gw,kf,z2⟩:=vp (P:=C.P) (H:=s.aa) (κ:=κ) (F:=F') (w:=w) e i5;rw[List.append_nil]at Gw;have Lv:=K2 M ps bc;have kj:=St M.bC f1 kf (ps:=iF (ps.map λp=>(p.1,a1 C.aO s.az p.2))) (qs:=ps.map λp=>(p.1,a.eval p.2)) (by simp[iF]) Lv n 0 hV f2;have uk:=(CL e (P:=C.P) i5).2;have Lw:∀ p∈ps,p.1<n:=by
    intro p ao;have:=List.all_eq_true.1 Lu (p.1,(use (a1 C.aO s.az p.2)).2) (by simp only[iF,List.map_map,List.mem_map];grind);grind
   have Lx:((ps.map λp=>(p.1,a.eval p.2)).map (·.1)).Nodup:=by
    have:(iF (ps.map λp=>(p.1,a1 C.aO s.az p.2))).map (·.1)=(ps.map λp=>(p.1,a.eval p.2)).map (·.1):=by simp[iF]
    grind
   have SL:∀ q∈ps.map (λp=>(p.1,a.eval p.2)),q.2.cells.size=e.size/\q.1*e.size+e.size<=n*e.size:=by
    intro q bq;obtain⟨p,ao,rfl⟩:=List.mem_map.1 bq;have ck:=Lw p ao;refine⟨?_,by
     have:(p.1+1)*e.size<=n*e.size:=Nat.mul_le_mul_right _ (by omega);grind⟩
    obtain⟨bj,d1,d2⟩:=kj.2 p.1 (by omega);rw[Nat.zero_add]at d2;have vD:(ps.map λp=>(p.1,a.eval p.2)).find? (λr=>r.1 == p.1)=some (p.1,a.eval p.2):=by
     have ae7:∀ (l:List (Nat×Value)),(l.map (·.1)).Nodup->∀ q∈l,l.find? (λr=>r.1 == q.1)=some q:=by
      intro l;induction l with
      | nil=>simp
      | cons c l aI=>
       grind
     grind
    rw[vD]at d2;have:=hS e d1;grind
   have Ly:z.cells.size≠0:=by omega
   let base:Array Value:=(Array.range (n*e.size)).map (λi=>z.cells[i % z.cells.size]!);have ax':base.size=n*e.size:=by grind
   obtain⟨di,aR,aW,bL⟩:=Lt (place:=λi=>some (i*e.size,e.size)) (λi=>rfl) (ps.map λp=>(p.1,a.eval p.2)) base (by grind) Lx;have aya:∀ i,i<n->(base.toList.drop (i*e.size)).take e.size=z.cells.toList:=by
    intro i G;have hle:(i+1)*e.size<=n*e.size:=Nat.mul_le_mul_right _ (by omega);rw[Nat.add_mul]at hle;apply List.ext_getElem?;intro j;simp only[List.getElem?_take,List.getElem?_drop];split
    ·rename_i aF;have fS:j<z.cells.size:=by omega
     rw[Array.getElem?_toList,Array.getElem?_toList];have zY:(i*e.size+j) % z.cells.size=j:=by rw[uk,Nat.add_comm,Nat.add_mul_mod_self_right,Nat.mod_eq_of_lt aF]
     grind
    grind
   have ae8:gu C.P e F' w di.toList xs:=by
    refine⟨by grind,λi G=>?_⟩;have dJ:i<n:=by omega
    have hle:(i+1)*e.size<=n*e.size:=Nat.mul_le_mul_right _ (by omega);grind
   have c7:(execOp a.eval o).run C.P w=.ok (.value (.slice (some ⟨w.heap.size,0,none⟩) n n)) (w.alloc (.cells di jP)):=by
    have ae9:¬n*e.size > 2 ^ 24:=by omega
    simp only[execOp,af,Instr.buildSlice,Sem.run_bind,dB aF,Result.andThen_ok,ss i1,i2,ae9,if_false];by_cases sF:n*e.size=0
    ·have Aa:base=#[]:=Array.eq_empty_of_size_eq_zero (by omega);rw[Aa]at aR;simp only[sF,if_true,Sem.run_bind,Sem.run_pure,Result.andThen_ok];rw[show ((Array.range 0).map (λi=>(#[]:Array Value)[i % (#[]:Array Value).size]!))=#[] from by simp];simp only[List.map_toArray]at aR ⊢;rw[show Instr.fill (λi=>some (i*e.size,e.size)) #[] (ps.map λx=>(x.1,a.eval x.2))=some di from aR];rfl
    ·simp only[sF,if_false,Sem.run_bind,rp i1 i4,Result.andThen_ok,Sem.run_pure];simp only[List.map_toArray];rw[show Instr.fill (λi=>some (i*e.size,e.size)) ((Array.range (n*e.size)).map (λi=>z.cells[i % z.cells.size]!)) (ps.map λx=>(x.1,a.eval x.2))=some di from aR];rfl
   have pD:s.f_ ((jK bV).run s.aa++[(b,⟨(s.aa b).gen+1,.bh e xs⟩)])=(s.cz bV).cx b ⟨(s.aa b).gen+1,.bh e xs⟩:=by
    rw[CK,t_]
   have pF:(s.cz bV).aa b=s.aa b:=by simp[aB.cz,qz]
   have ag:=ba.CV (b:=b) (g:=(s.aa b).gen+1) (zs:=xs) (k:=⟨w.heap.size,0,n,false⟩) (w':=w.alloc (.cells di jP)) (by grind) (.inr rfl) (by simp) (λr M=>pw w _ M) (λ_=>by simp) ⟨rfl,rfl,rfl⟩
    (λH κ'=>⟨λh=>(by cases h),λ_=>⟨di,jP,qt w _,by grind,by grind,by
     have:n<=n*e.size:=Nat.le_mul_of_pos_right _ (Nat.pos_of_ne_zero oN);grind,(ae8.CT (pre:=[]) (post:=[]) (by simp)).lh (c6.alloc ba.db _)⟩⟩)
   refine hy ar c7 ?_;simp only[aB.h'];rw[pD];exact⟨_,F',bl.set ag bg ⟨⟨by simp[aB.cx],rfl⟩,λ_ _=>by simp[aB.cx,bB.slice,bQ.len,kj.1]⟩⟩
  grind
 ·cases h
theorem SM(n3:Nat):∀ (m:Nat) (l:List Value),l.length=m*n3->((List.range m).map λi=>(l.drop (i*n3)).take n3).flatten=l
 | 0,l,h=>by
  have:l=[]:=List.eq_nil_of_length_eq_zero (by omega);simp[this]
 | m+1,l,h=>by
  rw[Nat.add_mul]at h;have aI:=SM n3 m (l.take (m*n3)) (by grind);rw[List.range_succ,List.map_append,List.flatten_append];have e:((List.range m).map λi=>(l.drop (i*n3)).take n3)=((List.range m).map λi=>((l.take (m*n3)).drop (i*n3)).take n3):=by
   refine List.map_congr_left λi G=>?_;have hle:(i+1)*n3<=m*n3:=Nat.mul_le_mul_right _ (by have:=List.mem_range.1 G;omega);rw[Nat.add_mul]at hle;rw[List.drop_take,List.take_take,Nat.min_eq_left (by omega)]
  rw[e,aI];have:(l.drop (m*n3)).take n3=l.drop (m*n3):=List.take_of_length_le (by grind);simp[this]
theorem ae_(aV:dS C.P T){ty m:Nat}{e:ab}{ps:Array (Nat×Operand)}(bg:∀ i,o.dst=some i->i<C.nt)(af:o.op=.build ty ps)(aM:T ty=.array m e)
  (h:((tX e (iF (ps.toList.map λp=>(p.1,a1 C.aO s.az p.2))) 0 m).cQ λ(xs,bV)=>if (bV.isEmpty&&decide ((iF (ps.toList.map λp=>(p.1,a1 C.aO s.az p.2))).map (·.1)).Nodup&&(iF (ps.toList.map λp=>(p.1,a1 C.aO s.az p.2))).all (λp=>decide (p.1<m)))=true then bO (sq (ps.toList.map λp=>(p.1,a1 C.aO s.az p.2))) True (.val (.array m e) xs) else .none).run s.aa=some res):cH C o s res:=by
 obtain⟨ps⟩:=ps;simp only[aq.e2,Option.bind_eq_some_iff]at h;obtain⟨⟨xs,bV⟩,hV,h⟩:=h;have dq:=aV.cc aM (by simp);obtain⟨jP,aF,jb,oN⟩:=dq.bh;obtain⟨i,z,E,U,ag,a7,bN,du⟩:=kA dq.kz;split at h
 ·rename_i hc;simp only[Bool.and_eq_true,decide_eq_true_eq,List.isEmpty_iff,List.all_eq_true]at hc;obtain⟨⟨rfl,uf⟩,Lu⟩:=hc;simp only[bO,aq.bM,Option.some.injEq]at h;subst h;refine cH.pure (by grind) bg λa w κ F M bc _=>?_;obtain⟨ae6,Gw,kf,z2⟩:=vp (P:=C.P) (H:=s.aa) (κ:=κ) (F:=F) (w:=w) (.array m e) bN;rw[List.append_nil]at Gw;have uk:=(CL (.array m e) (P:=C.P) bN).2;have ayb:z.cells.size=m*e.size:=uk;have Lv:=K2 M ps bc;have kj:=λ(zero:List Value) (bk:bI C.P e F w zero e.df)=>St M.bC (λ_ h=>h) bk (ps:=iF (ps.map λp=>(p.1,a1 C.aO s.az p.2))) (qs:=ps.map λp=>(p.1,a.eval p.2)) (by simp[iF]) Lv m 0 hV (λ_ h=>by cases h);have Lw:∀ p∈ps,p.1<m:=by
   intro p ao;exact Lu (p.1,(use (a1 C.aO s.az p.2)).2) (by simp only[iF,List.map_map,List.mem_map];grind)
  have Lx:((ps.map λp=>(p.1,a.eval p.2)).map (·.1)).Nodup:=by
   have:(iF (ps.map λp=>(p.1,a1 C.aO s.az p.2))).map (·.1)=(ps.map λp=>(p.1,a.eval p.2)).map (·.1):=by simp[iF]
   grind
  have jo:∀ i,i<m->bI C.P e F w ((z.cells.toList.drop (i*e.size)).take e.size) e.df:=by
   intro i G;have ae':bI C.P (.array m e) F w z.cells.toList (ab.array m e).df:=by rw[Gw];exact kf
   obtain⟨p,c,q,aR,aW,bL⟩:=KV ae' G;have ai:=hS e bL;have:(ab.df (.array m e)).getD i e.df=e.df:=by
    show (List.replicate m e.df).getD i e.df=e.df;grind
   rw[this]at bL;have:(z.cells.toList.drop (i*e.size)).take e.size=c:=by
    rw[aR,<-aW];simp[ai]
   rw[this];exact bL
  have SN:xs.length=m:=by
   rcases Nat.eq_zero_or_pos m with aU | aU
   ·subst aU;simp only[tX,aq.bM,Option.some.injEq,Prod.mk.injEq]at hV;rw[<-hV.1];rfl
   ·exact (kj _ (jo 0 aU)).1
  have SL:∀ q∈ps.map (λp=>(p.1,a.eval p.2)),q.2.cells.size=e.size/\q.1*e.size+e.size<=z.cells.size:=by
   intro q bq;obtain⟨p,ao,rfl⟩:=List.mem_map.1 bq;have ck:=Lw p ao;refine⟨?_,by
    have:(p.1+1)*e.size<=m*e.size:=Nat.mul_le_mul_right _ (by omega);grind⟩
   obtain⟨bj,d1,d2⟩:=(kj _ (jo p.1 ck)).2 p.1 (by omega);rw[Nat.zero_add]at d2;have vD:(ps.map λp=>(p.1,a.eval p.2)).find? (λr=>r.1 == p.1)=some (p.1,a.eval p.2):=by
    have ae7:∀ (l:List (Nat×Value)),(l.map (·.1)).Nodup->∀ q∈l,l.find? (λr=>r.1 == q.1)=some q:=by
     intro l;induction l with
     | nil=>simp
     | cons c l aI=>
      grind
    grind
   rw[vD]at d2;have:=hS e d1;grind
  obtain⟨di,aR,aW,bL⟩:=Lt (place:=λi=>some (i*e.size,e.size)) (λi=>rfl) (ps.map λp=>(p.1,a.eval p.2)) z.cells SL Lx;refine⟨.agg di,?_,⟨di,rfl,by omega⟩,?_⟩
  ·simp only[execOp,af,Instr.build,Sem.run_bind,rp E a7,Result.andThen_ok,dB aF,jb.size];simp_all
  ·refine⟨(List.range m).map λi=>(di.toList.drop (i*e.size)).take e.size,(SM e.size m di.toList (by grind)).symm,by simp,SN,λi G dJ=>?_⟩;simp only[List.getElem_map,List.getElem_range];have Lr:i<m:=by omega
   have hle:(i+1)*e.size<=m*e.size:=Nat.mul_le_mul_right _ (by omega);rw[Nat.add_mul]at hle;obtain⟨bj,d1,d2⟩:=(kj _ (jo i Lr)).2 i G;rw[Nat.zero_add]at d2;have:=bL i (by omega);have:(di.toList.drop (i*e.size)).take e.size=bj:=by
    rw[this];split at d2<;>simp_all
   rw[this];exact d1
 ·cases h
theorem fp.mono{P:Program}{t:ab}{F F':Nat->Prop}{w w':World}{aD:List Value}{x:t.aj}(h:fp P t F w aD x)(bn:∀ r,F r->F' r)(he:c6 F w w'):fp P t F' w' aD x:=⟨h.1,fc t bn he h.2⟩
theorem afa{k:FuncId}{c1:List Operand}(bg:∀ i,o.dst=some i->i<C.nt)(af:o.op=.makeFunc (.func k) #[] ⟨c1⟩){v:FX}(ae:C.aO.tT k=some v)
  (h:((iZ (gi (v.cs.map .bH)) ((c1.map (a1 C.aO s.az)).map λv=>(use v).2)).cQ λ(y,bV)=>(jK bV).bind λwl=>.ret (some ⟨jL (c1.map (a1 C.aO s.az)),True,.val (.fn (gi v.as) v.aX) (λx=>v.sh (FW v.as (v.cs.map .bH) x y)),wl⟩):aq (Option eB)).run s.aa=some res):cH C o s res:=by
 simp only[aq.e2,Option.bind_eq_some_iff,aq.run_bind,aq.bM,Option.some.injEq]at h;obtain⟨⟨y,l⟩,aS,rfl⟩:=h;intro a w κ F Q M bc _;obtain⟨F',f1,ba,f2⟩:=bl.ln (qB _ aS) M;have dX:fp C.P (gi (v.cs.map .bH)) F' w (c1.map a.eval) y:=by
  refine vC M.bC f1 _ aS f2 (by simp) λi G dJ=>?_;simp only[List.getElem_map];have dA:i<c1.length:=by grind
  have E:=sv bc i (by grind);have ay:(c1.map (a1 C.aO s.az)).getD i .undef=a1 C.aO s.az c1[i]:=by grind
  rw[ay]at E;exact pz (kd M c1[i]) E
 obtain⟨aE,xA⟩:=M.jI.tT k v ae;have c7:(execOp a.eval o).run C.P w=.ok (.value (.func (.func k) #[] (c1.map a.eval).toArray)) w:=by simp[execOp,af,Instr.makeFunc]
 refine hy (by grind) c7 ⟨κ,F',?_⟩;simp only[aB.h'];rw[t_];refine bl.set ba bg ((dU rfl).2 ⟨rfl,_,rfl,⟨rfl,rfl⟩,λek c8 Ab xB uo xC args x E U ag=>⟨k,_,rfl,xA.enter,?_⟩⟩);have aF:=RA v.as (v.cs.map .bH) aE (P:=C.P) (F:=ek) (w:=c8) ⟨E,U⟩ (dX.mono Ab xB);have:=xA.iW ek c8 _ _ uo xC aF ag;have e:(args++c1.map a.eval).toArray=args.toArray++(c1.map a.eval).toArray:=by simp
 rw[e]at this;exact this.mono λe tP ⟨v,y,ay,aP,⟨aD,cw,ed,gW⟩,j8⟩=>⟨v,y,aD,ay,aP,cw,ed,gW,j8⟩
theorem afb{k:FuncId}{c1:List Operand}(bg:∀ i,o.dst=some i->i<C.nt)(af:o.op=.makeFunc (.func k) #[] ⟨c1⟩){v:xd}(ae:C.aO.xf k=some v)
  (h:((iZ (gi (v.cs.map .bH)) ((c1.map (a1 C.aO s.az)).map λv=>(use v).2)).cQ λ(y,bV)=>(jK bV).bind λwl=>.ret (some ⟨jL (c1.map (a1 C.aO s.az)),True,.val (.cr v.aK) (v.S y),wl⟩):aq (Option eB)).run s.aa=some res):cH C o s res:=by
 simp only[aq.e2,Option.bind_eq_some_iff,aq.run_bind,aq.bM,Option.some.injEq]at h;obtain⟨⟨y,l⟩,aS,rfl⟩:=h;intro a w κ F Q M bc _;obtain⟨F',f1,ba,f2⟩:=bl.ln (qB _ aS) M;have dX:fp C.P (gi (v.cs.map .bH)) F' w (c1.map a.eval) y:=by
  refine vC M.bC f1 _ aS f2 (by simp) λi G dJ=>?_;simp only[List.getElem_map];have dA:i<c1.length:=by grind
  have E:=sv bc i (by grind);have ay:(c1.map (a1 C.aO s.az)).getD i .undef=a1 C.aO s.az c1[i]:=by grind
  rw[ay]at E;exact pz (kd M c1[i]) E
 have xA:=M.jI.xf k v ae;have c7:(execOp a.eval o).run C.P w=.ok (.value (.func (.func k) #[] (c1.map a.eval).toArray)) w:=by simp[execOp,af,Instr.makeFunc]
 refine hy (by grind) c7 ⟨κ,F',?_⟩;simp only[aB.h'];rw[t_];refine bl.set ba bg ((dU rfl).2 ⟨rfl,_,rfl,⟨rfl,rfl⟩,λek c8 Ab xB uo xC eC=>⟨k,_,rfl,xA.enter,λl I Y iI jt eA=>?_⟩⟩);exact xA.iW ek c8 _ _ uo xC (dX.mono Ab xB) eC l I Y iI jt eA
theorem afc{k:FuncId}{c1:Array Operand}(bg:∀ i,o.dst=some i->i<C.nt)(af:o.op=.makeFunc (.func k) #[] c1)(h:(bt C.aO T bf (a1 C.aO s.az) o).run s.aa=some res):cH C o s res:=by
 obtain⟨c1⟩:=c1;simp only[bt,af,Array.isEmpty_empty,if_true]at h;split at h;case h_1 v ae=>exact afa bg af ae h
 split at h;case h_1 v ae=>exact afb bg af ae h
 simp only[bO,aq.bM,Option.some.injEq]at h;subst h;refine cH.pure (by grind) bg λa w κ F M bc _=>?_;refine⟨.func (.func k) #[] (c1.map a.eval).toArray,by simp[execOp,af,Instr.makeFunc],c1.map a.eval,rfl,by simp,λi G=>?_⟩;have dJ:i<c1.length:=by grind
 have E:(use ((c1.map (a1 C.aO s.az)).getD i .undef)).1:=sv bc i (by omega);have ay:(c1.map (a1 C.aO s.az)).getD i .undef=a1 C.aO s.az c1[i]:=by grind
 rw[ay]at E;have U:=pz (kd M c1[i]) E;have aP:(c1.map a.eval).getD i Go.undef=a.eval c1[i]:=by grind
 have cw:hj ((c1.map (a1 C.aO s.az)).map λv=>(use v).2) i=(use (a1 C.aO s.az c1[i])).2:=by simp[hj,List.getD_eq_getElem?_getD,dJ]
 grind
theorem afd{k:FuncId}{first c1:Array Operand}(bg:∀ i,o.dst=some i->i<C.nt)(af:o.op=.makeFunc (.func k) first c1)(au:first.isEmpty=false)(h:(bt C.aO T bf (a1 C.aO s.az) o).run s.aa=some res):cH C o s res:=by
 obtain⟨first⟩:=first
 simp only[bt,af,au,Bool.false_eq_true,if_false]at h;split at h
 ·rename_i hc;have hc:c1=#[]:=by grind
  subst hc;simp only[bO,aq.bM,Option.some.injEq]at h;subst h;refine cH.pure (by grind) bg λa w κ F M bc _=>?_;refine⟨.func (.func k) (first.map a.eval).toArray #[],by simp[execOp,af,Instr.makeFunc],first.map a.eval,rfl,by simp,λi G=>?_⟩;have dJ:i<first.length:=by omega
  have E:(use ((first.map (a1 C.aO s.az)).getD i .undef)).1:=sv bc i (by grind);have ay:(first.map (a1 C.aO s.az)).getD i .undef=a1 C.aO s.az first[i]:=by grind
  rw[ay]at E;have U:=pz (kd M first[i]) E;have aP:(first.map a.eval).getD i Go.undef=a.eval first[i]:=by grind
  have cw:hj ((first.map (a1 C.aO s.az)).map λv=>(use v).2) i=(use (a1 C.aO s.az first[i])).2:=by simp[hj,List.getD_eq_getElem?_getD,dJ]
  grind
 ·cases h
def lr(o:Oper)(nt:Nat):Bool:=
 (match o.dst with | some d=>decide (d<nt) | none=>true)&&(match o.op with | .store _ _ _=>o.dst.isNone | .mapUpdate _ _ _ _=>o.dst.isNone | .insert _ _ _ _=>o.dst.isNone | _=>true)
theorem xD(aV:dS C.P T)(cA:jq C.P bf)(ar:lr o C.nt=true)(h:(bt C.aO T bf (a1 C.aO s.az) o).run s.aa=some res):cH C o s res:=by
 simp only[lr,Bool.and_eq_true]at ar;have bg:∀ i,o.dst=some i->i<C.nt:=λi G=>by
  grind
 cases af:o.op with
 | move x=>exact adC bg af h
 | assign x=>exact adD bg af h
 | pick c a b=>exact adE bg af h
 | binOp op t x y cW=>exact adM aV bg af h
 | unOp op t x=>exact adF bg af h
 | extract t i=>exact adG bg af h
 | nilCheck x=>exact adH bg af h
 | fieldAddr t x f=>exact adI aV bg af h
 | field t x f=>exact adJ aV bg af h
 | load t x=>exact adN aV bg af h
 | store t x y=>
  have:=ar.2;rw[af]at this;exact ad6 aV (by grind) af h
 | alloc t=>
  by_cases aM:T t=.cT
  ·simp only[bt,af,aM]at h;obtain⟨_,_,al⟩:=rr h;grind
  ·exact adX aV bg af h aM
 | box t x=>exact adZ bg af h
 | build t ps=>
  by_cases Gi:∀ m e,T t≠.array m e
  ·exact ad4 aV bg af Gi h
  ·obtain⟨m,e,aM⟩:∃ m e,T t=.array m e:=by grind
   refine ae_ aV bg af aM ?_;simpa only [bt,af,aM]using h
 | buildSlice t n ps=>exact ae5 aV bg af h
 | indexAddr t x i=>exact aea aV bg af h
 | index t x i=>exact adP aV bg af h
 | convert a b x=>exact aew aV bg af h
 | makeFunc fn first c1=>
  cases fn with
  | func k=>
   by_cases au:first=#[]
   ·subst au;exact afc bg af h
   ·exact afd bg af (by grind) h
  | _=>simp[bt,af,aq.none]at h
 | makeMap t r=>exact aeG bg af h
 | lookup t m x ok=>exact aeH aV bg af h
 | mapUpdate t m x y=>
  have:=ar.2;rw[af]at this;exact Ln aV (by grind) (.inl af) h
 | insert t m x y=>
  have:=ar.2;rw[af]at this;exact Ln aV (by grind) (.inr af) h
 | makeSlice t l c=>exact aeM aV bg af h
 | makeInterface t x=>exact SH (by simp[bt,af,bO]) h
 | panic x=>exact SH (by simp[bt,af,bO]) h
 | slice t x aY G py=>
  cases py with
  | none=>exact aec aV bg af h
  | some m=>exact aeZ aV bg af h
 | call c=>
  obtain⟨callee,args,dp⟩:=c;cases callee with
  | value f=>
   cases f with
   | func k=>exact aeB cA bg af h
   | _=>simp[bt,af,mU,aq.none]at h
  | invoke r m=>simp[bt,af,mU,aq.none]at h
  | builtin b=>
   cases b with
   | len=>exact adU aV bg af h
   | append=>
    cases aE:xm (a1 C.aO s.az) args.toList with
    | none=>exact aen aV bg af (by simpa [bt,af,mU,aE]using h)
    | some p=>exact ae3 aV bg af aE (by simpa [bt,af,mU,aE]using h)
   | clear=>exact ae4 aV bg af (by simpa [bt,af,mU]using h)
   | copy=>exact aeU aV bg af h
   | min=>exact R6 (.inl ⟨rfl,rfl⟩) bg af (by simpa [bt,af,mU]using h)
   | max=>exact R6 (.inr ⟨rfl,rfl⟩) bg af (by simpa [bt,af,mU]using h)
   | cap=>exact adV aV bg af (by simpa [bt,af,mU]using h)
   | _=>simp[bt,af,mU,aq.none]at h
 | _=>simp[bt,af,aq.none]at h
end
end Go.Fer
namespace Go.Fer
open Go.RowKit
def aq.cV{ak:Type}(p:ak->Prop):aq ak->Prop
 | .ret a=>p a
 | .eR _ k=>∀ x,(k x).cV p
theorem Lz{aJ:Operand->aH}{k:IntKind}:∀ (l:List Operand) {cb:Prop} {h_:z1'},(∀ x∈l,(use (aJ x)).1)->mT aJ k l=some (cb,h_)->cb
 | [],_,_,_,h=>by cases h
 | [x],cb,h_,hu,h=>by
  simp only[mT]at h;split at h
  ·split at h
   ·cases h;exact hu x (by simp)
   ·cases h
  ·cases h
 | x::y::l,cb,h_,hu,h=>by
  simp only[mT]at h;split at h
  ·rename_i ai;split at h
   ·cases h;exact⟨hu x (by simp),Lz (y::l) (λz bk=>hu z (List.mem_cons_of_mem _ bk)) ai⟩
   ·cases h
  ·cases h
theorem aq.cV.run{ak:Type}{p:ak->Prop}{m:aq ak}(h:m.cV p)(H:Nat->bK):p (m.run H):=by
 induction m with
 | ret a=>exact h
 | eR b k aI=>exact aI _ (h _)
theorem aq.cV.bind{ak β:Type}{p:β->Prop}{m:aq ak}{f:ak->aq β}(h:∀ a,(f a).cV p):(m.bind f).cV p:=by
 induction m with
 | ret a=>exact h a
 | eR b k aI=>exact λx=>aI x
def ls{ak:Type}(p:ak->Prop)(x:Option ak):Prop:=∀ a,x=some a->p a
theorem aq.cV.cQ{ak β:Type}{p:β->Prop}{m:aq (Option ak)}{f:ak->aq (Option β)}(h:∀ a,(f a).cV (ls p)):(m.cQ f).cV (ls p):=by
 refine aq.cV.bind λa=>?_;cases a with
 | none=>intro a h;cases h
 | some a=>grind
theorem aq.cV.SO{ak β:Type}{q:ak->Prop}{p:β->Prop}{m:aq (Option ak)}{f:ak->aq (Option β)}(hm:m.cV (ls q))(h:∀ a,q a->(f a).cV (ls p)):(m.cQ f).cV (ls p):=by
 unfold aq.cQ;induction m with
 | ret a=>
  cases a with
  | none=>intro b W;cases W
  | some a=>exact h a (hm a rfl)
 | eR b k aI=>exact λx=>aI x (hm x)
theorem aq.cV.bW{ak:Type}{p:ak->Prop}:(aq.none:aq (Option ak)).cV (ls p):=by intro a h;cases h
theorem aq.cV.nc{ak:Type}{p:ak->Prop}{a:ak}(h:p a):(aq.ret (some a)).cV (ls p):=by intro b W;grind
theorem aq.cV.nil{ak:Type}{p:ak->Prop}:(aq.ret (Option.none:Option ak)).cV (ls p):=by intro b W;cases W
theorem aq.cV.bO{p:eB->Prop}{cb c:Prop}{v:aH}(h:p ⟨cb,c,v,[]⟩):(bO cb c v).cV (ls p):=aq.cV.nc h
theorem aq.cV.h9{p:eB->Prop}{d:Option Nat}{k:Nat->Nat->Option eB}(h:∀ b g,ls p (k b g)):(h9 d k).cV (ls p):=by
 unfold Go.Fer.h9;split
 ·exact .bW
 ·exact λx=>h _ _
def aH.Ac:aH->Bool
 | .hE _ _=>true
 | _=>false
theorem Gx{a:aH}(h:a.Ac=false):(use a).1:=by
 cases a<;>first | trivial | cases h
def sG(aJ:Operand->aH)(o:Oper):Bool:=o.op.operands.toList.all λx=>!(aJ x).Ac
def aH.afe:aH->Bool
 | .fH _ _=>false
 | .val (.map _ _) _=>false
 | _=>true
def Gy(aJ:Operand->aH)(b:Builtin)(args:List Operand):Bool:=
 match b with
 | .len=>match args with
  | [x]=>(use (aJ x)).2.afe
  | _=>false
 | .min=>true
 | .max=>true
 | _=>false
def aH.SP:aH->Bool
 | .iX ..=>true
 | _=>false
def nd(aJ:Operand->aH)(o:Oper):Bool:=
 match o.op with
 | .move _ | .assign _ | .pick .. | .unOp .. | .extract .. | .fieldAddr .. | .field .. | .alloc .. | .box .. | .build .. | .buildSlice .. | .convert .. | .makeFunc .. | .makeMap .. | .lookup .. | .mapUpdate .. | .insert ..=>true
 | .load _ x=>!(use (aJ x)).2.SP
 | .store _ x _=>!(use (aJ x)).2.SP
 | .binOp op _ x _ _=>match op with
  | .quo | .rem | .shl | .shr=>false
  | .add=>(use (aJ x)).2.mw.isSome
  | _=>true
 | .call c=>match c.callee with
  | .builtin b=>Gy aJ b c.args.toList
  | _=>false
 | _=>false
theorem aff{op:BinOp}{k:IntKind}{a b:Int}{c:Prop}{v:aH}(h:zD op k a b=some (c,v))(E:op≠.quo)(U:op≠.rem):c:=by
 cases op<;>simp only[zD,Option.some.injEq,Prod.mk.injEq,reduceCtorEq]at h<;>first | (obtain⟨rfl,_⟩:=h;trivial) | contradiction
theorem afg{op:BinOp}{a b:List UInt8}{c:Prop}{v:aH}(h:Ct op a b=some (c,v))(E:op≠.add):c:=by
 cases op<;>simp only[Ct,Option.some.injEq,Prod.mk.injEq,reduceCtorEq]at h<;>first | (obtain⟨rfl,_⟩:=h;trivial) | contradiction
theorem afh{op:BinOp}{t:ab}{x y:aH}:(zE op t x y).cV (ls λr=>r.1):=by
 unfold zE;refine aq.cV.cQ λe=>?_;cases op<;>first | exact .nc trivial | exact .nil
section
variable {aQ:dD} {T:Nat->ab} {bf:Nat->Option aN} {aJ:Operand->aH} {o:Oper}
theorem afi{op:BinOp}{ty:TypeId}{x y:Operand}{t:TypeId}(af:o.op=.binOp op ty x y t)(hc:nd aJ o=true):(bt aQ T bf aJ o).cV (ls λr=>r.c):=by
 unfold bt;rw[af];simp only;simp only[nd,af]at hc;split
 ·rename_i k a k' b E U;split
  ·cases hc
  ·cases hc
  ·split
   ·split
    ·rename_i c v G;refine .bO (aff G ?_ ?_)<;>(grind)
    ·exact .bW
   ·exact .bW
 ·rename_i pH;split
  ·rename_i a b E U;split
   ·rename_i c v G;refine .bO (afg G ?_);intro e;subst e;simp only at hc;generalize (use (aJ x)).2=z at hc E;cases z<;>try (cases E;done)
    rename_i t d;cases t<;>first | (cases E;done) | (cases hc;done)
   ·exact .bW
  ·exact aq.cV.SO afh λr M=>.bO M
theorem LA{p:eB->Prop}{ty:TypeId}{m x y:Operand}(h:∀ wl,p ⟨(use (aJ m)).1/\(use (aJ x)).1/\(use (aJ y)).1,True,.undef,wl⟩):(rn T aJ ty m x y).cV (ls p):=by
 unfold rn;split
 ·simp only;split
  ·split
   ·refine aq.cV.cQ λ_=>aq.cV.cQ λ_=>aq.cV.bind λ_=>λz=>?_;intro r M;split at M
    ·split at M
     ·simp only[Option.map_eq_some_iff]at M;grind
     grind
    grind
   ·exact .bW
  ·exact .bW
 ·exact .bW
theorem SQ{ty:TypeId}{m x y:Operand}:(rn T aJ ty m x y).cV (ls λr=>r.c):=LA λ_=>trivial
theorem Ad(hc:nd aJ o=true):(bt aQ T bf aJ o).cV (ls λr=>r.c):=by
 cases af:o.op with
 | binOp op ty x y t=>exact afi af hc
 | move x=>unfold bt;rw[af];exact .bO trivial
 | assign x=>
  unfold bt;rw[af];simp only;split
  ·exact .h9 λb g=>λr M=>by grind
  ·exact .bO trivial
 | pick c a b=>
  unfold bt;rw[af];simp only;split
  ·split
   ·split
    ·exact .bO trivial
    ·exact .bW
   ·split
    ·exact .bO trivial
    ·exact .bW
   ·exact .bW
  ·exact .bW
 | unOp op t x=>
  unfold bt;rw[af];simp only;split
  ·exact .bO trivial
  ·exact .bO trivial
  ·exact .bW
 | extract x i=>
  unfold bt;rw[af];simp only;split
  ·split
   ·exact .bO trivial
   ·exact .bW
  ·exact .bW
 | fieldAddr ty x f=>
  unfold bt;rw[af];simp only;repeat' first | exact .bW | exact .bO trivial | split
  all_goals first
   | (intro z;intro r M;grind)
 | field ty x f=>
  unfold bt;rw[af];simp only;repeat' first | exact .bW | exact .bO trivial | split
 | load ty x=>
  simp only[nd,af]at hc;unfold bt;rw[af];simp only;split
  ·rename_i ah;rw[ah]at hc;cases hc
  ·exact aq.cV.cQ λ_=>.bO trivial
 | store ty x y=>
  simp only[nd,af]at hc;unfold bt;rw[af];simp only;split
  ·rename_i ah;rw[ah]at hc;cases hc
  ·exact aq.cV.cQ λ_=>.nc trivial
 | alloc ty=>
  unfold bt;rw[af];simp only;exact .h9 λb g=>λr M=>by grind
 | box ty x=>
  unfold bt;rw[af];simp only;split
  ·exact .h9 λb g=>λr M=>by grind
  ·exact .bW
 | build ty ps=>
  unfold bt;rw[af];simp only;repeat' first | exact .bW | exact .bO trivial | refine aq.cV.cQ λ_=>?_ | split
 | buildSlice ty n ps=>
  unfold bt;rw[af];simp only;split
  ·refine aq.cV.cQ λ_=>aq.cV.bind λ_=>.h9 λb g=>λr M=>by grind
  ·exact .bW
 | convert a b x=>
  unfold bt;rw[af];simp only;repeat' first | exact .bW | exact .bO trivial | exact aq.cV.cQ λ_=>.bO trivial | split
 | makeFunc fn first c1=>
  unfold bt;rw[af];simp only;split
  ·split
   ·split
    ·exact aq.cV.cQ λ_=>aq.cV.bind λ_=>.nc trivial
    ·split
     ·exact aq.cV.cQ λ_=>aq.cV.bind λ_=>.nc trivial
     ·exact .bO trivial
   ·split
    ·exact .bO trivial
    ·exact .bW
  ·exact .bW
 | makeMap ty r=>
  unfold bt;rw[af];simp only;split
  ·exact .bW
  ·split
   ·exact .h9 λb g=>λr M=>by grind
   ·exact .bW
 | lookup ty m x ok=>
  unfold bt;rw[af];simp only;unfold zH;split
  ·simp only;split
   ·exact aq.cV.cQ λ_=>aq.cV.cQ λ_=>.bO trivial
   ·exact .bW
  ·exact .bW
 | mapUpdate ty m x y=>
  unfold bt;rw[af];exact SQ
 | insert ty m x y=>
  unfold bt;rw[af];exact SQ
 | call c=>
  obtain⟨callee,args,dp⟩:=c;simp only[nd,af]at hc;unfold bt;rw[af];simp only;unfold mU;cases callee with
  | builtin b=>
   simp only at hc ⊢;cases b with
   | len=>
    simp only[Cv];split
    ·rename_i x t ay aP;simp only[Gy,ay]at hc;generalize use (aJ x)=u at hc;obtain⟨cC,dY⟩:=u;simp only at hc ⊢;refine aq.cV.SO (q:=λr:Prop×Int=>r.1) ?_ λr M=>.bO M;generalize T t=ty;cases ty<;>simp only[F2]<;>first | exact .bW | skip
     ·cases dY<;>first | exact .bW | skip
      ·rename_i cW d;cases cW<;>first | exact .bW | exact .nc trivial
     ·cases dY<;>first | exact .bW | exact .nc trivial | skip
      ·rename_i cW d;cases cW<;>first | exact .bW | exact .nc trivial
      ·intro z r M;grind
      ·intro z r M;grind
     ·cases dY<;>first | exact .bW | (cases hc;done) | skip
      ·rename_i cW d;cases cW<;>first | exact .bW | cases hc
    ·exact .bW
   | min=>
    simp only[sr];repeat' first | exact .bO trivial | exact .bW | split
   | max=>
    simp only[sr];repeat' first | exact .bO trivial | exact .bW | split
   | _=>simp[Gy]at hc
  | _=>cases hc
 | _=>simp[nd,af]at hc
theorem C7:∀ {l:List aH},(∀ v∈l,(use v).1)->jL l
 | [],_=>trivial
 | v::l,h=>by
  have E:=h v (by simp);have U:=C7 (l:=l) λu hu=>h u (by grind);cases v<;>first | exact U | exact⟨E,U⟩
theorem LB:∀ {l:List (Nat×aH)},(∀ v∈l,(use v.2).1)->sq l
 | [],_=>trivial
 | (i,v)::l,h=>by
  have E:=h (i,v) (by simp);have U:=LB (l:=l) λu hu=>h u (by grind);cases v<;>first | exact U | exact⟨E,U⟩
theorem C8{x:Option Operand}{p:Prop}{n:Option Int}(h:lk aJ x=some (p,n))(ah:∀ y,x=some y->(use (aJ y)).1):p:=by
 unfold lk at h;grind
def rC(aJ:Operand->aH)(o:Oper):Prop:=∀ x∈o.op.operands.toList,(use (aJ x)).1
theorem LC{aJ:Operand->aH}{o:Oper}(h:sG aJ o=true):rC aJ o:=λx ah=>Gx (by simpa using List.all_eq_true.1 h x ah)
theorem rC.use{aJ:Operand->aH}{o:Oper}(h:rC aJ o){x:Operand}(ah:x∈o.op.operands.toList){cb:Prop}{v:aH}(hu:use (aJ x)=(cb,v)):cb:=by
 have:=h x ah;grind
theorem SR(fB:rC aJ o):(bt aQ T bf aJ o).cV (ls λr=>r.cb):=by
 unfold rC at fB;have au:∀ x∈o.op.operands.toList,(use (aJ x)).1:=fB;have hu:∀ x∈o.op.operands.toList,∀ {cb:Prop} {v:aH},use (aJ x)=(cb,v)->cb:=λx ah cb v h=>rC.use fB ah h;cases af:o.op with
 | move x=>unfold bt;rw[af];exact .bO trivial
 | assign x=>
  unfold bt;rw[af];simp only;split
  ·exact .h9 λb g=>λr M=>by grind
  ·exact .bO trivial
 | pick c a b=>
  rw[af]at hu;unfold bt;rw[af];simp only;split
  ·rename_i qw i' lY;have E:=hu c (by simp[Op.operands]) lY;split
   ·split
    ·rename_i zI av a_;exact .bO ⟨E,λ_=>hu a (by simp[Op.operands]) a_⟩
    ·exact .bW
   ·split
    ·rename_i zI av a_;exact .bO ⟨E,λ_=>hu b (by simp[Op.operands]) a_⟩
    ·exact .bW
   ·exact .bW
  ·exact .bW
 | binOp op ty x y t=>
  rw[af]at fB;have h:=And.intro (fB x (by simp[Op.operands])) (fB y (by simp[Op.operands]));unfold bt;rw[af];simp only;split
  ·split
   ·split
    ·exact .bO h
    ·exact .bW
   ·split
    ·exact .bO h
    ·exact .bW
   ·split
    ·split
     ·exact .bO h
     ·exact .bW
    ·exact .bW
  ·split
   ·split
    ·exact .bO h
    ·exact .bW
   ·exact aq.cV.cQ λ_=>.bO h
 | unOp op t x=>
  rw[af]at hu;unfold bt;rw[af];simp only;split
  ·rename_i ah;exact .bO (hu x (by simp[Op.operands]) ah)
  ·rename_i ah;exact .bO (hu x (by simp[Op.operands]) ah)
  ·exact .bW
 | extract x i=>
  rw[af]at hu;unfold bt;rw[af];simp only;split
  ·rename_i ah;split
   ·exact .bO (hu x (by simp[Op.operands]) ah)
   ·exact .bW
  ·exact .bW
 | nilCheck x=>
  rw[af]at hu;unfold bt;rw[af];simp only;split
  ·rename_i ah;intro z r M;split at M<;>cases M;exact hu x (by simp[Op.operands]) ah
  ·rename_i ah;exact .bO (hu x (by simp[Op.operands]) ah)
  ·rename_i ah;exact .bO (hu x (by simp[Op.operands]) ah)
  ·rename_i ah;intro z r M;split at M<;>cases M;exact hu x (by simp[Op.operands]) ah
  ·exact .bW
 | fieldAddr ty x f=>
  rw[af]at hu;unfold bt;rw[af];simp only;split
  ·split
   ·split
    ·rename_i ah;intro z r M;split at M<;>cases M;exact hu x (by simp[Op.operands]) ah
    ·rename_i ah;intro z r M;split at M<;>cases M;exact hu x (by simp[Op.operands]) ah
    ·rename_i ah;intro z r M;split at M<;>cases M;exact hu x (by simp[Op.operands]) ah
    ·rename_i ah;split
     ·split
      ·exact .bO (hu x (by simp[Op.operands]) ah)
      ·exact .bW
     ·exact .bW
    ·exact .bW
   ·exact .bW
  ·exact .bW
 | field ty x f=>
  rw[af]at hu;unfold bt;rw[af];simp only;split
  ·split
   ·rename_i ah;split
    ·split
     ·exact .bO (hu x (by simp[Op.operands]) ah)
     ·exact .bW
    ·exact .bW
   ·exact .bW
  ·exact .bW
 | load ty x=>
  rw[af]at hu;unfold bt;rw[af];simp only;split
  ·rename_i ah;have h:=hu x (by simp[Op.operands]) ah;intro z r M;repeat' split at M
   all_goals first | (cases M;exact h) | cases M
  ·rename_i ah;exact aq.cV.cQ λ_=>.bO (hu x (by simp[Op.operands]) ah)
 | store ty x y=>
  rw[af]at hu fB;unfold bt;rw[af];simp only;split
  ·rename_i ah;have h:=hu x (by simp[Op.operands]) ah;have dt:=fB y (by simp[Op.operands]);unfold KM;split
   ·intro z r M;repeat' split at M
    all_goals first | (cases M;exact⟨h,dt⟩) | cases M
   ·exact .bW
  ·rename_i ah;exact aq.cV.cQ λ_=>.nc ⟨hu x (by simp[Op.operands]) ah,fB y (by simp[Op.operands])⟩
 | alloc ty=>
  unfold bt;rw[af];simp only;exact .h9 λb g=>λr M=>by grind
 | box ty x=>
  rw[af]at fB;unfold bt;rw[af];simp only;split
  ·exact .h9 λb g=>λr M=>by split at M<;>cases M;exact fB x (by simp[Op.operands])
  ·exact .bW
 | build ty ps=>
  rw[af]at au;have h:sq (ps.toList.map λp=>(p.1,aJ p.2)):=LB λv ae=>by
   simp only[List.mem_map]at ae;obtain⟨p,ao,rfl⟩:=ae;exact au p.2 (by simp only[Op.operands,List.mem_map];grind)
  unfold bt;rw[af];simp only;repeat' first | exact .bW | exact .bO h | refine aq.cV.cQ λ_=>?_ | split
 | buildSlice ty n ps=>
  rw[af]at au;have h:sq (ps.toList.map λp=>(p.1,aJ p.2)):=LB λv ae=>by
   simp only[List.mem_map]at ae;obtain⟨p,ao,rfl⟩:=ae;exact au p.2 (by simp only[Op.operands,List.mem_map];grind)
  unfold bt;rw[af];simp only;split
  ·refine aq.cV.cQ λ_=>aq.cV.bind λ_=>.h9 λb g=>λr M=>by grind
  ·exact .bW
 | indexAddr ty x i=>
  rw[af]at fB;have h:=And.intro (fB x (by simp[Op.operands])) (fB i (by simp[Op.operands]));unfold bt;rw[af];simp only;split
  ·exact aq.cV.cQ λ_=>.bO h
  ·split
   ·split
    ·exact .bO h
    ·exact .bW
   ·intro z r M;grind
   ·exact .bW
  ·exact .bW
 | index ty x i=>
  rw[af]at fB;have h:=And.intro (fB x (by simp[Op.operands])) (fB i (by simp[Op.operands]));unfold bt;rw[af];simp only;split
  ·exact .bO h
  ·split
   ·split
    ·exact .bO h
    ·exact .bW
   ·split
    ·exact .bO h
    ·exact .bW
   ·exact .bW
  ·exact .bW
 | convert a b x=>
  rw[af]at fB;unfold bt;rw[af];simp only;split
  ·exact .bO (fB x (by simp[Op.operands]))
  ·exact aq.cV.cQ λ_=>.bO (fB x (by simp[Op.operands]))
  ·exact .bW
 | makeFunc fn first c1=>
  rw[af]at au;have h:jL (c1.toList.map aJ):=C7 λv ae=>by
   simp only[List.mem_map]at ae;obtain⟨p,ao,rfl⟩:=ae;exact au p (by simp[Op.operands];simp_all)
  have U:jL (first.toList.map aJ):=C7 λv ae=>by
   simp only[List.mem_map]at ae;obtain⟨p,ao,rfl⟩:=ae;exact au p (by simp[Op.operands];simp_all)
  unfold bt;rw[af];simp only;split
  ·split
   ·split
    ·exact aq.cV.cQ λ_=>aq.cV.bind λ_=>.nc h
    ·split
     ·exact aq.cV.cQ λ_=>aq.cV.bind λ_=>.nc h
     ·exact .bO h
   ·split
    ·exact .bO U
    ·exact .bW
  ·exact .bW
 | slice ty x aY G py=>
  rw[af]at au fB;unfold bt;rw[af];simp only;split
  ·unfold F5;simp only;split
   ·rename_i ol l rm h vq m ai cU hm;have bc:=And.intro (fB x (by simp[Op.operands])) (And.intro (C8 ai λy aS=>au y (by subst aS;simp[Op.operands])) (And.intro (C8 cU λy aS=>au y (by subst aS;simp[Op.operands])) (C8 hm λy aS=>au y (by subst aS;simp[Op.operands]))));split
    ·exact aq.cV.cQ λ_=>.nc bc
    ·exact .bW
   ·exact .bW
  ·unfold F4;simp only;split
   ·rename_i ol l rm h ai cU;have bc:=And.intro (fB x (by simp[Op.operands])) (And.intro (C8 ai λy aS=>au y (by subst aS;simp[Op.operands])) (C8 cU λy aS=>au y (by subst aS;simp[Op.operands])));split
    ·exact aq.cV.cQ λ_=>.nc bc
    ·split
     ·exact .bO bc
     ·exact .bW
    ·exact .bW
   ·exact .bW
 | call c=>
  rw[af]at au fB;obtain⟨callee,args,dp⟩:=c;have dX:∀ x∈args.toList,(use (aJ x)).1:=λx ah=>au x (by simp[Op.operands,Call.operands];simp_all);have pI:∀ x∈args.toList,(use (aJ x)).1:=dX;have fG:jL (args.toList.map aJ):=C7 λv ae=>by
   grind
  unfold bt;rw[af];simp only;unfold mU;simp only;split
  ·split
   ·unfold Cv;split
    ·rename_i x t ay aP;exact aq.cV.cQ λ_=>.bO (pI x (by grind))
    ·exact .bW
   ·split
    ·unfold CA;split
     ·rename_i x y t u ay aP;have h:=And.intro (pI x (by grind)) (pI y (by grind));split
      ·simp only;refine aq.cV.cQ λ_=>λz=>?_;intro r M;grind
      ·exact .bW
     ·exact .bW
    unfold Cw;split
    ·rename_i x y t u ay aP;have h:=And.intro (pI x (by grind)) (pI y (by grind));split
     ·simp only;unfold KK;split
      ·intro z;dsimp only;split
       ·split
        ·exact aq.cV.cQ λ_=>.nc h
        ·exact .bW
       ·exact .bW
      ·intro z;dsimp only;split
       ·split
        ·exact aq.cV.cQ λ_=>.nc h
        ·exact .bW
       ·exact .bW
      ·exact aq.cV.cQ λ_=>.h9 λb g=>λr M=>by grind
      ·split
       ·exact aq.cV.cQ λ_=>.h9 λb g=>λr M=>by grind
       ·exact .bW
      ·exact .bW
     ·exact .bW
    ·exact .bW
   ·unfold CB;split
    ·rename_i x t ay aP;have h:=pI x (by grind);split
     ·simp only;split
      ·intro z;intro r M;grind
      ·exact .bW
     ·exact .bW
    ·exact .bW
   ·unfold F8;split
    ·rename_i x y t u ay aP;have h:=And.intro (pI x (by grind)) (pI y (by grind));split
     ·simp only;split
      ·refine aq.cV.cQ λ_=>λz=>?_;intro r M;grind
      ·exact .bW
     ·exact .bW
    ·exact .bW
   ·unfold sr;split
    ·rename_i x y l ay;split
     ·split
      ·rename_i ai;exact .bO ⟨pI x (by grind),Lz (y::l) (λp ao=>pI p (by rw[ay];exact List.mem_cons_of_mem _ ao)) ai⟩
      ·exact .bW
     ·exact .bW
    ·exact .bW
   ·unfold sr;split
    ·rename_i x y l ay;split
     ·split
      ·rename_i ai;exact .bO ⟨pI x (by grind),Lz (y::l) (λp ao=>pI p (by rw[ay];exact List.mem_cons_of_mem _ ao)) ai⟩
      ·exact .bW
     ·exact .bW
    ·exact .bW
   ·unfold Cx;split
    ·rename_i x t ay aP;have h:=pI x (by grind);split
     ·rename_i cw;exact .bO (by grind)
     ·exact .bW
    ·exact .bW
   ·exact .bW
  ·split
   ·unfold F6;simp only;split
    ·refine aq.cV.cQ λ_=>?_;split
     ·refine aq.cV.bind λ_=>.h9 λb g=>λr M=>?_;split at M
      ·cases M
      ·cases M;exact fG
     ·exact aq.cV.bind λ_=>.nc fG
    ·exact .bW
   ·exact .bW
  ·exact .bW
 | makeMap ty r=>
  unfold bt;rw[af];simp only;split
  ·exact .bW
  ·split
   ·exact .h9 λb g=>λr M=>by grind
   ·exact .bW
 | lookup ty m x ok=>
  rw[af]at fB;have h:=And.intro (fB m (by simp[Op.operands])) (fB x (by simp[Op.operands]));unfold bt;rw[af];simp only;unfold zH;split
  ·simp only;split
   ·exact aq.cV.cQ λ_=>aq.cV.cQ λ_=>.bO h
   ·exact .bW
  ·exact .bW
 | mapUpdate ty m x y=>
  rw[af]at fB;unfold bt;rw[af];exact LA λ_=>⟨fB m (by simp[Op.operands]),fB x (by simp[Op.operands]),fB y (by simp[Op.operands])⟩
 | insert ty m x y=>
  rw[af]at fB;unfold bt;rw[af];exact LA λ_=>⟨fB m (by simp[Op.operands]),fB x (by simp[Op.operands]),fB y (by simp[Op.operands])⟩
 | makeSlice ty l c=>
  rw[af]at fB;have h:=And.intro (fB l (by simp[Op.operands])) (fB c (by simp[Op.operands]));unfold bt;rw[af];simp only;unfold F7;split
  ·simp only;split
   ·exact .h9 λb g=>λr M=>by grind
   ·exact .bW
  ·exact .bW
 | makeInterface t x=>unfold bt;rw[af];exact .bO trivial
 | panic x=>unfold bt;rw[af];exact .bO trivial
 | _=>unfold bt;rw[af];exact .bW
theorem SS(hc:sG aJ o=true):(bt aQ T bf aJ o).cV (ls λr=>r.cb):=SR (LC hc)
end
end Go.Fer
namespace Go.Fer
open Go.RowKit
theorem LD{aJ ju:Operand->aH}{k:IntKind}:∀ (l:List Operand),(∀ x∈l,aJ x=ju x)->mT aJ k l=mT ju k l
 | [],_=>rfl
 | [x],h=>by simp only[mT,h x (by simp)]
 | x::y::l,h=>by simp only[mT,h x (by simp),LD (y::l) λz bk=>h z (List.mem_cons_of_mem _ bk)]
section
variable {aQ:dD} {T:Nat->ab} {bf:Nat->Option aN} {aJ ju:Operand->aH} {o:Oper}
theorem LF{x:Option Operand}(h:∀ y,x=some y->aJ y=ju y):lk aJ x=lk ju x:=by
 cases x with
 | none=>rfl
 | some y=>have:=h y rfl;unfold lk;grind
theorem afj(h:∀ x∈o.op.operands.toList,aJ x=ju x):bt aQ T bf aJ o=bt aQ T bf ju o:=by
 cases af:o.op with
 | move x=>rw[af]at h;have E:=h x (by simp[Op.operands]);unfold bt;simp_all
 | assign x=>rw[af]at h;have E:=h x (by simp[Op.operands]);unfold bt;simp_all
 | pick c a b=>
  rw[af]at h;have E:=h c (by simp[Op.operands]);have U:=h a (by simp[Op.operands]);have ag:=h b (by simp[Op.operands]);unfold bt;simp_all
 | binOp op ty x y t=>
  rw[af]at h;have E:=h x (by simp[Op.operands]);have U:=h y (by simp[Op.operands]);unfold bt;simp_all
 | unOp op t x=>rw[af]at h;have E:=h x (by simp[Op.operands]);unfold bt;simp_all
 | extract x i=>rw[af]at h;have E:=h x (by simp[Op.operands]);unfold bt;simp_all
 | nilCheck x=>rw[af]at h;have E:=h x (by simp[Op.operands]);unfold bt;simp_all
 | fieldAddr ty x f=>rw[af]at h;have E:=h x (by simp[Op.operands]);unfold bt;simp_all
 | field ty x f=>rw[af]at h;have E:=h x (by simp[Op.operands]);unfold bt;simp_all
 | load ty x=>rw[af]at h;have E:=h x (by simp[Op.operands]);unfold bt;simp_all
 | store ty x y=>
  rw[af]at h;have E:=h x (by simp[Op.operands]);have U:=h y (by simp[Op.operands]);unfold bt;simp_all
 | alloc ty=>unfold bt;rw[af]
 | box ty x=>rw[af]at h;have E:=h x (by simp[Op.operands]);unfold bt;simp_all
 | build ty ps=>
  rw[af]at h;have E:ps.toList.map (λp=>(p.1,aJ p.2))=ps.toList.map (λp=>(p.1,ju p.2)):=List.map_congr_left λp ao=>by rw[h p.2 (by simp only[Op.operands,List.mem_map];grind)]
  unfold bt;rw[af];simp only[E]
 | buildSlice ty n ps=>
  rw[af]at h;have E:ps.toList.map (λp=>(p.1,aJ p.2))=ps.toList.map (λp=>(p.1,ju p.2)):=List.map_congr_left λp ao=>by rw[h p.2 (by simp only[Op.operands,List.mem_map];grind)]
  unfold bt;rw[af];simp only[E]
 | indexAddr ty x i=>
  rw[af]at h;have E:=h x (by simp[Op.operands]);have U:=h i (by simp[Op.operands]);unfold bt;simp_all
 | index ty x i=>
  rw[af]at h;have E:=h x (by simp[Op.operands]);have U:=h i (by simp[Op.operands]);unfold bt;simp_all
 | convert a b x=>rw[af]at h;have E:=h x (by simp[Op.operands]);unfold bt;simp_all
 | makeFunc fn first c1=>
  rw[af]at h;have E:c1.toList.map aJ=c1.toList.map ju:=List.map_congr_left λp ao=>h p (by simp[Op.operands];simp_all);have U:first.toList.map aJ=first.toList.map ju:=List.map_congr_left λp ao=>h p (by simp[Op.operands];simp_all)
  unfold bt;rw[af];simp only[E,U]
 | lookup ty m x ok=>
  rw[af]at h;have E:=h m (by simp[Op.operands]);have U:=h x (by simp[Op.operands]);unfold bt;rw[af];simp only[zH,E,U]
 | mapUpdate ty m x y=>
  rw[af]at h;have E:=h m (by simp[Op.operands]);have U:=h x (by simp[Op.operands]);have ag:=h y (by simp[Op.operands]);unfold bt;rw[af];simp only[rn,E,U,ag]
 | insert ty m x y=>
  rw[af]at h;have E:=h m (by simp[Op.operands]);have U:=h x (by simp[Op.operands]);have ag:=h y (by simp[Op.operands]);unfold bt;rw[af];simp only[rn,E,U,ag]
 | makeSlice ty l c=>
  rw[af]at h;have E:=h l (by simp[Op.operands]);have U:=h c (by simp[Op.operands]);unfold bt;rw[af];simp only[F7,E,U]
 | slice ty x aY G py=>
  rw[af]at h;have E:=h x (by simp[Op.operands]);have U:lk aJ aY=lk ju aY:=LF λy aS=>h y (by subst aS;simp[Op.operands]);have ag:lk aJ G=lk ju G:=LF λy aS=>h y (by subst aS;simp[Op.operands]);have a7:lk aJ py=lk ju py:=LF λy aS=>h y (by subst aS;simp[Op.operands]);unfold bt;rw[af];simp only[F4,F5,E,U,ag,a7]
 | call c=>
  rw[af]at h;obtain⟨callee,args,dp⟩:=c;have dX:∀ x∈args.toList,aJ x=ju x:=λx ah=>h x (by simp[Op.operands,Call.operands];simp_all);have ai:args.toList.map aJ=args.toList.map ju:=List.map_congr_left dX;unfold bt;rw[af];simp only;unfold mU;simp only;split
  ·split
   ·unfold Cv;grind
   ·have rD:xm aJ args.toList=xm ju args.toList:=by
     unfold xm;grind
    rw[rD];split
    ·unfold CA;split
     ·rename_i x y t u ay aP;rw[dX x (by simp[ay]),dX y (by simp[ay])]
     ·rfl
    ·unfold Cw;grind
   ·unfold CB;split
    ·rename_i x t ay aP;rw[dX x (by simp[ay])]
    ·rfl
   ·unfold F8;split
    ·rename_i x y t u ay aP;rw[dX x (by grind),dX y (by grind)]
    ·rfl
   ·unfold sr;split
    ·rename_i x y l ay;have ai:∀ k,mT aJ k (y::l)=mT ju k (y::l):=λk=>LD (y::l) λp ao=>dX p (by rw[ay];exact List.mem_cons_of_mem _ ao);simp only[dX x (by simp[ay]),ai]
    ·rfl
   ·unfold sr;split
    ·rename_i x y l ay;have ai:∀ k,mT aJ k (y::l)=mT ju k (y::l):=λk=>LD (y::l) λp ao=>dX p (by rw[ay];exact List.mem_cons_of_mem _ ao);simp only[dX x (by simp[ay]),ai]
    ·rfl
   ·unfold Cx;grind
   ·rfl
  ·split
   ·unfold F6;simp only[ai]
   ·rfl
  ·rfl
 | _=>unfold bt;rw[af]
end
end Go.Fer
namespace Go.Fer
open Go.RowKit
def Gz(want b:Bool):Bool:=match want with | true=>b | false=>!b
def kF(s:Nat->aH)(ops:Array Oper):Option (Nat×Bool)->Option (Option Bool)
 | none=>some none
 | some (j,want)=>match ops[j]? with
  | some o=>match o.dst with
   | some d=>match s d with
    | .val .bool b=>some (some (Gz want b))
    | .hE g (.val .bool b)=>some (some (g&&Gz want b))
    | _=>none
   | none=>none
  | none=>none
def GA(ops:Array Oper):Option (Nat×Bool)->List Nat
 | none=>[]
 | some (j,_)=>match ops[j]? with
  | some o=>o.dst.toList
  | none=>[]
def afk(l:List Operand):List Nat:=l.filterMap fun | .tmp t=>some t | _=>none
def C9(ops:Array Oper)(o:Oper):List Nat:=GA ops o.guard++afk o.op.operands.toList
structure eO where
 cs:List Prop
 dst:Option Nat
 e7:aH
 hG:List (Nat×bK)
 kG:List Nat
 uq:List Nat
def eO.ia(r:eO)(s:aB):aB:=(s.f_ r.hG).set r.dst r.e7
def eO.n5(r:eO):List Nat:=r.dst.toList
def eO.nf(r:eO):List Nat:=r.hG.map (·.1)
def C_(dh dK:Bool)(cb c:Prop):List Prop:=(match dh with | true=>[] | false=>[cb])++(match dK with | true=>[] | false=>[c])
def vF(aQ:dD)(T:Nat->ab)(bf:Nat->Option aN)(ops:Array Oper)(s:aB)(o:Oper):Option eO:=
 match kF s.az ops o.guard with
 | none=>none
 | some g=>match (bt aQ T bf (a1 aQ s.az) o).run s.aa with
  | none=>none
  | some res=>match g with
   | none=>some ⟨C_ (sG (a1 aQ s.az) o) (nd (a1 aQ s.az) o) res.cb res.c,o.dst,res.e7,res.hG,C9 ops o,(bt aQ T bf (a1 aQ s.az) o).rh s.aa⟩
   | some b=>match res.hG with
    | []=>some ⟨C_ (sG (a1 aQ s.az) o&&(nd (a1 aQ s.az) o&&!res.e7.Ac)) true (b=true->res.cb/\(res.c/\(use res.e7).1)) True,o.dst,.hE b (use res.e7).2,[],C9 ops o,(bt aQ T bf (a1 aQ s.az) o).rh s.aa⟩
    | _=>none
def xE(aQ:dD)(T:Nat->ab)(bf:Nat->Option aN)(ops:Array Oper):List Oper->aB->Option (List eO×aB)
 | [],s=>some ([],s)
 | o::os,s=>match vF aQ T bf ops s o with
  | none=>none
  | some r=>match xE aQ T bf ops os (r.ia s) with
   | none=>none
   | some (l,s')=>some (r::l,s')
def C'(a b:List Nat):Bool:=a.all λx=>!b.contains x
def eO.apart(a b:eO):Bool:=C' a.n5 (b.kG++b.n5)&&C' a.kG b.n5&&C' a.nf (b.uq++b.nf)&&C' a.uq b.nf
def ib(o:Oper):List Nat:=o.after.toList.filterMap λe=>if Region.binds .any e then some e.on else none
def Da(acc:List Nat):List Nat->List Nat
 | []=>acc
 | x::l=>match acc.contains x with | true=>Da acc l | false=>Da (x::acc) l
theorem LG{x:Nat}:∀ {l acc:List Nat},x∈Da acc l->x∈acc\/x∈l
 | [],acc,h=>.inl h
 | y::l,acc,h=>by
  unfold Da at h;split at h
  ·exact (LG h).imp_right (List.mem_cons_of_mem _)
  ·rcases LG h with h | h
   ·rcases List.mem_cons.1 h with h | h
    ·exact .inr (h ▸ List.mem_cons_self)
    ·exact .inl h
   ·exact .inr (List.mem_cons_of_mem _ h)
def Ae(acc:List (List Nat))(o:Oper):List (List Nat):=acc++[Da [] ((ib o).flatMap λj=>j::acc.getD j [])]
def ir(ops:List Oper):List (List Nat):=ops.foldl Ae []
def afl(cl:List (List Nat))(l:List eO):Bool:=
 (List.range l.length).all λj=>(List.range j).all λi=>match l[i]?,l[j]? with
  | some a,some b=>(cl.getD j []).contains i||a.apart b
  | _,_=>false
def Db(ops:List Oper):Bool:=(List.range ops.length).all λj=>match ops[j]? with
 | some o=>(ib o).all λi=>decide (i<j)
 | none=>false
def Af(ops:List Oper)(l:List eO):Bool:=Db ops&&afl (ir ops) l
def xF(R:List Nat)(s s':aB):Prop:=∀ t∈R,s.az t=s'.az t
def xG(B:List Nat)(s s':aB):Prop:=∀ b∈B,s.aa b=s'.aa b
theorem GB{a b:List Nat}(h:C' a b=true){x:Nat}(ah:x∈a):x ∉ b:=by
 have:=List.all_eq_true.1 h x ah;grind
theorem Ag(s:aB):∀ (l:List (Nat×bK)),(s.f_ l).az=s.az:=by
 intro l;induction l generalizing s with
 | nil=>rfl
 | cons p l aI=>simp only[aB.f_];rw[aI];rfl
theorem LH{b:Nat}:∀ (l:List (Nat×bK)) (s:aB),b ∉ l.map (·.1)->(s.f_ l).aa b=s.aa b:=by
 intro l;induction l with
 | nil=>intro s _;rfl
 | cons p l aI=>
  intro s h;simp only[List.map_cons,List.mem_cons,not_or]at h;simp only[aB.f_];rw[aI _ h.2];simp[aB.cx,h.1]
theorem LI{b:Nat}:∀ (l:List (Nat×bK)) (s s':aB),b∈l.map (·.1)->(s.f_ l).aa b=(s'.f_ l).aa b:=by
 intro l;induction l with
 | nil=>simp
 | cons p l aI=>
  intro s s' h;simp only[aB.f_];by_cases W:b∈l.map (·.1)
  ·grind
  ·rw[LH l _ W,LH l _ W];have:b=p.1:=by grind
   simp[aB.cx,this]
theorem afm(s:aB)(d:Option Nat)(v:aH):(s.set d v).aa=s.aa:=by cases d<;>rfl
theorem GC(r:eO)(s:aB)(t:Nat):(r.ia s).az t=if t∈r.n5 then r.e7 else s.az t:=by
 unfold eO.ia eO.n5;cases h:r.dst with
 | none=>simp[aB.set,Ag]
 | some d=>simp[aB.set,Ag,eq_comm]
theorem xH(r:eO)(s:aB)(b:Nat):(r.ia s).aa b=(s.f_ r.hG).aa b:=by unfold eO.ia;rw[afm]
theorem SU{r:eO}{s:aB}{t:Nat}(h:t ∉ r.n5):(r.ia s).az t=s.az t:=by rw[GC,if_neg h]
theorem ur{r:eO}{s:aB}{b:Nat}(h:b ∉ r.nf):(r.ia s).aa b=s.aa b:=by rw[xH];exact LH _ _ h
theorem aB.ext'{s s':aB}(E:∀ t,s.az t=s'.az t)(U:∀ b,s.aa b=s'.aa b):s=s':=by
 obtain⟨a,b⟩:=s;obtain⟨a',be⟩:=s';rw[show a=a' from funext E,show b=be from funext U]
theorem afn{a b:eO}(E:∀ t∈a.n5,t ∉ b.n5)(U:∀ x∈a.nf,x ∉ b.nf)(s:aB):a.ia (b.ia s)=b.ia (a.ia s):=by
 apply aB.ext'
 ·intro t;simp only[GC];grind
 ·intro x;by_cases a_:x∈a.nf
  ·have W:=U x a_;rw[ur W,xH,xH];exact LI _ _ _ a_
  ·rw[ur a_];by_cases W:x∈b.nf
   ·rw[xH,xH];exact LI _ _ _ W
   ·rw[ur W,ur W,ur a_]
def jQ(l:List eO)(s:aB):aB:=l.foldl (λs r=>r.ia s) s
theorem afo{R B:List Nat}:∀ (l:List eO) (s:aB),(∀ r∈l,(∀ t∈R,t ∉ r.n5)/\∀ b∈B,b ∉ r.nf)->xF R (jQ l s) s/\xG B (jQ l s) s:=by
 intro l;induction l with
 | nil=>intro s _;exact⟨λ_ _=>rfl,λ_ _=>rfl⟩
 | cons r l aI=>
  intro s h;obtain⟨E,U⟩:=aI (r.ia s) λqo ba=>h qo (List.mem_cons_of_mem _ ba);have M:=h r (List.mem_cons_self);exact⟨λt aM=>(E t aM).trans (SU (M.1 t aM)),λb W=>(U b W).trans (ur (M.2 b W))⟩
theorem afp{R B:List Nat}{r:eO}{s s':aB}(E:xF R s s')(U:xG B s s'):xF R (r.ia s) (r.ia s')/\xG B (r.ia s) (r.ia s'):=by
 refine⟨λt aM=>?_,λb W=>?_⟩
 ·rw[GC,GC];split
  ·rfl
  ·exact E t aM
 ·by_cases hw:b∈r.nf
  ·rw[xH,xH];exact LI _ _ _ hw
  ·rw[ur hw,ur hw];exact U b W
theorem afq{R B:List Nat}(p:Nat×eO->Bool):∀ (l:List (Nat×eO)) (s s':aB),xF R s s'->xG B s s'->(∀ r∈l,p r=false->(∀ t∈R,t ∉ r.2.n5)/\∀ b∈B,b ∉ r.2.nf)->
  xF R (jQ ((l.filter p).map (·.2)) s) (jQ (l.map (·.2)) s')/\xG B (jQ ((l.filter p).map (·.2)) s) (jQ (l.map (·.2)) s'):=by
 intro l;induction l with
 | nil=>intro s s' E U _;exact⟨E,U⟩
 | cons r l aI=>
  intro s s' E U h;have ai:=λqo ba=>h qo (List.mem_cons_of_mem _ ba);cases ao:p r with
  | true=>
   rw[List.filter_cons_of_pos ao];obtain⟨aR,aW⟩:=afp (r:=r.2) E U;exact aI _ _ aR aW ai
  | false=>
   rw[List.filter_cons_of_neg (by grind)];have M:=h r (List.mem_cons_self) ao;exact aI _ _ (λt aM=>(E t aM).trans (SU (M.1 t aM)).symm) (λb W=>(U b W).trans (ur (M.2 b W)).symm) ai
theorem afr{r:eO}:∀ (l:List eO) (s:aB),(∀ x∈l,(∀ t∈r.n5,t ∉ x.n5)/\∀ b∈r.nf,b ∉ x.nf)->jQ l (r.ia s)=r.ia (jQ l s):=by
 intro l;induction l with
 | nil=>intro s _;rfl
 | cons x l aI=>
  intro s h;have ah:=h x (List.mem_cons_self);show jQ l (x.ia (r.ia s))=r.ia (jQ l (x.ia s));rw[<-afn ah.1 ah.2 s];grind
def iJ:Nat->List eO->List (Nat×eO)
 | _,[]=>[]
 | n,r::l=>(n,r)::iJ (n+1) l
theorem SV:∀ (l m:List eO) (n:Nat),iJ n (l++m)=iJ n l++iJ (n+l.length) m
 | [],m,n=>by rfl
 | r::l,m,n=>by simp only[List.cons_append,iJ,SV l m (n+1),List.length_cons];grind
theorem Dc:∀ (l:List eO) (n:Nat),(iJ n l).map (·.2)=l
 | [],_=>rfl
 | r::l,n=>by simp only[iJ,List.map_cons,Dc l (n+1)]
theorem Ah:∀ {l:List eO} {n j:Nat} {x:eO},(j,x)∈iJ n l->n<=j/\l[j - n]?=some x
 | r::l,n,j,x,h=>by
  simp only[iJ,List.mem_cons,Prod.mk.injEq]at h;rcases h with⟨rfl,rfl⟩ | h
  ·simp
  ·obtain⟨E,U⟩:=Ah h;grind
 | [],_,_,_,h=>by cases h
def jv(l:List eO)(s:aB)(f:Nat->Bool):aB:=jQ (((iJ 0 l).filter λp=>f p.1).map (·.2)) s
theorem SW(l m:List eO)(s:aB):jQ (l++m) s=jQ m (jQ l s):=by simp[jQ]
theorem LJ{a b:eO}(h:a.apart b=true):(∀ t∈a.n5,t ∉ b.kG/\t ∉ b.n5)/\(∀ t∈a.kG,t ∉ b.n5)/\(∀ x∈a.nf,x ∉ b.uq/\x ∉ b.nf)/\∀ x∈a.uq,x ∉ b.nf:=by
 simp only[eO.apart,Bool.and_eq_true]at h;obtain⟨⟨⟨E,U⟩,ag⟩,a7⟩:=h;refine⟨λt aM=>?_,λt aM=>GB U aM,λx ah=>?_,λx ah=>GB a7 ah⟩
 ·have:=GB E aM;grind
 ·have:=GB ag ah;grind
theorem SX{l:List eO}{s:aB}{f:Nat->Bool}{i:Nat}{r:eO}(G:l[i]?=some r)(au:f i=false)
  (gP:∀ j x,j<i->l[j]?=some x->f j=false->x.apart r=true) (uu:∀ j x,i<j->l[j]?=some x->f j=true->r.apart x=true) :
  xF r.kG (jv l s f) (jQ (l.take i) s)/\xG r.uq (jv l s f) (jQ (l.take i) s)/\jv l s (λj=>if j=i then true else f j)=r.ia (jv l s f):=by
 obtain⟨ck,eU⟩:=List.getElem?_eq_some_iff.1 G;have hlen:(l.take i).length=i:=by grind
 have SY:iJ 0 l=iJ 0 (l.take i)++(i,r)::iJ (i+1) (l.drop (i+1)):=by
  have E:l=l.take i++r::l.drop (i+1):=by
   have:=List.take_append_drop i l;rw[List.drop_eq_getElem_cons ck,eU]at this;grind
  have U:=SV (l.take i) (r::l.drop (i+1)) 0;rw[<-E,hlen]at U;simpa [iJ]using U
 have afs:∀ p∈iJ 0 (l.take i),p.1<i/\l[p.1]?=some p.2:=by
  rintro⟨j,x⟩ ao;obtain⟨_,U⟩:=Ah ao;grind
 have ayc:∀ p∈iJ (i+1) (l.drop (i+1)),i<p.1/\l[p.1]?=some p.2:=by
  rintro⟨j,x⟩ ao;obtain⟨E,U⟩:=Ah ao;grind
 have SZ:∀ x∈((iJ (i+1) (l.drop (i+1))).filter λp=>f p.1).map (·.2),r.apart x=true:=by
  grind
 have iu:jv l s f=jQ (((iJ (i+1) (l.drop (i+1))).filter λp=>f p.1).map (·.2)) (jQ (((iJ 0 (l.take i)).filter λp=>f p.1).map (·.2)) s):=by
  unfold jv;rw[SY,List.filter_append,List.filter_cons_of_neg (by grind),List.map_append,SW]
 have rD:=afo (R:=r.kG) (B:=r.uq) (((iJ (i+1) (l.drop (i+1))).filter λp=>f p.1).map (·.2)) (jQ (((iJ 0 (l.take i)).filter λp=>f p.1).map (·.2)) s)
  (λx ah=>by
   have:=LJ (SZ x ah);grind)
 have rE:=afq (R:=r.kG) (B:=r.uq) (λp=>f p.1) (iJ 0 (l.take i)) s s (λ_ _=>rfl) (λ_ _=>rfl) (λp ao aft=>by
  obtain⟨E,U⟩:=afs p ao;have:=LJ (gP p.1 p.2 E U aft);grind)
 rw[Dc]at rE;refine⟨λt aM=>by rw[iu];exact (rD.1 t aM).trans (rE.1 t aM),λb W=>by rw[iu];exact (rD.2 b W).trans (rE.2 b W),?_⟩;rw[iu];unfold jv;have ay:(iJ 0 (l.take i)).filter (λp=>if p.1=i then true else f p.1)=(iJ 0 (l.take i)).filter λp=>f p.1:=by
  apply List.filter_congr;grind
 have aP:(iJ (i+1) (l.drop (i+1))).filter (λp=>if p.1=i then true else f p.1)=(iJ (i+1) (l.drop (i+1))).filter λp=>f p.1:=by
  apply List.filter_congr;grind
 rw[SY,List.filter_append,List.filter_cons_of_pos (by simp),ay,aP,List.map_append,SW];show jQ _ (r.ia _)=_;refine afr _ _ λx ah=>?_;have:=LJ (SZ x ah);grind
theorem xI{p:Nat->Prop}:∀ (ops:List Oper) (acc:List (List Nat)),(∀ j i,i∈acc.getD j []->p j->p i)->(∀ j o,ops[j]?=some o->∀ i∈ib o,p (acc.length+j)->p i)->
  ∀ j i,i∈(ops.foldl Ae acc).getD j []->p j->p i:=by
 intro ops;induction ops with
 | nil=>simp
 | cons o ops aI=>
  intro acc h ar;refine aI (Ae acc o) (λj i G aF=>?_) λj hU kk i G aF=>ar (j+1) hU (by grind) i G (by
   have:(Ae acc o).length=acc.length+1:=by simp[Ae]
   grind)
  unfold Ae at G;rw[List.getD_eq_getElem?_getD,List.getElem?_append]at G;split at G
  ·grind
  ·rename_i ck;by_cases e:j=acc.length
   ·subst e;simp only[Nat.sub_self,List.getElem?_cons_zero,Option.getD_some]at G;have G:=(LG G).resolve_left (by simp);simp only[List.mem_flatMap,List.mem_cons]at G;obtain⟨k,al,G⟩:=G;have vG:=ar 0 o (by simp) k al (by omega);grind
   grind
theorem S0{aQ:dD}{T:Nat->ab}{bf:Nat->Option aN}{ops:Array Oper}:∀ (os:List Oper) (s:aB) {l:List eO} {s':aB},xE aQ T bf ops os s=some (l,s')->
  l.length=os.length/\s'=jQ l s/\∀ i o,os[i]?=some o->∃ r,l[i]?=some r/\vF aQ T bf ops (jQ (l.take i) s) o=some r:=by
 intro os;induction os with
 | nil=>intro s l s' h;cases h;exact⟨rfl,rfl,λi o h=>by cases h⟩
 | cons o os aI=>
  intro s l s' h;simp only[xE]at h;split at h
  ·cases h
  ·rename_i r M;split at h
   ·cases h
   ·rename_i dF ayd ai;cases h;obtain⟨E,U,ag⟩:=aI _ ai;refine⟨by grind,U,λi hU kk=>?_⟩;cases i with
    | zero=>
     simp only[List.getElem?_cons_zero,Option.some.injEq]at kk;subst kk;exact⟨r,by simp,M⟩
    | succ i=>
     obtain⟨qo,aR,aW⟩:=ag i hU (by grind);exact⟨qo,by grind,aW⟩
theorem LK{ops:Array Oper}{f iG:Nat->aH}{g:Option (Nat×Bool)}(h:∀ t∈GA ops g,f t=iG t):kF f ops g=kF iG ops g:=by
 unfold kF;cases g with
 | none=>rfl
 | some p=>
  obtain⟨j,want⟩:=p;simp only;cases aF:ops[j]? with
  | none=>rfl
  | some o=>
   simp only;cases ar:o.dst with
   | none=>rfl
   | some d=>
    simp only;rw[h d (by simp[GA,aF,ar])]
theorem S1{aQ:dD}{T:Nat->ab}{bf:Nat->Option aN}{ops:Array Oper}{s s':aB}{o:Oper}{r:eO}(h:vF aQ T bf ops s o=some r)(E:xF r.kG s' s)(U:xG r.uq s' s):vF aQ T bf ops s' o=some r:=by
 have S2:r.kG=C9 ops o/\r.uq=(bt aQ T bf (a1 aQ s.az) o).rh s.aa:=by
  unfold vF at h;grind
 rw[S2.1]at E;rw[S2.2]at U;have kY:∀ x∈o.op.operands.toList,a1 aQ s'.az x=a1 aQ s.az x:=by
  intro x ah;cases x with
  | tmp t=>
   refine E t ?_;simp only[C9,List.mem_append];exact .inr (List.mem_filterMap.2 ⟨.tmp t,ah,rfl⟩)
  | _=>rfl
 have ay:kF s'.az ops o.guard=kF s.az ops o.guard:=LK λt aM=>E t (by simp[C9,aM]);have aP:bt aQ T bf (a1 aQ s'.az) o=bt aQ T bf (a1 aQ s.az) o:=afj kY;have cw:=aq.RB (H:=s.aa) (H':=s'.aa) (bt aQ T bf (a1 aQ s.az) o) U;have ed:sG (a1 aQ s'.az) o=sG (a1 aQ s.az) o:=by
  unfold sG;grind
 have gW:nd (a1 aQ s'.az) o=nd (a1 aQ s.az) o:=by
  unfold nd;cases af:o.op with
  | binOp op ty x y t=>
   rw[af]at kY;simp only;rw[kY x (by simp[Op.operands])]
  | load ty x=>rw[af]at kY;simp only;rw[kY x (by simp[Op.operands])]
  | store ty x y=>rw[af]at kY;simp only;rw[kY x (by simp[Op.operands])]
  | call c=>
   obtain⟨callee,args,dp⟩:=c;rw[af]at kY;cases callee with
   | builtin b=>
    have cU:∀ x∈args.toList,a1 aQ s'.az x=a1 aQ s.az x:=λx ah=>kY x (by simp[Op.operands,Call.operands];simp_all);simp only;unfold Gy;grind
   | _=>rfl
  | _=>rfl
 unfold vF at h ⊢;simp_all
universe u
def A.fail{β:Type}:A β:=⟨False,λ_=>False⟩
inductive bY where
 | undef
 | val (t:ab)
 | dV (t:ab)
 | bd (b off:Nat)
 | an (b:Nat)
 | sub (b:Nat)
 | fH (b:Nat)
 | j9 (b:Nat)
 | dn
 | iC (k:FuncId) (fV:z8')
 | aX (aK:ab)
 | hh
 | hI (bs:List Nat)
 | iX (b:Nat)
 deriving DecidableEq
inductive b6 where
 | cells (t:ab) (l:List bY)
 | bh (e:ab)
 | hF (e:ab)
 | mp (k v:ab)
 | jl (k v:ab)
 | f' (t:ab)
 | gM (t:ab)
 | cr (k v:ab)
 | gj (e:ab) (t:bY)
def bY.cons(t:bY)(R:Type):Type:=
 match t with
 | .val t=>t.aj×R
 | .dV t=>t.aj×R
 | .sub _=>(Nat×Nat)×R
 | .aX aK=>(Nat×(List aK.aj->Prop)×List aK.aj×Bool)×R
 | .hh=>Nat×R
 | .iX _=>Nat×R
 | _=>R
def qE:List bY->Type->Type
 | [],R=>R
 | t::l,R=>t.cons (qE l R)
def b6.cons(t:b6)(R:Type):Type:=
 match t with
 | .cells _ l=>qE l R
 | .bh e=>List e.aj×R
 | .hF e=>List e.aj×R
 | .mp k v=>List (k.aj×v.aj)×R
 | .jl k v=>List (k.aj×v.aj)×R
 | .f' t=>t.aj×R
 | .gM t=>t.aj×R
 | .cr k v=>(Option (k.aj×v.aj)×List (k.aj×v.aj))×R
 | .gj e t=>(List e.aj×Nat)×t.cons R
def b6.Dd:b6->Bool
 | .cells _ _ | .bh _ | .mp _ _ | .f' _ | .cr _ _ | .gj _ _=>true
 | _=>false
def b6.GD(t u:b6):Bool:=
 match t,u with
 | .cells _ _,.cells _ _ | .cells _ _,.f' _ | .f' _,.cells _ _ | .f' _,.f' _ | .gM _,.cells _ _ | .gM _,.f' _=>true
 | .mp _ _,.mp _ _ | .jl _ _,.mp _ _=>true
 | .bh e,.bh aZ=>decide (e=aZ)
 | .hF _,.bh _=>true
 | _,_=>false
structure dG where
 bT:List (Nat×bY)
 bC:List (Nat×b6)
def pJ:List (Nat×b6)->Type
 | []=>Unit
 | p::l=>p.2.cons (pJ l)
def oQ:List (Nat×bY)->Type->Type
 | [],R=>R
 | p::l,R=>p.2.cons (oQ l R)
def dG.aj(sh:dG):Type:=oQ sh.bT (pJ sh.bC)
def vH(g:Nat->Nat×Nat)(fV:z8'):Nat->aH:=hj (fV.map λp=>.bd (g p.1).1 (g p.1).2 p.2)
def vI(g:Nat->Nat×Nat)(bs:List Nat):Nat->aH:=hj (bs.map λb=>.an (g b).1 (g b).2)
def bY.av(g:Nat->Nat×Nat)(t:bY){R:Type}(x:t.cons R):aH×R:=
 match t,x with
 | .undef,x=>(.undef,x)
 | .val t,x=>(.val t x.1,x.2)
 | .dV t,x=>(.dV t x.1,x.2)
 | .bd b off,x=>(.bd (g b).1 (g b).2 off,x)
 | .an b,x=>(.an (g b).1 (g b).2,x)
 | .sub b,x=>(.sub (g b).1 (g b).2 x.1.1 x.1.2,x.2)
 | .fH b,x=>(.fH (g b).1 (g b).2,x)
 | .j9 b,x=>(.j9 (g b).1 (g b).2,x)
 | .dn,x=>(.dn,x)
 | .iC k fV,x=>(.iC k fV.length (vH g fV),x)
 | .aX aK,x=>(.aX x.1.1 aK x.1.2.1 x.1.2.2.1 x.1.2.2.2,x.2)
 | .hh,x=>(.hh x.1,x.2)
 | .hI bs,x=>(.agg bs.length (vI g bs),x)
 | .iX b,x=>(.iX (g b).1 (g b).2 x.1,x.2)
def pK(g:Nat->Nat×Nat):(l:List bY)->{R:Type}->qE l R->List aH×R
 | [],_,x=>([],x)
 | t::l,_,x=>let (a,y):=t.av g x;let (as,z):=pK g l y;(a::as,z)
def b6.body(g:Nat->Nat×Nat)(t:b6){R:Type}(x:t.cons R):bQ×R:=
 match t,x with
 | .cells t l,x=>let (as,y):=pK g l x;(.cells t (hj as),y)
 | .bh e,x=>(.bh e x.1,x.2)
 | .hF e,x=>(.hF e x.1,x.2)
 | .mp k v,x=>(.mp k v x.1,x.2)
 | .jl k v,x=>(.jl k v x.1,x.2)
 | .f' t,x=>(.cells t (hj (nU t x.1)),x.2)
 | .gM t,x=>(.gM t x.1,x.2)
 | .cr k v,x=>(.cr k v x.1.1 x.1.2,x.2)
 | .gj e t,x=>let (a,y):=t.av g x.2;(.gj e x.1.1 x.1.2 a,y)
def eD(g:Nat->Nat×Nat):(l:List (Nat×bY))->{R:Type}->oQ l R->List (Nat×aH)×R
 | [],_,x=>([],x)
 | p::l,_,x=>let (a,y):=p.2.av g x;let (as,z):=eD g l y;((p.1,a)::as,z)
def hl(g:Nat->Nat×Nat):(l:List (Nat×b6))->pJ l->List (Nat×bQ)
 | [],_=>[]
 | p::l,x=>let (a,y):=p.2.body g x;(p.1,a)::hl g l y
def fr:List (Nat×aH)->Nat->aH
 | [],_=>.undef
 | p::l,i=>if i=p.1 then p.2 else fr l i
def eP:List (Nat×bQ)->Nat->bK
 | [],_=>⟨0,.fy⟩
 | p::l,i=>if i=p.1 then ⟨0,p.2⟩ else eP l i
def S3(afu:List (Nat×aH))(bs:List (Nat×bQ)):aB:=⟨fr afu,eP bs⟩
def c_(b:Nat):Nat×Nat:=(b,0)
def dG.st(sh:dG)(D:sh.aj):aB:=
 S3 (eD c_ sh.bT D).1 (hl c_ sh.bC (eD c_ sh.bT D).2)
def xJ(H:Nat->bK)(t:ab)(av:aH){R:Type}(r:Option (R×List Nat)):Option ((t.aj×R)×List Nat):=
 match (dz t av).run H with
 | some (x,l)=>match r with
  | some (y,m)=>some ((x,y),l++m)
  | none=>none
 | none=>none
def LL(t:ab)(av:aH){R:Type}(r:Option (R×List Nat)):Option ((t.aj×R)×List Nat):=
 match av with
 | .dV cW x=>match r with
  | some (y,m)=>if h:cW=t then some ((h ▸ x,y),m) else none
  | none=>none
 | _=>none
def LM(H:Nat->bK)(b:Nat)(av:aH){R:Type}(r:Option (R×List Nat)):Option (((Nat×Nat)×R)×List Nat):=
 match r with
 | some (y,m)=>match av with
  | .an be g=>if (be == b&&g == (H b).gen&&(H b).body.ff)=true then some (((0,(H b).body.len),y),m) else none
  | .sub be g aY G=>if (be == b&&g == (H b).gen)=true then some (((aY,G),y),m) else none
  | _=>none
 | none=>none
def LN(aK:ab)(av:aH){R:Type}(r:Option (R×List Nat)):Option (((Nat×(List aK.aj->Prop)×List aK.aj×Bool)×R)×List Nat):=
 match av with
 | .aX l kH L n st=>match r with
  | some (y,m)=>if h:kH=aK then some (((l,h ▸ L,h ▸ n,st),y),m) else none
  | none=>none
 | _=>none
def LO(av:aH){R:Type}(r:Option (R×List Nat)):Option ((Nat×R)×List Nat):=
 match av with
 | .hh l=>match r with
  | some (y,m)=>some ((l,y),m)
  | none=>none
 | _=>none
def LP(H:Nat->bK)(b:Nat)(av:aH){R:Type}(r:Option (R×List Nat)):Option ((Nat×R)×List Nat):=
 match av with
 | .iX be g i=>match r with
  | some (y,m)=>if (be == b&&g == (H b).gen)=true then some ((i,y),m) else none
  | none=>none
 | _=>none
def GF(H:Nat->bK)(b off:Nat)(av:aH):Bool:=
 match av with
 | .bd be g afv=>be == b&&afv == off&&g == (H b).gen
 | _=>false
def GG(H:Nat->bK)(b:Nat)(av:aH):Bool:=
 match av with
 | .an be g=>be == b&&g == (H b).gen
 | _=>false
def LQ(H:Nat->bK)(b:Nat)(av:aH):Bool:=
 match av with
 | .fH be g=>be == b&&g == (H b).gen
 | _=>false
def LR(H:Nat->bK)(b:Nat)(av:aH):Bool:=
 match av with
 | .j9 be g=>be == b&&g == (H b).gen
 | _=>false
def LS(av:aH):Bool:=
 match av with
 | .dn=>true
 | _=>false
def LU(H:Nat->bK)(f:Nat->Nat)(k:FuncId)(fV:z8')(av:aH):Bool:=
 match av with
 | .iC k' n c1=>k' == k&&n == fV.length&&(List.range n).all λi=>match fV[i]? with
  | some p=>GF H (f p.1) p.2 (c1 i)
  | none=>false
 | _=>false
def LV(H:Nat->bK)(f:Nat->Nat)(bs:List Nat)(av:aH):Bool:=
 match av with
 | .agg n h=>n == bs.length&&(List.range n).all λi=>match bs[i]? with
  | some b=>GG H (f b) (h i)
  | none=>false
 | _=>false
def vJ{ak:Type}(b:Bool)(r:Option ak):Option ak:=match b with | true=>r | false=>none
def bY.jc(H:Nat->bK)(f:Nat->Nat)(t:bY)(av:aH){R:Type}(r:Option (R×List Nat)):Option (t.cons R×List Nat):=
 match t with
 | .undef=>r
 | .val t=>xJ H t av r
 | .dV t=>LL t av r
 | .bd b off=>vJ (GF H (f b) off av) r
 | .an b=>vJ (GG H (f b) av) r
 | .sub b=>LM H (f b) av r
 | .fH b=>vJ (LQ H (f b) av) r
 | .j9 b=>vJ (LR H (f b) av) r
 | .dn=>vJ (LS av) r
 | .iC k fV=>vJ (LU H f k fV av) r
 | .aX aK=>LN aK av r
 | .hh=>LO av r
 | .hI bs=>vJ (LV H f bs av) r
 | .iX b=>LP H (f b) av r
def Ai(H:Nat->bK)(f:Nat->Nat):(l:List bY)->(Nat->aH)->Nat->{R:Type}->Option (R×List Nat)->Option (qE l R×List Nat)
 | [],_,_,_,r=>r
 | t::l,c,i,_,r=>t.jc H f (c i) (Ai H f l c (i+1) r)
def LW(H:Nat->bK)(f:Nat->Nat)(t:ab)(l:List bY)(b:bQ){R:Type}(r:Option (R×List Nat)):Option (qE l R×List Nat):=
 match b with
 | .cells cW c=>if cW=t/\t.size=l.length then Ai H f l c 0 r else none
 | _=>none
def LX(e:ab)(b:bQ){R:Type}(r:Option (R×List Nat)):Option ((List e.aj×R)×List Nat):=
 match b with
 | .bh aZ xs=>match r with
  | some (y,m)=>if h:aZ=e then some ((h ▸ xs,y),m) else none
  | none=>none
 | _=>none
def LY(k v:ab)(b:bQ){R:Type}(r:Option (R×List Nat)):Option ((List (k.aj×v.aj)×R)×List Nat):=
 match b with
 | .mp k' h8 es=>match r with
  | some (y,m)=>if h:k'=k/\h8=v then some ((h.1 ▸ h.2 ▸ es,y),m) else none
  | none=>none
 | _=>none
def LZ(k v:ab)(b:bQ){R:Type}(r:Option (R×List Nat)):Option (((Option (k.aj×v.aj)×List (k.aj×v.aj))×R)×List Nat):=
 match b with
 | .cr k' h8 c es=>match r with
  | some (y,m)=>if h:k'=k/\h8=v then some (((h.1 ▸ h.2 ▸ c,h.1 ▸ h.2 ▸ es),y),m) else none
  | none=>none
 | _=>none
def L0(H:Nat->bK)(f:Nat->Nat)(e:ab)(t:bY)(b:bQ){R:Type}(r:Option (R×List Nat)):Option (((List e.aj×Nat)×t.cons R)×List Nat):=
 match b with
 | .gj aZ xs i v=>match t.jc H f v r with
  | some (y,m)=>if h:aZ=e then some (((h ▸ xs,i),y),m) else none
  | none=>none
 | _=>none
def L1(H:Nat->bK)(t:ab)(b:bQ){R:Type}(r:Option (R×List Nat)):Option ((t.aj×R)×List Nat):=
 match b with
 | .cells cW f=>if cW=t then xJ H t (.agg t.size f) r else none
 | _=>none
def L2(H:Nat->bK)(t:ab)(b:Nat){R:Type}(r:Option (R×List Nat)):Option ((t.aj×R)×List Nat):=
 match (dz (.bH t) (.bd b (H b).gen 0)).run H with
 | some (some x,l)=>match r with
  | some (y,m)=>some ((x,y),l++m)
  | none=>none
 | _=>none
def b6.jc(H:Nat->bK)(f:Nat->Nat)(t:b6)(b:Nat){R:Type}(r:Option (R×List Nat)):Option (t.cons R×List Nat):=
 match t with
 | .cells t l=>LW H f t l (H b).body r
 | .bh e=>LX e (H b).body r
 | .hF e=>xJ H (.slice e) (.an b (H b).gen) r
 | .mp k v=>LY k v (H b).body r
 | .jl k v=>xJ H (.map k v) (.fH b (H b).gen) r
 | .f' t=>L1 H t (H b).body r
 | .gM t=>L2 H t b r
 | .cr k v=>LZ k v (H b).body r
 | .gj e t=>L0 H f e t (H b).body r
def xK(H:Nat->bK)(f:Nat->Nat):(l:List (Nat×b6))->Option (pJ l×List Nat)
 | []=>some ((),[])
 | p::l=>p.2.jc H f (f p.1) (xK H f l)
def xL(H:Nat->bK)(f:Nat->Nat):(l:List (Nat×bY))->(Nat->aH)->{R:Type}->Option (R×List Nat)->Option (oQ l R×List Nat)
 | [],_,_,r=>r
 | p::l,c,_,r=>p.2.jc H f (c p.1) (xL H f l c r)
def dG.oR(sh:dG):List Nat:=sh.bC.filterMap λp=>if p.2.Dd then some p.1 else none
def dG.Aj(sh:dG)(f:Nat->Nat)(s:aB):Option (sh.aj×List Nat):=
 match xL s.aa f sh.bT s.az (xK s.aa f sh.bC) with
 | some (D,bV)=>if sh.oR.all (λb=>!bV.contains (f b))=true then some (D,bV) else none
 | none=>none
def L3:List (Nat×b6)->Nat->Option b6
 | [],_=>none
 | p::l,b=>if b=p.1 then some p.2 else L3 l b
def L4(s:aB)(i b be g':Nat):aB:=
 match decide (be≠b/\g'=(s.aa be).gen),(s.aa be).body with
 | true,.bh e xs=>⟨λj=>if j=i then .an b ((s.aa b).gen+1) else s.az j,λj=>if j=b then ⟨(s.aa b).gen+1,.bh e xs⟩ else if j=be then ⟨(s.aa be).gen+1,.fy⟩ else s.aa j⟩
 | _,_=>s
def L5(bs:List (Nat×b6))(s:aB)(i b:Nat):aB:=
 match s.az i,L3 bs b with
 | .dn,some (.bh e)=>⟨λj=>if j=i then .an b ((s.aa b).gen+1) else s.az j,(s.cx b ⟨(s.aa b).gen+1,.bh e []⟩).aa⟩
 | .an be g',some (.bh _)=>L4 s i b be g'
 | _,_=>s
def L6(bs:List (Nat×b6))(s:aB)(c j b:Nat):aB:=
 match (s.aa c).body with
 | .cells t f=>match f j,(s.aa b).body,L3 bs b with
  | .dn,.fy,some (.bh e)=>(s.cx b ⟨(s.aa b).gen+1,.bh e []⟩).cx c ⟨(s.aa c).gen,.cells t λq=>if q=j then .an b ((s.aa b).gen+1) else f q⟩
  | _,_,_=>s
 | _=>s
def GH(bs:List (Nat×b6)):List (Nat×bY)->aB->aB
 | [],s=>s
 | p::l,s=>GH bs l (match p.2 with | .an b=>L5 bs s p.1 b | _=>s)
def GI(bs:List (Nat×b6))(c:Nat):List bY->Nat->aB->aB
 | [],_,s=>s
 | t::l,j,s=>GI bs c l (j+1) (match t with | .an b=>L6 bs s c j b | _=>s)
def GJ(bs:List (Nat×b6)):List (Nat×b6)->aB->aB
 | [],s=>s
 | p::l,s=>GJ bs l (match p.2 with | .cells _ ts=>GI bs p.1 ts 0 s | _=>s)
def dG.GK(sh:dG)(s:aB):aB:=GJ sh.bC sh.bC (GH sh.bC sh.bT s)
def b6.S4:b6->Bool
 | .bh _ | .hF _ | .gj _ _=>true
 | _=>false
def dG.GL(sh:dG)(s:aB):Bool:=sh.bC.all λp=>!(decide (xi<=p.1)&&p.2.S4)||decide ((s.aa p.1).gen=0)
def dG.jc(sh:dG)(s:aB):Option (sh.aj):=
 match sh.GL (sh.GK s) with
 | true=>(sh.Aj (λb=>b) (sh.GK s)).map (·.1)
 | false=>none
def dG.ng{β:Type}(sh:dG)(s:aB)(k:sh.aj->A β):A β:=
 match sh.jc s with
 | some D=>k D
 | none=>A.fail
def bY.xM(t:bY){R:Type}(r:R):t.cons R:=
 match t with
 | .val t=>(t.df,r)
 | .dV t=>(t.df,r)
 | .sub _=>((0,0),r)
 | .aX _=>((0,λ_=>False,[],false),r)
 | .hh=>(0,r)
 | .iX _=>(0,r)
 | .undef | .bd _ _ | .an _ | .fH _ | .j9 _ | .dn | .iC _ _ | .hI _=>r
def S5:(l:List bY)->{R:Type}->R->qE l R
 | [],_,r=>r
 | t::l,_,r=>t.xM (S5 l r)
def b6.xM(t:b6){R:Type}(r:R):t.cons R:=
 match t with
 | .cells _ l=>S5 l r
 | .bh _=>([],r)
 | .hF _=>([],r)
 | .mp _ _=>([],r)
 | .jl _ _=>([],r)
 | .f' t=>(t.df,r)
 | .gM t=>(t.df,r)
 | .cr _ _=>((none,[]),r)
 | .gj _ t=>(([],0),t.xM r)
def S6:(l:List (Nat×b6))->pJ l
 | []=>()
 | p::l=>p.2.xM (S6 l)
def S7:(l:List (Nat×bY))->{R:Type}->R->oQ l R
 | [],_,r=>r
 | p::l,_,r=>p.2.xM (S7 l r)
def dG.xM(sh:dG):sh.aj:=S7 sh.bT (S6 sh.bC)
structure hJ where
 ts:ab
 aX:ab
 sh:ts.aj->A aX.aj
 dQ:Bool
def aN.dv(c:aN):hJ:=⟨c.ts,c.aX,c.sh,true⟩
def A.De{ak:Type}(m:A ak):Prop:=∀ x y,m.bR x->m.bR y->x=y
open Classical in
def A.val{ak:Type}(m:A ak)(d:ak):ak:=if h:∃ x,m.bR x then h.choose else d
def hJ.GM(c:hJ):aN:=⟨c.ts,c.aX,λx=>(c.sh x).b2,λx=>(c.sh x).val c.aX.df⟩
structure cK where
 cn:dG
 bR:dG
 kI:z9'
 kl:Nat
 sh:cn.aj->A bR.aj
structure Ak where
 ts:ab
 aK:ab
 pre:ts.aj->Prop
 seq:ts.aj->List aK.aj
inductive e3 where
 | dv (c:hJ)
 | e_ (c:cK)
 | cr (c:Ak)
 | L7 (c:hJ)
 | GN (c:cK) (sh:Nat->c.cn.aj->A c.bR.aj) (ids:List Nat)
 | kJ (c:aN)
def GO(bf:Nat->Option aN)(Ψ:Nat->Option e3)(k:Nat):Option aN:=
 match Ψ k with
 | some (.dv c)=>match c.dQ&&!nW c.aX with
  | true=>some c.GM
  | false=>none
 | some (.kJ c)=>some c
 | some _=>none
 | none=>bf k
def L8(bf:Nat->Option aN)(Ψ:Nat->Option e3)(k:Nat):Option hJ:=
 match Ψ k with
 | some (.dv c)=>some c
 | some _=>none
 | none=>(bf k).bind λc=>if nW c.aX=true then none else some c.dv
structure hY where
 ak:Type
 d:ak
 cb:Prop
 m:A ak
 st:ak->aB
 Df:Option (Bool->ak->aB)
def rF(s:aB)(o:Oper)(aX:ab)(bV:List Nat)(v:aH):aB:=(if aX.pure then s else s.cz bV).set o.dst v
def Dg(aQ:dD)(s:aB)(o:Oper)(args:List Operand)(dv:hJ):Option hY:=
 match (iZ dv.ts ((args.map (a1 aQ s.az)).map λv=>(use v).2)).run s.aa with
 | some (x,bV)=>some ⟨dv.aX.aj,dv.aX.df,jL (args.map (a1 aQ s.az)),dv.sh x,λy=>rF s o dv.aX bV (rl dv.aX y),some λg y=>rF s o dv.aX bV (.hE g (rl dv.aX y))⟩
 | none=>none
def GP(aQ:dD)(s:aB)(o:Oper)(args:List Operand)(dv:hJ):Option hY:=
 match (iZ dv.ts ((args.map (a1 aQ s.az)).map λv=>(use v).2)).run s.aa with
 | some (x,_)=>some ⟨dv.aX.aj,dv.aX.df,jL (args.map (a1 aQ s.az)),dv.sh x,λy=>s.set o.dst (rl dv.aX y),none⟩
 | none=>none
def Dh(aQ:dD)(s:aB)(o:Oper)(t:Nat)(args:List Operand):Option hY:=
 match use (s.az t) with
 | (cb,.val (.fn a b) f)=>match (iZ a ((args.map (a1 aQ s.az)).map λv=>(use v).2)).run s.aa with
  | some (x,bV)=>some ⟨b.aj,b.df,cb/\jL (args.map (a1 aQ s.az)),f x,λy=>rF s o b bV (rl b y),some λg y=>rF s o b bV (.hE g (rl b y))⟩
  | none=>none
 | _=>none
def S8(t:bY)(av:aH):z8':=
 match t,av with
 | .bd be _,.bd b _ _=>[(be,b)]
 | .an be,.an b _=>[(be,b)]
 | .sub be,.an b _=>[(be,b)]
 | .sub be,.sub b _ _ _=>[(be,b)]
 | .fH be,.fH b _=>[(be,b)]
 | .j9 be,.j9 b _=>[(be,b)]
 | .iC _ fV,.iC _ _ c1=>(List.range fV.length).filterMap λi=>match fV[i]?,c1 i with
  | some p,.bd b _ _=>some (p.1,b)
  | _,_=>none
 | _,_=>[]
def S9:List bY->(Nat->aH)->Nat->z8'
 | [],_,_=>[]
 | t::l,c,i=>S8 t (c i)++S9 l c (i+1)
def L9:z8'->Nat->Option Nat
 | [],_=>none
 | p::l,b=>if b=p.1 then some p.2 else L9 l b
def S_(H:Nat->bK):List (Nat×b6)->z8'->z8'
 | [],m=>m
 | p::l,m=>S_ H l (m++match p.2,L9 m p.1 with
  | .cells _ ts,some b=>(match (H b).body with | .cells _ c=>S9 ts c 0 | _=>[])
  | _,_=>[])
def afw(sh:dG)(s:aB):z8':=S_ s.aa sh.bC (sh.bT.flatMap λp=>S8 p.2 (s.az p.1))
def sH(s:aB)(avs:List aH):aB:=⟨λi=>if i=b5 then s.az b5 else if i<avs.length then avs.getD i .undef else .undef,s.aa⟩
def nh:Nat:=99999
def sI(s:aB)(d:Nat)(f:Nat->Nat)(ins:List Nat):List (Nat×b6)->Nat->z6'
 | [],_=>[]
 | p::l,j=>(if ins.contains p.1 then (p.1,(f p.1,match p.2 with
   | .cells _ _ | .f' _ | .mp _ _ | .gM _ | .jl _ _=>(s.aa (f p.1)).gen
   | .bh _=>if xi<=p.1 then (s.aa (f p.1)).gen else (s.aa (f p.1)).gen+1
   | _=>(s.aa (f p.1)).gen+1)) else (p.1,(50000+10*d+j,(s.aa (50000+10*d+j)).gen+1)))::sI s d f ins l (j+1)
def hZ:z6'->Nat->Nat×Nat
 | [],_=>(nh,0)
 | p::l,b=>if b=p.1 then p.2 else hZ l b
def pL:z9'->(Nat->aH)->Nat->List aH
 | [],_,_=>[]
 | none::l,c,i=>c i::pL l c (i+1)
 | some n::l,c,i=>.agg n (λj=>c (i+j))::pL l c (i+n)
def L_(l:List aH):aH:=
 match l with
 | [v]=>v
 | l=>.qp l.length (hj l)
def xN(s:aB)(c:cK)(f:Nat->Nat)(ch:z6')(bm:c.bR.aj):aB:=
 ⟨λi=>if i=b5 then (if c.bR.bT.any (λp=>p.1 == b5) then fr (eD (hZ ch) c.bR.bT bm).1 b5 else if c.cn.bT.any (λp=>p.1 == b5) then .undef else s.az b5) else s.az i,λb=>match ch.find? (λp=>p.2.1 == b) with
  | some p=>⟨p.2.2,(eP (hl (hZ ch) c.bR.bC (eD (hZ ch) c.bR.bT bm).2) p.1).body⟩
  | none=>if (c.cn.oR.map f).contains b then ⟨(s.aa b).gen+1,.fy⟩ else s.aa b⟩
def afx(s:aB)(o:Oper)(c:cK)(f:Nat->Nat)(ch:z6')(bm:c.bR.aj):aB:=
 aB.set (xN s c f ch bm) o.dst (L_ (pL c.kI (fr (eD (hZ ch) c.bR.bT bm).1) 0))
def GQ(l:List Nat):Bool:=decide l.Nodup
def Di(c:cK)(f:Nat->Nat)(dN:aB)(ch:z6')(d n:Nat):Bool:=
  decide (d < 4000) && decide (c.bR.bC.length <= 10) && GQ (c.cn.bC.map (·.1)) && GQ (c.cn.bC.map λp => f p.1) && GQ (ch.map (·.1)) && GQ (ch.map (·.2.1)) && (c.cn.bC.map (·.1)).all (λb => decide (eQ <= b))
        &&!(ch.map (·.2.1)).contains nh&&(match (dN.aa nh).body with | .fy=>true | _=>false)&&c.bR.bC.all (λp=>c.cn.bC.all λq=>!(p.1 == q.1&&q.2.Dd)||p.2.GD q.2)&&(decide (n=c.kl)&&decide (n<=eQ))
def rG(aQ:dD)(s:aB)(args:List Operand):List aH:=(args.map (a1 aQ s.az)).map λv=>(use v).2
def rH(c:cK)(ew:aB)(b:Nat):Nat:=(L9 (afw c.cn ew) b).getD nh
def xO(aQ:dD)(s:aB)(o:Oper)(args:List Operand)(c:cK):Option hY:=
 match c.cn.Aj (rH c (sH s (rG aQ s args))) (sH s (rG aQ s args)) with
 | some (D,bV)=>match Di c (rH c (sH s (rG aQ s args))) (s.cz bV) (sI (s.cz bV) (o.dst.getD 0) (rH c (sH s (rG aQ s args))) c.cn.oR c.bR.bC 0) (o.dst.getD 0) args.length with
  | true=>some ⟨c.bR.aj,c.bR.xM,jL (args.map (a1 aQ s.az)),c.sh D,λbm=>afx (s.cz bV) o c (rH c (sH s (rG aQ s args))) (sI (s.cz bV) (o.dst.getD 0) (rH c (sH s (rG aQ s args))) c.cn.oR c.bR.bC 0) bm,none⟩
  | false=>none
 | none=>none
def S':Nat:=999999
def Ta(c:cK)(sh:Nat->c.cn.aj->A c.bR.aj)(ids:List Nat)(n:Option Nat):cK:={ c with sh:=λD=>A.ad (∃ k∈ids,n=some k) (sh (n.getD 0) D) }
def GR(aQ:dD)(Ψ:Nat->Option e3)(s:aB)(o:Oper)(t:Nat)(args:List Operand):Option hY:=
 match s.az t with
 | .val .eo n=>match Ψ S' with
  | some (.GN c sh ids)=>xO aQ s o args (Ta c sh ids n)
  | _=>none
 | _=>none
def GS(aQ:dD)(s:aB)(o:Oper)(t:Nat)(args:List Operand):Option hY:=
 match s.az t,s.az b5 with
 | .hh dF,.aX l aK L n st=>match (iZ aK ((args.map (a1 aQ s.az)).map λv=>(use v).2)).run s.aa with
  | some (x,bV)=>some ⟨Bool,false,jL (args.map (a1 aQ s.az)),A.ad (dF=l/\st=false/\∃ T,L (n++x::T)) (A.any λ_=>True),λb=>aB.set ⟨λi=>if i=b5 then .aX l aK L (n++[x]) (!b) else s.az i,(s.cz bV).aa⟩ o.dst (.val .bool b),none⟩
  | none=>none
 | _,_=>none
def GU(aQ:dD)(T:Nat->ab)(s:aB)(o:Oper)(ty:TypeId)(x:Operand):Option hY:=
 match T ty,o.dst with
 | .map k v,some d=>match use (a1 aQ s.az x) with
  | (cb,av)=>match (dz (.map k v) av).run s.aa with
   | some (es,bV)=>if bV.contains d then none else
    some ⟨Unit,(),cb,A.pure (),λ_=>((s.cz bV).cx d ⟨(s.aa d).gen+1,.cr k v none es⟩).set o.dst (.j9 d ((s.aa d).gen+1)),none⟩
   | none=>none
 | _,_=>none
def GV{ak:Type}(l:List ak):A (Option Nat):=⟨True,λx=>match x with | none=>l=[] | some i=>i<l.length⟩
def Tb(i:Option Nat):Nat:=match i with | none=>0 | some _=>2
def n6{ak:Type}(c:Option ak)(cm:List ak)(i:Option Nat):Option ak:=match i with | none=>c | some i=>cm[i]?
def Dj{ak:Type}(cm:List ak)(i:Option Nat):List ak:=match i with | none=>cm | some i=>cm.eraseIdx i
def GW(aQ:dD)(s:aB)(o:Oper)(x:Operand)(str:Bool):Option hY:=
 match str,a1 aQ s.az x with
 | false,.j9 b g=>if (s.aa b).gen=g then (match (s.aa b).body with
  | .cr k v c cm=>some ⟨Option Nat,none,True,GV cm,λi=>(s.cx b ⟨g,.cr k v (n6 c cm i) (Dj cm i)⟩).set o.dst (.qp (Nat.succ (Tb i)) (hj [.val .bool i.isSome])),none⟩
  | _=>none) else none
 | _,_=>none
def GX(aQ:dD)(s:aB)(o:Oper)(x:Operand):Option hY:=
 match a1 aQ s.az x with
 | .j9 b g=>if (s.aa b).gen=g then (match (s.aa b).body with
  | .cr k v c _=>some ⟨Unit,(),True,A.ad (c.isSome=true) (A.pure ()),λ_=>s.set o.dst (.qp 2 (hj [.val k ((c.map (·.1)).getD k.df),.val v ((c.map (·.2)).getD v.df)])),none⟩
  | _=>none) else none
 | _=>none
def Dk(aQ:dD)(T:Nat->ab)(s:aB)(o:Oper)(op:BinOp)(ty:TypeId)(x y:Operand):Option hY:=
 match T ty,a1 aQ s.az y with
 | .slice e,.dn=>match (dz (.slice e) (use (a1 aQ s.az x)).2).run s.aa with
  | some (xs,_)=>match op with
   | .eql=>some ⟨Bool,false,(use (a1 aQ s.az x)).1,A.any λb=>b=true->xs=[],λb=>s.set o.dst (.val .bool b),none⟩
   | .neq=>some ⟨Bool,false,(use (a1 aQ s.az x)).1,A.any λb=>b=true->xs=[],λb=>s.set o.dst (.val .bool (!b)),none⟩
   | _=>none
  | none=>none
 | _,_=>none
def rI(aQ:dD)(T:Nat->ab)(bf:Nat->Option aN)(Ψ:Nat->Option e3)(s:aB)(o:Oper):Option hY:=
 match o.op with
 | .call c=>match c.callee with
  | .value f=>match f with
   | .func k=>match Ψ k with
    | some (.e_ c')=>xO aQ s o c.args.toList c'
    | some (.L7 c')=>GP aQ s o c.args.toList c'
    | _=>match L8 bf Ψ k with
     | some dv=>Dg aQ s o c.args.toList dv
     | none=>none
   | .tmp t=>match Dh aQ s o t c.args.toList with
    | some r=>some r
    | none=>match GR aQ Ψ s o t c.args.toList with
     | some r=>some r
     | none=>GS aQ s o t c.args.toList
   | _=>none
  | _=>none
 | .range ty x=>GU aQ T s o ty x
 | .next x str=>GW aQ s o x str
 | .entry x=>GX aQ s o x
 | .binOp op ty x y _=>Dk aQ T s o op ty x y
 | _=>none
def cu{ak:Type}(g:Bool)(m:A ak)(d:ak):A ak:=if g=true then m else A.pure d
def sJ{β:Type}(b:Bool)(p:Prop)(m:A β):A β:=match b with | true=>m | false=>A.ad p m
def Dl(o:Oper)(e7:aH)(l:List (Nat×bK)):Option (List (Nat×bK)×aH):=
 match l with
 | []=>some ([],e7)
 | p::dF=>match o.op with
  | .makeFunc ..=>some (p::dF,e7)
  | .buildSlice _ n _=>match dF,e7,p.2.body with
   | [],.an be g',.bh e xs=>if (be=p.1/\g'=p.2.gen)/\n≠0 then some ([(p.1,⟨p.2.gen,.fy⟩)],.val (.slice e) xs) else none
   | _,_,_=>none
  | _=>none
def Tc(hG:List (Nat×bK))(e7:aH):aH:=
 match e7 with
 | .an b _=>match hG.find? (λp=>p.1 == b) with
  | some (_,⟨_,.bh e xs⟩)=>.val (.slice e) xs
  | _=>e7
 | _=>e7
abbrev pM:=List (Nat×(Nat×Bool))
def sK(ops:Array Oper)(j d:Nat):Bool:=match ops[j]? with | some o=>(match o.dst with | some e=>e == d | none=>false) | none=>false
def afy(tg:pM)(t:Nat)(k:Nat×Bool):Bool:=tg.any λp=>p.1 == t&&(p.2.1 == k.1&&p.2.2 == k.2)
def xP(ops:Array Oper)(tg:pM)(o:Oper):pM:=
 match o.dst with
 | none=>tg
 | some d=>match o.guard with
  | some k=>if sK ops k.1 d=true then tg.filter λp=>p.1 != d&&!sK ops p.2.1 d else (d,k)::tg.filter λp=>p.1 != d&&!sK ops p.2.1 d
  | none=>tg.filter λp=>p.1 != d&&!sK ops p.2.1 d
def xQ(aJ:Operand->aH)(tg:pM)(gk:Option (Nat×Bool))(x:Operand):Bool:=
 !(aJ x).Ac||(match x,gk with | .tmp t,some k=>afy tg t k | _,_=>false)
def GY(ops:Array Oper)(tg:pM)(c x:Operand)(want:Bool):Bool:=
 match c,x with
 | .tmp c,.tmp t=>tg.any λp=>p.1 == t&&(sK ops p.2.1 c&&p.2.2 == want)
 | _,_=>false
def L'(aJ:Operand->aH)(tg:pM)(gk:Option (Nat×Bool))(o:Oper):Bool:=o.op.operands.toList.all (xQ aJ tg gk)
def Al(aJ:Operand->aH)(ops:Array Oper)(tg:pM)(gk:Option (Nat×Bool))(o:Oper):Bool:=
 match o.op with
 | .pick c a b=>xQ aJ tg gk c&&((xQ aJ tg gk a||GY ops tg c a true)&&(xQ aJ tg gk b||GY ops tg c b false))
 | _=>L' aJ tg gk o
def Ma(aJ:Operand->aH)(tg:pM)(gk:Option (Nat×Bool))(o:Oper)(e7:aH):Bool:=
 !e7.Ac||(match o.op with | .move x=>xQ aJ tg gk x | _=>false)
def ie:Operand->Option Nat
 | .tmp t=>some t
 | _=>none
def Am(o gF k0:Oper):Option (Oper×Nat×Nat):=
 match o.op with
 | .mapEntry ty m x=>match gF.op with
  | .extract e 1=>match k0.op with
   | .entryStore mV dx aZ y=>match o.dst,gF.dst,k0.dst with
    | some d1,some d2,none=>if ie e=some d1/\ie aZ=some d2/\mV=ty/\(ie dx).isSome=true/\ie dx=ie m/\(ie y).isSome=true/\ie m≠some d1/\ie m≠some d2/\ie y≠some d1/\ie y≠some d2/\o.guard.isNone=true/\gF.guard.isNone=true/\k0.guard.isNone=true
     then some ({ k0 with op:=.mapUpdate ty m x y },d1,d2) else none
    | _,_,_=>none
   | _=>none
  | _=>none
 | _=>none
def An(o:Oper)(os:List Oper):Option (Oper×Nat×Nat):=
 match os with
 | gF::k0::_=>Am o gF k0
 | _=>none
def GZ{β:Type}:Nat->Int->(Nat->A β)->A β
 | 0,_,_=>A.fail
 | 1,_,k=>k 0
 | n+2,v,k=>if v=((n+1:Nat):Int) then k (n+1) else GZ (n+1) v k
theorem Td{β:Type}{O:β->Prop}{k:Nat->A β}{v:Int}:∀ {n:Nat},A.cv (GZ n v k) O->0<=v->v<(n:Int)->A.cv (k v.toNat) O
 | 0,h,_,_=>h.1.elim
 | 1,h,aU,E=>by
  have:v.toNat=0:=by omega
  rw[this];exact h
 | n+2,h,aU,E=>by
  unfold GZ at h;split at h
  ·grind
  ·exact Td h aU (by omega)
def mB{β:Type}(aQ:dD)(T:Nat->ab)(bf:Nat->Option aN)(Ψ:Nat->Option e3)(ops:Array Oper):List Oper->pM->aB->(aB->A β)->A β
 | [],_,s,k=>k s
 | o::os,tg,s,k=>
  match An o os with
  | some (km,d1,d2)=>match os with
   | _::_::afz=>match (bt aQ T bf (a1 aQ s.az) km).run s.aa with
    | some res=>A.ad res.cb (A.ad res.c (mB aQ T bf Ψ ops afz [] (((s.h' none res).set (some d1) .undef).set (some d2) .undef) k))
    | none=>A.fail
   | _=>A.fail
  | none=>
  match kF s.az ops o.guard with
  | none=>A.fail
  | some none=>match (bt aQ T bf (a1 aQ s.az) o).run s.aa with
   | some res=>sJ (Al (a1 aQ s.az) ops tg none o) res.cb (sJ (nd (a1 aQ s.az) o) res.c (mB aQ T bf Ψ ops os (xP ops tg o) (s.h' o.dst res) k))
   | none=>match rI aQ T bf Ψ s o with
    | some cd=>sJ (sG (a1 aQ s.az) o) cd.cb (A.bind cd.m λy=>mB aQ T bf Ψ ops os [] (cd.st y) k)
    | none=>A.fail
  | some (some g)=>match (bt aQ T bf (a1 aQ s.az) o).run s.aa with
   | some ⟨cb,c,e7,hG⟩=>match Dl o e7 hG with
    | some (xR,sL)=>sJ (Al (a1 aQ s.az) ops tg o.guard o&&(nd (a1 aQ s.az) o&&Ma (a1 aQ s.az) tg o.guard o sL)) (g=true->cb/\(c/\(use sL).1)) (mB aQ T bf Ψ ops os (xP ops tg o) ((s.f_ xR).set o.dst (.hE g (use sL).2)) k)
    | none=>if g=true then A.ad cb (A.ad c (mB aQ T bf Ψ ops os [] (s.h' o.dst ⟨cb,c,e7,hG⟩) k)) else mB aQ T bf Ψ ops os [] (s.set o.dst (.hE false (Tc hG (use e7).2))) k
   | none=>match rI aQ T bf Ψ s o with
    | some cd=>match cd.Df with
     | some gs=>sJ (L' (a1 aQ s.az) tg o.guard o) (g=true->cd.cb) (A.bind (cu g cd.m cd.d) λy=>mB aQ T bf Ψ ops os (xP ops tg o) (gs g y) k)
     | none=>if g=true then A.ad cd.cb (A.bind cd.m λy=>mB aQ T bf Ψ ops os [] (cd.st y) k) else mB aQ T bf Ψ ops os [] (s.set o.dst (.hE false (use ((cd.st cd.d).az (o.dst.getD 0))).2)) k
    | none=>A.fail
def Dm{β:Type}:List Prop->A β->A β
 | [],m=>m
 | p::l,m=>A.ad p (Dm l m)
def Ao(cl:List (List Nat)):Nat->Nat
 | 0=>0
 | n+1=>if (List.range n).all (λi=>(cl.getD n []).contains i)=true then Ao cl n else n+1
def Mb(gG iv hK iK lZ:Oper):Bool:=
 match gG.op,iv.op,hK.op with
 | .lookup ty m x false,.binOp .add _ (.tmp t) (.const (.int k c)) _,.mapEntry mV dx dI=>match gG.dst,iv.dst,Am hK iK lZ with
  | some ee,some fJ,some (_,d1,d2)=>decide (t=ee/\mV=ty/\fR k c/\ie dx=ie m/\ie dI=ie x/\ee≠fJ/\ee≠d1/\ee≠d2/\fJ≠d1/\fJ≠d2/\d1≠d2/\
    (ie m).isSome=true/\(ie x).isSome=true/\ie m≠some ee/\ie m≠some fJ/\ie m≠some d1/\ie m≠some d2/\ie x≠some ee/\ie x≠some fJ/\ie x≠some d1/\ie x≠some d2/\gG.guard.isNone=true/\iv.guard.isNone=true)
  | _,_,_=>false
 | _,_,_=>false
def G0(ops:List Oper):Bool:=
 match ops.drop (ops.length - 5) with
 | [gG,iv,hK,iK,lZ]=>Mb gG iv hK iK lZ&&(Db ops&&((List.range 5).all λq=>(List.range (ops.length - 5)).all λi=>((ir ops).getD (ops.length - 5+q) []).contains i)&&
   ((ir ops).getD (ops.length - 5+1) []).contains (ops.length - 5)&&((ir ops).getD (ops.length - 5+3) []).contains (ops.length - 5+2)&&((List.range 4).all λq=>((ir ops).getD (ops.length - 5+4) []).contains (ops.length - 5+q))&&
   (ib hK).all (λi=>decide (i<ops.length - 5))&&(ib iK).all (λi=>decide (i<ops.length - 5)||decide (i=ops.length - 5+2)))
 | _=>false
def l0(ops:List Oper):Nat:=if G0 ops=true then ops.length - 5 else Ao (ir ops) ops.length
def A.afA{ak:Type}(l:List (A ak)):A ak:=⟨∀ m∈l,m.b2,λx=>∃ m∈l,m.bR x⟩
def vK(ops:List Oper)(done:List Nat):List Nat:=(List.range ops.length).filter λi=>!done.contains i&&match ops[i]? with | some o=>(ib o).all λj=>done.contains j | none=>false
def rJ(ops:List Oper):Nat->List Nat->List (List Nat)
 | 0,_=>[[]]
 | f+1,done=>match vK ops done with
  | []=>[[]]
  | l=>l.flatMap λi=>(rJ ops f (i::done)).map (i::·)
def G1(ops:List Oper):Nat->List Nat->Bool
 | 0,done=>(vK ops done).isEmpty
 | f+1,done=>(vK ops done).all λi=>G1 ops f (i::done)
def G2{β:Type}(aQ:dD)(T:Nat->ab)(bf:Nat->Option aN)(Ψ:Nat->Option e3)(ops:Array Oper)(o:Oper)(s:aB)(k:aB->A β):A β:=
 match o.guard with
 | some _=>A.fail
 | none=>match (bt aQ T bf (a1 aQ s.az) o).run s.aa with
  | some res=>sJ (Al (a1 aQ s.az) ops [] none o) res.cb (sJ (nd (a1 aQ s.az) o) res.c (k (s.h' o.dst res)))
  | none=>match rI aQ T bf Ψ s o with
   | some cd=>sJ (sG (a1 aQ s.az) o) cd.cb (A.bind cd.m λy=>k (cd.st y))
   | none=>A.fail
def Ap{β:Type}(aQ:dD)(T:Nat->ab)(bf:Nat->Option aN)(Ψ:Nat->Option e3)(ops:Array Oper):List Nat->aB->(aB->A β)->A β
 | [],s,k=>k s
 | i::cc,s,k=>match ops[i]? with
  | some o=>G2 aQ T bf Ψ ops o s λs'=>Ap aQ T bf Ψ ops cc s' k
  | none=>A.fail
def Te{β:Type}(aQ:dD)(T:Nat->ab)(bf:Nat->Option aN)(Ψ:Nat->Option e3)(ops:Array Oper)(s:aB)(k:aB->A β):A β:=
 match G1 ops.toList ops.size [] with
 | true=>A.afA ((rJ ops.toList ops.size []).map λl=>Ap aQ T bf Ψ ops l s k)
 | false=>A.fail
def Aq{β:Type}(aQ:dD)(T:Nat->ab)(bf:Nat->Option aN)(Ψ:Nat->Option e3)(ops:Array Oper)(s:aB)(k:aB->A β):A β:=
 match xE aQ T bf ops ops.toList s with
 | some (l,s')=>match Af ops.toList l with
  | true=>Dm (l.flatMap eO.cs) (k s')
  | false=>A.fail
 | none=>match xE aQ T bf ops (ops.toList.take (l0 ops.toList)) s with
  | some (l,s')=>match Af (ops.toList.take (l0 ops.toList)) l&&Db ops.toList with
   | true=>Dm (l.flatMap eO.cs) (mB aQ T bf Ψ ops (ops.toList.drop (l0 ops.toList)) [] s' k)
   | false=>A.fail
  | none=>Te aQ T bf Ψ ops s k
def lu(ops:List Oper):List Oper:=
 match ops with
 | []=>[]
 | o::l=>o::l.map λp=>{ p with after:=p.after.push ⟨0,.phase⟩ }
def Mc(ops:Array Oper):Bool:=
 match ops.toList with
 | []=>false
 | o::l=>(match o.op with | .move _=>true | _=>false)&&(o.guard.isNone&&(o.after.isEmpty&&(Region.noSelect ops&&l.all λp=>(ib p).contains 0||o.apart ops p)))
inductive cB where
 | eN
 | seq (a b:cB)
 | join (sh:dG) (a b:cB)
 | cond (a b:cB)
 | block (a:cB)
 | loop (sh:dG) (a:cB)
 | scope (a:cB)
 | range (sh rin rout:dG) (a b:cB)
 | n7 (a b:cB)
 | split (i off n:Nat) (a:cB)
 | num (i n:Nat) (a:cB)
 | n1 (i:Nat) (a:cB)
 | G3 (b:Nat) (a:cB)
 | G4
def cB.eh:cB->Bool
 | .eN=>true
 | .seq a b=>a.eh&&b.eh
 | .join _ a b=>a.eh&&b.eh
 | .cond a b=>a.eh&&b.eh
 | .block a=>a.eh
 | .loop _ a=>a.eh
 | .scope a=>a.eh
 | .range ..=>false
 | .n7 a b=>a.eh&&b.eh
 | .split _ _ _ a=>a.eh
 | .num _ _ a=>a.eh
 | .n1 _ a=>a.eh
 | .G3 _ a=>a.eh
 | .G4=>false
def cB.oS:cB->Bool
 | .n7 ..=>true
 | .eN=>true
 | _=>false
inductive dj where
 | normal
 | exit (id:Nat)
 | ret
def dj.pN:dj->Exit
 | .normal=>.normal
 | .exit id=>.exit id
 | .ret=>.ret
open A (V)
def Tf{β:Type}(k:dj->aB->A β)(f:aB->A β)(e:dj)(s:aB):A β:=
 match e with
 | .normal=>f s
 | .exit id=>k (.exit id) s
 | .ret=>k .ret s
def xS{D β:Type}(k:dj->aB->A β)(f:aB->A (V D β))(e:dj)(s:aB):A (V D β):=
 match e with
 | .normal=>f s
 | .exit id=>A.bind (k (.exit id) s) λr=>A.pure (.done r)
 | .ret=>A.bind (k .ret s) λr=>A.pure (.done r)
def Tg{β:Type}(id:Nat)(k:dj->aB->A β)(e:dj)(s:aB):A β:=
 match e with
 | .normal=>k .normal s
 | .exit G5=>if G5=id then k .normal s else k (.exit G5) s
 | .ret=>k .ret s
def V.bE{D β:Type}(f:D->A β)(st:V D β):A β:=
 match st with
 | .next x=>f x
 | .done r=>A.pure r
def Th{β:Type}(v:aH)(m n:A β):A β:=
 match v with
 | .val .bool t=>if t=true then m else n
 | .hE g (.val .bool t)=>A.ad (g=true) (if t=true then m else n)
 | _=>A.fail
def qF(s:aB)(i off:Nat):Option (Int×(Nat->aB)):=
 match s.az i with
 | .bd b _ o=>match (s.aa b).body with
  | .cells t f=>match f (o+off) with
   | .val (.int uv) x=>some (x,λj=>⟨s.az,λbe=>if be=b then ⟨(s.aa b).gen,.cells t λq=>if q=o+off then .val (.int uv) (j:Int) else f q⟩ else s.aa be⟩)
   | _=>none
  | _=>none
 | _=>none
theorem afB{s:aB}{i off:Nat}{x:Int}{f:Nat->aB}(h:qF s i off=some (x,f))(aU:0<=x):f x.toNat=s:=by
 unfold qF at h;split at h
 ·rename_i b g o aE;split at h
  ·rename_i t iG W;split at h
   ·rename_i uv dI ah;simp only[Option.some.injEq,Prod.mk.injEq]at h;obtain⟨rfl,rfl⟩:=h;have bF:((dI.toNat:Nat):Int)=dI:=by omega
    have ay:(λq=>if q=o+off then aH.val (.int uv) (show (ab.int uv).aj from ((dI.toNat:Nat):Int)) else iG q)=iG:=by
     grind
    have aP:(λbe=>if be=b then (⟨(s.aa b).gen,.cells t iG⟩:bK) else s.aa be)=s.aa:=by
     funext q;split
     ·rename_i e;rw[e,<-W]
     ·rfl
    simp_all
   grind
  grind
 grind
def rK(s:aB)(i:Nat):Option (Int×(Nat->aB)):=
 match s.az i with
 | .val (.int uv) x=>some (x,λn=>⟨λj=>if j=i then .val (.int uv) (n:Int) else s.az j,s.aa⟩)
 | _=>none
theorem afC{s:aB}{i n:Nat}{x:Int}{f:Nat->aB}(h:rK s i=some (x,f))(aU:x=(n:Int)):f n=s:=by
 unfold rK at h;split at h
 ·rename_i uv dI aE;simp only[Option.some.injEq,Prod.mk.injEq]at h;obtain⟨rfl,rfl⟩:=h;have ay:(λj=>if j=i then aH.val (.int uv) (show (ab.int uv).aj from (n:Int)) else s.az j)=s.az:=by
   grind
  simp_all
 grind
def Md(s:aB)(i:Nat):Option aB:=
 match s.az i with
 | .oH b g n off=>match (s.aa b).body,off with
  | .bh (.st (.slice e)) xs,0=>if g=(s.aa b).gen then some ⟨λj=>if j=i then .iX b g n else s.az j,λbe=>if be=b then ⟨g,.gj (.st (.slice e)) xs n (.val (.slice e) (xs.getD n []))⟩ else s.aa be⟩ else none
  | _,_=>none
 | _=>none
def Me(s:aB)(b:Nat):Option aB:=
 match (s.aa b).body with
 | .gj (.st (.slice e)) xs n v=>match (dz (.slice e) v).run s.aa with
  | some (y,bV)=>if bV.contains b then none else some ((s.cz bV).cx b ⟨(s.aa b).gen,.bh (.st (.slice e)) (xs.set n y)⟩)
  | none=>none
 | _=>none
def jR{D ak:Type}(body:D->ak->A (dj×D)):List ak->D->A (dj×D)
 | [],D=>A.pure (.normal,D)
 | x::xs,D=>A.bind (body D x) λp=>match p.1 with
  | .normal=>jR body xs p.2
  | .exit id=>A.pure (.exit id,p.2)
  | .ret=>A.pure (.ret,p.2)
def Ar(aK:ab)(x:aK.aj):List Tmp->Nat->(Nat->aH)->Nat->aH
 | [],_,f=>f
 | p::ps,i,f=>Ar aK x ps (i+1) (λj=>if j=p then kB aK x i else f j)
def xT(s:aB)(aK:ab)(x:aK.aj)(ps:List Tmp):aB:=⟨λi=>if i=b5 then s.az b5 else Ar aK x ps 0 s.az i,s.aa⟩
def vL(rin rout:dG):cK:=⟨rin,rout,[],0,λ_=>A.fail⟩
def uw{bm:Type}(sh rin rout:dG)(aK:ab)(ps:List Tmp)(D:sh.aj)(x:aK.aj)(run:aB->A (bm×rout.aj)):A (bm×sh.aj):=
 match rin.Aj (rH (vL rin rout) (xT (sh.st D) aK x ps)) (xT (sh.st D) aK x ps) with
 | some (aJ,bV)=>match Di (vL rin rout) (rH (vL rin rout) (xT (sh.st D) aK x ps)) ((sh.st D).cz bV) (sI ((sh.st D).cz bV) 0 (rH (vL rin rout) (xT (sh.st D) aK x ps)) rin.oR rout.bC 0) 0 0 with
  | true=>A.bind (run (rin.st aJ)) λp=>sh.ng (xN ((sh.st D).cz bV) (vL rin rout) (rH (vL rin rout) (xT (sh.st D) aK x ps)) (sI ((sh.st D).cz bV) 0 (rH (vL rin rout) (xT (sh.st D) aK x ps)) rin.oR rout.bC 0) p.2) λiL=>A.pure (p.1,iL)
  | false=>A.fail
 | none=>A.fail
def n8(sh rout:dG)(aK:ab)(ps:List Tmp)(nt:Nat):Bool:=
 rout.bT.isEmpty&&!sh.bT.any (λp=>p.1 == b5)&&decide (aK≠.cT)&&decide (ps.length=ka aK)&&ps.all λp=>decide (p<nt)
def G6{β:Type}(f:aB->A β)(e:dj)(s:aB):A β:=
 match e with
 | .normal=>f s
 | .exit _=>A.fail
 | .ret=>A.fail
def sM{β:Type}(n:A β)(x:Nat->A β)(r:A β)(e:dj):A β:=
 match e with
 | .normal=>n
 | .exit id=>x id
 | .ret=>r
def Mf{β:Type}(k:dj->aB->A β)(e:dj)(s:aB):A β:=sM (k .normal s) (λid=>k (.exit id) s) (k .ret s) e
theorem Ti{β:Type}(k:dj->aB->A β)(e:dj)(s:aB):Mf k e s=k e s:=by cases e<;>rfl
def eI(aQ:dD)(T:Nat->ab)(bf:Nat->Option aN)(Ψ:Nat->Option e3):cB->{β:Type}->Code->aB->(dj->aB->A β)->A β
 | .seq a b,_,c,s,k=>match c with
  | .seq x y=>eI aQ T bf Ψ a x s (Tf k λs'=>eI aQ T bf Ψ b y s' k)
  | _=>A.fail
 | .join sh a b,β,c,s,k=>match c with
  | .seq x y=>A.bind (eI aQ T bf Ψ a (β:=V sh.aj β) x s (xS k λs'=>sh.ng s' λD=>A.pure (.next D))) (V.bE λD=>eI aQ T bf Ψ b y (sh.st D) k)
  | _=>A.fail
 | .cond a b,_,c,s,k=>match c with
  | .cond c x y=>Th (a1 aQ s.az c) (eI aQ T bf Ψ a x s k) (eI aQ T bf Ψ b y s k)
  | _=>A.fail
 | .block a,_,c,s,k=>match c with
  | .block id c=>eI aQ T bf Ψ a c s (Tg id k)
  | _=>A.fail
 | .loop sh a,β,c,s,k=>match c with
  | .loop c=>sh.ng s λD=>A.loop (λD=>eI aQ T bf Ψ a (β:=V sh.aj β) c (sh.st D) (xS k λs'=>sh.ng s' λiL=>A.pure (.next iL))) D
  | _=>A.fail
 | .n7 a b,_,c,s,k=>match c with
  | .loop x=>match b.oS with
   | true=>eI aQ T bf Ψ a x s (Tf k λs'=>eI aQ T bf Ψ b (.loop x) s' k)
   | false=>A.fail
  | _=>A.fail
 | .scope a,_,c,s,k=>match c with
  | .scope c=>eI aQ T bf Ψ a c s k
  | _=>A.fail
 | .num i n a,_,c,s,k=>match rK s i with
  | some (x,f)=>A.ad (x=(n:Int)) (eI aQ T bf Ψ a c (f n) k)
  | none=>A.fail
 | .n1 i a,_,c,s,k=>match Md s i with
  | some s'=>eI aQ T bf Ψ a c s' k
  | none=>A.fail
 | .G3 b a,_,c,s,k=>match Me s b with
  | some s'=>eI aQ T bf Ψ a c s' k
  | none=>A.fail
 | .split i off n a,_,c,s,k=>match qF s i off with
  | some (x,f)=>A.ad (0<=x/\x<(n:Int)) (GZ n x λj=>eI aQ T bf Ψ a c (f j) k)
  | none=>A.fail
 | .range sh rin rout a b,_,c,s,k=>match c with
  | .rangeFunc g ps assign body=>match a1 aQ s.az g with
   | .sk rL n eT=>match Ψ rL with
    | some (.cr ic)=>match (iZ ic.ts ((List.range n).map eT)).run s.aa with
     | some (x,bV)=>match n8 sh rout ic.aK ps.toList eQ&&(a.eh&&b.eh) with
      | true=>sh.ng (s.cz bV) λD=>A.ad (ic.pre x) (A.bind (jR (λD y=>uw sh rin rout ic.aK ps.toList D y λew=>
       eI aQ T bf Ψ a (β:=dj×rout.aj) assign ew (G6 λdN=>eI aQ T bf Ψ b body dN λe eJ=>rout.ng eJ λbm=>A.pure (e,bm))) (ic.seq x) D) λp=>Mf k p.1 (sh.st p.2))
      | false=>A.fail
     | none=>A.fail
    | _=>A.fail
   | .val (.cr aK) S=>match n8 sh rout aK ps.toList eQ&&(a.eh&&b.eh) with
    | true=>sh.ng s λD=>A.bind (A.any S) λL=>A.bind (jR (λD y=>uw sh rin rout aK ps.toList D y λew=>
     eI aQ T bf Ψ a (β:=dj×rout.aj) assign ew (G6 λdN=>eI aQ T bf Ψ b body dN λe eJ=>rout.ng eJ λbm=>A.pure (e,bm))) L D) λp=>Mf k p.1 (sh.st p.2)
    | false=>A.fail
   | _=>A.fail
  | _=>A.fail
 | .G4,_,c,s,k=>match c with
  | .region _ ops draw=>match draw&&Mc ops with
   | true=>Aq aQ T (GO bf Ψ) Ψ (lu ops.toList).toArray s (k .normal)
   | false=>A.fail
  | _=>A.fail
 | .eN,_,c,s,k=>match c with
  | .region _ ops draw=>match draw with
   | true=>Aq aQ T (GO bf Ψ) Ψ ops s (k .normal)
   | false=>mB aQ T bf Ψ ops ops.toList [] s (k .normal)
  | .skip=>k .normal s
  | .label _=>k .normal s
  | .exit id=>k (.exit id) s
  | .ret=>k .ret s
  | _=>A.fail
def lv(nt:Nat):Code->Bool
 | .region _ ops _=>ops.toList.all λo=>lr o nt
 | .seq a b=>lv nt a&&lv nt b
 | .cond _ a b=>lv nt a&&lv nt b
 | .block _ a=>lv nt a
 | .loop a=>lv nt a
 | .scope a=>lv nt a
 | .rangeFunc _ ps a b=>ps.toList.all (λp=>decide (p<nt))&&(lv nt a&&lv nt b)
 | .skip=>true
 | .label _=>true
 | .exit _=>true
 | .ret=>true
 | _=>false
end Go.Fer
