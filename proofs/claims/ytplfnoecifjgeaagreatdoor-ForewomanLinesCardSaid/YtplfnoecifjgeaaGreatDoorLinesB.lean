/- Part 2 of the proof of Lines: shallow programs of Go functions, and what they compute. No condition. -/
import Derived.Test.YtplfnoecifjgeaaGreatDoorLinesA
import Derived.Laws.BytesString
noncomputable section
set_option linter.unusedVariables false
set_option linter.unusedSimpArgs false
namespace Go.Fer
open Go.RowKit
def hv(P:Program)(e:aa)(F:Nat->Prop)(w:World)(all:List Value)(xs:List e.ak):Prop:=
 all.length=xs.length*e.size/\∀ i (h:i<xs.length),cr P e F w ((all.drop (i*e.size)).take e.size) xs[i]
theorem hv.append{P:Program}{e:aa}{F:Nat->Prop}{w:World}{l m:List Value}{xs bA:List e.ak}(h:hv P e F w l xs)(k:hv P e F w m bA):hv P e F w (l++m) (xs++bA):=by
 refine⟨by simp[h.1,k.1,aKz],λi D=>?_⟩;by_cases al:i<xs.length
 ·have ax:(xs++bA)[i]=xs[i]:=List.getElem_append_left al;rw[ax];have hle:(i+1)*e.size<=xs.length*e.size:=ajo _ (by omega);rw[aKz]at hle;have:((l++m).drop (i*e.size)).take e.size=(l.drop (i*e.size)).take e.size:=by
   rw[List.drop_append_of_le_length (by rw[h.1];omega),List.take_append_of_le_length (by simp[h.1];omega)]
  rw[this];exact h.2 i al
 ·have eE:i - xs.length<bA.length:=by grind
  have ax:(xs++bA)[i]=bA[i - xs.length]:=aK' (by omega);rw[ax];have hm:i*e.size=xs.length*e.size+(i - xs.length)*e.size:=by rw[<-aKz];grind
  have:(l++m).drop (i*e.size)=m.drop ((i - xs.length)*e.size):=by
   rw[hm,<-h.1,List.drop_append];simp
  rw[this];exact k.2 _ eE
theorem hv.Ez{P:Program}{e:aa}{F:Nat->Prop}{w:World}{all pre post:List Value}{cs:Array Value}{xs:List e.ak}(h:hv P e F w all xs)(hc:cs.toList=pre++(all++post)):nk P e F w cs pre.length xs:=by
 intro i D;refine⟨_,λj aI=>?_,h.2 i D⟩;rw[<-aKk,hc,aKc (by omega)];grind
theorem Io{P:Program}{e:aa}{F:Nat->Prop}{w:World}:∀ {xs:List e.ak} {p:Addr},(0<xs.length->p.spot=none)->(∀ i (h:i<xs.length),∃ bI,lJ w ⟨p.block,p.off+i*e.size,none⟩ bI/\cr P e F w bI xs[i])->
  ∃ all,hv P e F w all xs/\lJ w p all
 | [],p,aq,_=>⟨[],⟨by simp,λi D=>by grind⟩,λh=>by grind,λj aI=>by grind⟩
 | x::xs,p,aq,h=>by
  obtain⟨bI,d1,d2⟩:=h 0 (by simp);have cR:=jx e d2;obtain⟨all,cd,a2⟩:=Io (P:=P) (F:=F) (w:=w) (xs:=xs) (p:=⟨p.block,p.off+e.size,none⟩) (λ_=>rfl) (λi D=>by
   obtain⟨V0,aY,a_⟩:=h (i+1) (by grind);grind)
  refine⟨bI++all,?_,λ_=>aq (by simp),λj aI=>?_⟩
  ·have E:hv P e F w bI [x]:=⟨by grind,λi D=>by
    have:i=0:=by grind
    subst this;grind⟩
   exact E.append cd
  ·rcases aLQ j bI.length with E | E
   ·have:=d1.2 j E;grind
   ·have:=a2.2 (j - bI.length) (by grind);grind
section
variable {C:cB} {T:Nat->aa} {bK:Nat->Option aF} {o:Oper} {s:aE} {res:fb}
theorem uc{a:Act}{w:World}{kap:Nat->bP}{F:Nat->Prop}(U:bH C s a w kap F){e:aa}{av:aO}{v:Value}{bA:List e.ak}{l:List Nat}(h:(eg (.slice e) av).run s.W=some (bA,l))(ab:bQ C.P s.W kap F w av v) :
  ∃ q cap,v=.slice q bA.length cap/\((q=none/\bA=[]/\cap=0)\/∃ p all,q=some p/\hv C.P e F w all bA/\lJ w p all):=by
 have BD:∀ {xs:List e.ak},cr C.P (.slice e) F w [v] xs->∃ q cap,v=.slice q xs.length cap/\((q=none/\xs=[]/\cap=0)\/∃ p all,q=some p/\hv C.P e F w all xs/\lJ w p all):=by
  intro xs al;obtain⟨q,cap,ax,m1,m2,m3,m4⟩:=al;refine⟨q,cap,(aKh ax).1,?_⟩;cases q with
  | none=>
   simp_all
  | some p=>
   obtain⟨all,cd,a2⟩:=Io           (λh=>(m4 p rfl (by omega)).2.1) (λi D=>let ⟨bI,d1,d2⟩:=(m4 p rfl (by omega)).2.2 i D;⟨bI,d1.Nf,d2⟩);grind
 cases av with
 | val dL y=>
  simp  [eg,aJ8]at h;obtain⟨z,bD,rfl,_⟩:=h;exact BD (((eH rfl).1 (HY bD ab)).2)
 | bZ=>
  simp  [eg,lF,aa.fE,eJ,aJ8]at h;simp  [bQ]at ab;grind
 | own b g=>
  simp only[eg,lF,aa.fE,if_true,eJ,aM.gV,aM.dC]at h;split at h
  ·rename_i aA;have bd:=U.bR b;unfold cX at bd;split at h
   ·rename_i bt xs ca;simp  at h;obtain⟨z,bD,rfl,_⟩:=h;obtain⟨vA,rfl⟩:=mb bD;have xe:=ab.2 aA.symm (by rw[ca];rfl);rw[ca]at xe bd;simp  [cf.len]at xe;cases aC:(kap b).fK with
    | true=>
     have j0:=bd.1 aC;simp  [bP.slice,if_true]at xe;grind
    | false=>
     obtain⟨cs,jh,bx,c2,c3,c4,c5⟩:=bd.2 aC;simp  [bP.slice,ajq]at xe;obtain⟨all,cd,a2⟩:=Io         (p:=⟨(kap b).W,(kap b).off,none⟩) (λ_=>rfl) (λi D=>by
      obtain⟨bI,d1,d2⟩:=c5 i D;exact⟨bI,⟨λ_=>rfl,λj aI=>by rw[y0 bx];grind⟩,d2⟩)
     grind
   ·rename_i bt xs ca;simp  at h;obtain⟨z,bD,rfl,_⟩:=h;obtain⟨vA,rfl⟩:=mb bD;have xe:=ab.2 aA.symm (by rw[ca];rfl);simp  [cf.len]at xe;simp  [ma]at bd;grind
   grind
  grind
 | sub b g bn D=>
  simp only[eg,lF,aa.fE,if_true,eJ,aM.gV,aM.dC]at h;split at h
  ·rename_i aA;have bd:=U.bR b;unfold cX at bd;split at h
   ·rename_i bt xs ca;simp  at h;obtain⟨z,bD,rfl,_⟩:=h;obtain⟨vA,rfl⟩:=mb bD;cases vA;obtain⟨⟨aY,a_⟩,b7⟩:=ab.2 aA.symm (by rw[ca];rfl);rw[ca]at a_ b7 bd;simp  [cf.len,cf.ga]at a_ b7;have hlen:((xs.take D).drop bn).length=D - bn:=by grind
    rcases b7 with⟨aC,xe⟩ | ⟨aC,oq,xe,hK,gf⟩
    ·have j0:=bd.1 aC;grind
    ·obtain⟨cs,jh,bx,c2,c3,c4,c5⟩:=bd.2 aC;obtain⟨all,cd,a2⟩:=Io (P:=C.P) (F:=F)   (xs:=(xs.take D).drop bn) (p:=⟨(kap b).W,oq,none⟩) (λ_=>rfl) (λi eE=>by
      obtain⟨bI,d1,d2⟩:=c5 (bn+i) (by omega);refine⟨bI,⟨λ_=>rfl,λj aI=>?_⟩,?_⟩
      ·rw[y0 bx];grind
      grind)
     grind
   ·rename_i bt xs ca;simp  at h;obtain⟨z,bD,rfl,_⟩:=h;obtain⟨vA,rfl⟩:=mb bD;cases vA;obtain⟨⟨aY,a_⟩,b7⟩:=ab.2 aA.symm (by rw[ca];rfl);rw[ca]at a_ b7 bd;exact BD (HZ bd aY a_ b7)
   grind
  grind
 | eI dL y=>simp[eg,lF,eJ,aM.none]at h
 | kP u=>simp[eg,lF,aa.fE,eJ,D6]at h
 | _=>simp[eg,lF,aa.fE,eJ,aM.none]at h
theorem BE{P:Program}{w:World}{e:aa}{q:Option Addr}{n cap:Nat}{xs:List e.ak}{F:Nat->Prop}(aC:n=xs.length)(h:(q=none/\xs=[]/\cap=0)\/∃ p all,q=some p/\hv P e F w all xs/\lJ w p all) :
  ∃ all,(Builtin.firstCells e.size n (.slice q n cap)).run P w=.ok all.toArray w/\hv P e F w all xs:=by
 subst aC;rcases h with⟨rfl,rfl,rfl⟩ | ⟨p,all,rfl,cd,a2⟩
 ·exact⟨[],by rfl,by simp[hv]⟩
 ·refine⟨all,?_,cd⟩;simp  [Builtin.firstCells];rw[<-cd.1];exact Ia a2
theorem akF(n:Nat):∀ (k c:Nat),Builtin.growBy n k c<=max c (2*n+768):=by
 intro k;induction k with
 | zero=>simp  [Builtin.growBy];omega
 | succ k aP=>
  simp  [Builtin.growBy];grind
theorem akG{Ip cap:Nat}(h:cap<Ip):Builtin.nextslicecap Ip cap<=2*Ip+768:=by
 unfold Builtin.nextslicecap;split
 ·omega
 ·split
  ·omega
  ·have:=akF Ip 4 cap;omega
theorem akH{z:Array Value}{n k:Nat}(h:z.size=k):(Builtin.zeroCells z n).size=n*k:=by simp[Builtin.zeroCells,h]
theorem akI{P:Program}{w:World}{e:aa}{ty og:TypeId}{F:Nat->Prop}(h:cx P (.slice e) ty)(eA:cx P (.slice e) og\/∃ bt,cx P (.slice bt) og){q q':Option Addr}{cap vC:Nat}{xs bA:List e.ak}
  (al:(q=none/\xs=[]/\cap=0)\/∃ p all,q=some p/\hv P e F w all xs/\lJ w p all) (bh:(q'=none/\bA=[]/\vC=0)\/∃ p all,q'=some p/\hv P e F w all bA/\lJ w p all)
  (hc:cap<xs.length+bA.length) (af:bW (xs.length+bA.length)) (rt:TypeId) :
  ∃ lL sW cs,(Builtin.append_ #[ty,og] rt #[.slice q xs.length cap,.slice q' bA.length vC]).run P w=.ok (.slice (some ⟨w.heap.size,0,none⟩) (xs.length+bA.length) sW) (w.drew.alloc (.cells cs lL))/\
   sW<2 ^ 63/\xs.length+bA.length<=sW/\cs.size=sW*e.size/\nk P e F w cs 0 (xs++bA):=by
 obtain⟨lL,aI,kW,p6⟩:=h.sl;obtain⟨lj,h2⟩:∃ lj,P.underlying og=some (.slice lj):=by
  rcases eA with eA | ⟨bt,eA⟩
  ·obtain⟨lj,k,_⟩:=eA.sl;grind
  ·obtain⟨lj,k,_⟩:=eA.sl;grind
 obtain⟨i,z,i1,i2,i3,i4,i5,i6⟩:=np kW.nn;have bD:=(Er e (P:=P) i5).2;have akJ:∀ t,xs.length+bA.length<=xs.length+bA.length+t % (2 ^ 63 - (xs.length+bA.length))/\xs.length+bA.length+t % (2 ^ 63 - (xs.length+bA.length))<2 ^ 63:=by
  intro t;unfold bW at af;have:t % (2 ^ 63 - (xs.length+bA.length))<2 ^ 63 - (xs.length+bA.length):=Nat.mod_lt _ (by omega);omega
 generalize V3:xs.length+bA.length+(w.tape w.drawn (.appendCap (xs.length+bA.length) cap lL)) % (2 ^ 63 - (xs.length+bA.length))=sW;have NC:=akJ (w.tape w.drawn (.appendCap (xs.length+bA.length) cap lL));rw[V3]at NC;have V4:∀ {p:Addr} {all:List Value},lJ w p all->lJ w.drew p all:=λh=>h;have V5:∀ {all:List Value} {zs:List e.ak},hv P e F w all zs->hv P e F w.drew all zs:=λh=>⟨h.1,λi D=>fQ e     (w:=w)   (λ_ U=>U) ⟨ajn _,λ_ _=>rfl⟩ (h.2 i D)⟩
 have pc:(q=none/\xs=[]/\cap=0)\/∃ p all,q=some p/\hv P e F w.drew all xs/\lJ w.drew p all:=al.imp id λ⟨p,all,a,b,c⟩=>⟨p,all,a,V5 b,V4 c⟩
 have EA:(q'=none/\bA=[]/\vC=0)\/∃ p all,q'=some p/\hv P e F w.drew all bA/\lJ w.drew p all:=bh.imp id λ⟨p,all,a,b,c⟩=>⟨p,all,a,V5 b,V4 c⟩
 obtain⟨xf,hK,gf⟩:=BE       rfl pc;obtain⟨fL,dI,dW⟩:=BE       rfl EA;refine⟨lL,sW,xf.toArray++fL.toArray++Builtin.zeroCells z.cells (sW - (xs.length+bA.length)),?_,NC.2,NC.1,?_,?_⟩
 ·have V:=akG hc;have vD:=by
   unfold bW at af;calc Builtin.nextslicecap (xs.length+bA.length) cap*i.bytes<=(2*4294967296+768)*1024:=Nat.mul_le_mul (by omega) i3
    _<=281474976710656:=by decide
  have BF:¬((xs.length+bA.length:Nat)) > IntKind.i64.max:=by
   have:IntKind.i64.max=9223372036854775807:=by decide
   omega
  have akK:¬Builtin.nextslicecap (xs.length+bA.length) cap*i.bytes > 2 ^ 48:=by
   omega
  have ND:(Question.appendCap (xs.length+bA.length) cap lL).cut (w.tape w.drawn (.appendCap (xs.length+bA.length) cap lL))=sW:=by
   rw[<-V3];rfl
  have akL:(Question.appendCap (xs.length+bA.length) cap lL).forced=false:=rfl;simp only[Builtin.append_,aKV,aKY,aLh,Sem.run_bind,ej aI,ej h2,Result.andThen_ok,tZ i1,i2,Sem.run_pure,Builtin.lenOf,ajh,ajq,if_neg (show ¬xs.length+bA.length<=cap by omega),BF,false_and,H9 i1,akK,run_choose,akL,ND,run_askRoom,aKF,if_true,World.drew_eq,hK,dI,sR i1 i4];rfl
 ·have E:=gf.1;have M:=dW.1;simp  [akH bD,E,M];rw[<-aKz,<-aKz];grind
 ·have mg:=gf.append dW;have akM:hv P e F w (xf++fL) (xs++bA):=⟨mg.1,λi D=>fQ e     (w:=w.drew)   (λ_ U=>U) ⟨ajn _,λ_ _=>rfl⟩ (mg.2 i D)⟩
  exact akM.Ez (pre:=[]) (post:=(Builtin.zeroCells z.cells (sW - (xs.length+bA.length))).toList) (by simp)
end
end Go.Fer
namespace Go.Fer
open Go.RowKit
section
variable {C:cB} {T:Nat->aa} {bK:Nat->Option aF} {o:Oper} {s:aE} {res:fb}
theorem bH.EB{a:Act}{w w':World}{kap:Nat->bP}{F:Nat->Prop}(h:bH C s a w kap F){b g:Nat}{e:aa}{zs:List e.ak}{k:bP}(aA:(s.W b).gen<g)(mN:k.fK=true\/k.W=w.heap.size)(cY:w.heap.size<=w'.heap.size)
  (pf:∀ r,r<w.heap.size->w'.heap[r]?=w.heap[r]?) (cF:k.fK=false->k.W<w'.heap.size) (hc:dP w w')
  (ca:∀ H bX,ma C.P H bX F w' k (.bu e zs)):bH C (s.c' b ⟨g,.bu e zs⟩) a w' (λi=>if i=b then k else kap i) F:=by
 have af:gb s.W kap (λi=>if i=b then (⟨g,.bu e zs⟩) else s.W i) (λi=>if i=b then k else kap i):=Bj aA λbl da=>by grind
 have he:dy F w w':=⟨cY,λr U=>pf r (h.dH r U)⟩
 refine h.move   af (λ_ U=>U) (λ_ U=>.inl U) cY (λr U _=>pf r U) hc (λ_=>?_) ?_ ?_ (λr U=>aJ' (h.dH r U) cY) (Bk (.inr ⟨rfl,rfl⟩) λbl da=>by grind)
 ·intro i;by_cases D:i=b
  ·simp  [cX];grind
  ·exact cX.mG (h.bR i) af (λ_ U=>U) he (by grind) (by grind) λau=>pf _ (h.own i au).1
 ·intro i D;by_cases bN:i=b
  ·subst bN;simp  [cf.cq]at D ⊢;have ah:=mN.resolve_left (by grind);refine⟨cF D,λaw=>?_,.inr (by omega)⟩;have:=h.dH _ aw;omega
  ·simp  [if_neg bN]at D ⊢;have:=h.own i D;grind
 ·intro i j D aI bt;by_cases bN:i=b<;>by_cases od:j=b
  ·omega
  ·simp  [if_pos bN,if_neg od,cf.cq]at D aI bt;have ah:=mN.resolve_left (by grind);have:=(h.own j aI).1;omega
  ·simp  [if_neg bN,if_pos od,cf.cq]at D aI bt;have ah:=mN.resolve_left (by grind);have:=(h.own i D).1;omega
  ·simp  [if_neg bN,if_neg od]at D aI bt;exact h.inj i j D aI bt
theorem akN(s:aE)(b:Nat)(x y:b'):(s.c' b x).c' b y=s.c' b y:=by
 unfold aE.c';grind
theorem bH.akO{a:Act}{w:World}{kap:Nat->bP}{F:Nat->Prop}(h:bH C s a w kap F){b:Nat}{e:aa}{xs:List e.ak}(V:(s.W b).body=.bu e xs){bn D:Nat}(E:bn<=D)(M:D<=xs.length){v:Value}(az:HX (kap b) e.size bn D v) :
  ∃ bX,bH C (s.c' b ⟨(s.W b).gen+1,.bu e ((xs.take D).drop bn)⟩) a w bX F/\v=(bX b).slice ((xs.take D).drop bn).length:=by
 have hlen:((xs.take D).drop bn).length=D - bn:=by grind
 have gW:∀ bX,(∀ bl,bl≠b->bX bl=kap bl)->gb s.W kap (λi=>if i=b then (⟨(s.W b).gen+1,.bu e ((xs.take D).drop bn)⟩) else s.W i) bX:=
  λbX D5=>Bj (aKM _) D5
 have bd:=h.bR b;unfold cX at bd;rw[V]at bd;rcases az with⟨aC,rfl⟩ | ⟨aC,o,rfl,hK,gf⟩
 ·have j0:=bd.1 aC;subst j0;refine⟨kap,?_,by simp[bP.slice,aC]⟩;refine h.move   (gW kap λ_ _=>rfl) (λ_ U=>U) (λ_ U=>.inl U) (ajn _) (λ_ _ _=>rfl) (dP.refl _) (λ_=>?_) ?_ ?_ h.dH (Bk (.inr ⟨rfl,rfl⟩) λ_ _=>rfl)
  ·intro i;by_cases D:i=b
   ·subst D;simp  [cX];exact⟨λ_=>by simp,λh=>by grind⟩
   ·exact cX.mG (h.bR i) (gW kap λ_ _=>rfl) (λ_ U=>U) (dy.refl _ _) (by grind) rfl λ_=>rfl
  ·intro i D;by_cases bN:i=b
   ·subst bN;simp[cf.cq,aC]at D
   ·simp  [if_neg bN]at D;exact⟨(h.own i D).1,(h.own i D).2.1,.inl ⟨i,D,rfl⟩⟩
  ·intro i j D aI bt;by_cases bN:i=b
   ·subst bN;simp[cf.cq,aC]at D
   ·by_cases od:j=b
    ·subst od;simp[cf.cq,aC]at aI
    ·simp  [if_neg bN,if_neg od]at D aI;exact h.inj i j D aI bt
 ·obtain⟨cs,jh,bx,c2,c3,c4,c5⟩:=bd.2 aC;let k':bP:=⟨(kap b).W,o,(kap b).cap - bn,false⟩
  let bX:=λi=>if i=b then k' else kap i
  have EC:∀ bl,bl≠b->bX bl=kap bl:=λbl h=>if_neg h;have ED:bX b=k':=if_pos rfl;have hr:=h.own b (by rw[V];simp[cf.cq,aC]);refine⟨bX,?_,by rw[ED,hlen];rfl⟩;refine h.move   (gW bX EC) (λ_ U=>U) (λ_ U=>.inl U) (ajn _) (λ_ _ _=>rfl) (dP.refl _) (λ_=>?_) ?_ ?_ h.dH (Bk (.inr ⟨rfl,rfl⟩) EC)
  ·intro i;by_cases eE:i=b
   ·subst eE;simp  [cX,ED];have hmul:bn*e.size<=(kap i).cap*e.size:=ajo _ (by omega);refine⟨λh=>(by grind),λ_=>⟨cs,jh,bx,?_,by grind,by grind,λj aI=>?_⟩⟩
    ·simp  [k'];rw[Nat.sub_mul];omega
    ·obtain⟨bI,d1,d2⟩:=c5 (bn+j) (by omega);grind
   ·exact cX.mG (h.bR i) (gW bX EC) (λ_ U=>U) (dy.refl _ _) (by grind) (EC i eE) λ_=>rfl
  ·intro i eE;by_cases bN:i=b
   ·subst bN;rw[ED];exact⟨hr.1,hr.2.1,.inl ⟨i,by rw[V];simp[cf.cq,aC],rfl⟩⟩
   ·simp  [if_neg bN]at eE;rw[EC i bN]at eE ⊢;exact⟨(h.own i eE).1,(h.own i eE).2.1,.inl ⟨i,eE,rfl⟩⟩
  ·intro i j eE aI bt;have V6:∀ i,(bX i).W=(kap i).W:=λi=>by
    grind
   have cG:∀ i,((if i=b then (⟨(s.W b).gen+1,.bu e ((xs.take D).drop bn)⟩) else s.W i).body.cq (bX i)=true)->(s.W i).body.cq (kap i)=true:=λi D=>by
    by_cases bN:i=b
    ·subst bN;rw[V];simp[cf.cq,aC]
    grind
   rw[V6,V6]at bt;exact h.inj i j (cG i eE) (cG j aI) bt
theorem nk.later{P:Program}{e:aa}{F:Nat->Prop}{w w':World}{cs:Array Value}{off:Nat}{xs:List e.ak}(h:nk P e F w cs off xs)(he:dy F w w'):nk P e F w' cs off xs:=h.mono (λ_ U=>U) he
theorem akP(be:eO C.P T){args:Array Operand}{dS:Array TypeId}(bB:∀ i,o.dst=some i->i<C.b5)(au:o.op=.call { callee:=.builtin .append,args:=args,argTypes:=dS })(h:(Eb T (bs C.a8 s.aD) o.dst args.toList dS.toList).run s.W=some res):c8 C o s res:=by
 obtain⟨args⟩:=args;obtain⟨dS⟩:=dS;have an:∀ c,o.op≠.defer c:=by grind
 simp  [Eb]at h;split at h
 ·rename_i x y t u;split at h
  ·rename_i e aU aT hu;have dT:=be.cv aT (by simp);have xa:=be.cv hu (by simp);obtain⟨lL,aI,kW,p6⟩:=dT.sl;obtain⟨akQ,h2,_⟩:=xa.sl;obtain⟨inf,z,i1,i2,i3,i4,i5,i6⟩:=np kW.nn;have oh:∀ (a:Act) (w w':World) v,(Builtin.append_ #[t,u] o.type #[a.eval x,a.eval y]).run C.P w=.ok v w'->(execOp a.eval o).run C.P w=.ok (.value v) w':=by
    intro a w w' v ab;refine y2 au ?_;simp[builtin,ab]
   have main:∀ (s:aE) (a:Act) (w:World) (kap:Nat->bP) (F:Nat->Prop) (Q:Exit->Act->World->Prop) (b g:Nat) (xs bA:List e.ak),bH C s a w kap F->
     (∃ q cap,a.eval y=.slice q bA.length cap/\((q=none/\bA=[]/\cap=0)\/∃ p all,q=some p/\hv C.P e F w all bA/\lJ w p all))->
     (s.W b).gen<g->(∃ q cap,a.eval x=.slice q xs.length cap/\((q=none/\xs=[]/\cap=0)\/∃ p all,q=some p/\hv C.P e F w all xs/\lJ w p all))->
     (∀ q cap,a.eval x=.slice q xs.length cap->q≠none->xs.length+bA.length<=cap->(s.W b).body=.bu e xs/\(kap b).fK=false/\q=some ⟨(kap b).W,(kap b).off,none⟩/\cap=(kap b).cap)->bW (xs.length+bA.length)->
     o.wpIn (e0 C.r) 0 C.P a w (λa' w'=>c7 C ((s.c' b ⟨g,.bu e (xs++bA)⟩).set o.dst (.own b g)) a' w') Q:=by
    intro s a w kap F Q b g xs bA U pg NF ud akR hlen;obtain⟨q,cap,ud,NG⟩:=ud;obtain⟨q',vC,vF,pg⟩:=pg;have NH:∀ (bX:Nat->bP) (v:Value) (w':World),bH C (s.c' b ⟨g,.bu e (xs++bA)⟩) a w' bX F->v=(bX b).slice (xs++bA).length->c7 C ((s.c' b ⟨g,.bu e (xs++bA)⟩).set o.dst (.own b g)) (a.put o.dst v) w':=by
     intro bX v w' bE ab;refine⟨bX,F,bH.set bE bB ⟨⟨by simp[aE.c'],?_⟩,λ_ _=>?_⟩⟩
     ·rw[ab];unfold bP.slice;split<;>rfl
     ·rw[ab];simp[aE.c',cf.len]
    by_cases EE:xs.length+bA.length<=cap
    ·cases bM:q with
     | none=>
      subst bM;obtain⟨akS,Bp⟩:xs=[]/\cap=0:=by
       grind
      subst akS;subst Bp;have NI:bA=[]:=by grind
      subst NI;obtain⟨fL,dI,dW⟩:=BE       rfl pg;have dD:(Builtin.append_ #[t,u] o.type #[a.eval x,a.eval y]).run C.P w=.ok (.slice none 0 0) w:=by
       rw[ud,vF];simp  at dI ⊢;simp[Builtin.append_,ej aI,ej h2,tZ i1,Builtin.lenOf];rw[i2,dI];simp
      refine iw an (oh a w w _ dD) (NH _ _ _ (U.EB (k:=⟨0,0,0,true⟩) NF (.inl rfl) (ajn _) (λ_ _=>rfl) (λh=>by grind) (dP.refl _) λH bX=>⟨λ_=>rfl,λh=>by grind⟩) ?_);simp[bP.slice]
     | some Iq=>
      obtain⟨V,xd,aq,y4⟩:=akR q cap ud (by grind) EE;rw[bM]at aq;have aq:=aKI aq;subst aq;subst y4;have bd:=U.bR b;unfold cX at bd;rw[V]at bd;obtain⟨cs,jh,bx,c2,c3,c4,c5⟩:=bd.2 xd;obtain⟨fL,dI,dW⟩:=BE       rfl pg;have rO:=dW.1;have pd:∀ v∈fL,v.oneCell'=true:=by
       intro v ab;obtain⟨j,aI,rfl⟩:=List.mem_iff_getElem.1 ab;have mh:=aLo p6;have hdiv:j / e.size<bA.length:=(Nat.div_lt_iff_lt_mul mh).2 (by omega);have p3:=dW.2 (j / e.size) hdiv;have jY:=Bo   (H:=λ_=>⟨0,.gp⟩) (kap:=λ_=>⟨0,0,0,true⟩) e p3;have BG:=Nat.mod_lt j mh;have akT:=Nat.div_add_mod' j e.size;have akU:=jx e p3;have:=(jY.mc (j % e.size) (by rw[jY.len];omega)).2;grind
      have akV:(kap b).off+xs.length*e.size+0+fL.length<=cs.size:=by
       have:(xs.length+bA.length)*e.size<=(kap b).cap*e.size:=ajo _ EE;grind
      obtain⟨w',ef,b4,cL,e7,mK,kV,nT⟩:=w9 (P:=C.P) fL ((kap b).off+xs.length*e.size) 0 w cs bx akV pd;have dD:(Builtin.append_ #[t,u] o.type #[a.eval x,a.eval y]).run C.P w=.ok (.slice (some ⟨(kap b).W,(kap b).off,none⟩) (xs.length+bA.length) (kap b).cap) w':=by
       rw[ud,vF,bM];simp only[Builtin.append_,aKV,aKY,aLh,Sem.run_bind,ej aI,ej h2,Result.andThen_ok,tZ i1,i2,Sem.run_pure,Builtin.lenOf,ajh,ajq,if_pos EE,aKF,if_true,dI,w7];simp  [b4]
      have gW:gb s.W kap (λi=>if i=b then (⟨g,.bu e (xs++bA)⟩) else s.W i) kap:=Bj NF λ_ _=>rfl;refine iw an (oh a w w' _ dD) (NH kap _ _ (U.qP   (by rw[V];simp[cf.cq,xd]) (by simp[cf.cq,xd]) gW (λh=>by cases h) (λh=>by cases h) mK kV nT λH oo cF he=>?_) (by simp[bP.slice,xd]));refine⟨λh=>(by grind),λ_=>?_⟩;have Il:ef.size=cs.size:=by
       rw[<-aKi];grind
      refine⟨ef,jh,cL,by omega,by grind,c4,λi D=>?_⟩;simp  at e7;have iR:(cs.toList.take ((kap b).off+xs.length*e.size)).length=(kap b).off+xs.length*e.size:=by grind
      by_cases V7:i<xs.length
      ·obtain⟨bI,d1,d2⟩:=c5 i V7;have ax:(xs++bA)[i]=xs[i]:=List.getElem_append_left V7;rw[ax];refine⟨bI,λk ah=>?_,fQ e (λ_ U=>U) he d2⟩;have akW:=jx e d2;have hle:(i+1)*e.size<=xs.length*e.size:=ajo _ (by omega);rw[aKz]at hle;rw[<-aKk,e7,aKQ (by omega),aLp];grind
      ·have eE:i - xs.length<bA.length:=by grind
       have ax:(xs++bA)[i]=bA[i - xs.length]:=aK' (by omega);rw[ax];have Ir:=dW.Ez     e7;obtain⟨bI,d1,d2⟩:=Ir (i - xs.length) eE;refine⟨bI,λk ah=>?_,fQ e (λ_ U=>U) he d2⟩;have:=d1 k ah;rw[<-this];congr 1;have:i*e.size=xs.length*e.size+(i - xs.length)*e.size:=by rw[<-aKz];grind
       omega
    ·obtain⟨akX,sW,cs,b4,cL,e7,mK,kV⟩:=akI           dT (.inr ⟨aU,xa⟩) NG pg (by omega) hlen o.type;rw[<-ud,<-vF]at b4;refine iw an (oh a w _ _ b4) (NH _ _ _ (U.EB (k:=⟨w.heap.size,0,sW,false⟩) NF (.inr rfl) (by simp) (λr U=>?_) (λ_=>by simp) ⟨rfl,rfl,rfl⟩ λH bX=>⟨λh=>(by grind),λ_=>⟨cs,akX,?_,by grind,by grind,cL,?_⟩⟩) ?_)
     ·exact qO w.drew _ U
     ·exact sM w.drew _
     ·exact kV.later ⟨by simp,λr bE=>qO w.drew _ (U.dH r bE)⟩
     ·simp[bP.slice]
   simp only[Na]at h;split at h
   ·rename_i b g fq;simp  at h;split at h
    ·rename_i bt xs ca;split at h
     ·rename_i sX;subst sX;simp only[aM.fG,aji,aM.dC,ajk]at h;obtain⟨⟨bA,l⟩,mI,rfl⟩:=h;have aA:(s.W b).gen=g/\(s.W b).body=.bu bt xs:=by
       grind
      intro a w kap F Q U bz hc;have al:bQ C.P s.W kap F w (use (bs C.a8 s.aD x)).2 (a.eval x):=df U x rfl bz.1;have pc:=al;rw[fq]at pc;have ab:=pc.2 aA.1.symm (by rw[aA.2];rfl);have j0:(eg (.slice bt) (use (bs C.a8 s.aD x)).2).run s.W=some (xs,[b]):=by
       rw[fq];simp[eg,lF,aa.fE,eJ,aA.1,aA.2,fz]
      refine main s a w kap F Q b (g+1) xs bA U (uc U mI (df U y rfl bz.2)) (by omega) (uc U j0 al) (λq cap bM NJ _=>?_) hc;rw[ab]at bM;cases aC:(kap b).fK with
      | true=>
       simp  [bP.slice,Value.slice.injEq]at bM;grind
      | false=>
       simp  [bP.slice,Value.slice.injEq]at bM;grind
     ·cases h
    ·cases h
   ·rename_i b g bn D fq;simp only[aM.gV]at h;split at h
    ·rename_i bt xs ca;split at h
     ·rename_i sX;subst sX;simp only[aM.fG,aji,aM.dC,ajk]at h;obtain⟨⟨bA,l⟩,mI,rfl⟩:=h;have aA:(s.W b).gen=g/\(s.W b).body=.bu bt xs:=by
       grind
      intro a w kap F Q U bz hc;have al:bQ C.P s.W kap F w (use (bs C.a8 s.aD x)).2 (a.eval x):=df U x rfl bz.1;rw[fq]at al;obtain⟨⟨aY,a_⟩,b7⟩:=al.2 aA.1.symm (by rw[aA.2];rfl);rw[aA.2]at a_ b7;obtain⟨bX,bE,ab⟩:=U.akO aA.2 aY a_ b7;have pg:=uc U mI (df U y rfl bz.2);have V8:(s.c' b ⟨(s.W b).gen+1,.bu bt ((xs.take D).drop bn)⟩).W b=⟨(s.W b).gen+1,.bu bt ((xs.take D).drop bn)⟩:=by simp[aE.c']
      have j0:(eg (.slice bt) (.own b (g+1))).run (s.c' b ⟨(s.W b).gen+1,.bu bt ((xs.take D).drop bn)⟩).W=some ((xs.take D).drop bn,[b]):=by
       simp[eg,lF,aa.fE,eJ,aE.c',aA.1,fz]
      have NG:bQ C.P (s.c' b ⟨(s.W b).gen+1,.bu bt ((xs.take D).drop bn)⟩).W bX F w (.own b (g+1)) (a.eval x):=by
       refine⟨⟨by grind,al.1.2⟩,λ_ _=>?_⟩;rw[V8];exact ab
      have:=main (s.c' b ⟨(s.W b).gen+1,.bu bt ((xs.take D).drop bn)⟩) a w bX F Q b (g+2) ((xs.take D).drop bn) bA bE pg (by grind) (uc bE j0 NG) (λq cap bM NJ _=>?_) hc
      ·rw[akN]at this;exact this
      ·rw[ab]at bM;cases aC:(bX b).fK with
       | true=>
        simp  [bP.slice,Value.slice.injEq]at bM;grind
       | false=>
        simp  [bP.slice,Value.slice.injEq]at bM;grind
     ·cases h
    ·cases h
   ·rename_i fq;simp only[aM.fG,aji]at h;obtain⟨⟨bA,l⟩,mI,h⟩:=h;obtain⟨b,V,ah⟩:=sU h;simp  at ah;subst ah;intro a w kap F Q U bz hc;have al:bQ C.P s.W kap F w (use (bs C.a8 s.aD x)).2 (a.eval x):=df U x rfl bz.1;rw[fq]at al;simp  [bQ]at al;have:=main s a w kap F Q b ((s.W b).gen+1) [] bA U (uc U mI (df U y rfl bz.2)) (aKM _) ⟨none,0,al,.inl ⟨rfl,rfl,rfl⟩⟩ (λq cap bM NJ _=>by grind) (by grind);exact this
   ·rename_i bt xs fq;split at h
    ·rename_i sX;subst sX;simp only[aM.fG,aji]at h;obtain⟨⟨bA,l⟩,mI,h⟩:=h;obtain⟨b,V,ah⟩:=sU h;simp  at ah;subst ah;intro a w kap F Q U bz hc;have al:bQ C.P s.W kap F w (use (bs C.a8 s.aD x)).2 (a.eval x):=df U x rfl bz.1;rw[fq]at al;obtain⟨Et,Eo,Im⟩:=al;have j0:(eg (.slice bt) (.val (.slice bt) xs)).run s.W=some (xs,[]):=by
      simp[eg,fz]
     exact main s a w kap F Q b ((s.W b).gen+1) xs bA U (uc U mI (df U y rfl bz.2)) (aKM _) (uc U j0 Et) (λq cap bM NJ EE=>by
      grind) hc.2
    ·cases h
   ·cases h
  ·cases h
 ·cases h
theorem akY{P:Program}{F:Nat->Prop}{w:World}{all:List Value}{bA:z1'}(h:hv P (.int .u8) F w all bA):all=bA.map (Value.int .u8):=by
 obtain⟨E,M⟩:=h;have E:=E.trans (Nat.mul_one _);apply aLC (by grind);intro i D eE;have ea:i<bA.length:=by omega
 obtain⟨e,_⟩:=M i ea;have az:aa.size (.int .u8)=1:=rfl;rw[az,Nat.mul_one,aJ9 D]at e;grind
theorem V9:∀ (bA:z1') (s:ByteArray),bA.foldl (λr n=>r.push (UInt8.ofNat n.toNat)) s=⟨s.data++(yY bA).toArray⟩
 | [],s=>by rfl
 | y::bA,s=>by
  rw[aKd,V9 bA];simp[yY]
theorem akZ(bA:z1'):bA.foldl (λr n=>r.push (UInt8.ofNat n.toNat)) ByteArray.empty=⟨(yY bA).toArray⟩:=by
 rw[V9];simp
theorem ak0(be:eO C.P T){NK NL:TypeId}{x:Operand}(bB:∀ i,o.dst=some i->i<C.b5)(au:o.op=.convert NK NL x)(h:(cn C.a8 T bK (bs C.a8 s.aD) o).run s.W=some res):c8 C o s res:=by
 simp  [cn,au]at h;split at h
 ·rename_i aY k a_ n t1 t2 al;simp  [cQ,ajk]at h;subst h;refine c8.pure (by grind) bB λa w kap F U bz _=>?_;have E:=p0 (df U x rfl bz) al;have ax:=(be.cv t1 (by simp)).int;have aU:=(be.cv t2 (by simp)).int;refine⟨.int k (k.wrap n),?_,h'.2 ⟨rfl,rK _ _⟩⟩;simp[execOp,au,convert,ej ax,ej aU,E.1,Conv.intToInt]
 ·rename_i t1 t2;simp only[aM.fG,aji,cQ,aM.dC,ajk]at h;obtain⟨⟨bA,l⟩,mI,rfl⟩:=h;refine c8.pure (by grind) bB λa w kap F U bz _=>?_;have hu:=df U x rfl bz;obtain⟨q,cap,ab,pg⟩:=uc U mI hu;have cF:bA.length<2 ^ 63:=by
   have E:=nQ   U.bR (λ_ _=>trivial) mI (λ_ _ _=>trivial) hu;obtain⟨_,M⟩:=(eH rfl).1 E;obtain⟨q',vC,ax,m1,m2,_⟩:=M;omega
  obtain⟨lL,aI,kW,_⟩:=(be.cv t1 (by simp)).sl;have ax:=kW.int;have aU:=(be.cv t2 (by simp)).str;refine⟨.string ⟨(yY bA).toArray⟩,?_,oc.2 ⟨rfl,by simpa [yY]using cF⟩⟩;have hc:(convert NK NL (a.eval x)).run C.P w=.ok (.string ⟨(yY bA).toArray⟩) w:=by
   rw[ab,run_convert_bytes_string w NK NL lL q bA.length cap aI ax aU];rcases pg with⟨rfl,rfl,rfl⟩ | ⟨p,all,rfl,br,vG⟩
   ·rfl
   ·have gl:=akY br;have af:=Ia (P:=C.P) vG;rw[gl,aKD]at af;rw[run_bytesToString w p bA.length cap bA af];refine congrArg (λs=>Result.ok (Value.string s) w) ?_;exact akZ bA
  simp[execOp,au,hc]
 ·cases h
end
end Go.Fer
namespace Go.Fer
open Go.RowKit
theorem je.Bn{P:Program}{k:FuncId}{ts tr:aa}{sh V_:ts.ak->G tr.ak}(h:je P k ts tr sh)(az:∀ x,aR (sh x) (V_ x)):je P k ts tr V_ where
 enter:=h.enter
 ki:=λF w args x bF hs br sY=>by
  obtain⟨E,M⟩:=az x sY;exact (h.ki F w args x bF hs br E).mono λe w' ⟨v,y,ax,aU,cD⟩=>⟨v,y,ax,M y aU,cD⟩
def aF.sh(c:aF)(x:c.ts.ak):G c.tr.ak:=eL (c.pre x) (c.g x)
def ak1(P:Program)(k:FuncId)(ts:aa)(x:ts.ak)(e:aa)(bA:List e.ak):Prop:=
 ∀ (F:Nat->Prop) (w:World) (args:List Value),(∀ r,F r->r<w.heap.size)->o7 P F w->gn P ts F w args x->Calls P k args.toArray w λz w'=>∃ (b:bP) (F':Nat->Prop),z=.returned (b.slice bA.length)/\(∀ r,F r->F' r)/\(∀ r,F' r->F r\/(w.heap.size<=r/\r<w'.heap.size))/\
  (b.fK=true->bA=[])/\(b.fK=false->(w.heap.size<=b.W/\b.W<w'.heap.size/\¬F' b.W)/\∃ cs T,w'.heap[b.W]?=some (.cells cs T (0,0))/\b.off+b.cap*e.size<=cs.size/\bA.length<=b.cap/\b.cap<2 ^ 63/\nk P e F' w' cs b.off bA)/\Below w.heap.size w w'
def EF(P:Program)(k:FuncId)(c:aF):Prop:=(∀ args w,(callFunc k args).run P w=.ok (.enter k args) w)/\∀ x,c.pre x->∀ y,Ed c.tr (c.g x)=some y->ak1 P k c.ts x y.1 y.2
def lM(P:Program)(bK:Nat->Option aF):Prop:=∀ k c,bK k=some c->(pa c.tr=false->je P k c.ts c.tr c.sh)/\(pa c.tr=true->EF P k c)
theorem ak2{t:aa}{y:t.ak}{z:(e:aa)×List e.ak}(h:Ed t y=some z):pa t=true:=by
 unfold Ed at h;unfold pa;grind
theorem ak3{t:aa}{y:t.ak}(h:Ed t y=none):pa t=false:=by
 cases hc:pa t with
 | false=>rfl
 | true=>
  unfold pa at hc;split at hc
  ·cases h
  grind
theorem lk{t:aa}(aT:t.hH=true)(avs:List aO):km t avs=(match avs with | [v]=>eg t v | _=>.none:aM (Option (t.ak×List Nat))):=by
 cases t<;>first
  | (cases aT;done)
  | (rcases avs with _ | ⟨v,_ | ⟨u,aJ⟩⟩<;>rfl)
theorem xg{P:Program}{H:Nat->b'}{kap:Nat->bP}{F F':Nat->Prop}{w:World}(bd:∀ b,cX P H kap F w b)(bF:∀ r,F r->F' r):∀ (t:aa) {avs:List aO} {aJ:List Value} {x:t.ak} {l:List Nat},(km t avs).run H=some (x,l)->
  kl H kap F' l->avs.length=aJ.length->(∀ i (h:i<avs.length) (eA:i<aJ.length),bQ P H kap F w avs[i] aJ[i])->gn P t F' w aJ x:=by
 have hH:∀ (t:aa),t.hH=true->∀ {avs:List aO} {aJ:List Value} {x:t.ak} {l:List Nat},(match avs with | [v]=>eg t v | _=>.none).run H=some (x,l)->
   kl H kap F' l->avs.length=aJ.length->(∀ i (h:i<avs.length) (eA:i<aJ.length),bQ P H kap F w avs[i] aJ[i])->gn P t F' w aJ x:=by
  intro t aT avs aJ x l h af hlen gl;split at h
  ·match aJ,hlen with
   | [u],_=>
    refine (tS aT).2 ⟨u,rfl,nQ bd bF h af ?_⟩;exact gl 0 (by simp) (by simp)
  ·cases h
 intro t;induction t with
 | ar a b gD fy=>
  intro avs aJ x l h af hlen gl;match avs,aJ,hlen with
  | [],_,_=>simp[km,aM.none]at h
  | v::avs,u::aJ,hlen=>
   simp only[km,aM.fG,aji,aJ8]at h;obtain⟨⟨y,m⟩,E,⟨z,eh⟩,M,rfl,rfl⟩:=h;refine D3.2 ⟨nQ bd bF E af.left (gl 0 (by simp) (by simp)),?_⟩;exact fy M af.right (by grind) λi D eE=>by
    have:=gl (i+1) (by grind) (by grind);grind
 | dp=>
  intro avs aJ x l h af hlen gl;match avs,aJ,hlen with
  | [],[],_=>exact⟨rfl,rfl⟩
  | _::_,_,_=>simp[km,aM.none]at h
 | bool=>intro avs aJ x l h;rw[lk rfl]at h;exact hH _ rfl h
 | int k=>intro avs aJ x l h;rw[lk rfl]at h;exact hH (.int k) rfl h
 | str=>intro avs aJ x l h;rw[lk rfl]at h;exact hH _ rfl h
 | ae t _=>intro avs aJ x l h;rw[lk rfl]at h;exact hH (.ae t) rfl h
 | slice e _=>intro avs aJ x l h;rw[lk rfl]at h;exact hH (.slice e) rfl h
 | array n e _=>intro avs aJ x l h;rw[lk rfl]at h;exact hH (.array n e) rfl h
 | bV e _=>intro avs aJ x l h;rw[lk rfl]at h;exact hH (.bV e) rfl h
 | map k v _ _=>intro avs aJ x l h;rw[lk rfl]at h;exact hH (.map k v) rfl h
 | fn a b _ _=>intro avs aJ x l h;rw[lk rfl]at h;exact hH (.fn a b) rfl h
 | cO a _=>intro avs aJ x l h;rw[lk rfl]at h;exact hH (.cO a) rfl h
 | e3=>intro avs aJ x l h;rw[lk rfl]at h;exact hH .e3 rfl h
theorem rP{H:Nat->b'}:∀ (t:aa) {avs:List aO} {x:t.ak} {l:List Nat},(km t avs).run H=some (x,l)->h4 H l:=by
 have hH:∀ (t:aa),t.hH=true->∀ {avs:List aO} {x:t.ak} {l:List Nat},(match avs with | [v]=>eg t v | _=>.none).run H=some (x,l)->h4 H l:=by
  intro t _ avs x l h;split at h
  ·exact oj h
  ·cases h
 intro t;induction t with
 | ar a b gD fy=>
  intro avs x l h;match avs with
  | []=>simp[km,aM.none]at h
  | v::avs=>
   simp only[km,aM.fG,aji,aJ8]at h;obtain⟨⟨y,m⟩,E,⟨z,eh⟩,M,rfl,rfl⟩:=h;exact (oj E).append (fy M)
 | dp=>
  intro avs x l h;match avs with
  | []=>
   simp only[km,aM.dC,ajk,aJ8]at h;rw[<-h.2];exact .nil H
  | _::_=>simp[km,aM.none]at h
 | bool=>intro avs x l h;rw[lk rfl]at h;exact hH _ rfl h
 | int k=>intro avs x l h;rw[lk rfl]at h;exact hH (.int k) rfl h
 | str=>intro avs x l h;rw[lk rfl]at h;exact hH _ rfl h
 | ae t _=>intro avs x l h;rw[lk rfl]at h;exact hH (.ae t) rfl h
 | slice e _=>intro avs x l h;rw[lk rfl]at h;exact hH (.slice e) rfl h
 | array n e _=>intro avs x l h;rw[lk rfl]at h;exact hH (.array n e) rfl h
 | bV e _=>intro avs x l h;rw[lk rfl]at h;exact hH (.bV e) rfl h
 | map k v _ _=>intro avs x l h;rw[lk rfl]at h;exact hH (.map k v) rfl h
 | fn a b _ _=>intro avs x l h;rw[lk rfl]at h;exact hH (.fn a b) rfl h
 | cO a _=>intro avs x l h;rw[lk rfl]at h;exact hH (.cO a) rfl h
 | e3=>intro avs x l h;rw[lk rfl]at h;exact hH .e3 rfl h
theorem ak4{H:Nat->b'}{e:aa}{bw:List (Nat×aO)}:∀ (n i:Nat) {xs:List e.ak} {l:List Nat},(vt e bw i n).run H=some (xs,l)->h4 H l:=by
 intro n;induction n with
 | zero=>intro i xs l h;cases h;exact .nil H
 | succ n aP=>
  intro i xs l h;simp only[vt,aM.fG,aji,aJ8]at h;obtain⟨⟨x,m⟩,E,⟨bA,eh⟩,M,rfl,rfl⟩:=h;refine h4.append ?_ (aP (i+1) M);split at E
  ·exact oj E
  ·simp only[aM.dC,ajk,aJ8]at E;rw[<-E.2];exact .nil H
theorem V'{P:Program}{F F':Nat->Prop}{w w':World}{t:aa}{aJ:List Value}{x:t.ak}(aT:t.pure=true)(h:gn P t F w aJ x):gn P t F' w' aJ x:=⟨h.1,ajN t aT h.2⟩
theorem vH{P:Program}{H:Nat->b'}{kap:Nat->bP}{F:Nat->Prop}{w:World}:∀ (t:aa) {aJ:List Value} {y:t.ak},gn P t F w aJ y->t≠.dp->aJ.length=lb t/\∀ i,i<lb t->bQ P H kap F w (lH t y i) (aJ.getD i Go.undef):=by
 intro t;induction t with
 | ar a b _ fy=>
  intro aJ y h _;obtain⟨v,us,rfl,E,M⟩:=HT h;by_cases V:b=.dp
  ·subst V;have:=M.1;subst this;refine⟨rfl,λi D=>?_⟩;cases i with
   | zero=>exact E
   | succ i=>simp only[lb]at D;omega
  ·obtain⟨aY,a_⟩:=fy M V;refine⟨by simp[lb,aY],λi D=>?_⟩;cases i with
   | zero=>exact E
   | succ i=>
    have:=a_ i (by simp  [lb]at D;omega);simpa [lH]using this
 | dp=>simp
 | _=>
  intro aJ y h _;obtain⟨v,rfl,E⟩:=(tS rfl).1 h;refine⟨rfl,λi D=>?_⟩;simp only[lb]at D;have:i=0:=by omega
  subst this;exact E
theorem EG{P:Program}{H:Nat->b'}{kap:Nat->bP}{F:Nat->Prop}{w:World}{t:aa}{v:Value}{y:t.ak}(h:vm P t F w v y):bQ P H kap F w (sP t y) v:=by
 have rF:=@vH P H kap F w;obtain⟨aJ,E,M⟩:=h;cases t with
 | ar a b=>
  obtain⟨aY,a_⟩:=rF (.ar a b) M (by simp);exact⟨aJ,E,aY,a_⟩
 | dp=>exact E.1
 | _=>
  obtain⟨u,rfl,hu⟩:=(tS rfl).1 M;have:v=u:=by simpa [HQ,eq_comm]using E
  rw[this];exact hu
section
variable {C:cB} {T:Nat->aa} {bK:Nat->Option aF} {o:Oper} {s:aE} {res:fb}
theorem bH.grow{a:Act}{w w':World}{kap:Nat->bP}{F:Nat->Prop}(h:bH C s a w kap F)(V:Below w.heap.size w w'):bH C s a w' kap (w0 F w w'):=by
 have he:dy F w w':=⟨V.size,λr U=>V.block r (h.dH r U)⟩
 refine h.move   (gb.refl _ _) (λ_ U=>.inl U) (λr U=>U.imp id λU=>.inr U.1) V.size (λr U _=>V.block r U) ⟨V.os,V.tape,V.output⟩ (λ_=>?_) ?_ h.inj ?_ (λ_ _ h=>⟨rfl,h⟩)
 ·intro b;exact cX.mG (h.bR b) (gb.refl _ _) (λ_ U=>.inl U) he rfl rfl λau=>V.block _ (h.own b au).1
 ·intro b au;have:=h.own b au;refine⟨aJ' this.1 V.size,λaw=>?_,.inl ⟨b,au,rfl⟩⟩;rcases aw with aw | ⟨aw,_⟩<;>grind
 ·intro r U;rcases U with U | ⟨_,U⟩
  ·exact aJ' (h.dH r U) V.size
  omega
theorem EH{r:Option Nat}{P:Program}{o:Oper}{a:Act}{w:World}{K:Act->World->Prop}{Q:Exit->Act->World->Prop}{f:FuncId}{args:Array Value}{R:Ending->World->Prop}(an:∀ c,o.op≠.defer c)
  (h:(execOp a.eval o).run P w=.ok (.enter f args) w) (hc:Calls P f args w R) (ah:∀ e w',R e w'->∃ v,e=.returned v/\K (a.put o.dst v) w'):o.wpIn (e0 r) 0 P a w K Q:=by
 refine⟨λ_ _=>trivial,?_⟩;rw[Bv an,h];refine⟨λaz=>(by cases az),?_⟩;have E:CallsIn Fence.wide 0 P f args w R:=callsIn_wide.2 hc;have M:=by
  cases r with
  | none=>exact E
  | some l=>exact CallsIn.inRound l E
 refine M.mono λe w' he=>?_;grind
theorem Wa{a:Act}{w:World}{kap:Nat->bP}{F:Nat->Prop}{ts:aa}(U:bH C s a w kap F){args:Array Operand}(bz:ld (args.toList.map (bs C.a8 s.aD))){x:ts.ak}{l:List Nat}
  (al:(km ts ((args.toList.map (bs C.a8 s.aD)).map λv=>(use v).2)).run s.W=some (x,l)):∃ F',(∀ r,F r->F' r)/\bH C (s.cV l) a w kap F'/\gn C.P ts F' w (args.toList.map a.eval) x:=by
 obtain⟨args⟩:=args;obtain⟨F',f1,bE,f2⟩:=bH.mJ (rP ts al) U;refine⟨F',f1,bE,xg U.bR f1 ts al f2 (by simp) λi D eE=>?_⟩;simp;have ea:i<args.length:=by grind
 have E:=t_ bz i (by grind);have ax:(args.map (bs C.a8 s.aD)).getD i .undef=bs C.a8 s.aD args[i]:=by grind
 rw[ax]at E;exact qQ (lf U args[i]) E
theorem Wb{a:Act}{w:World}{kap:Nat->bP}{F:Nat->Prop}{Q:Exit->Act->World->Prop}{K:Act->World->Prop}{k:FuncId}{ts tr:aa}{sh:ts.ak->G tr.ak}(U:bH C s a w kap F)(aw:je C.P k ts tr sh)
  (bB:∀ i,o.dst=some i->i<C.b5) {args:Array Operand} {dS:Array TypeId} (au:o.op=.call { callee:=.value (.func k),args:=args,argTypes:=dS }) (bz:ld (args.toList.map (bs C.a8 s.aD))) {x:ts.ak} {l:List Nat}
  (al:(km ts ((args.toList.map (bs C.a8 s.aD)).map λv=>(use v).2)).run s.W=some (x,l)) (az:(sh x).et)
  (ah:∀ y w',(sh x).bo y->∀ v,c7 C ((if tr.pure then s else s.cV l).set o.dst (sP tr y)) (a.put o.dst v) w'->K (a.put o.dst v) w'):o.wpIn (e0 C.r) 0 C.P a w K Q:=by
 have an:∀ c,o.op≠.defer c:=by grind
 obtain⟨args⟩:=args;have dD:(execOp a.eval o).run C.P w=.ok (.enter k (args.map a.eval).toArray) w:=by
  simp  [execOp,au,resolve,Act.eval,Deferred.ofValue,invoke];have:=aw.enter (args.map a.eval).toArray w;grind
 obtain⟨F',f1,bE,fV⟩:=Wa U bz al;refine EH an dD (aw.ki F' w _ x bE.dH bE.jW fV az) λe w' ⟨v,y,he,bh,ih,V⟩=>⟨v,he,ah y w' bh v ?_⟩
 by_cases aq:tr.pure=true
 ·rw[if_pos aq];have aA:=U.grow V;refine⟨kap,_,aA.set bB (EG ?_)⟩;obtain⟨aJ,dh,ee⟩:=ih;exact⟨aJ,dh,V' aq ee⟩
 ·rw[if_neg aq];have aA:=bE.grow V;exact⟨kap,_,aA.set bB (EG ih)⟩
theorem bH.iS{a:Act}{w w':World}{kap:Nat->bP}{F F':Nat->Prop}(h:bH C s a w kap F){b g:Nat}{e:aa}{bA:List e.ak}{k:bP}(Bl:b<fF)(aA:(s.W b).gen<g)(V:Below w.heap.size w w')
  (bF:∀ r,F r->F' r) (w1:∀ r,F' r->F r\/(w.heap.size<=r/\r<w'.heap.size)) (E:k.fK=true->bA=[])
  (M:k.fK=false->(w.heap.size<=k.W/\k.W<w'.heap.size/\¬F' k.W)/\∃ cs T,w'.heap[k.W]?=some (.cells cs T (0,0))/\k.off+k.cap*e.size<=cs.size/\bA.length<=k.cap/\k.cap<2 ^ 63/\nk C.P e F' w' cs k.off bA) :
  bH C (s.c' b ⟨g,.bu e bA⟩) a w' (λi=>if i=b then k else kap i) F':=by
 have af:gb s.W kap (λi=>if i=b then ⟨g,.bu e bA⟩ else s.W i) (λi=>if i=b then k else kap i):=Bj aA λbl da=>by grind
 refine h.move   af bF (λr U=>(w1 r U).imp id λh=>.inr h.1) V.size (λr U _=>V.block r U) ⟨V.os,V.tape,V.output⟩ (λhe=>?_) ?_ ?_ ?_ (Bk (.inl Bl) λbl da=>by grind)
 ·intro i;by_cases D:i=b
  ·subst D;simp  [cX];exact⟨E,λaC=>(M aC).2⟩
  ·refine cX.mG (h.bR i) af bF he (by grind) (by grind) λau=>?_;exact V.block _ (h.own i au).1
 ·intro i D;by_cases bN:i=b
  ·simp  [cf.cq]at D ⊢;grind
  ·simp  [if_neg bN]at D ⊢;have:=h.own i D;refine⟨aJ' this.1 V.size,λaw=>?_,.inl ⟨i,D,rfl⟩⟩;grind
 ·intro i j D aI bt;by_cases bN:i=b<;>by_cases od:j=b
  ·omega
  ·simp  [if_neg od,cf.cq]at D aI bt;have:=(h.own j aI).1;grind
  ·simp  [if_neg bN,cf.cq]at D aI bt;have:=(h.own i D).1;grind
  ·simp  [if_neg bN,if_neg od]at D aI bt;exact h.inj i j D aI bt
 ·intro r U;rcases w1 r U with eA | eA
  ·exact aJ' (h.dH r eA) V.size
  omega
theorem ak5(dk:lM C.P bK){k:FuncId}{args:Array Operand}{dS:Array TypeId}(bB:∀ i,o.dst=some i->i<C.b5)(au:o.op=.call { callee:=.value (.func k),args:=args,argTypes:=dS })(h:(cn C.a8 T bK (bs C.a8 s.aD) o).run s.W=some res):c8 C o s res:=by
 simp only[cn,au,oe,H5]at h;split at h
 ·rename_i c hc;simp only[aM.fG,aji]at h;obtain⟨⟨x,l⟩,al,h⟩:=h;split at h
  ·rename_i y bh;simp  [aM.run_bind]at h;obtain⟨d,an,h⟩:=sU h;split at h
   ·grind
   cases h;have EI:d ∉ l:=by grind
   have eM:=bB d an;intro a w kap F Q U bz iR;obtain⟨aY,a_⟩:=(dk k c hc).2 (ak2 bh);obtain⟨F',f1,bE,fV⟩:=Wa U bz al;have dD:(execOp a.eval o).run C.P w=.ok (.enter k (args.map a.eval)) w:=by
    simp  [execOp,au,resolve,Act.eval,Deferred.ofValue,invoke];grind
   have jj:=a_ x iR y bh F' w _ bE.dH bE.jW fV;rw[show (args.toList.map a.eval).toArray=args.map a.eval from by grind]at jj;refine EH (by grind) dD jj λz w' ⟨b,F2,bD,g1,eB,g3,g4,g5⟩=>⟨_,bD,?_⟩
   have Is:(s.cV l).W d=s.W d:=by simp[aE.cV,EI]
   have mg:=bE.iS   (g:=(s.W d).gen+1)       (aJ' eM U.hq) (by grind) g5 g1 eB g3 g4;refine⟨λi=>if i=d then b else kap i,F2,?_⟩;simp  [aE.jZ];rw[Ep,vw];refine mg.set bB ⟨⟨by simp[aE.c'],by unfold bP.slice;split<;>rfl⟩,λ_ _=>by simp[aE.c',cf.len]⟩
  rename_i bh;simp  [aM.run_bind,ajk]at h;subst h;intro a w kap F Q U bz iR;refine Wb U ((dk k c hc).1 (ak3 bh)) bB au bz al iR λy w' bh v ot=>?_;have bh:y=c.g x:=bh;have e:∀ (r:aM (List (Nat×b'))),r=(if c.tr.pure then .ret [] else kT l)->s.hS (r.run s.W)=(if c.tr.pure then s else s.cV l):=by
   intro r U;subst U;split
   ·rfl
   ·exact vw s l
  simp  [aE.jZ];grind
 ·cases h
theorem Wc{P:Program}{H:Nat->b'}{kap:Nat->bP}{F F':Nat->Prop}{w:World}(bd:∀ b,cX P H kap F w b)(bF:∀ r,F r->F' r){e:aa}{zero:List Value}(bD:cr P e F' w zero e.dK){bw:List (Nat×aO)}{hT:List (Nat×Value)}(hlen:bw.length=hT.length)
  (gl:∀ i (h:i<bw.length) (eA:i<hT.length),bw[i].1=hT[i].1/\bQ P H kap F w bw[i].2 hT[i].2):∀ (n i:Nat) {xs:List e.ak} {l:List Nat},(vt e bw i n).run H=some (xs,l)->
  kl H kap F' l->xs.length=n/\∀ j (h:j<xs.length),∃ bI,cr P e F' w bI xs[j]/\(match hT.find? (λp=>p.1 == i+j) with | some q=>bI=q.2.cells.toList | none=>bI=zero):=by
 have find:∀ (bw:List (Nat×aO)) (hT:List (Nat×Value)),bw.length=hT.length->(∀ i (h:i<bw.length) (eA:i<hT.length),bw[i].1=hT[i].1/\bQ P H kap F w bw[i].2 hT[i].2)->∀ i,(bw.find? (λp=>p.1 == i)=none/\hT.find? (λp=>p.1 == i)=none)\/∃ p q,bw.find? (λp=>p.1 == i)=some p/\hT.find? (λp=>p.1 == i)=some q/\bQ P H kap F w p.2 q.2:=by
  intro bw;induction bw with
  | nil=>grind
  | cons p bw aP=>
   intro hT af h i;cases hT with
   | nil=>grind
   | cons q hT=>
    by_cases aq:p.1=i
    ·grind
    ·have:=aP hT (by grind) (λj aI h2=>by have:=h (j+1) (by grind) (by grind);grind) i;grind
 intro n;induction n with
 | zero=>intro i xs l h _;cases h;simp
 | succ n aP=>
  intro i xs l h af;simp only[vt,aM.fG,aji,aJ8]at h;obtain⟨⟨x,m⟩,E,⟨bA,eh⟩,M,rfl,rfl⟩:=h;obtain⟨aY,a_⟩:=aP (i+1) M af.right;refine⟨by grind,λj aI=>?_⟩;cases j with
  | zero=>
   rcases find bw hT hlen gl i with⟨f1,f2⟩ | ⟨p,q,f1,f2,f3⟩
   ·rw[f1]at E;simp  at E;grind
   ·rw[f1]at E;refine⟨q.2.cells.toList,(nQ bd bF E af.left f3).2,?_⟩;grind
  | succ j=>
   obtain⟨bI,d1,d2⟩:=a_ j (by grind);grind
end
end Go.Fer
namespace Go.Fer
open Go.RowKit
def ue(d:Nat)(em:Bool)(xs:Array Value):List Field->Sem Unit
 | []=>pure ()
 | f::fA=>
  if f.name ≠ "_" then do
   let a <-part f.type xs f.offset
   Instr.checkKey em d f.type a
   ue d em xs fA
  else ue d em xs fA
theorem ak6{P:Program}(w:World)(em:Bool)(d:Nat)(t:TypeId)(xs:Array Value)(aT:P.underlying t=some (.struct (P.fieldsOf t))) :
  (Instr.checkKey em (d+1) t (.agg xs)).run P w=(ue d em xs (P.fieldsOf t).toList).run P w:=by
 simp only[Instr.checkKey,Sem.run_bind,ej aT,Result.andThen_ok];rw[<-Array.forIn_toList];generalize (P.fieldsOf t).toList=fA;induction fA generalizing w with
 | nil=>rfl
 | cons f fA aP=>
  simp only[List.forIn_cons,ue,Sem.run_bind,Sem.run_ite];split
  ·generalize (part f.type xs f.offset).run P w=b4;cases b4 with
   | ok a cj=>
    simp;generalize (Instr.checkKey em d f.type a).run P cj=cL;cases cL<;>simp_all
   | halt x cj=>rfl
  simp_all
theorem EJ{P:Program}{F:Nat->Prop}{w:World}{em:Bool}:∀ (t:aa) (d:Nat),t.nP=true->t.mH<=d->
  (∀ {id:TypeId} {v:Value} {x:t.ak},cx P t id->e4 P t F w v x->(Instr.checkKey em d id v).run P w=.ok () w)/\
  (∀ {l:List Field} {off:Nat} {xs:Array Value} {p c q:List Value} {x:t.ak},cZ P t (.inr (l,off))=true->xs.toList=p++(c++q)->p.length=off->cr P t F w c x->
   (ue d em xs l).run P w=.ok () w):=by
 intro t;induction t with
 | bool=>
  intro d _ an;refine⟨λ{id v x} h E=>?_,λh=>by simp[cZ]at h⟩;obtain⟨d,rfl⟩:∃ e,d=e+1:=⟨d - 1,by simp  [aa.mH]at an;omega⟩
  unfold cx at h;simp  [cZ]at h;split at h
  ·rename_i hu;simp[Instr.checkKey,ej hu]
  grind
 | int k=>
  intro d _ an;refine⟨λ{id v x} h E=>?_,λh=>by simp[cZ]at h⟩;obtain⟨d,rfl⟩:∃ e,d=e+1:=⟨d - 1,by simp  [aa.mH]at an;omega⟩
  simp[Instr.checkKey,ej (cx.int h)]
 | str=>
  intro d _ an;refine⟨λ{id v x} h E=>?_,λh=>by simp[cZ]at h⟩;obtain⟨d,rfl⟩:∃ e,d=e+1:=⟨d - 1,by simp  [aa.mH]at an;omega⟩
  simp[Instr.checkKey,ej (cx.str h)]
 | dp=>intro d h;cases h
 | slice e _=>intro d h;cases h
 | array n e _=>intro d h;cases h
 | bV e _=>intro d h;cases h
 | map k v _ _=>intro d h;cases h
 | fn a b _ _=>intro d h;cases h
 | cO a _=>intro d h;cases h
 | e3=>intro d h;cases h
 | ar a b gD fy=>
  intro d hc an;simp  [aa.nP]at hc;simp  [aa.mH]at an;have Nj:=gD d hc.1 (by omega);have qM:=fy d hc.2 (by omega);refine⟨λh=>by unfold cx at h;simp[cZ]at h,?_⟩;intro l off xs p c q x h al aq sT;obtain⟨bx,c2,rfl,aY,a_⟩:=sT;have dO:=jx a aY;have step : ∀ (f : Field) (cK : List Field), f.offset = off -> cx P a f.type -> f.name ≠ "_" -> (ue d em xs (f :: cK)).run P w = (ue d em xs cK).run P w := by
   intro f cK au aw aC;obtain⟨v,b4,cL⟩:=sS (cs:=xs) (p:=p)   (q:=c2++q) aw (by grind) aY;simp  [ue,aC,Sem.run_bind];rw[au,<-aq,b4,Result.andThen_ok,Nj.1 aw cL,Result.andThen_ok]
  match l,h with
  | [],h=>rfl
  | [f],h=>simp  [cZ]at h
  | [f,g],h=>
   simp  [cZ,ne_eq]at h;obtain⟨⟨⟨⟨E,M⟩,ai⟩,bf⟩,⟨⟨⟨b2,d_⟩,hn⟩,jL⟩⟩:=h;rw[step f [g] E M bf];obtain⟨v,b4,cL⟩:=sS (cs:=xs) (p:=p++bx)   (q:=q) d_ (by grind) a_;have ax:(p++bx).length=g.offset:=by grind
   rw[ax]at b4;simp  [ue,b4,qM.1 d_ cL]
  | f::g::i::l,h=>
   simp  [cZ,ne_eq]at h;obtain⟨⟨⟨⟨E,M⟩,ai⟩,bf⟩,b2⟩:=h;rw[step f _ E M bf,qM.2 b2 (p:=p++bx)   (q:=q) (by grind) (by grind) a_]
 | ae t aP=>
  intro d hc an;simp  [aa.mH]at an;obtain⟨d,rfl⟩:∃ e,d=e+1:=⟨d - 1,by omega⟩
  refine⟨λ{id v x} h E=>?_,λh=>by simp[cZ]at h⟩;have i:=aP d hc (by omega);obtain⟨ax,aU,cD,eZ⟩:=h.Eh;obtain⟨⟨xs,rfl,j0⟩,sT⟩:=E;simp  [Value.cells]at sT;rw[ak6 w em d id xs eZ];rcases cD with cD | ⟨f,cD,fR,hf,Ek⟩ | ⟨rfl,cD⟩
  ·exact i.2 cD (p:=[])   (q:=[]) (by simp) rfl sT
  ·rw[cD];obtain⟨v,b4,cL⟩:=sS (cs:=xs) (p:=[])   (q:=[]) hf (by simp) sT;simp  at b4;simp  [ue,fR,b4,i.1 hf cL]
  ·cases hc
theorem NM:∀ (t:aa),t.nP=true->∀ (x y:t.ak),h3 t x y=true<->x=y:=by
 intro t;induction t with
 | bool=>simp[h3]
 | int k=>simp[h3]
 | str=>simp[h3]
 | ae t aP=>intro h x y;exact aP h x y
 | ar a b gD fy=>
  intro h x y;simp  [aa.nP]at h;simp  [h3,fy h.2];grind
 | _=>intro h;cases h
def BH{k:aa}{bet:Type}(x:k.ak)(es:List MapEntry)(xs:List (k.ak×bet))(i:Nat)(r:Option (Nat×Value)):Prop:=
 (r=none/\∀ p∈xs,h3 k x p.1=false)\/∃ j e p,es[j]?=some e/\xs[j]?=some p/\h3 k x p.1=true/\(∀ lj q,lj<j->xs[lj]?=some q->h3 k x q.1=false)/\r=some (i+j,e.val)
theorem BH.next{k:aa}{bet:Type}{x:k.ak}{e:MapEntry}{es:List MapEntry}{p:k.ak×bet}{xs:List (k.ak×bet)}{i:Nat}{r:Option (Nat×Value)}(h:BH x es xs (i+1) r)(aq:h3 k x p.1=false):BH x (e::es) (p::xs) i r:=by
 rcases h with⟨E,M⟩ | ⟨j,bt,p',E,M,ai,bf,b2⟩
 ·exact .inl ⟨E,λq bM=>by
   grind⟩
 ·refine .inr ⟨j+1,bt,p',by grind,by grind,ai,λlj q h2 bM=>?_,by grind⟩;grind
theorem Wd{P:Program}{F:Nat->Prop}{w:World}{k:aa}{bet:Type}(hc:k.nP=true)(aC:k.mH<=10000){mO:TypeId}(ah:cx P k mO){vI:Value}{x:k.ak}(al:e4 P k F w vI x):∀ (es:List MapEntry) (xs:List (k.ak×bet)) (i:Nat),es.length=xs.length->(∀ (j:Nat) (e:MapEntry) (p:k.ak×bet),es[j]?=some e->xs[j]?=some p->e4 P k F w e.key p.1)->∃ r,(Instr.findAsking mO vI es i).run P w=.ok r w/\BH x es xs i r
 | [],[],i,_,_=>⟨none,rfl,.inl ⟨rfl,λp aq=>by grind⟩⟩
 | e::es,p::xs,i,af,h=>by
  have aZ:=h 0 e p rfl rfl;have he:=(Ni k 10000 hc aC).1 ah al aZ;obtain⟨r,b4,cL⟩:=Wd   hc aC ah al es xs (i+1) (by grind) λj bt p' E M=>h (j+1) bt p' (by grind) (by grind);cases bM:h3 k x p.1 with
  | true=>
   refine⟨some (i,e.val),by simp[Instr.findAsking,Op.equal,Op.maxDepth,he,bM],.inr ⟨0,e,p,rfl,rfl,bM,λlj q h2=>by omega,rfl⟩⟩
  | false=>exact⟨r,by simp[Instr.findAsking,Op.equal,Op.maxDepth,he,bM,b4],cL.next bM⟩
theorem We{P:Program}{F:Nat->Prop}{w:World}{k:aa}{mO:TypeId}(ah:cx P k mO){d:TypeDesc}(an:P.underlying mO=some d){u v:Value}{x y:k.ak}(hu:e4 P k F w u x)(ab:e4 P k F w v y){b:Bool}(h:Instr.sameNow d u v=some b):b=h3 k x y:=by
 cases k with
 | bool=>
  rw[f'.1 hu,f'.1 ab]at h;cases d<;>simp  [Instr.sameNow,reduceCtorEq]at h;rw[<-h];rfl
 | int k=>
  rw[(h'.1 hu).1,(h'.1 ab).1]at h;cases d<;>simp  [Instr.sameNow,reduceCtorEq]at h;rw[<-h];rfl
 | str=>
  rw[(oc.1 hu).1,(oc.1 ab).1]at h;cases d<;>simp  [Instr.sameNow,reduceCtorEq]at h;rw[<-h,beq_toListBytes,ByteArray.toList_eq];simp  [h3];grind
 | ae t=>
  obtain⟨⟨us,rfl,_⟩,_⟩:=hu;cases d<;>cases v<;>simp[Instr.sameNow]at h
 | array n t=>
  obtain⟨⟨us,rfl,_⟩,_⟩:=hu;cases d<;>cases v<;>simp[Instr.sameNow]at h
 | dp=>exact hu.1.elim
 | ar a b=>exact hu.1.elim
 | slice e=>
  obtain⟨_,a,cap,ax,_⟩:=(eH rfl).1 hu;obtain rfl:=(aKh ax).1;cases d<;>simp[Instr.sameNow]at h
 | bV e=>
  obtain⟨_,al⟩:=(eH rfl).1 hu;rcases al with⟨ax,_⟩ | ⟨p,y,bI,ax,_⟩<;>(obtain rfl:=(aKh ax).1;cases d<;>simp[Instr.sameNow]at h)
 | map k' kk=>
  obtain⟨_,al⟩:=(eH rfl).1 hu;rcases al with⟨ax,_⟩ | ⟨r,es,clk,ax,_⟩<;>(obtain rfl:=(aKh ax).1;cases d<;>simp[Instr.sameNow]at h)
 | fn a b=>
  unfold cx at ah;simp  [cZ,an]at ah;cases d<;>simp[Instr.sameNow]at ah h
 | cO a=>
  unfold cx at ah;simp  [cZ,an]at ah;cases d<;>simp[Instr.sameNow]at ah h
 | e3=>
  unfold cx at ah;simp  [cZ,an]at ah;cases d<;>simp[Instr.sameNow]at ah h
theorem Wf{P:Program}{F:Nat->Prop}{w:World}{k:aa}{bet:Type}{mO:TypeId}(ah:cx P k mO){d:TypeDesc}(an:P.underlying mO=some d){vI:Value}{x:k.ak}(al:e4 P k F w vI x):∀ (es:List MapEntry) (xs:List (k.ak×bet)) (i:Nat) {r:Option (Nat×Value)},es.length=xs.length->(∀ (j:Nat) (e:MapEntry) (p:k.ak×bet),es[j]?=some e->xs[j]?=some p->e4 P k F w e.key p.1)->Instr.findNow d vI es i=some r->BH x es xs i r
 | [],[],i,r,_,_,h=>by cases h;exact .inl ⟨rfl,λp aq=>by grind⟩
 | e::es,p::xs,i,r,af,h,aw=>by
  have aZ:=h 0 e p rfl rfl;simp  [Instr.findNow]at aw;split at aw
  ·rename_i az;have:=We ah an al aZ az;cases aw;exact .inr ⟨0,e,p,rfl,rfl,this.symm,λlj q h2=>by omega,rfl⟩
  ·rename_i az;have:=We ah an al aZ az;exact (Wf ah an al es xs (i+1) (by grind) (λj bt p' E M=>h (j+1) bt p' (by grind) (by grind)) aw).next this.symm
  grind
theorem cx.ak7{P:Program}{t:aa}{id:TypeId}(h:cx P t id)(hc:t.nP=true):∃ d,P.underlying id=some d:=by
 cases t with
 | bool=>
  unfold cx at h;simp  [cZ]at h;grind
 | int k=>exact⟨_,cx.int h⟩
 | str=>exact⟨_,cx.str h⟩
 | ae t=>exact⟨_,h.Eh.2.2.2⟩
 | ar a b=>unfold cx at h;simp[cZ]at h
 | _=>cases hc
theorem y5{P:Program}{F:Nat->Prop}{w:World}{k:aa}{bet:Type}(hc:w6 k=true){mO:TypeId}(ah:cx P k mO){vI:Value}{x:k.ak}(al:e4 P k F w vI x){es:List MapEntry}{xs:List (k.ak×bet)}
  (af:es.length=xs.length) (h:∀ (j:Nat) (e:MapEntry) (p:k.ak×bet),es[j]?=some e->xs[j]?=some p->e4 P k F w e.key p.1):∃ r,(Instr.findKey mO vI es).run P w=.ok r w/\BH x es xs 0 r:=by
 simp  [w6,ajl]at hc;obtain⟨d,an⟩:=ah.ak7 hc.1;simp  [Instr.findKey,ej an];cases aC:Instr.findNow d vI es 0 with
 | some r=>exact⟨r,rfl,Wf ah an al es xs 0 af h aC⟩
 | none=>exact Wd hc.1 (by omega) ah al es xs 0 af h
theorem Wg{k v:aa}{es:List (k.ak×v.ak)}{x:k.ak}:∀ {j:Nat} {p:k.ak×v.ak},es[j]?=some p->h3 k x p.1=true->(∀ lj q,lj<j->es[lj]?=some q->h3 k x q.1=false)->Bs es x=some p.2/\∀ y,nS es x y=es.set j (p.1,y):=by
 induction es with
 | nil=>simp
 | cons q es aP=>
  intro j p E M ai;cases j with
  | zero=>
   simp at E;subst E;exact⟨by simp[Bs,M],λy=>by simp[nS,M]⟩
  | succ j=>
   have aZ:=ai 0 q (by omega) rfl;obtain⟨aY,a_⟩:=aP (j:=j)   (by grind) M λlj q' h2 vz=>ai (lj+1) q' (by omega) (by grind);exact⟨by simpa [Bs,aZ]using aY,λy=>by simp[nS,aZ,a_ y]⟩
theorem Wh{k v:aa}{es:List (k.ak×v.ak)}{x:k.ak}(h:∀ p∈es,h3 k x p.1=false):Bs es x=none/\∀ y,nS es x y=es++[(x,y)]:=by
 induction es with
 | nil=>exact⟨rfl,λ_=>rfl⟩
 | cons q es aP=>
  have aZ:=h q (by simp);obtain⟨aY,a_⟩:=aP λp aq=>h p (by grind);exact⟨by simpa [Bs,aZ]using aY,λy=>by simp[nS,aZ,a_ y]⟩
section
variable {C:cB} {T:Nat->aa} {bK:Nat->Option aF} {o:Oper} {s:aE} {res:fb}
theorem ak8{P:Program}{F:Nat->Prop}{w:World}{v:aa}{z:Value}(ab:v.fE=true\/v.isAgg=true)(i5:lG v z.cells.toList=some [])(i6:(∃ cs,z=.agg cs)<->v.isAgg=true):e4 P v F w z v.dK:=by
 obtain⟨c,e,iQ,z2⟩:=w4 (P:=P) (H:=λ_=>⟨0,.gp⟩) (kap:=λ_=>⟨0,0,0,true⟩) (F:=F) (w:=w) v i5;rw[aKg]at e;refine⟨?_,by grind⟩;have af:=jx v iQ;rcases ab with ab | ab
 ·have Nu:∀ cs,z≠.agg cs:=λcs bD=>by
   have:=i6.1 ⟨cs,bD⟩;cases v<;>simp[aa.fE,aa.isAgg]at ab this
  have bD:z.cells=#[z]:=by
   cases z<;>first | rfl | grind
  cases v<;>simp  [aa.fE]at ab<;>exact bD
 ·obtain⟨cs,rfl⟩:=i6.2 ab;have bt:cs.toList=c:=e;cases v<;>simp  [aa.isAgg]at ab
  ·exact⟨cs,rfl,by rw[<-aKi,bt,af];rfl⟩
  ·exact⟨cs,rfl,by rw[<-aKi,bt,af];rfl⟩
def NN(P:Program)(k v:aa)(F:Nat->Prop)(w:World)(ms:List MapEntry)(xs:List (k.ak×v.ak)):Prop:=
 ms.length=xs.length/\∀ (j:Nat) (e:MapEntry) (p:k.ak×v.ak),ms[j]?=some e->xs[j]?=some p->e4 P k F w e.key p.1/\e4 P v F w e.val p.2
theorem w2.es{P:Program}{k v:aa}{F:Nat->Prop}{w:World}{ms:Array MapEntry}{clk:Nat}{xs:List (k.ak×v.ak)}(h:w2 P k v F w ms clk xs):NN P k v F w ms.toList xs:=by
 obtain⟨E,M,ai,bf⟩:=h;refine⟨by omega,λj e p he aq=>?_⟩;obtain⟨aI,rfl⟩:=List.getElem?_eq_some_iff.1 aq;obtain⟨h2,rfl⟩:=List.getElem?_eq_some_iff.1 he;obtain⟨a,b,c,d,_⟩:=ai j aI (by omega);exact⟨⟨a,by grind⟩,c,by grind⟩
theorem ak9{a:Act}{w:World}{kap:Nat->bP}{F:Nat->Prop}(U:bH C s a w kap F){k v:aa}{av:aO}{u:Value}{xs:List (k.ak×v.ak)}(h:(H6 k v av).run s.W=some xs)(hu:bQ C.P s.W kap F w av u) :
  (u=.map none/\xs=[])\/∃ r ms clk,u=.map (some r)/\w.heap[r]?=some (.map ms clk)/\NN C.P k v F w ms.toList xs:=by
 have cV:∀ {xs:List (k.ak×v.ak)},cr C.P (.map k v) F w [u] xs->(u=.map none/\xs=[])\/∃ r ms clk,u=.map (some r)/\w.heap[r]?=some (.map ms clk)/\NN C.P k v F w ms.toList xs:=by
  intro xs al;rcases al with⟨ax,aU⟩ | ⟨r,ms,clk,ax,E,M,ai,bf,b2,d_⟩
  ·grind
  ·exact .inr ⟨r,ms,clk,(aKh ax).1,M,w2.es ⟨ai,bf,b2,d_⟩⟩
 cases av with
 | val t es=>
  exact cV ((eH rfl).1 (HY h hu)).2
 | kP x=>
  simp  [bQ]at hu;have al:u=.map none/\xs=[]:=by
   unfold H6 at h;split at h
   ·grind
   ·simp_all
   ·grind
   ·cases h
  grind
 | gE b g=>
  simp only[H6,aM.gV,aM.dC]at h;split at h
  ·rename_i aA;have bd:=U.bR b;unfold cX at bd;split at h
   ·rename_i k' kk es V;obtain⟨e,rfl⟩:=mb h;cases e;rw[V]at bd;obtain⟨ms,clk,E,M⟩:=bd;exact .inr ⟨_,ms,clk,hu.2 aA.symm (by rw[V];rfl),E,M.es⟩
   ·rename_i k' kk es V;obtain⟨e,rfl⟩:=mb h;have:=hu.2 aA.symm (by rw[V];rfl);simp  [ma]at bd;grind
   grind
  grind
 | _=>cases h
theorem ak_{ty:TypeId}{r:Option Operand}(bB:∀ i,o.dst=some i->i<C.b5)(au:o.op=.makeMap ty r)(h:(cn C.a8 T bK (bs C.a8 s.aD) o).run s.W=some res):c8 C o s res:=by
 simp  [cn,au]at h;split at h
 ·cases h
 ·have ak':r=none:=by simp_all
  subst ak';split at h
  ·rename_i k v aT;obtain⟨b,an,ah⟩:=sU h;simp  at ah;subst ah;intro a w kap F Q U _ _;have dD:(execOp a.eval o).run C.P w=.ok (.value (.map (some w.heap.size))) (w.alloc (.map #[] 0)):=by
    simp[execOp,au,Instr.makeMap]
   have E:=U.alloc   (x:=⟨(s.W b).gen+1,.mp k v []⟩) (U.fB (bB b an)) (aKM _)   (k:=⟨w.heap.size,0,0,false⟩) rfl λH bX _ _ _=>
    ⟨#[],0,sM _ _,rfl,by simp,λi D=>by simp,λi j D=>by simp⟩
   refine iw (by grind) dD ⟨_,F,bH.set   E bB ⟨⟨by simp[aE.c'],rfl⟩,λ_ _=>by simp⟩⟩
  ·cases h
theorem ala(be:eO C.P T){ty:TypeId}{m x:Operand}{ok:Bool}(bB:∀ i,o.dst=some i->i<C.b5)(au:o.op=.lookup ty m x ok)(h:(cn C.a8 T bK (bs C.a8 s.aD) o).run s.W=some res):c8 C o s res:=by
 simp only[cn,au,Bt]at h;split at h
 ·rename_i k v aT;split at h
  ·rename_i hc;simp  at hc;obtain⟨i,j,D,ll,jN⟩:=(be.cv aT (by simp)).mp;simp only[aM.fG,aji,cQ,aM.dC,ajk]at h;obtain⟨es,qS,⟨y,l⟩,bh,rfl⟩:=h;refine c8.pure (by grind) bB λa w kap F U bz _=>?_;have hm:=df U m rfl bz.1;have al:=Em U bh (df U x rfl bz.2);obtain⟨inf,z,i1,i2,i3,i4,i5,i6⟩:=np jN.nn;have hzero:e4 C.P v F w z v.dK:=ak8 hc.2 i5 i6;have fin:∀ (u:Value) (q:Option v.ak),e4 C.P v F w u (q.getD v.dK)->bQ C.P s.W kap F w (VD v q ok) (if ok=true then .tuple #[u,.bool q.isSome] else u):=by
    intro u q ai;cases ok with
    | true=>
     refine⟨[u,.bool q.isSome],rfl,rfl,λi D=>?_⟩;match i,D with
     | 0,_=>exact ai
     | 1,_=>exact f'.2 rfl
    | false=>exact ai
   have nO:=hc.1;have fX:=by simpa [w6]using nO
   rcases ak9 U qS hm with⟨hu,aC⟩ | ⟨r,ms,clk,hu,hw,mP⟩
   ·subst aC;have eP:=(EJ (em:=true) k 10000 fX.1 (by omega)).1 ll al;obtain⟨f,f1,f2⟩:=y5 (bet:=v.ak) (xs:=[]) (es:=[]) nO ll al rfl (λj e p h=>by simp);rcases f2 with⟨rfl,_⟩ | ⟨j,e,p,E,_⟩
    ·refine⟨_,?_,fin z none hzero⟩;simp  [execOp,au,hu,Instr.lookup,ej D,Sem.run_pure];simp  [eP,f1];cases ok<;>simp[sR i1 i4]
    grind
   ·have eP:=(EJ (em:=ms.isEmpty) k 10000 fX.1 (by omega)).1 ll al;obtain⟨f,f1,f2⟩:=y5       nO ll al mP.1 (λj e p E M=>by
     have:=(mP.2 j e p E M).1;exact⟨this.1,fQ k (λ_ _=>trivial) (dy.refl F w) this.2⟩)
    have fT:(getObj r).run C.P w=.ok (.map ms clk) w:=by simp[getObj,Sem.run,hw]
    rcases f2 with⟨rfl,fc⟩ | ⟨j,e,p,E,M,ai,bf,rfl⟩
    ·refine⟨_,?_,by rw[(Wh fc).1];exact fin z none hzero⟩;simp only[execOp,au,hu,Instr.lookup,Sem.run_bind,ej D,Result.andThen_ok,Sem.run_pure,fT,eP,f1,sR i1 i4];rfl
    ·refine⟨_,?_,by rw[(Wg M ai bf).1];exact fin e.val (some p.2) (mP.2 j e p E M).2⟩;simp only[execOp,au,hu,Instr.lookup,Sem.run_bind,ej D,Result.andThen_ok,Sem.run_pure,fT,eP,f1];rfl
  ·cases h
 ·cases h
theorem NO(P:Program)(w:World)(xf fL:Value):∃ k' w',(Instr.keyThatStays xf fL).run P w=.ok k' w'/\(k'=fL\/k'=xf)/\(w'=w\/w'=w.drew):=by
 unfold Instr.keyThatStays;split
 ·exact⟨fL,w,rfl,.inl rfl,.inl rfl⟩
 ·have aw : (Question.extern "map.whichKeyStays" 2).forced = false := rfl;simp only[Sem.run_bind,run_choose,aw,ajh,ajq,Result.andThen_ok];split
  ·exact⟨fL,_,rfl,.inl rfl,.inr rfl⟩
  ·exact⟨xf,_,rfl,.inr rfl,.inr rfl⟩
theorem uf{P:Program}{w:World}{r:Nat}{es:Array MapEntry}{clk:Nat}(h:w.heap[r]?=some (.map es clk))(o:Obj):(setObj r o).run P w=.ok () { w with heap:=w.heap.setIfInBounds r o }:=by
 simp[setObj,Sem.run,h]
theorem NP(be:eO C.P T){ty:TypeId}{m x y:Operand}(eM:o.dst=none)(au:o.op=.mapUpdate ty m x y\/o.op=.insert ty m x y)(h:(cn C.a8 T bK (bs C.a8 s.aD) o).run s.W=some res):c8 C o s res:=by
 have an:∀ c,o.op≠.defer c:=by grind
 have nV:∀ rho,cn C.a8 T bK rho o=tY T rho ty m x y:=λrho=>by rcases au with au | au<;>simp  [cn,au]
 have hex:∀ rho w,(execOp rho o).run C.P w=(do Instr.mapUpdate ty (rho m) (rho x) (rho y);pure .skip:Sem Next).run C.P w:=λrho w=>by rcases au with au | au<;>simp  [execOp,au]
 rw[nV]at h;simp  [tY]at h;split at h
 ·rename_i k v aT;obtain⟨mO,BI,D,ll,jN⟩:=(be.cv aT (by simp)).mp;split at h
  ·rename_i hc;split at h
   ·rename_i b g sZ;simp only[aM.fG,aji,aM.run_bind,aM.gV,aM.dC]at h;obtain⟨⟨eF,rI⟩,al,⟨ph,rJ⟩,bh,h⟩:=h;split at h
    ·rename_i aA;obtain⟨aA,xb⟩:=aA;split at h
     ·rename_i k' kk es V;simp  at h;obtain⟨Wi,qS,rfl⟩:=h;obtain⟨e,rfl⟩:=mb qS;cases e;intro a w kap F Q U bz _;obtain⟨F',f1,bE,f2⟩:=bH.mJ ((oj al).append (oj bh)) U;have hm:bQ C.P s.W kap F w (use (bs C.a8 s.aD m)).2 (a.eval m):=df U m rfl bz.1;rw[sZ]at hm;have lN:=hm.2 aA.symm (by rw[V];rfl);have vJ:=nQ U.bR f1 al f2.left (df U x rfl bz.2.1);have It:=nQ U.bR f1 bh f2.right (df U y rfl bz.2.2);have rQ:(s.cV (rI++rJ)).W b=s.W b:=by simp  [aE.cV];grind
      have bd:=bE.bR b;unfold cX at bd;rw[rQ,V]at bd;obtain⟨ms,clk,hw,vK⟩:=bd;have fX:=by simpa [w6]using hc
      have eP:=(EJ (em:=false) k 10000 fX.1 (by omega)).1 ll vJ;have mP:=vK.es;obtain⟨f,dh,ee⟩:=y5       hc ll vJ mP.1 (λj e p E M=>(mP.2 j e p E M).1);have fT:(getObj (kap b).W).run C.P w=.ok (.map ms clk) w:=by simp[getObj,Sem.run,hw]
      have p5:s.hS ((kT (rI++rJ)).run s.W++[(b,⟨(s.W b).gen,.mp k v (nS es eF ph)⟩)])=(s.cV (rI++rJ)).c' b ⟨(s.W b).gen,.mp k v (nS es eF ph)⟩:=by
       rw[Ep,vw]
      have gW:gb (s.cV (rI++rJ)).W kap (λi=>if i=b then (⟨(s.W b).gen,.mp k v (nS es eF ph)⟩) else (s.cV (rI++rJ)).W i) kap:=
       sN (by grind) (λh=>by cases h) (λh=>by cases h) (λ_=>by rw[rQ,V];rfl) (λh=>by cases h)
      obtain⟨iM,NQ,Iu,Wj⟩:=vK;have done:∀ (cj:World) (Iv:Array MapEntry) (Iw:Nat),(cj=w\/cj=w.drew)->
        (execOp a.eval o).run C.P w=.ok .skip { cj with heap:=cj.heap.setIfInBounds (kap b).W (.map Iv Iw) }->
        (∀ {w'},dy F' w w'->w2 C.P k v F' w' Iv Iw (nS es eF ph))->
        o.wpIn (e0 C.r) 0 C.P a w (λa' w'=>c7 C (s.jZ o.dst ⟨(use (bs C.a8 s.aD m)).1/\(use (bs C.a8 s.aD x)).1/\(use (bs C.a8 s.aD y)).1,True,.undef,(kT (rI++rJ)).run s.W++[(b,⟨(s.W b).gen,.mp k v (nS es eF ph)⟩)]⟩) a' w') Q:=by
       intro cj Iv Iw nt dD alb;have dt:cj.heap=w.heap:=by rcases nt with rfl | rfl<;>rfl
       have ko:dP w cj:=by rcases nt with rfl | rfl<;>exact⟨rfl,rfl,rfl⟩
       refine Ib an dD ⟨kap,F',?_⟩;simp  [aE.jZ];rw[p5,eM];refine bE.qP     (by rw[rQ,V];rfl) rfl gW (λh=>by cases h) (λ_=>by rw[rQ,V];rfl) (λr NR=>?_) (by grind) ⟨ko.os,ko.tape,ko.output⟩ λH _ _ he=>?_
       ·grind
       ·exact⟨Iv,Iw,by grind,alb he⟩
      rcases ee with⟨rfl,fc⟩ | ⟨j,e,p,E,M,ai,bf,rfl⟩
      ·refine done w (ms.push { key:=a.eval x,val:=a.eval y,born:=clk }) (clk+1) (.inl rfl) ?_ λ{w'} he=>?_
       ·rw[hex];simp  [lN,Instr.mapUpdate,ej D,fT,eP,dh,uf hw]
       ·rw[(Wh fc).2];refine⟨by grind,?_,λi D eE=>?_,λi j D aI e=>?_⟩
        ·rw[aLs,List.nodup_append];refine⟨NQ,by simp,λq bM q' vz=>?_⟩;obtain⟨p,aq,rfl⟩:=List.mem_map.1 bM;simp  at vz;subst vz;intro e;have:=fc p aq;rw[e,(NM k fX.1 _ _).2 rfl]at this;grind
        ·by_cases ug:i<es.length
         ·obtain⟨aY,a_,b7,hg,p7⟩:=Iu i ug (by omega);have ax:(es++[(eF,ph)])[i]=es[i]:=List.getElem_append_left ug;have aU:(ms.push { key:=a.eval x,val:=a.eval y,born:=clk })[i]=ms[i]'(by omega):=Array.getElem_push_lt (by omega);rw[ax,aU];exact⟨aY,fQ k (λ_ h=>h) he a_,b7,fQ v (λ_ h=>h) he hg,by omega⟩
         ·have alc:i=es.length:=by grind
          subst alc;have ax:(es++[(eF,ph)])[es.length]=(eF,ph):=by simp
          have aU:(ms.push { key:=a.eval x,val:=a.eval y,born:=clk })[es.length]={ key:=a.eval x,val:=a.eval y,born:=clk }:=by
           grind
          rw[ax,aU];exact⟨vJ.1,fQ k (λ_ h=>h) he vJ.2,It.1,fQ v (λ_ h=>h) he It.2,by simp⟩
        grind
      ·have aI:=(List.getElem?_eq_some_iff.1 M).1;have Wk:ms[j]=e:=by
        grind
       have iy:=(List.getElem?_eq_some_iff.1 M).2;have ald:=(NM k fX.1 _ _).1 ai;obtain⟨ln,cj,b4,cL,e7⟩:=NO C.P w e.key (a.eval x);have nt:cj.heap[(kap b).W]?=some (.map ms clk):=by rcases e7 with rfl | rfl<;>exact hw
       refine done cj (ms.modify j λe=>{ e with key:=ln,val:=a.eval y }) clk e7 ?_ λ{w'} he=>?_
       ·rw[hex];simp  [lN,Instr.mapUpdate,ej D,fT,eP,dh];have pf:((ms[j]?).map (·.key)).getD (a.eval x)=e.key:=by
         grind
        rw[pf,b4];simp  [uf nt]
       ·rw[(Wg M ai bf).2];refine⟨by grind,?_,λi D eE=>?_,λi lj D h2 bt=>?_⟩
        ·have:(es.set j (p.1,ph)).map (·.1)=es.map (·.1):=by
          apply aLv;grind
         grind
        ·have ug:i<es.length:=by grind
         have ale:i<ms.size:=by omega
         obtain⟨aY,a_,b7,hg,p7⟩:=Iu i ug ale;by_cases EK:j=i
         ·subst EK;have ax:(es.set j (p.1,ph))[j]=(p.1,ph):=by simp
          have aU:(ms.modify j λe=>{ e with key:=ln,val:=a.eval y })[j]={ key:=ln,val:=a.eval y,born:=ms[j].born }:=by grind
          rw[ax,aU];have w8:e4 C.P k F' w ln p.1:=by
           rcases cL with rfl | rfl
           ·grind
           ·rw[<-Wk,<-iy];exact⟨aY,a_⟩
          exact⟨w8.1,fQ k (λ_ h=>h) he w8.2,It.1,fQ v (λ_ h=>h) he It.2,p7⟩
         ·have ax:(es.set j (p.1,ph))[i]=es[i]:=by grind
          have aU:(ms.modify j λe=>{ e with key:=ln,val:=a.eval y })[i]=ms[i]:=by grind
          rw[ax,aU];exact⟨aY,fQ k (λ_ h=>h) he a_,b7,fQ v (λ_ h=>h) he hg,p7⟩
        grind
     grind
    grind
   ·cases h
  ·cases h
 ·cases h
end
end Go.Fer
namespace Go.Fer
open Go.RowKit
section
variable {C:cB} {T:Nat->aa} {bK:Nat->Option aF} {o:Oper} {s:aE} {res:fb}
theorem Wl{P:Program}{F:Nat->Prop}{w:World}{e:aa}{z:Value}(b2:lG e z.cells.toList=some [])(n:Nat) :
  hv P e F w ((Array.range (n*e.size)).map (λi=>z.cells[i % z.cells.size]!)).toList (List.replicate n e.dK):=by
 obtain⟨c,xh,iQ,z2⟩:=w4 (P:=P) (H:=λ_=>⟨0,.gp⟩) (kap:=λ_=>⟨0,0,0,true⟩) (F:=F) (w:=w) e b2;rw[aKg]at xh;have vL:z.cells.size=e.size:=by rw[<-aKi,xh];exact jx e iQ
 refine⟨by simp,λi D=>?_⟩;have eE:i<n:=by grind
 have hle:(i+1)*e.size<=n*e.size:=ajo _ (by omega);have:((((Array.range (n*e.size)).map (λi=>z.cells[i % z.cells.size]!)).toList.drop (i*e.size)).take e.size)=z.cells.toList:=by
  apply aLv;intro j;simp  [aLp];split
  ·rename_i aI;have BG:(i*e.size+j) % z.cells.size=j:=by rw[vL,Nat.add_comm,Nat.add_mul_mod_self_right,Nat.mod_eq_of_lt aI]
   grind
  grind
 grind
theorem alf{n:Int}(aZ:0<=n)(E:n<=4294967296):IntKind.i64.wrap n=n:=by
 simp  [IntKind.wrap,IntKind.bits];grind
theorem alg(be:eO C.P T){ty:TypeId}{l c:Operand}(bB:∀ i,o.dst=some i->i<C.b5)(au:o.op=.makeSlice ty l c)(h:(cn C.a8 T bK (bs C.a8 s.aD) o).run s.W=some res):c8 C o s res:=by
 simp  [cn,au,H7]at h;split at h
 ·rename_i e aT;split at h
  ·rename_i n m af hm;have dT:=be.cv aT (by simp);obtain⟨lL,aI,kW,p6⟩:=dT.sl;obtain⟨inf,z,i1,i2,i3,i4,i5,i6⟩:=np kW.nn;obtain⟨b,an,ah⟩:=sU h;simp  at ah;subst ah;intro a w kap F Q U bz hc;have aB:=p0 (df U l rfl bz.1) af;have ko:=p0 (df U c rfl bz.2) hm;obtain⟨c0,rfl,bx⟩:=hc;unfold bW at bx;obtain⟨k,rfl⟩:∃ k:Nat,n=k:=⟨n.toNat,by omega⟩
   have hw:=alf (by omega) (by omega);let cs:=(Array.range (k*e.size)).map (λi=>z.cells[i % z.cells.size]!);have mg:hv C.P e F w cs.toList (List.replicate k e.dK):=Wl i5 k;have aG3:=by
    calc inf.bytes*k<=1024*4294967296:=Nat.mul_le_mul i3 (by omega)
     _<=2 ^ 47:=by decide
   have dD:(execOp a.eval o).run C.P w=.ok (.value (.slice (some ⟨w.heap.size,0,none⟩) k k)) (w.alloc (.cells cs lL)):=by
    have alh:¬(inf.bytes*(k:Int) > 2 ^ 48):=by
     omega
    have s3:¬((k:Int)<0):=by omega
    have w8:¬(k > (k:Int)):=by omega
    simp only[execOp,au,Instr.makeSlice,aB.1,ko.1,Sem.run_bind,ej aI,Result.andThen_ok,asInt,asIntOf,Sem.run_pure,H9 i1,hw,alh,s3,w8,aKe,aKZ,ajh,ajq,tZ i1,i2];by_cases xi:k*e.size=0
    ·simp[newRow];grind
    ·simp[xi,sR i1 i4,newRow,cs]
   have ai:=U.EB   (g:=(s.W b).gen+1)   (k:=⟨w.heap.size,0,k,false⟩)   (aKM _) (.inr rfl) (by simp) (λr U=>qO w _ U) (λ_=>by simp) ⟨rfl,rfl,rfl⟩
    (λH bX=>⟨λh=>(by grind),λ_=>⟨cs,lL,sM w _,by grind,by simp,by grind,(mg.Ez (pre:=[]) (post:=[]) (by simp)).later (dy.alloc U.dH _)⟩⟩)
   refine iw (by grind) dD ⟨_,F,bH.set   ai bB ⟨⟨by simp[aE.c'],rfl⟩,λ_ _=>by simp[aE.c',bP.slice,cf.len]⟩⟩
  ·cases h
 ·cases h
theorem hv.take{P:Program}{e:aa}{F:Nat->Prop}{w:World}{all:List Value}{xs:List e.ak}(h:hv P e F w all xs){n:Nat}(aC:n<=xs.length):hv P e F w (all.take (n*e.size)) (xs.take n):=by
 refine⟨by simp only[aLk,h.1];simp,λi D=>?_⟩;have eE:i<n:=by grind
 have ali:(i+1)*e.size<=n*e.size:=ajo _ (by omega);rw[aKz]at ali;have:((all.take (n*e.size)).drop (i*e.size)).take e.size=(all.drop (i*e.size)).take e.size:=by
  rw[List.drop_take,List.take_take,Nat.min_eq_left (by omega)]
 rw[this];simpa using h.2 i (by omega)
theorem Wm{P:Program}{w:World}{e:aa}{q:Option Addr}{n cap:Nat}{xs:List e.ak}{F:Nat->Prop}(aC:n<=xs.length)(h:(q=none/\xs=[]/\cap=0)\/∃ p all,q=some p/\hv P e F w all xs/\lJ w p all) :
  ∃ all,(Builtin.firstCells e.size n (.slice q xs.length cap)).run P w=.ok all.toArray w/\hv P e F w all (xs.take n):=by
 rcases h with⟨rfl,rfl,rfl⟩ | ⟨p,all,rfl,cd,a2⟩
 ·exact⟨[],by rfl,by simp[hv]⟩
 ·have hle:n*e.size<=xs.length*e.size:=ajo _ aC;refine⟨all.take (n*e.size),?_,cd.take aC⟩;simp  [Builtin.firstCells];have af:(all.take (n*e.size)).length=n*e.size:=by simp only[aLk,cd.1];omega
  have U:lJ w p (all.take (n*e.size)):=⟨λaZ=>a2.1 (by grind),λj aI=>by
   have h2:j<all.length:=by grind
   rw[List.getElem_take];exact a2.2 j h2⟩
  have:=Ia (P:=P) U;grind
theorem nk.ho{P:Program}{e:aa}{F:Nat->Prop}{w w':World}{cs ef:Array Value}{off bn:Nat}{xs zs:List e.ak}{fL:List Value}(h:nk P e F w cs off xs)(he:dy F w w')(aC:hv P e F w fL zs)(af:bn+zs.length<=xs.length)
  (rL:off+xs.length*e.size<=cs.size) (hc:ef.toList=cs.toList.take (off+bn*e.size)++(fL++cs.toList.drop (off+bn*e.size+fL.length))):nk P e F w' ef off (Go.Fer.ho xs bn zs):=by
 have hlen:(Go.Fer.ho xs bn zs).length=xs.length:=by simp[Go.Fer.ho];omega
 have alj:(bn+zs.length)*e.size<=xs.length*e.size:=ajo _ af;rw[aKz]at alj;have rO:=aC.1;have iR:(cs.toList.take (off+bn*e.size)).length=off+bn*e.size:=by grind
 intro i D;rw[hlen]at D;have alk:i<bn\/(bn<=i/\i<bn+zs.length)\/bn+zs.length<=i:=by omega
 rcases alk with E | ⟨E,M⟩ | E
 ·obtain⟨bI,d1,d2⟩:=h i D;have akW:=jx e d2;have ax:(Go.Fer.ho xs bn zs)[i]'(by omega)=xs[i]:=by
   simp  [Go.Fer.ho];grind
  rw[ax];refine⟨bI,λj aI=>?_,fQ e (λ_ h=>h) he d2⟩;have hle:(i+1)*e.size<=bn*e.size:=ajo _ (by omega);rw[aKz]at hle;rw[<-aKk,hc,aKQ (by omega),aLp,aKk];grind
 ·have Ir:=aC.Ez     hc;obtain⟨bI,d1,d2⟩:=Ir (i - bn) (by omega);have ax:(Go.Fer.ho xs bn zs)[i]'(by omega)=zs[i - bn]'(by omega):=by
   simp  [Go.Fer.ho];grind
  rw[ax];refine⟨bI,λj aI=>?_,fQ e (λ_ h=>h) he d2⟩;have:=d1 j aI;rw[<-this];congr 1;have:i*e.size=bn*e.size+(i - bn)*e.size:=by rw[<-aKz];grind
  omega
 ·obtain⟨bI,d1,d2⟩:=h i D;have ax:(Go.Fer.ho xs bn zs)[i]'(by omega)=xs[i]:=by
   simp  [Go.Fer.ho];have gW:(xs.take bn).length=bn:=by grind
   rw[aK' (by omega)];grind
  rw[ax];refine⟨bI,λj aI=>?_,fQ e (λ_ h=>h) he d2⟩;have aL:(bn+zs.length)*e.size<=i*e.size:=ajo _ E;rw[aKz]at aL;rw[<-aKk,hc,aKc (by omega),aKc (by omega),iR];grind
theorem hv.one{P:Program}{e:aa}{F:Nat->Prop}{w:World}{fL:List Value}{bA:List e.ak}(h:hv P e F w fL bA)(mh:0<e.size):∀ v∈fL,v.oneCell'=true:=by
 intro v ab;obtain⟨j,aI,rfl⟩:=List.mem_iff_getElem.1 ab;have hdiv:=(Nat.div_lt_iff_lt_mul mh).2 (by rw[<-h.1];omega);have p3:=h.2 (j / e.size) hdiv;have jY:=Bo   (H:=λ_=>⟨0,.gp⟩) (kap:=λ_=>⟨0,0,0,true⟩) e p3;have BG:=Nat.mod_lt j mh;have akT:=Nat.div_add_mod' j e.size;have akU:=jx e p3;have:=(jY.mc (j % e.size) (by rw[jY.len];omega)).2;grind
theorem alm(be:eO C.P T){args:Array Operand}{dS:Array TypeId}(bB:∀ i,o.dst=some i->i<C.b5)(au:o.op=.call { callee:=.builtin .copy,args:=args,argTypes:=dS })(h:(cn C.a8 T bK (bs C.a8 s.aD) o).run s.W=some res):c8 C o s res:=by
 obtain⟨args⟩:=args;obtain⟨dS⟩:=dS;have an:∀ c,o.op≠.defer c:=by grind
 simp  [cn,au,oe,H8]at h;split at h
 ·rename_i x y t u;split at h
  ·rename_i e aU aT hu;have dT:=be.cv aT (by simp);obtain⟨lL,aI,kW,p6⟩:=dT.sl;obtain⟨inf,z,i1,i2,i3,i4,i5,i6⟩:=np kW.nn;have mh:=aLo p6;split at h
   ·rename_i b g bn D Ix;simp only[aM.fG,aji,aM.gV,aM.dC]at h;obtain⟨⟨bA,l⟩,mI,h⟩:=h;split at h
    ·rename_i aA;split at h
     ·rename_i bt xs V;split at h
      ·rename_i sX;subst sX;simp  at h;subst h;intro a w kap F Q U bz _;obtain⟨q',vC,vF,pg⟩:=uc U mI (df U y rfl bz.2);have al:bQ C.P s.W kap F w (use (bs C.a8 s.aD x)).2 (a.eval x):=df U x rfl bz.1;have bd:=U.bR b;unfold cX at bd;rw[V]at bd;have place:bn<=D.getD xs.length/\D.getD xs.length<=xs.length/\(((kap b).fK=true/\∃ cap,a.eval x=.slice none 0 cap)\/((kap b).fK=false/\∃ oq cap,a.eval x=.slice (some ⟨(kap b).W,oq,none⟩) (D.getD xs.length - bn) cap/\(bn<D.getD xs.length->oq=(kap b).off+bn*bt.size))):=by
        split at Ix
        ·rename_i bl g' fq;simp  at Ix;obtain⟨rfl,rfl,rfl,rfl⟩:=Ix;rw[fq]at al;have ab:=al.2 aA.symm (by rw[V];rfl);rw[V]at ab;simp  [cf.len]at ab;refine⟨aKr _,ajn _,?_⟩;cases aC:(kap bl).fK with
         | true=>exact .inl ⟨rfl,0,by simpa [bP.slice,aC]using ab⟩
         | false=>exact .inr ⟨rfl,(kap bl).off,(kap bl).cap,by simpa [bP.slice,aC]using ab,λ_=>by simp⟩
        ·rename_i bl g' aG4 eE fq;obtain⟨rfl,rfl,rfl,rfl⟩:=Ix;rw[fq]at al;obtain⟨⟨aY,a_⟩,b7⟩:=al.2 aA.symm (by rw[V];rfl);simp  [cf.len,cf.ga]at a_ b7;rcases b7 with⟨aC,ab⟩ | ⟨aC,oq,ab,hK,gf⟩
         ·grind
         ·obtain⟨cs,jh,bx,c2,c3,c4,c5⟩:=bd.2 aC;grind
        grind
       obtain⟨fW,lh,p4⟩:=place;have Wn:∀ m,m<=bA.length->m<=xs.length->gS .i64 m:=by
        intro m _ hm;have:=By U   (by rw[V];rfl);rw[V]at this;simp  [cf.len]at this;exact En (by omega)
       generalize a7:D.getD xs.length=dt at *
       have V2:Nat.min bA.length (dt - bn)=min (dt - bn) bA.length:=Nat.min_comm _ _;have aln:(bA.take (dt - bn)).length=min (dt - bn) bA.length:=by simp
       have EL:(ho xs bn (bA.take (dt - bn))).length=xs.length:=by simp[ho];omega
       have gW:gb s.W kap (λi=>if i=b then (⟨(s.W b).gen,.bu bt (ho xs bn (bA.take (dt - bn)))⟩) else s.W i) kap:=
        sN rfl (λh=>by cases h) (λ_=>by rw[V];exact⟨rfl,EL,rfl⟩) (λh=>by cases h) (λh=>by cases h)
       have oh:∀ (w':World) v,(Builtin.copy_ #[t,u] o.type #[a.eval x,a.eval y]).run C.P w=.ok v w'->(execOp a.eval o).run C.P w=.ok (.value v) w':=by
        intro w' v ab;refine y2 au ?_;simp[builtin,ab]
       rcases p4 with⟨aC,cap,ud⟩ | ⟨aC,oq,cap,ud,aG5⟩
       ·have j0:=bd.1 aC;subst j0;have alo:dt=0:=by grind
        subst alo;obtain⟨fL,dI,dW⟩:=Wm       (aKr _) pg;have dD:(Builtin.copy_ #[t,u] o.type #[a.eval x,a.eval y]).run C.P w=.ok (.int .i64 ((0))) w:=by
         simp  [Builtin.copy_,ej aI,ud,vF,Builtin.lenOf,tZ i1,i2];rw[dI];rfl
        refine iw an (oh w _ dD) ⟨kap,F,bH.set (s:=s.c' b _) ?_ bB (h'.2 ⟨by simp,Wn _ (by simp) (by simp)⟩)⟩;have bO:ho ([]) 0 (bA.take (0 - 0))=[]:=by rfl
        have es:s.c' b ⟨(s.W b).gen,.bu bt (ho ([]) 0 (bA.take (0 - 0)))⟩=s:=by
         rw[bO];unfold aE.c';have:(λi=>if i=b then (⟨(s.W b).gen,.bu bt []⟩) else s.W i)=s.W:=by
          funext i;by_cases D:i=b
          ·subst D;simp;rw[<-V]
          grind
         rw[this]
        grind
       ·obtain⟨cs,jh,bx,c2,c3,c4,c5⟩:=bd.2 aC;have Ii:min (dt - bn) bA.length<=bA.length:=Nat.min_le_right _ _;obtain⟨fL,dI,dW⟩:=Wm     Ii pg;have mL:bA.take (min (dt - bn) bA.length)=bA.take (dt - bn):=by
         simp
        rw[mL]at dW;have rO:=dW.1;rw[aln]at rO;have pd:=dW.one mh;have Wo:xs.length*bt.size<=(kap b).cap*bt.size:=ajo _ c3;have EM:(bn+min (dt - bn) bA.length)*bt.size<=xs.length*bt.size:=ajo _ (by omega);rw[aKz]at EM;obtain⟨w',ef,b4,cL,e7,mK,kV,nT⟩:∃ w' ef,(storeCells ⟨(kap b).W,oq,none⟩ fL).run C.P w=.ok () w'/\w'.heap[(kap b).W]?=some (.cells ef jh (0,0))/\ef.toList=cs.toList.take ((kap b).off+bn*bt.size)++(fL++cs.toList.drop ((kap b).off+bn*bt.size+fL.length))/\
          (∀ r,r≠(kap b).W->w'.heap[r]?=w.heap[r]?)/\w'.heap.size=w.heap.size/\dP w w':=by
         by_cases cF:bn<dt
         ·obtain⟨w',ef,b4,cL,e7,mK,kV,nT⟩:=w9 (P:=C.P) fL ((kap b).off+bn*bt.size) 0 w cs bx (by omega) pd;grind
         ·have aZ:min (dt - bn) bA.length=0:=by omega
          rw[aZ,Nat.zero_mul]at rO;have:=aKC rO;subst this;exact⟨w,cs,by rfl,bx,by simp,λ_ _=>rfl,rfl,dP.refl w⟩
        have dD:(Builtin.copy_ #[t,u] o.type #[a.eval x,a.eval y]).run C.P w=.ok (.int .i64 ((min (dt - bn) bA.length:Nat))) w':=by
         simp  [Builtin.copy_,ej aI,ud,vF,Builtin.lenOf,tZ i1,i2];rw[V2,dI];simp  [b4];rfl
        refine iw an (oh w' _ dD) ⟨kap,F,bH.set (s:=s.c' b _) ?_ bB (h'.2 ⟨rfl,Wn _ (by omega) (by omega)⟩)⟩;refine U.qP   (by rw[V];simp[cf.cq,aC]) (by simp[cf.cq,aC]) gW (λh=>by cases h) (λh=>by cases h) mK kV nT λH oo cF he=>?_;refine⟨λh=>(by grind),λ_=>⟨ef,jh,cL,?_,by omega,c4,?_⟩⟩
        ·have:ef.size=cs.size:=by
          rw[<-aKi,e7];simp;omega
         omega
        ·exact c5.ho he dW (by omega) (by omega) e7
      grind
     grind
    grind
   ·cases h
  ·cases h
 ·cases h
theorem Wp(au:(cn C.a8 T bK (bs C.a8 s.aD) o).run s.W=some ⟨True,False,.undef,[]⟩)(h:(cn C.a8 T bK (bs C.a8 s.aD) o).run s.W=some res):c8 C o s res:=by
 intro a w kap F Q _ _ hc;grind
end
end Go.Fer
namespace Go.Fer
open Go.RowKit
section
variable {C:cB} {T:Nat->aa} {bK:Nat->Option aF} {o:Oper} {s:aE} {res:fb}
theorem alp{P:Program}{w:World}{len cap:Nat}{bn:Option Value}{l:Option Int}{k k':IntKind}{h m:Int}(af:(bn=none/\l=none)\/∃ k m,bn=some (.int k m)/\l=some m)
  (E:0<=en l) (M:en l<=h) (ai:h<=m) (bf:m<=(cap:Int)):(Instr.sliceBounds true len cap bn (some (.int k h)) (some (.int k' m))).run P w=.ok ((en l).toNat,h.toNat,m.toNat) w:=by
 rcases af with⟨rfl,rfl⟩ | ⟨k,n,rfl,rfl⟩<;>simp  [en]at E M ⊢
 ·have ax:0<=m/\m<=cap:=by omega
  have aU:0<=h/\h<=m:=by omega
  have cD:max m 0=m:=by omega
  simp[Instr.sliceBounds,Instr.sliceBound,asIntOf,ax,aU,cD]
 ·have ax:0<=m/\m<=cap:=by omega
  have aU:0<=h/\h<=m:=by omega
  have cD:max m 0=m:=by omega
  have eZ:0<=n/\n<=h:=by omega
  have fR:max h 0=h:=by omega
  simp[Instr.sliceBounds,Instr.sliceBound,asIntOf,ax,aU,cD,eZ,fR]
theorem alq(be:eO C.P T){ty:TypeId}{x:Operand}{bn D:Option Operand}{pY:Operand}(bB:∀ i,o.dst=some i->i<C.b5)(au:o.op=.slice ty x bn D (some pY))(h:(cn C.a8 T bK (bs C.a8 s.aD) o).run s.W=some res):c8 C o s res:=by
 simp  [cn,au,H4]at h;split at h
 ·rename_i ol l vu dt yV m bj NA ou;have an:∀ c,o.op≠.defer c:=by grind
  split at h
  ·rename_i bO aT;have dT:=be.cv aT (by simp);obtain⟨j,aI,kW,p6⟩:=dT.sl;simp only[aM.fG,aji]at h;obtain⟨⟨c,v⟩,ji,h⟩:=h;simp  [cQ,ajk]at h;subst h;have runs:∀ (a:Act) (w:World) kap F,bH C s a w kap F->ol->vu->yV->∀ (q:Option Addr) (n cap:Nat),a.eval x=.slice q n cap->0<=en l->en l<=dt->dt<=m->m<=cap->
     (execOp a.eval o).run C.P w=.ok (.value (.slice (if m.toNat=(en l).toNat then q else q.map (·.add ((en l).toNat*bO.size))) (dt.toNat - (en l).toNat) (m.toNat - (en l).toNat))) w:=by
    intro a w kap F U Ex Ey alr q n cap ab bx c2 c3 c4;have cm:(bn.map a.eval=none/\l=none)\/∃ k m,bn.map a.eval=some (.int k m)/\l=some m:=by
     rcases Ew U bj Ex with⟨rfl,rfl⟩ | ⟨y,k,m,rfl,rfl,e⟩<;>grind
    obtain⟨rR,a_,m2,rfl,aU,cD⟩:∃ y k n,D=some y/\dt=n/\a.eval y=.int k n:=by
     rcases Ew U NA Ey with⟨_,h⟩ | ⟨y,k,m,rfl,h,e⟩<;>grind
    obtain⟨b7,eZ⟩:∃ k,a.eval pY=.int k m:=by
     rcases Ew U ou alr with⟨h,_⟩ | ⟨y,k,m,E,M,e⟩<;>grind
    subst aU;have:=alp (P:=C.P) (w:=w) (len:=n) (k:=a_) (k':=b7) cm bx c2 c3 c4;simp[execOp,au,ab,Instr.sliceAt,Instr.slice,ej aI,cD,eZ,this,kW.size]
   unfold VC at ji;split at ji
   ·rename_i e xs fq;simp only[aM.dC]at ji;split at ji
    ·obtain⟨rfl,rfl⟩:=ji;refine c8.pure an bB λa w kap F U bz hc=>?_;have al:bQ C.P s.W kap F w (use (bs C.a8 s.aD x)).2 (a.eval x):=df U x rfl bz.1;rw[fq]at al;obtain⟨_,a',cap,ax,m1,m2,m3,m4⟩:=(eH rfl).1 al;have ax:=(aKh ax).1;simp  [ht]at hc;obtain⟨bx,c2,c3,c4⟩:=hc;subst c3;have hlen:((xs.take dt.toNat).drop (en l).toNat).length=dt.toNat - (en l).toNat:=by
      grind
     refine⟨_,runs a w kap F U bz.2.1 bz.2.2.1 bz.2.2.2 a' xs.length cap ax bx c2 (aKs _) (by omega),(eH rfl).2 ⟨rfl,?_⟩,_,by rw[hlen]⟩;refine⟨_,_,by rw[hlen],by omega,by omega,?_,λp aq Bp=>?_⟩
     ·intro aC;split at aC
      ·omega
      ·cases a'<;>grind
     ·cases a' with
      | none=>grind
      | some q=>
       obtain⟨dI,dW,jM⟩:=m4 q rfl (by omega);have bM:p=⟨q.block,q.off+(en l).toNat*e.size,none⟩:=by
        split at aq
        ·omega
        ·simp  at aq;rw[Ev dW]at aq;grind
       subst bM;refine⟨dI,rfl,λi D=>?_⟩;obtain⟨bI,d1,d2⟩:=jM ((en l).toNat+i) (by omega);grind
    grind
   ·rename_i fq;obtain⟨rfl,rfl⟩:=ji;refine c8.pure an bB λa w kap F U bz hc=>?_;have al:bQ C.P s.W kap F w (use (bs C.a8 s.aD x)).2 (a.eval x):=df U x rfl bz.1;rw[fq]at al;simp  [ht]at hc;have dD:=runs a w kap F U bz.2.1 bz.2.2.1 bz.2.2.2 none 0 0 al (by omega) (by omega) (by omega) (by omega);have aZ:dt.toNat=0:=by omega
    have E:m.toNat=0:=by omega
    have M:(en l).toNat=0:=by omega
    rw[aZ,E,M]at dD;exact⟨_,dD,(eH rfl).2 ⟨rfl,none,0,rfl,ajn _,by decide,λ_=>rfl,λp aq=>by simp⟩,none,rfl⟩
   ·rename_i b g fq;simp only[aM.gV,aM.dC]at ji;split at ji
    ·rename_i bD;simp  at bD;obtain⟨aA,gg⟩:=bD;obtain⟨rfl,rfl⟩:=ji;refine c8.pure an bB λa w kap F U bz hc=>?_;have al:bQ C.P s.W kap F w (use (bs C.a8 s.aD x)).2 (a.eval x):=df U x rfl bz.1;rw[fq]at al;have ab:=al.2 aA.symm gg;obtain⟨dI,dW⟩:=By U gg;obtain⟨bx,c2,c3,c4⟩:=hc;cases aC:(kap b).fK with
     | true=>
      have aZ:=dI aC;simp  [bP.slice,aC]at ab;exact⟨_,runs a w kap F U bz.2.1 bz.2.2.1 bz.2.2.2 none 0 0 ab bx c2 c3 (by omega),trivial⟩
     | false=>
      have y4:=No U gg aC;simp  [bP.slice,aC,ajq]at ab;exact⟨_,runs a w kap F U bz.2.1 bz.2.2.1 bz.2.2.2 _ _ _ ab bx c2 c3 (by omega),trivial⟩
    grind
   ·cases ji
  ·cases h
 ·cases h
theorem als{b:Nat}{e:aa}(V:(s.W b).body=.bu e []):s.c' b ⟨(s.W b).gen,.bu e []⟩=s:=by
 unfold aE.c';have:(λi=>if i=b then (⟨(s.W b).gen,.bu e []⟩) else s.W i)=s.W:=by
  funext i;by_cases D:i=b
  ·subst D;simp;rw[<-V]
  grind
 rw[this]
theorem alu(be:eO C.P T){args:Array Operand}{dS:Array TypeId}(bB:∀ i,o.dst=some i->i<C.b5)(au:o.op=.call { callee:=.builtin .append,args:=args,argTypes:=dS }){b g bn D:Nat}(az:yX (bs C.a8 s.aD) args.toList=some (b,g,bn,D))
  (h:(Ee T (bs C.a8 s.aD) args.toList dS.toList b g bn D).run s.W=some res):c8 C o s res:=by
 obtain⟨args⟩:=args;obtain⟨dS⟩:=dS;have an:∀ c,o.op≠.defer c:=by grind
 simp  [Ee]at h;split at h
 ·rename_i x y t u;have fq:(use (bs C.a8 s.aD x)).2=.sub b g bn D:=by
   simp  [yX]at az;grind
  split at h
  ·rename_i e aU aT hu;have dT:=be.cv aT (by simp);have xa:=be.cv hu (by simp);obtain⟨lL,aI,kW,p6⟩:=dT.sl;obtain⟨akQ,h2,_⟩:=xa.sl;obtain⟨inf,z,i1,i2,i3,i4,i5,i6⟩:=np kW.nn;have mh:=aLo p6;simp only[aM.fG,aji,aM.gV,aM.dC]at h;obtain⟨⟨bA,l⟩,mI,h⟩:=h;split at h
   ·rename_i aA;split at h
    ·rename_i bt xs V;split at h
     ·rename_i sX;subst sX;simp  at h;subst h;intro a w kap F Q U bz hc;obtain⟨q',vC,vF,pg⟩:=uc U mI (df U y rfl bz.2);have al:bQ C.P s.W kap F w (use (bs C.a8 s.aD x)).2 (a.eval x):=df U x rfl bz.1;rw[fq]at al;have bd:=U.bR b;unfold cX at bd;rw[V]at bd;obtain⟨⟨aY,a_⟩,b7⟩:=al.2 aA.symm (by rw[V];rfl);rw[V]at a_ b7;simp  [cf.ga]at a_ b7;have oh:∀ (w':World) v,(Builtin.append_ #[t,u] o.type #[a.eval x,a.eval y]).run C.P w=.ok v w'->(execOp a.eval o).run C.P w=.ok (.value v) w':=by
       intro w' v ab;refine y2 au ?_;simp[builtin,ab]
      have EL:(ho xs D bA).length=xs.length:=by simp[ho];omega
      have gW:gb s.W kap (λi=>if i=b then (⟨(s.W b).gen,.bu bt (ho xs D bA)⟩) else s.W i) kap:=
       sN rfl (λh=>by cases h) (λ_=>by rw[V];exact⟨rfl,EL,rfl⟩) (λh=>by cases h) (λh=>by cases h)
      rcases b7 with⟨aC,ab⟩ | ⟨aC,oq,ab,hK,gf⟩
      ·have j0:=bd.1 aC;subst j0;have rS:D=0:=by grind
       subst rS;have alv:bn=0:=by omega
       subst alv;have NI:bA=[]:=by grind
       subst NI;obtain⟨fL,dI,dW⟩:=BE       rfl pg;have dD:(Builtin.append_ #[t,u] o.type #[a.eval x,a.eval y]).run C.P w=.ok (.slice none 0 0) w:=by
        rw[ab,vF];simp[Builtin.append_,ej aI,ej h2,tZ i1,Builtin.lenOf];simp_all
       have bO:ho ([]:List bt.ak) 0 []=[]:=by rfl
       refine iw an (oh w _ dD) ⟨kap,F,bH.set (s:=s.c' b _) ?_ bB ⟨⟨by simp[aE.c',aA],rfl⟩,λ_ _=>⟨by simp,.inl ⟨aC,rfl⟩⟩⟩⟩;rw[bO,als V];omega
      ·obtain⟨cs,jh,bx,c2,c3,c4,c5⟩:=bd.2 aC;obtain⟨fL,dI,dW⟩:=BE       rfl pg;have rO:=dW.1;have pd:=dW.one mh;have Wo:xs.length*bt.size<=(kap b).cap*bt.size:=ajo _ c3;have EM:(D+bA.length)*bt.size<=xs.length*bt.size:=ajo _ hc;rw[aKz]at EM;obtain⟨w',ef,b4,cL,e7,mK,kV,nT⟩:∃ w' ef,(storeCells ⟨(kap b).W,oq+(D - bn)*bt.size,none⟩ fL).run C.P w=.ok () w'/\w'.heap[(kap b).W]?=some (.cells ef jh (0,0))/\ef.toList=cs.toList.take ((kap b).off+D*bt.size)++(fL++cs.toList.drop ((kap b).off+D*bt.size+fL.length))/\
         (∀ r,r≠(kap b).W->w'.heap[r]?=w.heap[r]?)/\w'.heap.size=w.heap.size/\dP w w':=by
        by_cases cF:bn<(kap b).cap
        ·have xj:oq+(D - bn)*bt.size=(kap b).off+D*bt.size:=by
          rw[gf cF,Nat.add_assoc,<-aKz];grind
         obtain⟨w',ef,b4,cL,e7,mK,kV,nT⟩:=w9 (P:=C.P) fL ((kap b).off+D*bt.size) 0 w cs bx (by omega) pd;grind
        ·have aZ:bA.length=0:=by omega
         rw[aZ,Nat.zero_mul]at rO;have:=aKC rO;subst this;exact⟨w,cs,by rfl,bx,by simp,λ_ _=>rfl,rfl,dP.refl w⟩
       have EE:D - bn+bA.length<=(kap b).cap - bn:=by omega
       have dD:(Builtin.append_ #[t,u] o.type #[a.eval x,a.eval y]).run C.P w=.ok (.slice (some ⟨(kap b).W,oq,none⟩) (D - bn+bA.length) ((kap b).cap - bn)) w':=by
        rw[ab,vF];simp only[Builtin.append_,aKV,aKY,aLh,Sem.run_bind,ej aI,ej h2,Result.andThen_ok,tZ i1,Sem.run_pure,Builtin.lenOf,ajh,ajq,w7];simp_all
       refine iw an (oh w' _ dD) ⟨kap,F,bH.set (s:=s.c' b _) ?_ bB ⟨⟨by simp[aE.c',aA],rfl⟩,λ_ _=>⟨by simp  [aE.c',cf.len];omega,.inr ⟨aC,oq,?_,?_,?_⟩⟩⟩⟩
       ·refine U.qP   (by rw[V];simp[cf.cq,aC]) (by simp[cf.cq,aC]) gW (λh=>by cases h) (λh=>by cases h) mK kV nT λH oo cF he=>?_;refine⟨λh=>(by grind),λ_=>⟨ef,jh,cL,?_,by omega,c4,?_⟩⟩
        ·have:ef.size=cs.size:=by
          rw[<-aKi];grind
         omega
        ·exact c5.ho he dW hc (by omega) e7
       ·grind
       ·simp  [aE.c',cf.ga];omega
       ·simp  [aE.c',cf.ga];omega
     grind
    grind
   grind
  ·cases h
 ·cases h
theorem alw(be:eO C.P T){args:Array Operand}{dS:Array TypeId}(bB:∀ i,o.dst=some i->i<C.b5)(au:o.op=.call { callee:=.builtin .clear,args:=args,argTypes:=dS })
  (h:(Ef T (bs C.a8 s.aD) args.toList dS.toList).run s.W=some res):c8 C o s res:=by
 obtain⟨args⟩:=args;obtain⟨dS⟩:=dS;have an:∀ c,o.op≠.defer c:=by grind
 simp  [Ef]at h;split at h
 ·rename_i x t;split at h
  ·rename_i e aT;have dT:=be.cv aT (by simp);obtain⟨lL,aI,kW,p6⟩:=dT.sl;obtain⟨inf,z,i1,i2,i3,i4,i5,i6⟩:=np kW.nn;have mh:=aLo p6;split at h
   ·rename_i b g bn D fq;simp only[aM.gV,aM.dC]at h;split at h
    ·rename_i aA;split at h
     ·rename_i bt xs V;split at h
      ·rename_i sX;subst sX;simp  at h;subst h;intro a w kap F Q U bz _;have al:bQ C.P s.W kap F w (use (bs C.a8 s.aD x)).2 (a.eval x):=df U x rfl bz;rw[fq]at al;have bd:=U.bR b;unfold cX at bd;rw[V]at bd;obtain⟨⟨aY,a_⟩,b7⟩:=al.2 aA.symm (by rw[V];rfl);rw[V]at a_ b7;simp  [cf.len,cf.ga]at a_ b7;have oh:∀ (w':World) v,(Builtin.clear_ #[t] o.type #[a.eval x]).run C.P w=.ok v w'->(execOp a.eval o).run C.P w=.ok (.value v) w':=by
        intro w' v ab;refine y2 au ?_;simp[builtin,ab]
       have cM:(List.replicate (D - bn) bt.dK).length=D - bn:=by simp
       have EL:(ho xs bn (List.replicate (D - bn) bt.dK)).length=xs.length:=by simp[ho];omega
       have gW:gb s.W kap (λi=>if i=b then (⟨(s.W b).gen,.bu bt (ho xs bn (List.replicate (D - bn) bt.dK))⟩) else s.W i) kap:=
        sN rfl (λh=>by cases h) (λ_=>by rw[V];exact⟨rfl,EL,rfl⟩) (λh=>by cases h) (λh=>by cases h)
       have nothing:D - bn=0->ho xs bn (List.replicate (D - bn) bt.dK)=xs:=λaZ=>by rw[aZ];simp[ho]
       have iP:D - bn=0->s.c' b ⟨(s.W b).gen,.bu bt (ho xs bn (List.replicate (D - bn) bt.dK))⟩=s:=λaZ=>by
        rw[nothing aZ];unfold aE.c';have:(λi=>if i=b then (⟨(s.W b).gen,.bu bt xs⟩) else s.W i)=s.W:=by
         funext i;by_cases D:i=b
         ·subst D;simp;rw[<-V]
         grind
        rw[this]
       rcases b7 with⟨aC,ab⟩ | ⟨aC,oq,ab,hK,gf⟩
       ·have j0:=bd.1 aC;have dD:(Builtin.clear_ #[t] o.type #[a.eval x]).run C.P w=.ok (.tuple #[]) w:=by
         rw[ab];simp[Builtin.clear_,ej aI]
        refine iw an (oh w _ dD) ⟨kap,F,bH.set (s:=s.c' b _) ?_ bB trivial⟩;grind
       ·obtain⟨cs,jh,bx,c2,c3,c4,c5⟩:=bd.2 aC;by_cases aZ:D - bn=0
        ·have dD:(Builtin.clear_ #[t] o.type #[a.eval x]).run C.P w=.ok (.tuple #[]) w:=by
          rw[ab,aZ];simp[Builtin.clear_,ej aI]
         refine iw an (oh w _ dD) ⟨kap,F,bH.set (s:=s.c' b _) ?_ bB trivial⟩;grind
        ·have mg:hv C.P bt F w ((Array.range ((D - bn)*bt.size)).map (λi=>z.cells[i % z.cells.size]!)).toList (List.replicate (D - bn) bt.dK):=Wl i5 _;have vL:z.cells.size=bt.size:=by
          obtain⟨c,xh,iQ,z2⟩:=w4 (P:=C.P) (H:=λ_=>⟨0,.gp⟩) (kap:=λ_=>⟨0,0,0,true⟩) (F:=F) (w:=w) bt i5;rw[aKg]at xh;rw[<-aKi,xh];exact jx bt iQ
         have rO:=mg.1;rw[cM]at rO;have pd:=mg.one mh;revert mg rO pd;generalize mN:((Array.range ((D - bn)*bt.size)).map (λi=>z.cells[i % z.cells.size]!)).toList=fL;intro mg rO pd;have Wo:xs.length*bt.size<=(kap b).cap*bt.size:=ajo _ c3;have EM:(bn+(D - bn))*bt.size<=xs.length*bt.size:=ajo _ (by omega);rw[aKz]at EM;have xj:=gf (by omega);obtain⟨w',ef,b4,cL,e7,mK,kV,nT⟩:=w9 (P:=C.P) fL ((kap b).off+bn*bt.size) 0 w cs bx (by omega) pd;have dD:(Builtin.clear_ #[t] o.type #[a.eval x]).run C.P w=.ok (.tuple #[]) w':=by
          rw[ab];have bD:(Builtin.zeroCells z.cells (D - bn)).toList=fL:=by rw[<-mN,<-vL];rfl
          simp  [Builtin.clear_,ej aI,sR i1 i4];simp_all
         refine iw an (oh w' _ dD) ⟨kap,F,bH.set (s:=s.c' b _) ?_ bB trivial⟩;refine U.qP   (by rw[V];simp[cf.cq,aC]) (by simp[cf.cq,aC]) gW (λh=>by cases h) (λh=>by cases h) mK kV nT λH oo cF he=>?_;refine⟨λh=>(by grind),λ_=>⟨ef,jh,cL,?_,by omega,c4,?_⟩⟩
         ·have:ef.size=cs.size:=by
           rw[<-aKi];grind
          omega
         ·exact c5.ho he mg (by omega) (by omega) (by omega)
      grind
     grind
    grind
   ·cases h
  ·cases h
 ·cases h
end
end Go.Fer
namespace Go.Fer
open Go.RowKit
section
variable {C:cB} {T:Nat->aa} {bK:Nat->Option aF} {o:Oper} {s:aE} {res:fb}
theorem NS{place:Nat->Option (Nat×Nat)}{size:Nat}(aq:∀ i,place i=some (i*size,size)):∀ (hT:List (Nat×Value)) (cs:Array Value),(∀ q∈hT,q.2.cells.size=size/\q.1*size+size<=cs.size)->(hT.map (·.1)).Nodup->
  ∃ ef,Instr.fill place cs hT=some ef/\ef.size=cs.size/\∀ i,i*size+size<=cs.size->(ef.toList.drop (i*size)).take size=(match hT.find? (λp=>p.1 == i) with | some q=>q.2.cells.toList | none=>(cs.toList.drop (i*size)).take size)
 | [],cs,_,_=>⟨cs,rfl,rfl,λi _=>rfl⟩
 | (k,v)::hT,cs,h,aC=>by
  obtain⟨E,M⟩:=h (k,v) (by simp);have Ik:=Ih v.cells.toList 0 (k*size) cs (by grind);have e:(v.cells.zipIdx.foldl (λcs p=>cs.setIfInBounds (k*size+p.2) p.1) cs)=((v.cells.toList.zipIdx 0).foldl (λcs p=>cs.setIfInBounds (k*size+p.2) p.1) cs):=by
   rw[<-Array.foldl_toList];simp
  generalize aG6:(v.cells.zipIdx.foldl (λcs p=>cs.setIfInBounds (k*size+p.2) p.1) cs)=Iy at *
  have Wq:Iy.toList=cs.toList.take (k*size)++(v.cells.toList++cs.toList.drop (k*size+size)):=by
   grind
  have cY:Iy.size=cs.size:=by
   rw[<-aKi];grind
  have EN:(hT.map (·.1)).Nodup/\k ∉ hT.map (·.1):=by
   grind
  obtain⟨ef,aY,a_,b7⟩:=NS aq hT Iy (λq bM=>by grind) EN.1;refine⟨ef,?_,by omega,λi D=>?_⟩
  ·simp  [Instr.fill,aq];grind
  ·by_cases ll:k=i
   ·grind
   ·have mg:(Iy.toList.drop (i*size)).take size=(cs.toList.drop (i*size)).take size:=by
     apply aLv;intro j;simp only[aLp,aLn];split
     ·rw[Wq];have mL:(List.take (k*size) cs.toList).length=k*size:=by grind
      have BC:v.cells.toList.length=size:=by omega
      rcases aLQ i k with ai | ai
      ·have:(i+1)*size<=k*size:=ajo _ (by omega);grind
      ·have:(k+1)*size<=i*size:=ajo _ (by omega);rw[aKz]at this;rw[aKc (by omega),aKc (by omega),aLn];congr 1;omega
     ·rfl
    grind
theorem alx(be:eO C.P T){ty n:Nat}{bw:Array (Nat×Operand)}(bB:∀ i,o.dst=some i->i<C.b5)(au:o.op=.buildSlice ty n bw)(h:(cn C.a8 T bK (bs C.a8 s.aD) o).run s.W=some res):c8 C o s res:=by
 obtain⟨bw⟩:=bw;have an:∀ c,o.op≠.defer c:=by grind
 simp  [cn,au]at h;split at h
 ·rename_i e aT;have dT:=be.cv aT (by simp);obtain⟨lL,aI,kW,p6⟩:=dT.sl;obtain⟨inf,z,i1,i2,i3,i4,i5,i6⟩:=np kW.nn;simp only[aM.fG,aji,aM.run_bind]at h;obtain⟨⟨xs,ck⟩,j0,h⟩:=h;obtain⟨b,aG7,ah⟩:=sU h;split at ah
  ·rename_i NT;obtain⟨aG8,Wr⟩:=NT;simp only[ajm,ajl]at Wr;obtain⟨⟨gH,EI⟩,NU⟩:=Wr;have xb:b ∉ ck:=by grind
   simp  at ah;subst ah;intro a w kap F Q U bz _;obtain⟨F',f1,bE,f2⟩:=bH.mJ (ak4 n 0 j0) U;obtain⟨aly,alz,iQ,z2⟩:=w4   (H:=s.W) (kap:=kap)     e i5;have NV:=Nt U bw bz;have nu:=Wc U.bR f1 iQ     (by simp[kU]) NV n 0 j0 f2;have vL:=(Er e (P:=C.P) i5).2;have NW:∀ p∈bw,p.1<n:=by
    intro p aq;have:=List.all_eq_true.1 NU (p.1,(use (bs C.a8 s.aD p.2)).2) (by simp  [kU,aLt];grind);grind
   have NX:((bw.map λp=>(p.1,a.eval p.2)).map (·.1)).Nodup:=by
    have:(kU (bw.map λp=>(p.1,bs C.a8 s.aD p.2))).map (·.1)=(bw.map λp=>(p.1,a.eval p.2)).map (·.1):=by simp[kU]
    grind
   have Ws:∀ q∈bw.map (λp=>(p.1,a.eval p.2)),q.2.cells.size=e.size/\q.1*e.size+e.size<=n*e.size:=by
    intro q bM;obtain⟨p,aq,rfl⟩:=List.mem_map.1 bM;have cF:=NW p aq;refine⟨?_,by
     have:(p.1+1)*e.size<=n*e.size:=ajo _ (by omega);grind⟩
    obtain⟨bI,d1,d2⟩:=nu.2 p.1 (by omega);have EO:(bw.map λp=>(p.1,a.eval p.2)).find? (λr=>r.1 == p.1)=some (p.1,a.eval p.2):=by
     have alA:∀ (l:List (Nat×Value)),(l.map (·.1)).Nodup->∀ q∈l,l.find? (λr=>r.1 == q.1)=some q:=by
      intro l;induction l<;>grind
     grind
    have:=jx e d1;grind
   let base:=(Array.range (n*e.size)).map (λi=>z.cells[i % z.cells.size]!);have aG9:base.size=n*e.size:=by grind
   obtain⟨ef,aY,a_,b7⟩:=NS (place:=λi=>some (i*e.size,e.size)) (λi=>rfl) (bw.map λp=>(p.1,a.eval p.2)) base (by grind) NX;have aG_:∀ i,i<n->(base.toList.drop (i*e.size)).take e.size=z.cells.toList:=by
    intro i D;have hle:(i+1)*e.size<=n*e.size:=ajo _ (by omega);apply aLv;intro j;simp  [aLp];split
    ·rename_i aI;have BG:(i*e.size+j) % z.cells.size=j:=by rw[vL,Nat.add_comm,Nat.add_mul_mod_self_right,Nat.mod_eq_of_lt aI]
     grind
    grind
   have alB:hv C.P e F' w ef.toList xs:=by
    refine⟨by grind,λi D=>?_⟩;have hle:(i+1)*e.size<=n*e.size:=ajo _ (by omega);grind
   have dD:(execOp a.eval o).run C.P w=.ok (.value (.slice (some ⟨w.heap.size,0,none⟩) n n)) (w.alloc (.cells ef lL)):=by
    have alC:¬n*e.size > 2 ^ 24:=by omega
    simp only[execOp,au,Instr.buildSlice,Sem.run_bind,ej aI,Result.andThen_ok,tZ i1,i2,alC,ajq];by_cases xi:n*e.size=0
    ·have BJ:base=#[]:=Array.eq_empty_of_size_eq_zero (by omega);rw[BJ]at aY;simp only[xi,if_true,Sem.run_bind,Sem.run_pure,Result.andThen_ok];rw[show ((Array.range 0).map (λi=>(#[])[i % (#[]).size]!))=#[] from by simp];simp  at aY ⊢;rw[aY];rfl
    ·simp only[xi,ajq,Sem.run_bind,sR i1 i4,Sem.run_pure];simp;rw[aY];rfl
   have p5:s.hS ((kT ck).run s.W++[(b,⟨(s.W b).gen+1,.bu e xs⟩)])=(s.cV ck).c' b ⟨(s.W b).gen+1,.bu e xs⟩:=by
    rw[Ep,vw]
   have rQ:(s.cV ck).W b=s.W b:=by simp[aE.cV,xb]
   have ai:=bE.EB (b:=b) (g:=(s.W b).gen+1)   (k:=⟨w.heap.size,0,n,false⟩)   (by grind) (.inr rfl) (by simp) (λr U=>qO w _ U) (λ_=>by simp) ⟨rfl,rfl,rfl⟩
    (λH bX=>⟨λh=>(by grind),λ_=>⟨ef,lL,sM w _,by grind,by grind,by
     have:n<=n*e.size:=Nat.le_mul_of_pos_right _ (aLo p6);grind,(alB.Ez (pre:=[]) (post:=[]) (by simp)).later (dy.alloc bE.dH _)⟩⟩)
   refine iw an dD ?_;simp  [aE.jZ];rw[p5];exact⟨_,F',bH.set ai bB ⟨⟨by simp[aE.c'],rfl⟩,λ_ _=>by simp[aE.c',bP.slice,cf.len,nu.1]⟩⟩
  grind
 ·cases h
theorem Wt(pj:Nat):∀ (m:Nat) (l:List Value),l.length=m*pj->((List.range m).map λi=>(l.drop (i*pj)).take pj).flatten=l
 | 0,l,h=>by
  grind
 | m+1,l,h=>by
  have aP:=Wt pj m (l.take (m*pj)) (by grind);rw[aLd,aLs];have e:((List.range m).map λi=>(l.drop (i*pj)).take pj)=((List.range m).map λi=>((l.take (m*pj)).drop (i*pj)).take pj):=by
   refine aKA λi D=>?_;have hle:(i+1)*pj<=m*pj:=ajo _ (by grind);rw[aKz]at hle;rw[List.drop_take,List.take_take,Nat.min_eq_left (by omega)]
  rw[e];have:(l.drop (m*pj)).take pj=l.drop (m*pj):=List.take_of_length_le (by grind);simp_all
theorem alD(be:eO C.P T){ty m:Nat}{e:aa}{bw:Array (Nat×Operand)}(bB:∀ i,o.dst=some i->i<C.b5)(au:o.op=.build ty bw)(aT:T ty=.array m e)
  (h:((vt e (kU (bw.toList.map λp=>(p.1,bs C.a8 s.aD p.2))) 0 m).ev λ(xs,ck)=>if (ck.isEmpty&&decide ((kU (bw.toList.map λp=>(p.1,bs C.a8 s.aD p.2))).map (·.1)).Nodup&&(kU (bw.toList.map λp=>(p.1,bs C.a8 s.aD p.2))).all (λp=>decide (p.1<m)))=true then cQ (w5 (bw.toList.map λp=>(p.1,bs C.a8 s.aD p.2))) True (.val (.array m e) xs) else .none).run s.W=some res):c8 C o s res:=by
 obtain⟨bw⟩:=bw;simp only[aM.fG,aji]at h;obtain⟨⟨xs,ck⟩,j0,h⟩:=h;have dT:=be.cv aT (by simp);obtain⟨lL,aI,kW,p6⟩:=dT.bu;obtain⟨i,z,E,M,ai,bf,b2,d_⟩:=np dT.nn;split at h
 ·rename_i hc;simp only[ajm,ajl,List.isEmpty_iff,aKu]at hc;obtain⟨⟨rfl,EI⟩,NU⟩:=hc;simp  [cQ,ajk]at h;subst h;refine c8.pure (by grind) bB λa w kap F U bz _=>?_;obtain⟨aly,alz,iQ,z2⟩:=w4 (P:=C.P) (H:=s.W) (kap:=kap) (F:=F) (w:=w) (.array m e) b2;have vL:=(Er (.array m e) (P:=C.P) b2).2;have aG':z.cells.size=m*e.size:=vL;have NV:=Nt U bw bz;have nu:=λzero (bD:cr C.P e F w zero e.dK)=>Wc U.bR (λ_ h=>h) bD     (by simp[kU]) NV m 0 j0 (λ_ h=>by grind);have NW:∀ p∈bw,p.1<m:=by
   intro p aq;exact NU (p.1,(use (bs C.a8 s.aD p.2)).2) (by simp  [kU,aLt];grind)
  have NX:((bw.map λp=>(p.1,a.eval p.2)).map (·.1)).Nodup:=by
   have:(kU (bw.map λp=>(p.1,bs C.a8 s.aD p.2))).map (·.1)=(bw.map λp=>(p.1,a.eval p.2)).map (·.1):=by simp[kU]
   grind
  have mg:∀ i,i<m->cr C.P e F w ((z.cells.toList.drop (i*e.size)).take e.size) e.dK:=by
   intro i D;have alE:cr C.P (.array m e) F w z.cells.toList (aa.array m e).dK:=by grind
   obtain⟨p,c,q,aY,a_,b7⟩:=Nn alE D;have af:=jx e b7;have:(aa.dK (.array m e)).getD i e.dK=e.dK:=by
    show (List.replicate m e.dK).getD i e.dK=e.dK;grind
   grind
  have Wu:xs.length=m:=by
   rcases Nat.eq_zero_or_pos m with aZ | aZ
   ·subst aZ;simp  [vt,aJ8]at j0;grind
   grind
  have Ws:∀ q∈bw.map (λp=>(p.1,a.eval p.2)),q.2.cells.size=e.size/\q.1*e.size+e.size<=z.cells.size:=by
   intro q bM;obtain⟨p,aq,rfl⟩:=List.mem_map.1 bM;have cF:=NW p aq;refine⟨?_,by
    have:(p.1+1)*e.size<=m*e.size:=ajo _ (by omega);grind⟩
   obtain⟨bI,d1,d2⟩:=(nu _ (mg p.1 cF)).2 p.1 (by omega);have EO:(bw.map λp=>(p.1,a.eval p.2)).find? (λr=>r.1 == p.1)=some (p.1,a.eval p.2):=by
    have alA:∀ (l:List (Nat×Value)),(l.map (·.1)).Nodup->∀ q∈l,l.find? (λr=>r.1 == q.1)=some q:=by
     intro l;induction l<;>grind
    grind
   have:=jx e d1;grind
  obtain⟨ef,aY,a_,b7⟩:=NS   (λi=>rfl) (bw.map λp=>(p.1,a.eval p.2)) z.cells Ws NX;refine⟨.agg ef,?_,⟨ef,rfl,by omega⟩,?_⟩
  ·simp  [execOp,au,Instr.build,sR E bf,ej aI,kW.size];simp_all
  ·refine⟨(List.range m).map λi=>(ef.toList.drop (i*e.size)).take e.size,(Wt e.size m ef.toList (by grind)).symm,by simp,Wu,λi D eE=>?_⟩;have hle:(i+1)*e.size<=m*e.size:=ajo _ (by omega);grind
 ·cases h
theorem gn.mono{P:Program}{t:aa}{F F':Nat->Prop}{w w':World}{aJ:List Value}{x:t.ak}(h:gn P t F w aJ x)(bF:∀ r,F r->F' r)(he:dy F w w'):gn P t F' w' aJ x:=⟨h.1,fQ t bF he h.2⟩
theorem alF{k:FuncId}{du:List Operand}(bB:∀ i,o.dst=some i->i<C.b5)(au:o.op=.makeFunc (.func k) #[] ⟨du⟩){v:HW}(ab:C.a8.vo k=some v)
  (h:((km (hI (v.cs.map .bV)) ((du.map (bs C.a8 s.aD)).map λv=>(use v).2)).ev λ(y,ck)=>(kT ck).bind λwl=>.ret (some ⟨ld (du.map (bs C.a8 s.aD)),True,.val (.fn (hI v.as) v.tr) (λx=>v.sh (HV v.as (v.cs.map .bV) x y)),wl⟩):aM (Option fb)).run s.W=some res):c8 C o s res:=by
 simp only[aM.fG,aji,aM.run_bind,aM.dC,ajk]at h;obtain⟨⟨y,l⟩,bh,rfl⟩:=h;intro a w kap F Q U bz _;obtain⟨F',f1,bE,f2⟩:=bH.mJ (rP _ bh) U;have fV:gn C.P (hI (v.cs.map .bV)) F' w (du.map a.eval) y:=by
  refine xg U.bR f1 _ bh f2 (by simp) λi D eE=>?_;simp;have ea:i<du.length:=by grind
  have E:=t_ bz i (by grind);have ax:(du.map (bs C.a8 s.aD)).getD i .undef=bs C.a8 s.aD du[i]:=by grind
  rw[ax]at E;exact qQ (lf U du[i]) E
 obtain⟨az,y6⟩:=U.kR.vo k v ab;have dD:(execOp a.eval o).run C.P w=.ok (.value (.func (.func k) #[] (du.map a.eval).toArray)) w:=by simp[execOp,au,Instr.makeFunc]
 refine iw (by grind) dD ⟨kap,F',?_⟩;simp  [aE.jZ];rw[vw];refine bH.set bE bB ((eH rfl).2 ⟨rfl,_,rfl,⟨rfl,rfl⟩,λF2 dM BK y7 s4 y8 args x E M ai=>⟨k,_,rfl,y6.enter,?_⟩⟩);have aI:=Vn v.as (v.cs.map .bV) az       ⟨E,M⟩ (fV.mono BK y7);have:=y6.ki F2 dM _ _ s4 y8 aI ai;have e:(args++du.map a.eval).toArray=args.toArray++(du.map a.eval).toArray:=by simp
 rw[e]at this;exact this.mono λe vl ⟨v,y,ax,aU,⟨aJ,cD,eZ,fR⟩,hf⟩=>⟨v,y,aJ,ax,aU,cD,eZ,fR,hf⟩
theorem alG{k:FuncId}{du:List Operand}(bB:∀ i,o.dst=some i->i<C.b5)(au:o.op=.makeFunc (.func k) #[] ⟨du⟩){v:yM}(ab:C.a8.yO k=some v)
  (h:((km (hI (v.cs.map .bV)) ((du.map (bs C.a8 s.aD)).map λv=>(use v).2)).ev λ(y,ck)=>(kT ck).bind λwl=>.ret (some ⟨ld (du.map (bs C.a8 s.aD)),True,.val (.cO v.aN) (v.S y),wl⟩):aM (Option fb)).run s.W=some res):c8 C o s res:=by
 simp only[aM.fG,aji,aM.run_bind,aM.dC,ajk]at h;obtain⟨⟨y,l⟩,bh,rfl⟩:=h;intro a w kap F Q U bz _;obtain⟨F',f1,bE,f2⟩:=bH.mJ (rP _ bh) U;have fV:gn C.P (hI (v.cs.map .bV)) F' w (du.map a.eval) y:=by
  refine xg U.bR f1 _ bh f2 (by simp) λi D eE=>?_;simp;have ea:i<du.length:=by grind
  have E:=t_ bz i (by grind);have ax:(du.map (bs C.a8 s.aD)).getD i .undef=bs C.a8 s.aD du[i]:=by grind
  rw[ax]at E;exact qQ (lf U du[i]) E
 have y6:=U.kR.yO k v ab;have dD:(execOp a.eval o).run C.P w=.ok (.value (.func (.func k) #[] (du.map a.eval).toArray)) w:=by simp[execOp,au,Instr.makeFunc]
 refine iw (by grind) dD ⟨kap,F',?_⟩;simp  [aE.jZ];rw[vw];refine bH.set bE bB ((eH rfl).2 ⟨rfl,_,rfl,⟨rfl,rfl⟩,λF2 dM BK y7 s4 y8 fc=>⟨k,_,rfl,y6.enter,λl I Y j2 iT fa=>?_⟩⟩);exact y6.ki F2 dM _ _ s4 y8 (fV.mono BK y7) fc l I Y j2 iT fa
theorem alH{k:FuncId}{du:Array Operand}(bB:∀ i,o.dst=some i->i<C.b5)(au:o.op=.makeFunc (.func k) #[] du)(h:(cn C.a8 T bK (bs C.a8 s.aD) o).run s.W=some res):c8 C o s res:=by
 obtain⟨du⟩:=du;simp only[cn,au,Array.isEmpty_empty,if_true]at h;split at h;case h_1 v ab=>exact alF bB au ab h
 split at h;case h_1 v ab=>exact alG bB au ab h
 simp only[cQ,aM.dC,ajk]at h;subst h;refine c8.pure (by grind) bB λa w kap F U bz _=>?_;refine⟨.func (.func k) #[] (du.map a.eval).toArray,by simp[execOp,au,Instr.makeFunc],du.map a.eval,rfl,by simp,λi D=>?_⟩;have eE:i<du.length:=by grind
 have E:=t_ bz i (by omega);have ax:(du.map (bs C.a8 s.aD)).getD i .undef=bs C.a8 s.aD du[i]:=by grind
 rw[ax]at E;have M:=qQ (lf U du[i]) E;have cD:ig ((du.map (bs C.a8 s.aD)).map λv=>(use v).2) i=(use (bs C.a8 s.aD du[i])).2:=by simp[ig,eE]
 grind
theorem alI{k:FuncId}{first du:Array Operand}(bB:∀ i,o.dst=some i->i<C.b5)(au:o.op=.makeFunc (.func k) first du)(aw:first.isEmpty=false)(h:(cn C.a8 T bK (bs C.a8 s.aD) o).run s.W=some res):c8 C o s res:=by
 obtain⟨first⟩:=first
 simp  [cn,au,aw,ajq]at h;split at h
 ·have hc:du=#[]:=by grind
  subst hc;simp  [cQ,ajk]at h;subst h;refine c8.pure (by grind) bB λa w kap F U bz _=>?_;refine⟨.func (.func k) (first.map a.eval).toArray #[],by simp[execOp,au,Instr.makeFunc],first.map a.eval,rfl,by simp,λi D=>?_⟩;have eE:i<first.length:=by omega
  have E:=t_ bz i (by grind);have ax:(first.map (bs C.a8 s.aD)).getD i .undef=bs C.a8 s.aD first[i]:=by grind
  rw[ax]at E;have M:=qQ (lf U first[i]) E;have cD:ig ((first.map (bs C.a8 s.aD)).map λv=>(use v).2) i=(use (bs C.a8 s.aD first[i])).2:=by simp[ig,eE]
  grind
 ·cases h
def pk(o:Oper)(b5:Nat):Bool:=
 (match o.dst with | some d=>decide (d<b5) | none=>true)&&(match o.op with | .store _ _ _=>o.dst.isNone | .mapUpdate _ _ _ _=>o.dst.isNone | .insert _ _ _ _=>o.dst.isNone | _=>true)
theorem BL(be:eO C.P T)(dk:lM C.P bK)(an:pk o C.b5=true)(h:(cn C.a8 T bK (bs C.a8 s.aD) o).run s.W=some res):c8 C o s res:=by
 simp  [pk]at an;have bB:∀ i,o.dst=some i->i<C.b5:=λi D=>by
  grind
 cases au:o.op with
 | move x=>exact aj2 bB au h
 | assign x=>exact aj3 bB au h
 | pick c a b=>exact aj4 bB au h
 | binOp op t x y dL=>exact akc be bB au h
 | unOp op t x=>exact aj5 bB au h
 | extract t i=>exact aj6 bB au h
 | nilCheck x=>exact aj7 bB au h
 | fieldAddr t x f=>exact aj8 be bB au h
 | field t x f=>exact aj9 be bB au h
 | load t x=>exact akd be bB au h
 | store t x y=>
  exact akw be (by grind) au h
 | alloc t=>
  by_cases aT:T t=.dp
  ·simp  [cn,au]at h;obtain⟨_,_,ah⟩:=sU h;grind
  ·exact akm be bB au h aT
 | box t x=>exact ako bB au h
 | build t bw=>
  by_cases Nu:∀ m e,T t≠.array m e
  ·exact akt be bB au Nu h
  ·obtain⟨m,e,aT⟩:∃ m e,T t=.array m e:=by grind
   refine alD be bB au aT ?_;simpa only [cn,au,aT]using h
 | buildSlice t n bw=>exact alx be bB au h
 | indexAddr t x i=>exact akC be bB au h
 | index t x i=>exact akf be bB au h
 | convert a b x=>exact ak0 be bB au h
 | makeFunc fn first du=>
  cases fn with
  | func k=>
   by_cases aw:first=#[]
   ·subst aw;exact alH bB au h
   ·exact alI bB au (by grind) h
  | _=>simp[cn,au,aM.none]at h
 | makeMap t r=>exact ak_ bB au h
 | lookup t m x ok=>exact ala be bB au h
 | mapUpdate t m x y=>
  exact NP be (by grind) (.inl au) h
 | insert t m x y=>
  exact NP be (by grind) (.inr au) h
 | makeSlice t l c=>exact alg be bB au h
 | makeInterface t x=>exact Wp (by simp[cn,au,cQ]) h
 | panic x=>exact Wp (by simp[cn,au,cQ]) h
 | slice t x bn D pY=>
  cases pY with
  | none=>exact akE be bB au h
  | some m=>exact alq be bB au h
 | call c=>
  obtain⟨callee,args,dS⟩:=c;cases callee with
  | value f=>
   cases f with
   | func k=>exact ak5 dk bB au h
   | _=>simp[cn,au,oe,aM.none]at h
  | invoke r m=>simp[cn,au,oe,aM.none]at h
  | builtin b=>
   cases b with
   | len=>exact akj be bB au h
   | append=>
    cases az:yX (bs C.a8 s.aD) args.toList with
    | none=>exact akP be bB au (by simpa [cn,au,oe,az]using h)
    | some p=>exact alu be bB au az (by simpa [cn,au,oe,az]using h)
   | clear=>exact alw be bB au (by simpa [cn,au,oe]using h)
   | copy=>exact alm be bB au h
   | min=>exact VR (.inl ⟨rfl,rfl⟩) bB au (by simpa [cn,au,oe]using h)
   | max=>exact VR (.inr ⟨rfl,rfl⟩) bB au (by simpa [cn,au,oe]using h)
   | cap=>exact akk be bB au (by simpa [cn,au,oe]using h)
   | _=>simp[cn,au,oe,aM.none]at h
 | _=>simp[cn,au,aM.none]at h
end
end Go.Fer
namespace Go.Fer
open Go.RowKit
def aM.e1{ag:Type}(p:ag->Prop):aM ag->Prop
 | .ret a=>p a
 | .fj _ k=>∀ x,(k x).e1 p
theorem Wv{rho:Operand->aO}{k:IntKind}:∀ (l:List Operand) {cG:Prop} {iO:z1'},(∀ x∈l,(use (rho x)).1)->o' rho k l=some (cG,iO)->cG
 | [],_,_,_,h=>by cases h
 | [x],cG,iO,hu,h=>by
  simp  [o']at h;grind
 | x::y::l,cG,iO,hu,h=>by
  simp  [o']at h;split at h
  ·rename_i af;split at h
   ·cases h;exact⟨hu x (by simp),Wv (y::l) (λz bD=>hu z (ajp _ bD)) af⟩
   grind
  grind
theorem aM.e1.run{ag:Type}{p:ag->Prop}{m:aM ag}(h:m.e1 p)(H:Nat->b'):p (m.run H):=by
 induction m with
 | ret a=>exact h
 | fj b k aP=>exact aP _ (h _)
theorem aM.e1.bind{ag bet:Type}{p:bet->Prop}{m:aM ag}{f:ag->aM bet}(h:∀ a,(f a).e1 p):(m.bind f).e1 p:=by
 induction m with
 | ret a=>exact h a
 | fj b k aP=>exact λx=>aP x
def mQ{ag:Type}(p:ag->Prop)(x:Option ag):Prop:=∀ a,x=some a->p a
theorem aM.e1.ev{ag bet:Type}{p:bet->Prop}{m:aM (Option ag)}{f:ag->aM (Option bet)}(h:∀ a,(f a).e1 (mQ p)):(m.ev f).e1 (mQ p):=by
 refine aM.e1.bind λa=>?_;cases a with
 | none=>intro a h;grind
 | some a=>grind
theorem aM.e1.Ww{ag bet:Type}{q:ag->Prop}{p:bet->Prop}{m:aM (Option ag)}{f:ag->aM (Option bet)}(hm:m.e1 (mQ q))(h:∀ a,q a->(f a).e1 (mQ p)):(m.ev f).e1 (mQ p):=by
 induction m with
 | ret a=>
  cases a with
  | none=>intro b V;grind
  | some a=>exact h a (hm a rfl)
 | fj b k aP=>exact λx=>aP x (hm x)
theorem aM.e1.lO{ag:Type}{p:ag->Prop}:(aM.none:aM (Option ag)).e1 (mQ p):=by intro a h;grind
theorem aM.e1.xk{ag:Type}{p:ag->Prop}{a:ag}(h:p a):(aM.ret (some a)).e1 (mQ p):=by intro b V;grind
theorem aM.e1.nil{ag:Type}{p:ag->Prop}:(aM.ret (Option.none:Option ag)).e1 (mQ p):=by intro b V;grind
theorem aM.e1.cQ{p:fb->Prop}{cG c:Prop}{v:aO}(h:p ⟨cG,c,v,[]⟩):(cQ cG c v).e1 (mQ p):=aM.e1.xk h
theorem aM.e1.nq{p:fb->Prop}{d:Option Nat}{k:Nat->Nat->Option fb}(h:∀ b g,mQ p (k b g)):(nq d k).e1 (mQ p):=by
 unfold Go.Fer.nq;split
 ·exact .lO
 ·exact λx=>h _ _
def aO.BM:aO->Bool
 | .jU _ _=>true
 | _=>false
theorem Iz{a:aO}(h:a.BM=false):(use a).1:=by
 cases a<;>first | trivial | cases h
def vM(rho:Operand->aO)(o:Oper):Bool:=o.op.operands.toList.all λx=>!(rho x).BM
def aO.alJ:aO->Bool
 | .gE _ _=>false
 | .val (.map _ _) _=>false
 | _=>true
def IA(rho:Operand->aO)(b:Builtin)(args:List Operand):Bool:=
 match b with
 | .len=>match args with
  | [x]=>(use (rho x)).2.alJ
  | _=>false
 | .min=>true
 | .max=>true
 | _=>false
def aO.Wx:aO->Bool
 | .kj ..=>true
 | _=>false
def qT(rho:Operand->aO)(o:Oper):Bool:=
 match o.op with
 | .move _ | .assign _ | .pick .. | .unOp .. | .extract .. | .fieldAddr .. | .field .. | .alloc .. | .box .. | .build .. | .buildSlice .. | .convert .. | .makeFunc .. | .makeMap .. | .lookup .. | .mapUpdate .. | .insert ..=>true
 | .load _ x=>!(use (rho x)).2.Wx
 | .store _ x _=>!(use (rho x)).2.Wx
 | .binOp op _ x _ _=>match op with
  | .quo | .rem | .shl | .shr=>false
  | .add=>(use (rho x)).2.nR.isSome
  | _=>true
 | .call c=>match c.callee with
  | .builtin b=>IA rho b c.args.toList
  | _=>false
 | _=>false
theorem alK{op:BinOp}{k:IntKind}{a b:Int}{c:Prop}{v:aO}(h:Bq op k a b=some (c,v))(E:op≠.quo)(M:op≠.rem):c:=by
 cases op<;>simp only[Bq,reduceCtorEq]at h<;>first | (obtain⟨rfl,_⟩:=h;trivial) | contradiction
theorem alL{op:BinOp}{a b:List UInt8}{c:Prop}{v:aO}(h:D9 op a b=some (c,v))(E:op≠.add):c:=by
 cases op<;>simp only[D9,reduceCtorEq]at h<;>first | (obtain⟨rfl,_⟩:=h;trivial) | contradiction
theorem alM{op:BinOp}{t:aa}{x y:aO}:(D_ op t x y).e1 (mQ λr=>r.1):=by
 refine aM.e1.ev λe=>?_;cases op<;>first | exact .xk trivial | exact .nil
section
variable {ba:ew} {T:Nat->aa} {bK:Nat->Option aF} {rho:Operand->aO} {o:Oper}
theorem alN{op:BinOp}{ty:TypeId}{x y:Operand}{t:TypeId}(au:o.op=.binOp op ty x y t)(hc:qT rho o=true):(cn ba T bK rho o).e1 (mQ λr=>r.c):=by
 unfold cn;rw[au];simp;simp  [qT,au]at hc;split
 ·split
  ·grind
  ·grind
  ·split
   ·split
    ·rename_i c v D;refine .cQ (alK D ?_ ?_)<;>(grind)
    ·exact .lO
   ·exact .lO
 ·split
  ·rename_i a b E M;split
   ·rename_i c v D;refine .cQ (alL D ?_);intro e;subst e;generalize (use (rho x)).2=z at hc E;cases z<;>try (cases E;done)
    rename_i t d;cases t<;>first | (cases E;done) | (cases hc;done)
   ·exact .lO
  ·exact aM.e1.Ww alM λr U=>.cQ U
theorem Wy{p:fb->Prop}{ty:TypeId}{m x y:Operand}(h:∀ wl,p ⟨(use (rho m)).1/\(use (rho x)).1/\(use (rho y)).1,True,.undef,wl⟩):(tY T rho ty m x y).e1 (mQ p):=by
 unfold tY;split
 ·simp;split
  ·split
   ·refine aM.e1.ev λ_=>aM.e1.ev λ_=>aM.e1.bind λ_=>λz=>?_;intro r U;split at U
    ·split at U
     ·simp  at U;grind
     grind
    grind
   ·exact .lO
  ·exact .lO
 ·exact .lO
theorem alO{ty:TypeId}{m x y:Operand}:(tY T rho ty m x y).e1 (mQ λr=>r.c):=Wy λ_=>trivial
theorem EP(hc:qT rho o=true):(cn ba T bK rho o).e1 (mQ λr=>r.c):=by
 cases au:o.op with
 | binOp op ty x y t=>exact alN au hc
 | call c=>
  obtain⟨callee,args,dS⟩:=c;simp  [qT,au]at hc;unfold cn;rw[au];simp only[oe];cases callee with
  | builtin b=>
   cases b with
   | len=>
    simp  [Ea];split
    ·simp  [IA]at hc;refine aM.e1.Ww   ?_ λr U=>.cQ U;unfold H0;repeat' first | exact .lO | exact .xk trivial | split | (cases hc;done) | (intro z r U;grind) | simp_all
    ·exact .lO
   | min | max=>
    simp  [yW];repeat' first | exact .cQ trivial | exact .lO | split
   | _=>simp[IA]at hc
  | _=>grind
 | _=>
  simp only[qT,au]at hc;unfold cn;rw[au];simp only[Bt];repeat' first | exact .lO | exact .cQ trivial | exact .xk trivial | exact alO | refine aM.e1.ev λ_=>?_ | refine aM.e1.bind λ_=>?_ | refine .nq λb g=>λr U=>by grind | split | (cases hc;done) | (intro z r U;grind) | simp_all
theorem IB:∀ {l:List aO},(∀ v∈l,(use v).1)->ld l
 | [],_=>trivial
 | v::l,h=>by
  have E:=h v (by simp);have M:=IB (l:=l) λu hu=>h u (by grind);cases v<;>first | exact M | exact⟨E,M⟩
theorem Wz:∀ {l:List (Nat×aO)},(∀ v∈l,(use v.2).1)->w5 l
 | [],_=>trivial
 | (i,v)::l,h=>by
  have E:=h (i,v) (by simp);have M:=Wz (l:=l) λu hu=>h u (by grind);cases v<;>first | exact M | exact⟨E,M⟩
theorem NY{x:Option Operand}{p:Prop}{n:Option Int}(h:nr rho x=some (p,n))(al:∀ y,x=some y->(use (rho y)).1):p:=by
 unfold nr at h;grind
def vN(rho:Operand->aO)(o:Oper):Prop:=∀ x∈o.op.operands.toList,(use (rho x)).1
theorem WA{rho:Operand->aO}{o:Oper}(h:vM rho o=true):vN rho o:=λx al=>Iz (by simpa using List.all_eq_true.1 h x al)
theorem vN.use{rho:Operand->aO}{o:Oper}(h:vN rho o){x:Operand}(al:x∈o.op.operands.toList){cG:Prop}{v:aO}(hu:use (rho x)=(cG,v)):cG:=by
 have:=h x al;grind
theorem WB(NZ:vN rho o):(cn ba T bK rho o).e1 (mQ λr=>r.cG):=by
 have aw:∀ x∈o.op.operands.toList,(use (rho x)).1:=NZ;have bF:∀ (l:List Operand),(∀ x∈l,x∈o.op.operands.toList)->ld (l.map rho):=λl af=>IB λv ab=>by
  grind
 have iT:∀ (l:List (Nat×Operand)),(∀ p∈l,p.2∈o.op.operands.toList)->w5 (l.map λp=>(p.1,rho p.2)):=λl af=>Wz λv ab=>by
  grind
 cases au:o.op with
 | build ty bw=>
  have h:=iT bw.toList λp aq=>by simp  [Op.operands];grind
  unfold cn;rw[au];simp only;repeat' first | exact .lO | exact .cQ h | refine aM.e1.ev λ_=>?_ | split
 | buildSlice ty n bw=>
  have h:=iT bw.toList λp aq=>by simp  [Op.operands];grind
  unfold cn;rw[au];simp only;repeat' first | exact .lO | refine aM.e1.ev λ_=>aM.e1.bind λ_=>.nq λb g=>λr U=>by grind | split
 | makeFunc fn first du=>
  have h:=bF du.toList λp aq=>by simp[Op.operands];grind
  have M:=bF first.toList λp aq=>by simp[Op.operands];grind
  unfold cn;rw[au];simp only;repeat' first | exact .lO | exact .cQ h | exact .cQ M | exact aM.e1.ev λ_=>aM.e1.bind λ_=>.xk h | split
 | slice ty x bn D pY=>
  rw[au]at aw;unfold cn;rw[au];simp only[H4,H3];have al:=aw x (by simp[Op.operands]);have af:∀ p n,nr rho bn=some (p,n)->p:=λp n h=>NY h λy bh=>aw y (by subst bh;simp[Op.operands]);have dt:∀ p n,nr rho D=some (p,n)->p:=λp n h=>NY h λy bh=>aw y (by subst bh;simp[Op.operands]);have hm:∀ p n,nr rho pY=some (p,n)->p:=λp n h=>NY h λy bh=>aw y (by subst bh;simp[Op.operands]);repeat' first | exact .lO | exact .cQ (by grind) | exact aM.e1.ev λ_=>.xk (by grind) | split
 | call c=>
  obtain⟨callee,args,dS⟩:=c;have br:∀ x∈args.toList,(use (rho x)).1:=λx al=>aw x (by simp[Op.operands,Call.operands];grind);have gl:ld (args.toList.map rho):=IB λv ab=>by grind
  have D:∀ (x:Operand) (l:List Operand) {k:IntKind} {cG:Prop} {iO:z1'},args.toList=x::l->o' rho k l=some (cG,iO)->cG:=λx l _ _ _ e h=>Wv l (λp aq=>br p (by grind)) h;unfold cn;rw[au];simp only[oe,Ea,Ee,Eb,Na,Ef,H8,yW,Ec,H5];repeat' first | exact .lO | exact .cQ (by grind) | exact .xk (by grind) | refine aM.e1.ev λ_=>?_ | refine aM.e1.bind λ_=>?_ | refine .nq λb g=>λr U=>by grind | split | (intro z;dsimp only) | (intro r U;grind)
 | _=>
  rw[au]at aw;simp only[Op.operands]at aw;unfold cn;rw[au];simp only[Bt,H7];repeat' first | exact .lO | exact .cQ (by grind) | exact .xk (by grind) | refine aM.e1.ev λ_=>?_ | refine aM.e1.bind λ_=>?_ | refine .nq λb g=>λr U=>by grind | exact Wy λ_=>by grind | split | (unfold Nc) | (intro z;dsimp only) | (intro r U;grind)
theorem WC(hc:vM rho o=true):(cn ba T bK rho o).e1 (mQ λr=>r.cG):=WB (WA hc)
end
end Go.Fer
namespace Go.Fer
open Go.RowKit
theorem WD{rho nv:Operand->aO}{k:IntKind}:∀ (l:List Operand),(∀ x∈l,rho x=nv x)->o' rho k l=o' nv k l
 | [],_=>rfl
 | [x],h=>by simp only[o',h x (by simp)]
 | x::y::l,h=>by simp only[o',h x (by simp),WD (y::l) λz bD=>h z (ajp _ bD)]
section
variable {ba:ew} {T:Nat->aa} {bK:Nat->Option aF} {rho nv:Operand->aO} {o:Oper}
theorem alP{x:Option Operand}(h:∀ y,x=some y->rho y=nv y):nr rho x=nr nv x:=by
 cases x with
 | none=>rfl
 | some y=>have:=h y rfl;unfold nr;grind
theorem alQ(h:∀ x∈o.op.operands.toList,rho x=nv x):cn ba T bK rho o=cn ba T bK nv o:=by
 have hm:∀ l:List Operand,(∀ x∈l,x∈o.op.operands.toList)->l.map rho=l.map nv:=λl af=>aKA λp aq=>h p (af p aq);have aq:∀ l:List (Nat×Operand),(∀ p∈l,p.2∈o.op.operands.toList)->l.map (λp=>(p.1,rho p.2))=l.map λp=>(p.1,nv p.2):=λl af=>aKA λp aq=>by rw[h p.2 (af p aq)]
 unfold cn;cases au:o.op with
 | build ty bw | buildSlice ty n bw=>simp only[aq bw.toList λp aq=>by rw[au];simp only[Op.operands,aLt];grind]
 | makeFunc fn first du=>simp only[hm du.toList λp aq=>by rw[au];simp[Op.operands];simp_all,hm first.toList λp aq=>by rw[au];simp[Op.operands];simp_all]
 | slice ty x bn D pY=>
  rw[au]at h;have V:∀ z,z=bn\/z=D\/z=pY->nr rho z=nr nv z:=λz bD=>alP λy bh=>h y (by grind [Op.operands]);simp only[H3,H4,h x (by simp[Op.operands]),V bn (.inl rfl),V D (.inr (.inl rfl)),V pY (.inr (.inr rfl))]
 | call c=>
  rw[au]at h;obtain⟨callee,args,dS⟩:=c;have br:∀ x∈args.toList,rho x=nv x:=λx al=>h x (by simp[Op.operands,Call.operands];simp_all);have D:∀ (k:IntKind) (x:Operand) (l:List Operand),args.toList=x::l->o' rho k l=o' nv k l:=λk x l e=>WD l λp aq=>br p (by rw[e];exact ajp _ aq);have az:yX rho args.toList=yX nv args.toList:=by unfold yX;grind
  simp only[oe,az,H5,aKA br];split
  ·split<;>simp only[Ea,Ee,Eb,Ef,H8,yW,Ec];all_goals first | (split<;>first | rfl | (simp_all;done)) | (split<;>split<;>first | rfl | (simp_all;done))
  all_goals rfl
 | _=>rw[au]at h<;>simp[Op.operands]at h<;>simp_all[Bt,tY,H7]
end
end Go.Fer
namespace Go.Fer
open Go.RowKit
def IC(want b:Bool):Bool:=match want with | true=>b | false=>!b
def lP(s:Nat->aO)(ops:Array Oper):Option (Nat×Bool)->Option (Option Bool)
 | none=>some none
 | some (j,want)=>match ops[j]? with
  | some o=>match o.dst with
   | some d=>match s d with
    | .val .bool b=>some (some (IC want b))
    | .jU g (.val .bool b)=>some (some (g&&IC want b))
    | _=>none
   | none=>none
  | none=>none
def ID(ops:Array Oper):Option (Nat×Bool)->List Nat
 | none=>[]
 | some (j,_)=>match ops[j]? with
  | some o=>o.dst.toList
  | none=>[]
def alR(l:List Operand):List Nat:=l.filterMap fun | .tmp t=>some t | _=>none
def ER(ops:Array Oper)(o:Oper):List Nat:=ID ops o.guard++alR o.op.operands.toList
structure fk where
 cs:List Prop
 dst:Option Nat
 gG:aO
 iN:List (Nat×b')
 lQ:List Nat
 vO:List Nat
def fk.jO(r:fk)(s:aE):aE:=(s.hS r.iN).set r.dst r.gG
def fk.pn(r:fk):List Nat:=r.dst.toList
def fk.ov(r:fk):List Nat:=r.iN.map (·.1)
def ES(dh ee:Bool)(cG c:Prop):List Prop:=(match dh with | true=>[] | false=>[cG])++(match ee with | true=>[] | false=>[c])
def xl(ba:ew)(T:Nat->aa)(bK:Nat->Option aF)(ops:Array Oper)(s:aE)(o:Oper):Option fk:=
 match lP s.aD ops o.guard with
 | none=>none
 | some g=>match (cn ba T bK (bs ba s.aD) o).run s.W with
  | none=>none
  | some res=>match g with
   | none=>some ⟨ES (vM (bs ba s.aD) o) (qT (bs ba s.aD) o) res.cG res.c,o.dst,res.gG,res.iN,ER ops o,(cn ba T bK (bs ba s.aD) o).looks s.W⟩
   | some b=>match res.iN with
    | []=>some ⟨ES (vM (bs ba s.aD) o&&(qT (bs ba s.aD) o&&!res.gG.BM)) true (b=true->res.cG/\(res.c/\(use res.gG).1)) True,o.dst,.jU b (use res.gG).2,[],ER ops o,(cn ba T bK (bs ba s.aD) o).looks s.W⟩
    | _=>none
def y9(ba:ew)(T:Nat->aa)(bK:Nat->Option aF)(ops:Array Oper):List Oper->aE->Option (List fk×aE)
 | [],s=>some ([],s)
 | o::os,s=>match xl ba T bK ops s o with
  | none=>none
  | some r=>match y9 ba T bK ops os (r.jO s) with
   | none=>none
   | some (l,s')=>some (r::l,s')
def ET(a b:List Nat):Bool:=a.all λx=>!b.contains x
def fk.apart(a b:fk):Bool:=ET a.pn (b.lQ++b.pn)&&ET a.lQ b.pn&&ET a.ov (b.vO++b.ov)&&ET a.vO b.ov
def mi(o:Oper):List Nat:=o.after.toList.filterMap λe=>if Region.binds .any e then some e.on else none
def EU(acc:List Nat):List Nat->List Nat
 | []=>acc
 | x::l=>match acc.contains x with | true=>EU acc l | false=>EU (x::acc) l
theorem N0{x:Nat}:∀ {l acc:List Nat},x∈EU acc l->x∈acc\/x∈l
 | [],acc,h=>.inl h
 | y::l,acc,h=>by
  unfold EU at h;split at h
  ·exact (N0 h).imp_right (ajp _)
  ·rcases N0 h with h | h
   ·rcases List.mem_cons.1 h with h | h
    ·exact .inr (h ▸ aK5)
    ·exact .inl h
   ·exact .inr (ajp _ h)
def BN(acc:List (List Nat))(o:Oper):List (List Nat):=acc++[EU [] ((mi o).flatMap λj=>j::acc.getD j [])]
def kE(ops:List Oper):List (List Nat):=ops.foldl BN []
def alS(cl:List (List Nat))(l:List fk):Bool:=
 (List.range l.length).all λj=>(List.range j).all λi=>match l[i]?,l[j]? with
  | some a,some b=>(cl.getD j []).contains i||a.apart b
  | _,_=>false
def EV(ops:List Oper):Bool:=(List.range ops.length).all λj=>match ops[j]? with
 | some o=>(mi o).all λi=>decide (i<j)
 | none=>false
def EW(ops:List Oper)(l:List fk):Bool:=EV ops&&alS (kE ops) l
def y_(R:List Nat)(s s':aE):Prop:=∀ t∈R,s.aD t=s'.aD t
def y'(B:List Nat)(s s':aE):Prop:=∀ b∈B,s.W b=s'.W b
theorem IE{a b:List Nat}(h:ET a b=true){x:Nat}(al:x∈a):x ∉ b:=by
 have:=List.all_eq_true.1 h x al;grind
theorem BO(s:aE):∀ (l:List (Nat×b')),(s.hS l).aD=s.aD:=by
 intro l;induction l generalizing s with
 | nil=>rfl
 | cons p l aP=>simp only[aE.hS];rw[aP];rfl
theorem N1{b:Nat}:∀ (l:List (Nat×b')) (s:aE),b ∉ l.map (·.1)->(s.hS l).W b=s.W b:=by
 intro l;induction l with
 | nil=>intro s _;rfl
 | cons p l aP=>
  intro s h;simp only[aKq,aKU,not_or]at h;simp only[aE.hS];rw[aP _ h.2];simp[aE.c',h.1]
theorem N2{b:Nat}:∀ (l:List (Nat×b')) (s s':aE),b∈l.map (·.1)->(s.hS l).W b=(s'.hS l).W b:=by
 intro l;induction l with
 | nil=>simp
 | cons p l aP=>
  intro s s' h;simp only[aE.hS];by_cases V:b∈l.map (·.1)
  ·grind
  ·rw[N1 l _ V,N1 l _ V];have:b=p.1:=by grind
   simp[aE.c',this]
theorem alT(s:aE)(d:Option Nat)(v:aO):(s.set d v).W=s.W:=by cases d<;>rfl
theorem IF(r:fk)(s:aE)(t:Nat):(r.jO s).aD t=if t∈r.pn then r.gG else s.aD t:=by
 unfold fk.jO fk.pn;cases h:r.dst with
 | none=>simp[aE.set,BO]
 | some d=>simp[aE.set,BO,eq_comm]
theorem za(r:fk)(s:aE)(b:Nat):(r.jO s).W b=(s.hS r.iN).W b:=by unfold fk.jO;rw[alT]
theorem WE{r:fk}{s:aE}{t:Nat}(h:t ∉ r.pn):(r.jO s).aD t=s.aD t:=by rw[IF,if_neg h]
theorem vP{r:fk}{s:aE}{b:Nat}(h:b ∉ r.ov):(r.jO s).W b=s.W b:=by rw[za];exact N1 _ _ h
theorem aE.vk{s s':aE}(E:∀ t,s.aD t=s'.aD t)(M:∀ b,s.W b=s'.W b):s=s':=by
 obtain⟨a,b⟩:=s;obtain⟨a',bl⟩:=s';rw[show a=a' from funext E,show b=bl from funext M]
theorem alU{a b:fk}(E:∀ t∈a.pn,t ∉ b.pn)(M:∀ x∈a.ov,x ∉ b.ov)(s:aE):a.jO (b.jO s)=b.jO (a.jO s):=by
 apply aE.vk
 ·intro t;simp only[IF];grind
 ·intro x;by_cases br:x∈a.ov
  ·have V:=M x br;rw[vP V,za,za];exact N2 _ _ _ br
  ·rw[vP br];by_cases V:x∈b.ov
   ·rw[za,za];exact N2 _ _ _ V
   ·rw[vP V,vP V,vP br]
def kX(l:List fk)(s:aE):aE:=l.foldl (λs r=>r.jO s) s
theorem alV{R B:List Nat}:∀ (l:List fk) (s:aE),(∀ r∈l,(∀ t∈R,t ∉ r.pn)/\∀ b∈B,b ∉ r.ov)->y_ R (kX l s) s/\y' B (kX l s) s:=by
 intro l;induction l with
 | nil=>intro s _;exact⟨λ_ _=>rfl,λ_ _=>rfl⟩
 | cons r l aP=>
  intro s h;obtain⟨E,M⟩:=aP (r.jO s) λwZ bE=>h wZ (ajp _ bE);have U:=h r (aK5);exact⟨λt aT=>(E t aT).trans (WE (U.1 t aT)),λb V=>(M b V).trans (vP (U.2 b V))⟩
theorem alW{R B:List Nat}{r:fk}{s s':aE}(E:y_ R s s')(M:y' B s s'):y_ R (r.jO s) (r.jO s')/\y' B (r.jO s) (r.jO s'):=by
 refine⟨λt aT=>?_,λb V=>?_⟩
 ·rw[IF,IF];split
  ·rfl
  ·exact E t aT
 ·by_cases hw:b∈r.ov
  ·rw[za,za];exact N2 _ _ _ hw
  ·rw[vP hw,vP hw];exact M b V
theorem alX{R B:List Nat}(p:Nat×fk->Bool):∀ (l:List (Nat×fk)) (s s':aE),y_ R s s'->y' B s s'->(∀ r∈l,p r=false->(∀ t∈R,t ∉ r.2.pn)/\∀ b∈B,b ∉ r.2.ov)->
  y_ R (kX ((l.filter p).map (·.2)) s) (kX (l.map (·.2)) s')/\y' B (kX ((l.filter p).map (·.2)) s) (kX (l.map (·.2)) s'):=by
 intro l;induction l with
 | nil=>intro s s' E M _;exact⟨E,M⟩
 | cons r l aP=>
  intro s s' E M h;have af:=λwZ bE=>h wZ (ajp _ bE);cases aq:p r with
  | true=>
   rw[aLi aq];obtain⟨aY,a_⟩:=alW (r:=r.2) E M;exact aP _ _ aY a_ af
  | false=>
   rw[aLj (by grind)];have U:=h r (aK5) aq;exact aP _ _ (λt aT=>(E t aT).trans (WE (U.1 t aT)).symm) (λb V=>(M b V).trans (vP (U.2 b V)).symm) af
theorem alY{r:fk}:∀ (l:List fk) (s:aE),(∀ x∈l,(∀ t∈r.pn,t ∉ x.pn)/\∀ b∈r.ov,b ∉ x.ov)->kX l (r.jO s)=r.jO (kX l s):=by
 intro l;induction l with
 | nil=>intro s _;rfl
 | cons x l aP=>
  intro s h;have al:=h x (aK5);show kX l (x.jO (r.jO s))=r.jO (kX l (x.jO s));rw[<-alU al.1 al.2 s];grind
def j3:Nat->List fk->List (Nat×fk)
 | _,[]=>[]
 | n,r::l=>(n,r)::j3 (n+1) l
theorem WG:∀ (l m:List fk) (n:Nat),j3 n (l++m)=j3 n l++j3 (n+l.length) m
 | [],m,n=>by rfl
 | r::l,m,n=>by simp only[List.cons_append,j3,WG l m (n+1),aKN];grind
theorem IG:∀ (l:List fk) (n:Nat),(j3 n l).map (·.2)=l
 | [],_=>rfl
 | r::l,n=>by simp only[j3,aKq,IG l (n+1)]
theorem EX:∀ {l:List fk} {n j:Nat} {x:fk},(j,x)∈j3 n l->n<=j/\l[j - n]?=some x
 | r::l,n,j,x,h=>by
  simp only[j3,aKU,aJ8]at h;rcases h with⟨rfl,rfl⟩ | h
  ·simp
  ·obtain⟨E,M⟩:=EX h;grind
 | [],_,_,_,h=>by cases h
def ow(l:List fk)(s:aE)(f:Nat->Bool):aE:=kX (((j3 0 l).filter λp=>f p.1).map (·.2)) s
theorem WH(l m:List fk)(s:aE):kX (l++m) s=kX m (kX l s):=by simp[kX]
theorem N3{a b:fk}(h:a.apart b=true):(∀ t∈a.pn,t ∉ b.lQ/\t ∉ b.pn)/\(∀ t∈a.lQ,t ∉ b.pn)/\(∀ x∈a.ov,x ∉ b.vO/\x ∉ b.ov)/\∀ x∈a.vO,x ∉ b.ov:=by
 simp only[fk.apart,ajm]at h;obtain⟨⟨⟨E,M⟩,ai⟩,bf⟩:=h;refine⟨λt aT=>?_,λt aT=>IE M aT,λx al=>?_,λx al=>IE bf al⟩
 ·have:=IE E aT;grind
 ·have:=IE ai al;grind
theorem alZ{l:List fk}{s:aE}{f:Nat->Bool}{i:Nat}{r:fk}(D:l[i]?=some r)(aw:f i=false)
  (iR:∀ j x,j<i->l[j]?=some x->f j=false->x.apart r=true) (zb:∀ j x,i<j->l[j]?=some x->f j=true->r.apart x=true) :
  y_ r.lQ (ow l s f) (kX (l.take i) s)/\y' r.vO (ow l s f) (kX (l.take i) s)/\ow l s (λj=>if j=i then true else f j)=r.jO (ow l s f):=by
 obtain⟨cF,fT⟩:=List.getElem?_eq_some_iff.1 D;have hlen:(l.take i).length=i:=by grind
 have WI:j3 0 l=j3 0 (l.take i)++(i,r)::j3 (i+1) (l.drop (i+1)):=by
  have E:l=l.take i++r::l.drop (i+1):=by
   have:=aLr i l;rw[aJ9 cF,fT]at this;grind
  have M:=WG (l.take i) (r::l.drop (i+1)) 0;rw[<-E,hlen]at M;simpa [j3]using M
 have al0:∀ p∈j3 0 (l.take i),p.1<i/\l[p.1]?=some p.2:=by
  rintro⟨j,x⟩ aq;obtain⟨_,M⟩:=EX aq;grind
 have aHa:∀ p∈j3 (i+1) (l.drop (i+1)),i<p.1/\l[p.1]?=some p.2:=by
  rintro⟨j,x⟩ aq;obtain⟨E,M⟩:=EX aq;grind
 have WJ:∀ x∈((j3 (i+1) (l.drop (i+1))).filter λp=>f p.1).map (·.2),r.apart x=true:=by
  grind
 have iz:ow l s f=kX (((j3 (i+1) (l.drop (i+1))).filter λp=>f p.1).map (·.2)) (kX (((j3 0 (l.take i)).filter λp=>f p.1).map (·.2)) s):=by
  unfold ow;rw[WI,aKX,aLj (by grind),aLs,WH]
 have vQ:=alV (R:=r.lQ) (B:=r.vO) (((j3 (i+1) (l.drop (i+1))).filter λp=>f p.1).map (·.2)) (kX (((j3 0 (l.take i)).filter λp=>f p.1).map (·.2)) s)
  (λx al=>by
   have:=N3 (WJ x al);grind)
 have s5:=alX (R:=r.lQ) (B:=r.vO) (λp=>f p.1) (j3 0 (l.take i)) s s (λ_ _=>rfl) (λ_ _=>rfl) (λp aq al1=>by
  obtain⟨E,M⟩:=al0 p aq;have:=N3 (iR p.1 p.2 E M al1);grind)
 rw[IG]at s5;refine⟨λt aT=>by rw[iz];exact (vQ.1 t aT).trans (s5.1 t aT),λb V=>by rw[iz];exact (vQ.2 b V).trans (s5.2 b V),?_⟩;rw[iz];unfold ow;have ax:(j3 0 (l.take i)).filter (λp=>if p.1=i then true else f p.1)=(j3 0 (l.take i)).filter λp=>f p.1:=by
  apply aLe;grind
 have aU:(j3 (i+1) (l.drop (i+1))).filter (λp=>if p.1=i then true else f p.1)=(j3 (i+1) (l.drop (i+1))).filter λp=>f p.1:=by
  apply aLe;grind
 rw[WI,aKX,aLi (by simp),ax,aU,aLs,WH];show kX _ (r.jO _)=_;refine alY _ _ λx al=>?_;have:=N3 (WJ x al);grind
theorem EY{p:Nat->Prop}:∀ (ops:List Oper) (acc:List (List Nat)),(∀ j i,i∈acc.getD j []->p j->p i)->(∀ j o,ops[j]?=some o->∀ i∈mi o,p (acc.length+j)->p i)->
  ∀ j i,i∈(ops.foldl BN acc).getD j []->p j->p i:=by
 intro ops;induction ops with
 | nil=>simp
 | cons o ops aP=>
  intro acc h an;refine aP (BN acc o) (λj i D aI=>?_) λj mf p8 i D aI=>an (j+1) mf (by grind) i D (by
   have:(BN acc o).length=acc.length+1:=by simp[BN]
   grind)
  unfold BN at D;rw[aJ7,List.getElem?_append]at D;split at D
  ·grind
  ·rename_i cF;by_cases e:j=acc.length
   ·subst e;simp only[Nat.sub_self,aKY,aju]at D;have D:=(N0 D).resolve_left (by simp);simp only[aLl,aKU]at D;obtain⟨k,ah,D⟩:=D;have xm:=an 0 o (by simp) k ah (by omega);grind
   grind
theorem al2{ba:ew}{T:Nat->aa}{bK:Nat->Option aF}{ops:Array Oper}:∀ (os:List Oper) (s:aE) {l:List fk} {s':aE},y9 ba T bK ops os s=some (l,s')->
  l.length=os.length/\s'=kX l s/\∀ i o,os[i]?=some o->∃ r,l[i]?=some r/\xl ba T bK ops (kX (l.take i) s) o=some r:=by
 intro os;induction os with
 | nil=>intro s l s' h;cases h;exact⟨rfl,rfl,λi o h=>by cases h⟩
 | cons o os aP=>
  intro s l s' h;simp only[y9]at h;split at h
  ·cases h
  ·rename_i r U;split at h
   ·cases h
   ·rename_i eo aHb af;cases h;obtain⟨E,M,ai⟩:=aP _ af;refine⟨by grind,M,λi mf p8=>?_⟩;cases i with
    | zero=>
     simp only[aKY,ajk]at p8;subst p8;exact⟨r,by simp,U⟩
    | succ i=>
     obtain⟨wZ,aY,a_⟩:=ai i mf (by grind);exact⟨wZ,by grind,a_⟩
theorem N4{ops:Array Oper}{f j1:Nat->aO}{g:Option (Nat×Bool)}(h:∀ t∈ID ops g,f t=j1 t):lP f ops g=lP j1 ops g:=by
 unfold lP;cases g with
 | none=>rfl
 | some p=>
  obtain⟨j,want⟩:=p;simp only;cases aI:ops[j]? with
  | none=>rfl
  | some o=>
   simp only;cases an:o.dst with
   | none=>rfl
   | some d=>
    simp only;rw[h d (by simp[ID,aI,an])]
theorem al3{ba:ew}{T:Nat->aa}{bK:Nat->Option aF}{ops:Array Oper}{s s':aE}{o:Oper}{r:fk}(h:xl ba T bK ops s o=some r)(E:y_ r.lQ s' s)(M:y' r.vO s' s):xl ba T bK ops s' o=some r:=by
 have WK:r.lQ=ER ops o/\r.vO=(cn ba T bK (bs ba s.aD) o).looks s.W:=by
  unfold xl at h;grind
 rw[WK.1]at E;rw[WK.2]at M;have nV:∀ x∈o.op.operands.toList,bs ba s'.aD x=bs ba s.aD x:=by
  intro x al;cases x with
  | tmp t=>
   refine E t ?_;simp only[ER,List.mem_append];exact .inr (List.mem_filterMap.2 ⟨.tmp t,al,rfl⟩)
  | _=>rfl
 have ax:lP s'.aD ops o.guard=lP s.aD ops o.guard:=N4 λt aT=>E t (by simp[ER,aT]);have aU:cn ba T bK (bs ba s'.aD) o=cn ba T bK (bs ba s.aD) o:=alQ nV;have cD:=aM.Vo (H:=s.W) (H':=s'.W) (cn ba T bK (bs ba s.aD) o) M;have eZ:vM (bs ba s'.aD) o=vM (bs ba s.aD) o:=by
  unfold vM;grind
 have fR:qT (bs ba s'.aD) o=qT (bs ba s.aD) o:=by
  unfold qT;cases au:o.op with
  | binOp op ty x y t=>
   rw[au]at nV;simp only;rw[nV x (by simp[Op.operands])]
  | load ty x=>rw[au]at nV;simp only;rw[nV x (by simp[Op.operands])]
  | store ty x y=>rw[au]at nV;simp only;rw[nV x (by simp[Op.operands])]
  | call c=>
   obtain⟨callee,args,dS⟩:=c;rw[au]at nV;cases callee with
   | builtin b=>
    have dt:∀ x∈args.toList,bs ba s'.aD x=bs ba s.aD x:=λx al=>nV x (by simp[Op.operands,Call.operands];simp_all);simp only;unfold IA;grind
   | _=>rfl
  | _=>rfl
 unfold xl at h ⊢;simp_all
universe u
def eu{bet:Type}:G bet:=⟨False,λ_=>False⟩
inductive b6 where
 | undef
 | val (t:aa)
 | eI (t:aa)
 | aK (b off:Nat)
 | own (b:Nat)
 | sub (b:Nat)
 | gE (b:Nat)
 | la (b:Nat)
 | bZ
 | jV (k:FuncId) (gX:z8')
 | tr (aN:aa)
 | ia
 | iS (ds:List Nat)
 | kj (b:Nat)
 deriving DecidableEq
inductive cb where
 | cells (t:aa) (l:List b6)
 | bu (e:aa)
 | iL (e:aa)
 | mp (k v:aa)
 | ky (k v:aa)
 | gI (t:aa)
 | hR (t:aa)
 | cO (k v:aa)
 | hJ (e:aa) (t:b6)
def b6.cons(t:b6)(R:Type):Type:=
 match t with
 | .val t=>t.ak×R
 | .eI t=>t.ak×R
 | .sub _=>(Nat×Nat)×R
 | .tr aN=>(Nat×(List aN.ak->Prop)×List aN.ak×Bool)×R
 | .ia=>Nat×R
 | .kj _=>Nat×R
 | _=>R
def rT:List b6->Type->Type
 | [],R=>R
 | t::l,R=>t.cons (rT l R)
def cb.cons(t:cb)(R:Type):Type:=
 match t with
 | .cells _ l=>rT l R
 | .bu e=>List e.ak×R
 | .iL e=>List e.ak×R
 | .mp k v=>List (k.ak×v.ak)×R
 | .ky k v=>List (k.ak×v.ak)×R
 | .gI t=>t.ak×R
 | .hR t=>t.ak×R
 | .cO k v=>(Option (k.ak×v.ak)×List (k.ak×v.ak))×R
 | .hJ e t=>(List e.ak×Nat)×t.cons R
def cb.EZ:cb->Bool
 | .cells _ _ | .bu _ | .mp _ _ | .gI _ | .cO _ _ | .hJ _ _=>true
 | _=>false
def cb.IH(t u:cb):Bool:=
 match t,u with
 | .cells _ _,.cells _ _ | .cells _ _,.gI _ | .gI _,.cells _ _ | .gI _,.gI _ | .hR _,.cells _ _ | .hR _,.gI _=>true
 | .mp _ _,.mp _ _ | .ky _ _,.mp _ _=>true
 | .bu e,.bu bt=>decide (e=bt)
 | .iL _,.bu _=>true
 | _,_=>false
structure ep where
 cc:List (Nat×b6)
 bR:List (Nat×cb)
def qU:List (Nat×cb)->Type
 | []=>Unit
 | p::l=>p.2.cons (qU l)
def p9:List (Nat×b6)->Type->Type
 | [],R=>R
 | p::l,R=>p.2.cons (p9 l R)
def ep.ak(sh:ep):Type:=p9 sh.cc (qU sh.bR)
def xn(g:Nat->Nat×Nat)(gX:z8'):Nat->aO:=ig (gX.map λp=>.aK (g p.1).1 (g p.1).2 p.2)
def xo(g:Nat->Nat×Nat)(ds:List Nat):Nat->aO:=ig (ds.map λb=>.own (g b).1 (g b).2)
def b6.av(g:Nat->Nat×Nat)(t:b6){R:Type}(x:t.cons R):aO×R:=
 match t,x with
 | .undef,x=>(.undef,x)
 | .val t,x=>(.val t x.1,x.2)
 | .eI t,x=>(.eI t x.1,x.2)
 | .aK b off,x=>(.aK (g b).1 (g b).2 off,x)
 | .own b,x=>(.own (g b).1 (g b).2,x)
 | .sub b,x=>(.sub (g b).1 (g b).2 x.1.1 x.1.2,x.2)
 | .gE b,x=>(.gE (g b).1 (g b).2,x)
 | .la b,x=>(.la (g b).1 (g b).2,x)
 | .bZ,x=>(.bZ,x)
 | .jV k gX,x=>(.jV k gX.length (xn g gX),x)
 | .tr aN,x=>(.tr x.1.1 aN x.1.2.1 x.1.2.2.1 x.1.2.2.2,x.2)
 | .ia,x=>(.ia x.1,x.2)
 | .iS ds,x=>(.agg ds.length (xo g ds),x)
 | .kj b,x=>(.kj (g b).1 (g b).2 x.1,x.2)
def qV(g:Nat->Nat×Nat):(l:List b6)->{R:Type}->rT l R->List aO×R
 | [],_,x=>([],x)
 | t::l,_,x=>let (a,y):=t.av g x;let (as,z):=qV g l y;(a::as,z)
def cb.body(g:Nat->Nat×Nat)(t:cb){R:Type}(x:t.cons R):cf×R:=
 match t,x with
 | .cells t l,x=>let (as,y):=qV g l x;(.cells t (ig as),y)
 | .bu e,x=>(.bu e x.1,x.2)
 | .iL e,x=>(.iL e x.1,x.2)
 | .mp k v,x=>(.mp k v x.1,x.2)
 | .ky k v,x=>(.ky k v x.1,x.2)
 | .gI t,x=>(.cells t (ig (o8 t x.1)),x.2)
 | .hR t,x=>(.hR t x.1,x.2)
 | .cO k v,x=>(.cO k v x.1.1 x.1.2,x.2)
 | .hJ e t,x=>let (a,y):=t.av g x.2;(.hJ e x.1.1 x.1.2 a,y)
def fe(g:Nat->Nat×Nat):(l:List (Nat×b6))->{R:Type}->p9 l R->List (Nat×aO)×R
 | [],_,x=>([],x)
 | p::l,_,x=>let (a,y):=p.2.av g x;let (as,z):=fe g l y;((p.1,a)::as,z)
def ij(g:Nat->Nat×Nat):(l:List (Nat×cb))->qU l->List (Nat×cf)
 | [],_=>[]
 | p::l,x=>let (a,y):=p.2.body g x;(p.1,a)::ij g l y
def gh:List (Nat×aO)->Nat->aO
 | [],_=>.undef
 | p::l,i=>if i=p.1 then p.2 else gh l i
def fH:List (Nat×cf)->Nat->b'
 | [],_=>⟨0,.gp⟩
 | p::l,i=>if i=p.1 then ⟨0,p.2⟩ else fH l i
def WL(al4:List (Nat×aO))(ds:List (Nat×cf)):aE:=⟨gh al4,fH ds⟩
def dz(b:Nat):Nat×Nat:=(b,0)
def ep.ae(sh:ep)(A:sh.ak):aE:=
 WL (fe dz sh.cc A).1 (ij dz sh.bR (fe dz sh.cc A).2)
def zc(H:Nat->b')(t:aa)(av:aO){R:Type}(r:Option (R×List Nat)):Option ((t.ak×R)×List Nat):=
 match (eg t av).run H with
 | some (x,l)=>match r with
  | some (y,m)=>some ((x,y),l++m)
  | none=>none
 | none=>none
def N5(t:aa)(av:aO){R:Type}(r:Option (R×List Nat)):Option ((t.ak×R)×List Nat):=
 match av with
 | .eI dL x=>match r with
  | some (y,m)=>if h:dL=t then some ((h ▸ x,y),m) else none
  | none=>none
 | _=>none
def N6(H:Nat->b')(b:Nat)(av:aO){R:Type}(r:Option (R×List Nat)):Option (((Nat×Nat)×R)×List Nat):=
 match r with
 | some (y,m)=>match av with
  | .own bl g=>if (bl == b&&g == (H b).gen&&(H b).body.gU)=true then some (((0,(H b).body.len),y),m) else none
  | .sub bl g bn D=>if (bl == b&&g == (H b).gen)=true then some (((bn,D),y),m) else none
  | _=>none
 | none=>none
def N7(aN:aa)(av:aO){R:Type}(r:Option (R×List Nat)):Option (((Nat×(List aN.ak->Prop)×List aN.ak×Bool)×R)×List Nat):=
 match av with
 | .tr l lR L n ae=>match r with
  | some (y,m)=>if h:lR=aN then some (((l,h ▸ L,h ▸ n,ae),y),m) else none
  | none=>none
 | _=>none
def N8(av:aO){R:Type}(r:Option (R×List Nat)):Option ((Nat×R)×List Nat):=
 match av with
 | .ia l=>match r with
  | some (y,m)=>some ((l,y),m)
  | none=>none
 | _=>none
def N9(H:Nat->b')(b:Nat)(av:aO){R:Type}(r:Option (R×List Nat)):Option ((Nat×R)×List Nat):=
 match av with
 | .kj bl g i=>match r with
  | some (y,m)=>if (bl == b&&g == (H b).gen)=true then some ((i,y),m) else none
  | none=>none
 | _=>none
def II(H:Nat->b')(b off:Nat)(av:aO):Bool:=
 match av with
 | .aK bl g al5=>bl == b&&al5 == off&&g == (H b).gen
 | _=>false
def IJ(H:Nat->b')(b:Nat)(av:aO):Bool:=
 match av with
 | .own bl g=>bl == b&&g == (H b).gen
 | _=>false
def N_(H:Nat->b')(b:Nat)(av:aO):Bool:=
 match av with
 | .gE bl g=>bl == b&&g == (H b).gen
 | _=>false
def N'(H:Nat->b')(b:Nat)(av:aO):Bool:=
 match av with
 | .la bl g=>bl == b&&g == (H b).gen
 | _=>false
def Oa(av:aO):Bool:=
 match av with
 | .bZ=>true
 | _=>false
def Ob(H:Nat->b')(f:Nat->Nat)(k:FuncId)(gX:z8')(av:aO):Bool:=
 match av with
 | .jV k' n du=>k' == k&&n == gX.length&&(List.range n).all λi=>match gX[i]? with
  | some p=>II H (f p.1) p.2 (du i)
  | none=>false
 | _=>false
def Oc(H:Nat->b')(f:Nat->Nat)(ds:List Nat)(av:aO):Bool:=
 match av with
 | .agg n h=>n == ds.length&&(List.range n).all λi=>match ds[i]? with
  | some b=>IJ H (f b) (h i)
  | none=>false
 | _=>false
def xp{ag:Type}(b:Bool)(r:Option ag):Option ag:=match b with | true=>r | false=>none
def b6.kp(H:Nat->b')(f:Nat->Nat)(t:b6)(av:aO){R:Type}(r:Option (R×List Nat)):Option (t.cons R×List Nat):=
 match t with
 | .undef=>r
 | .val t=>zc H t av r
 | .eI t=>N5 t av r
 | .aK b off=>xp (II H (f b) off av) r
 | .own b=>xp (IJ H (f b) av) r
 | .sub b=>N6 H (f b) av r
 | .gE b=>xp (N_ H (f b) av) r
 | .la b=>xp (N' H (f b) av) r
 | .bZ=>xp (Oa av) r
 | .jV k gX=>xp (Ob H f k gX av) r
 | .tr aN=>N7 aN av r
 | .ia=>N8 av r
 | .iS ds=>xp (Oc H f ds av) r
 | .kj b=>N9 H (f b) av r
def BP(H:Nat->b')(f:Nat->Nat):(l:List b6)->(Nat->aO)->Nat->{R:Type}->Option (R×List Nat)->Option (rT l R×List Nat)
 | [],_,_,_,r=>r
 | t::l,c,i,_,r=>t.kp H f (c i) (BP H f l c (i+1) r)
def Od(H:Nat->b')(f:Nat->Nat)(t:aa)(l:List b6)(b:cf){R:Type}(r:Option (R×List Nat)):Option (rT l R×List Nat):=
 match b with
 | .cells dL c=>if dL=t/\t.size=l.length then BP H f l c 0 r else none
 | _=>none
def Oe(e:aa)(b:cf){R:Type}(r:Option (R×List Nat)):Option ((List e.ak×R)×List Nat):=
 match b with
 | .bu bt xs=>match r with
  | some (y,m)=>if h:bt=e then some ((h ▸ xs,y),m) else none
  | none=>none
 | _=>none
def Of(k v:aa)(b:cf){R:Type}(r:Option (R×List Nat)):Option ((List (k.ak×v.ak)×R)×List Nat):=
 match b with
 | .mp k' kk es=>match r with
  | some (y,m)=>if h:k'=k/\kk=v then some ((h.1 ▸ h.2 ▸ es,y),m) else none
  | none=>none
 | _=>none
def Og(k v:aa)(b:cf){R:Type}(r:Option (R×List Nat)):Option (((Option (k.ak×v.ak)×List (k.ak×v.ak))×R)×List Nat):=
 match b with
 | .cO k' kk c es=>match r with
  | some (y,m)=>if h:k'=k/\kk=v then some (((h.1 ▸ h.2 ▸ c,h.1 ▸ h.2 ▸ es),y),m) else none
  | none=>none
 | _=>none
def Oh(H:Nat->b')(f:Nat->Nat)(e:aa)(t:b6)(b:cf){R:Type}(r:Option (R×List Nat)):Option (((List e.ak×Nat)×t.cons R)×List Nat):=
 match b with
 | .hJ bt xs i v=>match t.kp H f v r with
  | some (y,m)=>if h:bt=e then some (((h ▸ xs,i),y),m) else none
  | none=>none
 | _=>none
def Oi(H:Nat->b')(t:aa)(b:cf){R:Type}(r:Option (R×List Nat)):Option ((t.ak×R)×List Nat):=
 match b with
 | .cells dL f=>if dL=t then zc H t (.agg t.size f) r else none
 | _=>none
def Oj(H:Nat->b')(t:aa)(b:Nat){R:Type}(r:Option (R×List Nat)):Option ((t.ak×R)×List Nat):=
 match (eg (.bV t) (.aK b (H b).gen 0)).run H with
 | some (some x,l)=>match r with
  | some (y,m)=>some ((x,y),l++m)
  | none=>none
 | _=>none
def cb.kp(H:Nat->b')(f:Nat->Nat)(t:cb)(b:Nat){R:Type}(r:Option (R×List Nat)):Option (t.cons R×List Nat):=
 match t with
 | .cells t l=>Od H f t l (H b).body r
 | .bu e=>Oe e (H b).body r
 | .iL e=>zc H (.slice e) (.own b (H b).gen) r
 | .mp k v=>Of k v (H b).body r
 | .ky k v=>zc H (.map k v) (.gE b (H b).gen) r
 | .gI t=>Oi H t (H b).body r
 | .hR t=>Oj H t b r
 | .cO k v=>Og k v (H b).body r
 | .hJ e t=>Oh H f e t (H b).body r
def E0(H:Nat->b')(f:Nat->Nat):(l:List (Nat×cb))->Option (qU l×List Nat)
 | []=>some ((),[])
 | p::l=>p.2.kp H f (f p.1) (E0 H f l)
def BQ(H:Nat->b')(f:Nat->Nat):(l:List (Nat×b6))->(Nat->aO)->{R:Type}->Option (R×List Nat)->Option (p9 l R×List Nat)
 | [],_,_,r=>r
 | p::l,c,_,r=>p.2.kp H f (c p.1) (BQ H f l c r)
def ep.p_(sh:ep):List Nat:=sh.bR.filterMap λp=>if p.2.EZ then some p.1 else none
def ep.BR(sh:ep)(f:Nat->Nat)(s:aE):Option (sh.ak×List Nat):=
 match BQ s.W f sh.cc s.aD (E0 s.W f sh.bR) with
 | some (A,ck)=>if sh.p_.all (λb=>!ck.contains (f b))=true then some (A,ck) else none
 | none=>none
def Ol:List (Nat×cb)->Nat->Option cb
 | [],_=>none
 | p::l,b=>if b=p.1 then some p.2 else Ol l b
def Om(s:aE)(i b bl g':Nat):aE:=
 match decide (bl≠b/\g'=(s.W bl).gen),(s.W bl).body with
 | true,.bu e xs=>⟨λj=>if j=i then .own b ((s.W b).gen+1) else s.aD j,λj=>if j=b then ⟨(s.W b).gen+1,.bu e xs⟩ else if j=bl then ⟨(s.W bl).gen+1,.gp⟩ else s.W j⟩
 | _,_=>s
def On(ds:List (Nat×cb))(s:aE)(i b:Nat):aE:=
 match s.aD i,Ol ds b with
 | .bZ,some (.bu e)=>⟨λj=>if j=i then .own b ((s.W b).gen+1) else s.aD j,(s.c' b ⟨(s.W b).gen+1,.bu e []⟩).W⟩
 | .own bl g',some (.bu _)=>Om s i b bl g'
 | _,_=>s
def Oo(ds:List (Nat×cb))(s:aE)(c j b:Nat):aE:=
 match (s.W c).body with
 | .cells t f=>match f j,(s.W b).body,Ol ds b with
  | .bZ,.gp,some (.bu e)=>(s.c' b ⟨(s.W b).gen+1,.bu e []⟩).c' c ⟨(s.W c).gen,.cells t λq=>if q=j then .own b ((s.W b).gen+1) else f q⟩
  | _,_,_=>s
 | _=>s
def IK(ds:List (Nat×cb)):List (Nat×b6)->aE->aE
 | [],s=>s
 | p::l,s=>IK ds l (match p.2 with | .own b=>On ds s p.1 b | _=>s)
def IL(ds:List (Nat×cb))(c:Nat):List b6->Nat->aE->aE
 | [],_,s=>s
 | t::l,j,s=>IL ds c l (j+1) (match t with | .own b=>Oo ds s c j b | _=>s)
def IM(ds:List (Nat×cb)):List (Nat×cb)->aE->aE
 | [],s=>s
 | p::l,s=>IM ds l (match p.2 with | .cells _ ts=>IL ds p.1 ts 0 s | _=>s)
def ep.IN(sh:ep)(s:aE):aE:=IM sh.bR sh.bR (IK sh.bR sh.cc s)
def cb.WM:cb->Bool
 | .bu _ | .iL _ | .hJ _ _=>true
 | _=>false
def ep.IP(sh:ep)(s:aE):Bool:=sh.bR.all λp=>!(decide (yR<=p.1)&&p.2.WM)||decide ((s.W p.1).gen=0)
def ep.kp(sh:ep)(s:aE):Option (sh.ak):=
 match sh.IP (sh.IN s) with
 | true=>(sh.BR (λb=>b) (sh.IN s)).map (·.1)
 | false=>none
def ep.ox{bet:Type}(sh:ep)(s:aE)(k:sh.ak->G bet):G bet:=
 match sh.kp s with
 | some A=>k A
 | none=>eu
def b6.zd(t:b6){R:Type}(r:R):t.cons R:=
 match t with
 | .val t=>(t.dK,r)
 | .eI t=>(t.dK,r)
 | .sub _=>((0,0),r)
 | .tr _=>((0,λ_=>False,[],false),r)
 | .ia=>(0,r)
 | .kj _=>(0,r)
 | .undef | .aK _ _ | .own _ | .gE _ | .la _ | .bZ | .jV _ _ | .iS _=>r
def WN:(l:List b6)->{R:Type}->R->rT l R
 | [],_,r=>r
 | t::l,_,r=>t.zd (WN l r)
def cb.zd(t:cb){R:Type}(r:R):t.cons R:=
 match t with
 | .cells _ l=>WN l r
 | .bu _=>([],r)
 | .iL _=>([],r)
 | .mp _ _=>([],r)
 | .ky _ _=>([],r)
 | .gI t=>(t.dK,r)
 | .hR t=>(t.dK,r)
 | .cO _ _=>((none,[]),r)
 | .hJ _ t=>(([],0),t.zd r)
def WO:(l:List (Nat×cb))->qU l
 | []=>()
 | p::l=>p.2.zd (WO l)
def WQ:(l:List (Nat×b6))->{R:Type}->R->p9 l R
 | [],_,r=>r
 | p::l,_,r=>p.2.zd (WQ l r)
def ep.zd(sh:ep):sh.ak:=WQ sh.cc (WO sh.bR)
structure iU where
 ts:aa
 tr:aa
 sh:ts.ak->G tr.ak
 IQ:Bool
def aF.dU(c:aF):iU:=⟨c.ts,c.tr,c.sh,true⟩
def G.E1{ag:Type}(m:G ag):Prop:=∀ x y,m.bo x->m.bo y->x=y
open Classical in
def G.val{ag:Type}(m:G ag)(d:ag):ag:=if h:∃ x,m.bo x then h.choose else d
def iU.IS(c:iU):aF:=⟨c.ts,c.tr,λx=>(c.sh x).et,λx=>(c.sh x).val c.tr.dK⟩
structure cW where
 cH:ep
 bo:ep
 lS:z9'
 lT:Nat
 sh:cH.ak->G bo.ak
structure BS where
 ts:aa
 aN:aa
 pre:ts.ak->Prop
 seq:ts.ak->List aN.ak
inductive gJ where
 | dU (c:iU)
 | fr (c:cW)
 | cO (c:BS)
 | WR (c:iU)
 | IT (c:cW) (sh:Nat->c.cH.ak->G c.bo.ak) (ids:List Nat)
 | lU (c:aF)
def IU(bK:Nat->Option aF)(Psi:Nat->Option gJ)(k:Nat):Option aF:=
 match Psi k with
 | some (.dU c)=>match c.IQ&&!pa c.tr with
  | true=>some c.IS
  | false=>none
 | some (.lU c)=>some c
 | some _=>none
 | none=>bK k
def Oq(bK:Nat->Option aF)(Psi:Nat->Option gJ)(k:Nat):Option iU:=
 match Psi k with
 | some (.dU c)=>some c
 | some _=>none
 | none=>(bK k).bind λc=>if pa c.tr=true then none else some c.dU
structure jk where
 ag:Type
 d:ag
 cG:Prop
 m:G ag
 ae:ag->aE
 E2:Option (Bool->ag->aE)
def s6(s:aE)(o:Oper)(tr:aa)(ck:List Nat)(v:aO):aE:=(if tr.pure then s else s.cV ck).set o.dst v
def E3(ba:ew)(s:aE)(o:Oper)(args:List Operand)(dU:iU):Option jk:=
 match (km dU.ts ((args.map (bs ba s.aD)).map λv=>(use v).2)).run s.W with
 | some (x,ck)=>some ⟨dU.tr.ak,dU.tr.dK,ld (args.map (bs ba s.aD)),dU.sh x,λy=>s6 s o dU.tr ck (sP dU.tr y),some λg y=>s6 s o dU.tr ck (.jU g (sP dU.tr y))⟩
 | none=>none
def IV(ba:ew)(s:aE)(o:Oper)(args:List Operand)(dU:iU):Option jk:=
 match (km dU.ts ((args.map (bs ba s.aD)).map λv=>(use v).2)).run s.W with
 | some (x,_)=>some ⟨dU.tr.ak,dU.tr.dK,ld (args.map (bs ba s.aD)),dU.sh x,λy=>s.set o.dst (sP dU.tr y),none⟩
 | none=>none
def E4(ba:ew)(s:aE)(o:Oper)(t:Nat)(args:List Operand):Option jk:=
 match use (s.aD t) with
 | (cG,.val (.fn a b) f)=>match (km a ((args.map (bs ba s.aD)).map λv=>(use v).2)).run s.W with
  | some (x,ck)=>some ⟨b.ak,b.dK,cG/\ld (args.map (bs ba s.aD)),f x,λy=>s6 s o b ck (sP b y),some λg y=>s6 s o b ck (.jU g (sP b y))⟩
  | none=>none
 | _=>none
def WS(t:b6)(av:aO):z8':=
 match t,av with
 | .aK bl _,.aK b _ _=>[(bl,b)]
 | .own bl,.own b _=>[(bl,b)]
 | .sub bl,.own b _=>[(bl,b)]
 | .sub bl,.sub b _ _ _=>[(bl,b)]
 | .gE bl,.gE b _=>[(bl,b)]
 | .la bl,.la b _=>[(bl,b)]
 | .jV _ gX,.jV _ _ du=>(List.range gX.length).filterMap λi=>match gX[i]?,du i with
  | some p,.aK b _ _=>some (p.1,b)
  | _,_=>none
 | _,_=>[]
def WT:List b6->(Nat->aO)->Nat->z8'
 | [],_,_=>[]
 | t::l,c,i=>WS t (c i)++WT l c (i+1)
def Ot:z8'->Nat->Option Nat
 | [],_=>none
 | p::l,b=>if b=p.1 then some p.2 else Ot l b
def WU(H:Nat->b'):List (Nat×cb)->z8'->z8'
 | [],m=>m
 | p::l,m=>WU H l (m++match p.2,Ot m p.1 with
  | .cells _ ts,some b=>(match (H b).body with | .cells _ c=>WT ts c 0 | _=>[])
  | _,_=>[])
def al6(sh:ep)(s:aE):z8':=WU s.W sh.bR (sh.cc.flatMap λp=>WS p.2 (s.aD p.1))
def uh(s:aE)(avs:List aO):aE:=⟨λi=>if i=cw then s.aD cw else if i<avs.length then avs.getD i .undef else .undef,s.W⟩
def rU:Nat:=99999
def ui(s:aE)(d:Nat)(f:Nat->Nat)(ins:List Nat):List (Nat×cb)->Nat->z6'
 | [],_=>[]
 | p::l,j=>(if ins.contains p.1 then (p.1,(f p.1,match p.2 with
   | .cells _ _ | .gI _ | .mp _ _ | .hR _ | .ky _ _=>(s.W (f p.1)).gen
   | .bu _=>if yR<=p.1 then (s.W (f p.1)).gen else (s.W (f p.1)).gen+1
   | _=>(s.W (f p.1)).gen+1)) else (p.1,(50000+10*d+j,(s.W (50000+10*d+j)).gen+1)))::ui s d f ins l (j+1)
def jl:z6'->Nat->Nat×Nat
 | [],_=>(rU,0)
 | p::l,b=>if b=p.1 then p.2 else jl l b
def qW:z9'->(Nat->aO)->Nat->List aO
 | [],_,_=>[]
 | none::l,c,i=>c i::qW l c (i+1)
 | some n::l,c,i=>.agg n (λj=>c (i+j))::qW l c (i+n)
def Ou(l:List aO):aO:=
 match l with
 | [v]=>v
 | l=>.rF l.length (ig l)
def ze(s:aE)(c:cW)(f:Nat->Nat)(cC:z6')(bG:c.bo.ak):aE:=
 ⟨λi=>if i=cw then (if c.bo.cc.any (λp=>p.1 == cw) then gh (fe (jl cC) c.bo.cc bG).1 cw else if c.cH.cc.any (λp=>p.1 == cw) then .undef else s.aD cw) else s.aD i,λb=>match cC.find? (λp=>p.2.1 == b) with
  | some p=>⟨p.2.2,(fH (ij (jl cC) c.bo.bR (fe (jl cC) c.bo.cc bG).2) p.1).body⟩
  | none=>if (c.cH.p_.map f).contains b then ⟨(s.W b).gen+1,.gp⟩ else s.W b⟩
def al7(s:aE)(o:Oper)(c:cW)(f:Nat->Nat)(cC:z6')(bG:c.bo.ak):aE:=
 aE.set (ze s c f cC bG) o.dst (Ou (qW c.lS (gh (fe (jl cC) c.bo.cc bG).1) 0))
def IW(l:List Nat):Bool:=decide l.Nodup
def E5(c:cW)(f:Nat->Nat)(s2:aE)(cC:z6')(d n:Nat):Bool:=
  decide (d < 4000) && decide (c.bo.bR.length <= 10) && IW (c.cH.bR.map (·.1)) && IW (c.cH.bR.map λp => f p.1) && IW (cC.map (·.1)) && IW (cC.map (·.2.1)) && (c.cH.bR.map (·.1)).all (λb => decide (fF <= b))
        &&!(cC.map (·.2.1)).contains rU&&(match (s2.W rU).body with | .gp=>true | _=>false)&&c.bo.bR.all (λp=>c.cH.bR.all λq=>!(p.1 == q.1&&q.2.EZ)||p.2.IH q.2)&&(decide (n=c.lT)&&decide (n<=fF))
def s7(ba:ew)(s:aE)(args:List Operand):List aO:=(args.map (bs ba s.aD)).map λv=>(use v).2
def s8(c:cW)(s1:aE)(b:Nat):Nat:=(Ot (al6 c.cH s1) b).getD rU
def zf(ba:ew)(s:aE)(o:Oper)(args:List Operand)(c:cW):Option jk:=
 match c.cH.BR (s8 c (uh s (s7 ba s args))) (uh s (s7 ba s args)) with
 | some (A,ck)=>match E5 c (s8 c (uh s (s7 ba s args))) (s.cV ck) (ui (s.cV ck) (o.dst.getD 0) (s8 c (uh s (s7 ba s args))) c.cH.p_ c.bo.bR 0) (o.dst.getD 0) args.length with
  | true=>some ⟨c.bo.ak,c.bo.zd,ld (args.map (bs ba s.aD)),c.sh A,λbG=>al7 (s.cV ck) o c (s8 c (uh s (s7 ba s args))) (ui (s.cV ck) (o.dst.getD 0) (s8 c (uh s (s7 ba s args))) c.cH.p_ c.bo.bR 0) bG,none⟩
  | false=>none
 | none=>none
def WV:Nat:=999999
def WW(c:cW)(sh:Nat->c.cH.ak->G c.bo.ak)(ids:List Nat)(n:Option Nat):cW:={ c with sh:=λA=>ad (∃ k∈ids,n=some k) (sh (n.getD 0) A) }
def IX(ba:ew)(Psi:Nat->Option gJ)(s:aE)(o:Oper)(t:Nat)(args:List Operand):Option jk:=
 match s.aD t with
 | .val .e3 n=>match Psi WV with
  | some (.IT c sh ids)=>zf ba s o args (WW c sh ids n)
  | _=>none
 | _=>none
def IY(ba:ew)(s:aE)(o:Oper)(t:Nat)(args:List Operand):Option jk:=
 match s.aD t,s.aD cw with
 | .ia eo,.tr l aN L n ae=>match (km aN ((args.map (bs ba s.aD)).map λv=>(use v).2)).run s.W with
  | some (x,ck)=>some ⟨Bool,false,ld (args.map (bs ba s.aD)),ad (eo=l/\ae=false/\∃ T,L (n++x::T)) (any λ_=>True),λb=>aE.set ⟨λi=>if i=cw then .tr l aN L (n++[x]) (!b) else s.aD i,(s.cV ck).W⟩ o.dst (.val .bool b),none⟩
  | none=>none
 | _,_=>none
def IZ(ba:ew)(T:Nat->aa)(s:aE)(o:Oper)(ty:TypeId)(x:Operand):Option jk:=
 match T ty,o.dst with
 | .map k v,some d=>match use (bs ba s.aD x) with
  | (cG,av)=>match (eg (.map k v) av).run s.W with
   | some (es,ck)=>if ck.contains d then none else
    some ⟨Unit,(),cG,mpure (),λ_=>((s.cV ck).c' d ⟨(s.W d).gen+1,.cO k v none es⟩).set o.dst (.la d ((s.W d).gen+1)),none⟩
   | none=>none
 | _,_=>none
def I0{ag:Type}(l:List ag):G (Option Nat):=⟨True,λx=>match x with | none=>l=[] | some i=>i<l.length⟩
def WX(i:Option Nat):Nat:=match i with | none=>0 | some _=>2
def po{ag:Type}(c:Option ag)(cK:List ag)(i:Option Nat):Option ag:=match i with | none=>c | some i=>cK[i]?
def E6{ag:Type}(cK:List ag)(i:Option Nat):List ag:=match i with | none=>cK | some i=>cK.eraseIdx i
def I1(ba:ew)(s:aE)(o:Oper)(x:Operand)(str:Bool):Option jk:=
 match str,bs ba s.aD x with
 | false,.la b g=>if (s.W b).gen=g then (match (s.W b).body with
  | .cO k v c cK=>some ⟨Option Nat,none,True,I0 cK,λi=>(s.c' b ⟨g,.cO k v (po c cK i) (E6 cK i)⟩).set o.dst (.rF (Nat.succ (WX i)) (ig [.val .bool i.isSome])),none⟩
  | _=>none) else none
 | _,_=>none
def I2(ba:ew)(s:aE)(o:Oper)(x:Operand):Option jk:=
 match bs ba s.aD x with
 | .la b g=>if (s.W b).gen=g then (match (s.W b).body with
  | .cO k v c _=>some ⟨Unit,(),True,ad (c.isSome=true) (mpure ()),λ_=>s.set o.dst (.rF 2 (ig [.val k ((c.map (·.1)).getD k.dK),.val v ((c.map (·.2)).getD v.dK)])),none⟩
  | _=>none) else none
 | _=>none
def E7(ba:ew)(T:Nat->aa)(s:aE)(o:Oper)(op:BinOp)(ty:TypeId)(x y:Operand):Option jk:=
 match T ty,bs ba s.aD y with
 | .slice e,.bZ=>match (eg (.slice e) (use (bs ba s.aD x)).2).run s.W with
  | some (xs,_)=>match op with
   | .eql=>some ⟨Bool,false,(use (bs ba s.aD x)).1,any λb=>b=true->xs=[],λb=>s.set o.dst (.val .bool b),none⟩
   | .neq=>some ⟨Bool,false,(use (bs ba s.aD x)).1,any λb=>b=true->xs=[],λb=>s.set o.dst (.val .bool (!b)),none⟩
   | _=>none
  | none=>none
 | _,_=>none
def uj(ba:ew)(T:Nat->aa)(bK:Nat->Option aF)(Psi:Nat->Option gJ)(s:aE)(o:Oper):Option jk:=
 match o.op with
 | .call c=>match c.callee with
  | .value f=>match f with
   | .func k=>match Psi k with
    | some (.fr me)=>zf ba s o c.args.toList me
    | some (.WR me)=>IV ba s o c.args.toList me
    | _=>match Oq bK Psi k with
     | some dU=>E3 ba s o c.args.toList dU
     | none=>none
   | .tmp t=>match E4 ba s o t c.args.toList with
    | some r=>some r
    | none=>match IX ba Psi s o t c.args.toList with
     | some r=>some r
     | none=>IY ba s o t c.args.toList
   | _=>none
  | _=>none
 | .range ty x=>IZ ba T s o ty x
 | .next x str=>I1 ba s o x str
 | .entry x=>I2 ba s o x
 | .binOp op ty x y _=>E7 ba T s o op ty x y
 | _=>none
def BT{ag:Type}(g:Bool)(m:G ag)(d:ag):G ag:=if g=true then m else mpure d
def zg{bet:Type}(b:Bool)(p:Prop)(m:G bet):G bet:=match b with | true=>m | false=>ad p m
def I3(o:Oper)(gG:aO)(l:List (Nat×b')):Option (List (Nat×b')×aO):=
 match l with
 | []=>some ([],gG)
 | p::eo=>match o.op with
  | .makeFunc ..=>some (p::eo,gG)
  | .buildSlice _ n _=>match eo,gG,p.2.body with
   | [],.own bl g',.bu e xs=>if (bl=p.1/\g'=p.2.gen)/\n≠0 then some ([(p.1,⟨p.2.gen,.gp⟩)],.val (.slice e) xs) else none
   | _,_,_=>none
  | _=>none
def WY(iN:List (Nat×b'))(gG:aO):aO:=
 match gG with
 | .own b _=>match iN.find? (λp=>p.1 == b) with
  | some (_,⟨_,.bu e xs⟩)=>.val (.slice e) xs
  | _=>gG
 | _=>gG
abbrev qX:=List (Nat×(Nat×Bool))
def vR(ops:Array Oper)(j d:Nat):Bool:=match ops[j]? with | some o=>(match o.dst with | some e=>e == d | none=>false) | none=>false
def al8(eQ:qX)(t:Nat)(k:Nat×Bool):Bool:=eQ.any λp=>p.1 == t&&(p.2.1 == k.1&&p.2.2 == k.2)
def zh(ops:Array Oper)(eQ:qX)(o:Oper):qX:=
 match o.dst with
 | none=>eQ
 | some d=>match o.guard with
  | some k=>if vR ops k.1 d=true then eQ.filter λp=>p.1 != d&&!vR ops p.2.1 d else (d,k)::eQ.filter λp=>p.1 != d&&!vR ops p.2.1 d
  | none=>eQ.filter λp=>p.1 != d&&!vR ops p.2.1 d
def zi(rho:Operand->aO)(eQ:qX)(gk:Option (Nat×Bool))(x:Operand):Bool:=
 !(rho x).BM||(match x,gk with | .tmp t,some k=>al8 eQ t k | _,_=>false)
def I4(ops:Array Oper)(eQ:qX)(c x:Operand)(want:Bool):Bool:=
 match c,x with
 | .tmp c,.tmp t=>eQ.any λp=>p.1 == t&&(vR ops p.2.1 c&&p.2.2 == want)
 | _,_=>false
def Ov(rho:Operand->aO)(eQ:qX)(gk:Option (Nat×Bool))(o:Oper):Bool:=o.op.operands.toList.all (zi rho eQ gk)
def E8(rho:Operand->aO)(ops:Array Oper)(eQ:qX)(gk:Option (Nat×Bool))(o:Oper):Bool:=
 match o.op with
 | .pick c a b=>zi rho eQ gk c&&((zi rho eQ gk a||I4 ops eQ c a true)&&(zi rho eQ gk b||I4 ops eQ c b false))
 | _=>Ov rho eQ gk o
def Ow(rho:Operand->aO)(eQ:qX)(gk:Option (Nat×Bool))(o:Oper)(gG:aO):Bool:=
 !gG.BM||(match o.op with | .move x=>zi rho eQ gk x | _=>false)
def jA:Operand->Option Nat
 | .tmp t=>some t
 | _=>none
def BU(o gf mR:Oper):Option (Oper×Nat×Nat):=
 match o.op with
 | .mapEntry ty m x=>match gf.op with
  | .extract e 1=>match mR.op with
   | .entryStore og eh bt y=>match o.dst,gf.dst,mR.dst with
    | some d1,some d2,none=>if jA e=some d1/\jA bt=some d2/\og=ty/\(jA eh).isSome=true/\jA eh=jA m/\(jA y).isSome=true/\jA m≠some d1/\jA m≠some d2/\jA y≠some d1/\jA y≠some d2/\o.guard.isNone=true/\gf.guard.isNone=true/\mR.guard.isNone=true
     then some ({ mR with op:=.mapUpdate ty m x y },d1,d2) else none
    | _,_,_=>none
   | _=>none
  | _=>none
 | _=>none
def BV(o:Oper)(os:List Oper):Option (Oper×Nat×Nat):=
 match os with
 | gf::mR::_=>BU o gf mR
 | _=>none
def I5{bet:Type}:Nat->Int->(Nat->G bet)->G bet
 | 0,_,_=>eu
 | 1,_,k=>k 0
 | n+2,v,k=>if v=((n+1:Nat):Int) then k (n+1) else I5 (n+1) v k
theorem WZ{bet:Type}{O:bet->Prop}{k:Nat->G bet}{v:Int}:∀ {n:Nat},dj (I5 n v k) O->0<=v->v<(n:Int)->dj (k v.toNat) O
 | 0,h,_,_=>h.1.elim
 | 1,h,aZ,E=>by
  have:v.toNat=0:=by omega
  rw[this];exact h
 | n+2,h,aZ,E=>by
  unfold I5 at h;split at h
  ·grind
  ·exact WZ h aZ (by omega)
def nW{bet:Type}(ba:ew)(T:Nat->aa)(bK:Nat->Option aF)(Psi:Nat->Option gJ)(ops:Array Oper):List Oper->qX->aE->(aE->G bet)->G bet
 | [],_,s,k=>k s
 | o::os,eQ,s,k=>
  match BV o os with
  | some (lo,d1,d2)=>match os with
   | _::_::al9=>match (cn ba T bK (bs ba s.aD) lo).run s.W with
    | some res=>ad res.cG (ad res.c (nW ba T bK Psi ops al9 [] (((s.jZ none res).set (some d1) .undef).set (some d2) .undef) k))
    | none=>eu
   | _=>eu
  | none=>
  match lP s.aD ops o.guard with
  | none=>eu
  | some none=>match (cn ba T bK (bs ba s.aD) o).run s.W with
   | some res=>zg (E8 (bs ba s.aD) ops eQ none o) res.cG (zg (qT (bs ba s.aD) o) res.c (nW ba T bK Psi ops os (zh ops eQ o) (s.jZ o.dst res) k))
   | none=>match uj ba T bK Psi s o with
    | some cP=>zg (vM (bs ba s.aD) o) cP.cG (ao cP.m λy=>nW ba T bK Psi ops os [] (cP.ae y) k)
    | none=>eu
  | some (some g)=>match (cn ba T bK (bs ba s.aD) o).run s.W with
   | some ⟨cG,c,gG,iN⟩=>match I3 o gG iN with
    | some (zj,uk)=>zg (E8 (bs ba s.aD) ops eQ o.guard o&&(qT (bs ba s.aD) o&&Ow (bs ba s.aD) eQ o.guard o uk)) (g=true->cG/\(c/\(use uk).1)) (nW ba T bK Psi ops os (zh ops eQ o) ((s.hS zj).set o.dst (.jU g (use uk).2)) k)
    | none=>if g=true then ad cG (ad c (nW ba T bK Psi ops os [] (s.jZ o.dst ⟨cG,c,gG,iN⟩) k)) else nW ba T bK Psi ops os [] (s.set o.dst (.jU false (WY iN (use gG).2))) k
   | none=>match uj ba T bK Psi s o with
    | some cP=>match cP.E2 with
     | some gs=>zg (Ov (bs ba s.aD) eQ o.guard o) (g=true->cP.cG) (ao (BT g cP.m cP.d) λy=>nW ba T bK Psi ops os (zh ops eQ o) (gs g y) k)
     | none=>if g=true then ad cP.cG (ao cP.m λy=>nW ba T bK Psi ops os [] (cP.ae y) k) else nW ba T bK Psi ops os [] (s.set o.dst (.jU false (use ((cP.ae cP.d).aD (o.dst.getD 0))).2)) k
    | none=>eu
def BW{bet:Type}:List Prop->G bet->G bet
 | [],m=>m
 | p::l,m=>ad p (BW l m)
def BX(cl:List (List Nat)):Nat->Nat
 | 0=>0
 | n+1=>if (List.range n).all (λi=>(cl.getD n []).contains i)=true then BX cl n else n+1
def Ox(hL jP iV j4 nw:Oper):Bool:=
 match hL.op,jP.op,iV.op with
 | .lookup ty m x false,.binOp .add _ (.tmp t) (.const (.int k c)) _,.mapEntry og eh eF=>match hL.dst,jP.dst,BU iV j4 nw with
  | some eU,some gK,some (_,d1,d2)=>decide (t=eU/\og=ty/\gS k c/\jA eh=jA m/\jA eF=jA x/\eU≠gK/\eU≠d1/\eU≠d2/\gK≠d1/\gK≠d2/\d1≠d2/\
    (jA m).isSome=true/\(jA x).isSome=true/\jA m≠some eU/\jA m≠some gK/\jA m≠some d1/\jA m≠some d2/\jA x≠some eU/\jA x≠some gK/\jA x≠some d1/\jA x≠some d2/\hL.guard.isNone=true/\jP.guard.isNone=true)
  | _,_,_=>false
 | _,_,_=>false
def I6(ops:List Oper):Bool:=
 match ops.drop (ops.length - 5) with
 | [hL,jP,iV,j4,nw]=>Ox hL jP iV j4 nw&&(EV ops&&((List.range 5).all λq=>(List.range (ops.length - 5)).all λi=>((kE ops).getD (ops.length - 5+q) []).contains i)&&
   ((kE ops).getD (ops.length - 5+1) []).contains (ops.length - 5)&&((kE ops).getD (ops.length - 5+3) []).contains (ops.length - 5+2)&&((List.range 4).all λq=>((kE ops).getD (ops.length - 5+4) []).contains (ops.length - 5+q))&&
   (mi iV).all (λi=>decide (i<ops.length - 5))&&(mi j4).all (λi=>decide (i<ops.length - 5)||decide (i=ops.length - 5+2)))
 | _=>false
def qY(ops:List Oper):Nat:=if I6 ops=true then ops.length - 5 else BX (kE ops) ops.length
def BY{bet:Type}(ba:ew)(T:Nat->aa)(bK:Nat->Option aF)(Psi:Nat->Option gJ)(ops:Array Oper)(s:aE)(k:aE->G bet):G bet:=
 match y9 ba T bK ops ops.toList s with
 | some (l,s')=>match EW ops.toList l with
  | true=>BW (l.flatMap fk.cs) (k s')
  | false=>eu
 | none=>match y9 ba T bK ops (ops.toList.take (qY ops.toList)) s with
  | some (l,s')=>match EW (ops.toList.take (qY ops.toList)) l&&EV ops.toList with
   | true=>BW (l.flatMap fk.cs) (nW ba T bK Psi ops (ops.toList.drop (qY ops.toList)) [] s' k)
   | false=>eu
  | none=>eu
def mS(ops:List Oper):List Oper:=
 match ops with
 | []=>[]
 | o::l=>o::l.map λp=>{ p with after:=p.after.push ⟨0,.phase⟩ }
def Oy(ops:Array Oper):Bool:=
 match ops.toList with
 | []=>false
 | o::l=>(match o.op with | .move _=>true | _=>false)&&(o.guard.isNone&&(o.after.isEmpty&&(Region.noSelect ops&&l.all λp=>(mi p).contains 0||o.apart ops p)))
inductive cI where
 | fp
 | seq (a b:cI)
 | join (sh:ep) (a b:cI)
 | cond (a b:cI)
 | block (a:cI)
 | loop (sh:ep) (a:cI)
 | scope (a:cI)
 | range (sh rin dX:ep) (a b:cI)
 | pq (a b:cI)
 | split (i off n:Nat) (a:cI)
 | num (i n:Nat) (a:cI)
 | pf (i:Nat) (a:cI)
 | I7 (b:Nat) (a:cI)
 | I8
def cI.fh:cI->Bool
 | .fp=>true
 | .seq a b=>a.fh&&b.fh
 | .join _ a b=>a.fh&&b.fh
 | .cond a b=>a.fh&&b.fh
 | .block a=>a.fh
 | .loop _ a=>a.fh
 | .scope a=>a.fh
 | .range ..=>false
 | .pq a b=>a.fh&&b.fh
 | .split _ _ _ a=>a.fh
 | .num _ _ a=>a.fh
 | .pf _ a=>a.fh
 | .I7 _ a=>a.fh
 | .I8=>false
def cI.qa:cI->Bool
 | .pq ..=>true
 | .fp=>true
 | _=>false
inductive dQ where
 | normal
 | exit (id:Nat)
 | ret
def dQ.qZ:dQ->Exit
 | .normal=>.normal
 | .exit id=>.exit id
 | .ret=>.ret
def W0{bet:Type}(k:dQ->aE->G bet)(f:aE->G bet)(e:dQ)(s:aE):G bet:=
 match e with
 | .normal=>f s
 | .exit id=>k (.exit id) s
 | .ret=>k .ret s
def zk{A bet:Type}(k:dQ->aE->G bet)(f:aE->G (bq A bet))(e:dQ)(s:aE):G (bq A bet):=
 match e with
 | .normal=>f s
 | .exit id=>ao (k (.exit id) s) λr=>mpure (.done r)
 | .ret=>ao (k .ret s) λr=>mpure (.done r)
def W1{bet:Type}(id:Nat)(k:dQ->aE->G bet)(e:dQ)(s:aE):G bet:=
 match e with
 | .normal=>k .normal s
 | .exit I9=>if I9=id then k .normal s else k (.exit I9) s
 | .ret=>k .ret s
def bq.hx{A bet:Type}(f:A->G bet)(ae:bq A bet):G bet:=
 match ae with
 | .next x=>f x
 | .done r=>mpure r
def W2{bet:Type}(v:aO)(m n:G bet):G bet:=
 match v with
 | .val .bool t=>if t=true then m else n
 | .jU g (.val .bool t)=>ad (g=true) (if t=true then m else n)
 | _=>eu
def s9(s:aE)(i off:Nat):Option (Int×(Nat->aE)):=
 match s.aD i with
 | .aK b _ o=>match (s.W b).body with
  | .cells t f=>match f (o+off) with
   | .val (.int kd) x=>some (x,λj=>⟨s.aD,λbl=>if bl=b then ⟨(s.W b).gen,.cells t λq=>if q=o+off then .val (.int kd) (j:Int) else f q⟩ else s.W bl⟩)
   | _=>none
  | _=>none
 | _=>none
theorem al_{s:aE}{i off:Nat}{x:Int}{f:Nat->aE}(h:s9 s i off=some (x,f))(aZ:0<=x):f x.toNat=s:=by
 unfold s9 at h;split at h
 ·rename_i b g o az;split at h
  ·rename_i t j1 V;split at h
   ·rename_i kd eF al;simp  at h;obtain⟨rfl,rfl⟩:=h;have ax:(λq=>if q=o+off then aO.val (.int kd) ((eF.toNat)) else j1 q)=j1:=by
     grind
    have aU:(λbl=>if bl=b then (⟨(s.W b).gen,.cells t j1⟩) else s.W bl)=s.W:=by
     funext q;split
     ·rename_i e;rw[e,<-V]
     ·rfl
    simp_all
   grind
  grind
 grind
def s_(s:aE)(i:Nat):Option (Int×(Nat->aE)):=
 match s.aD i with
 | .val (.int kd) x=>some (x,λn=>⟨λj=>if j=i then .val (.int kd) (n:Int) else s.aD j,s.W⟩)
 | _=>none
theorem al'{s:aE}{i n:Nat}{x:Int}{f:Nat->aE}(h:s_ s i=some (x,f))(aZ:x=(n:Int)):f n=s:=by
 unfold s_ at h;split at h
 ·rename_i kd eF az;obtain⟨rfl,rfl⟩:=h;have ax:(λj=>if j=i then aO.val (.int kd) (n) else s.aD j)=s.aD:=by
   grind
  simp_all
 grind
def Oz(s:aE)(i:Nat):Option aE:=
 match s.aD i with
 | .pV b g n off=>match (s.W b).body,off with
  | .bu (.ae (.slice e)) xs,0=>if g=(s.W b).gen then some ⟨λj=>if j=i then .kj b g n else s.aD j,λbl=>if bl=b then ⟨g,.hJ (.ae (.slice e)) xs n (.val (.slice e) (xs.getD n []))⟩ else s.W bl⟩ else none
  | _,_=>none
 | _=>none
def OA(s:aE)(b:Nat):Option aE:=
 match (s.W b).body with
 | .hJ (.ae (.slice e)) xs n v=>match (eg (.slice e) v).run s.W with
  | some (y,ck)=>if ck.contains b then none else some ((s.cV ck).c' b ⟨(s.W b).gen,.bu (.ae (.slice e)) (xs.set n y)⟩)
  | none=>none
 | _=>none
def kY{A ag:Type}(body:A->ag->G (dQ×A)):List ag->A->G (dQ×A)
 | [],A=>mpure (.normal,A)
 | x::xs,A=>ao (body A x) λp=>match p.1 with
  | .normal=>kY body xs p.2
  | .exit id=>mpure (.exit id,p.2)
  | .ret=>mpure (.ret,p.2)
def BZ(aN:aa)(x:aN.ak):List Tmp->Nat->(Nat->aO)->Nat->aO
 | [],_,f=>f
 | p::bw,i,f=>BZ aN x bw (i+1) (λj=>if j=p then lH aN x i else f j)
def zl(s:aE)(aN:aa)(x:aN.ak)(bw:List Tmp):aE:=⟨λi=>if i=cw then s.aD cw else BZ aN x bw 0 s.aD i,s.W⟩
def zm(rin dX:ep):cW:=⟨rin,dX,[],0,λ_=>eu⟩
def vS{bG:Type}(sh rin dX:ep)(aN:aa)(bw:List Tmp)(A:sh.ak)(x:aN.ak)(run:aE->G (bG×dX.ak)):G (bG×sh.ak):=
 match rin.BR (s8 (zm rin dX) (zl (sh.ae A) aN x bw)) (zl (sh.ae A) aN x bw) with
 | some (rho,ck)=>match E5 (zm rin dX) (s8 (zm rin dX) (zl (sh.ae A) aN x bw)) ((sh.ae A).cV ck) (ui ((sh.ae A).cV ck) 0 (s8 (zm rin dX) (zl (sh.ae A) aN x bw)) rin.p_ dX.bR 0) 0 0 with
  | true=>ao (run (rin.ae rho)) λp=>sh.ox (ze ((sh.ae A).cV ck) (zm rin dX) (s8 (zm rin dX) (zl (sh.ae A) aN x bw)) (ui ((sh.ae A).cV ck) 0 (s8 (zm rin dX) (zl (sh.ae A) aN x bw)) rin.p_ dX.bR 0) p.2) λj5=>mpure (p.1,j5)
  | false=>eu
 | none=>eu
def pr(sh dX:ep)(aN:aa)(bw:List Tmp)(b5:Nat):Bool:=
 dX.cc.isEmpty&&!sh.cc.any (λp=>p.1 == cw)&&decide (aN≠.dp)&&decide (bw.length=lb aN)&&bw.all λp=>decide (p<b5)
def I_{bet:Type}(f:aE->G bet)(e:dQ)(s:aE):G bet:=
 match e with
 | .normal=>f s
 | .exit _=>eu
 | .ret=>eu
def B0{bet:Type}(n:G bet)(x:Nat->G bet)(r:G bet)(e:dQ):G bet:=
 match e with
 | .normal=>n
 | .exit id=>x id
 | .ret=>r
def OB{bet:Type}(k:dQ->aE->G bet)(e:dQ)(s:aE):G bet:=B0 (k .normal s) (λid=>k (.exit id) s) (k .ret s) e
theorem W3{bet:Type}(k:dQ->aE->G bet)(e:dQ)(s:aE):OB k e s=k e s:=by cases e<;>rfl
def fs(ba:ew)(T:Nat->aa)(bK:Nat->Option aF)(Psi:Nat->Option gJ):cI->{bet:Type}->Code->aE->(dQ->aE->G bet)->G bet
 | .seq a b,_,c,s,k=>match c with
  | .seq x y=>fs ba T bK Psi a x s (W0 k λs'=>fs ba T bK Psi b y s' k)
  | _=>eu
 | .join sh a b,bet,c,s,k=>match c with
  | .seq x y=>ao (fs ba T bK Psi a (bet:=bq sh.ak bet) x s (zk k λs'=>sh.ox s' λA=>mpure (.next A))) (bq.hx λA=>fs ba T bK Psi b y (sh.ae A) k)
  | _=>eu
 | .cond a b,_,c,s,k=>match c with
  | .cond c x y=>W2 (bs ba s.aD c) (fs ba T bK Psi a x s k) (fs ba T bK Psi b y s k)
  | _=>eu
 | .block a,_,c,s,k=>match c with
  | .block id c=>fs ba T bK Psi a c s (W1 id k)
  | _=>eu
 | .loop sh a,bet,c,s,k=>match c with
  | .loop c=>sh.ox s λA=>dG (λA=>fs ba T bK Psi a (bet:=bq sh.ak bet) c (sh.ae A) (zk k λs'=>sh.ox s' λj5=>mpure (.next j5))) A
  | _=>eu
 | .pq a b,_,c,s,k=>match c with
  | .loop x=>match b.qa with
   | true=>fs ba T bK Psi a x s (W0 k λs'=>fs ba T bK Psi b (.loop x) s' k)
   | false=>eu
  | _=>eu
 | .scope a,_,c,s,k=>match c with
  | .scope c=>fs ba T bK Psi a c s k
  | _=>eu
 | .num i n a,_,c,s,k=>match s_ s i with
  | some (x,f)=>ad (x=(n:Int)) (fs ba T bK Psi a c (f n) k)
  | none=>eu
 | .pf i a,_,c,s,k=>match Oz s i with
  | some s'=>fs ba T bK Psi a c s' k
  | none=>eu
 | .I7 b a,_,c,s,k=>match OA s b with
  | some s'=>fs ba T bK Psi a c s' k
  | none=>eu
 | .split i off n a,_,c,s,k=>match s9 s i off with
  | some (x,f)=>ad (0<=x/\x<(n:Int)) (I5 n x λj=>fs ba T bK Psi a c (f j) k)
  | none=>eu
 | .range sh rin dX a b,_,c,s,k=>match c with
  | .rangeFunc g bw assign body=>match bs ba s.aD g with
   | .tU ta n fA=>match Psi ta with
    | some (.cO ic)=>match (km ic.ts ((List.range n).map fA)).run s.W with
     | some (x,ck)=>match pr sh dX ic.aN bw.toList fF&&(a.fh&&b.fh) with
      | true=>sh.ox (s.cV ck) λA=>ad (ic.pre x) (ao (kY (λA y=>vS sh rin dX ic.aN bw.toList A y λs1=>
       fs ba T bK Psi a (bet:=dQ×dX.ak) assign s1 (I_ λs2=>fs ba T bK Psi b body s2 λe eR=>dX.ox eR λbG=>mpure (e,bG))) (ic.seq x) A) λp=>OB k p.1 (sh.ae p.2))
      | false=>eu
     | none=>eu
    | _=>eu
   | .val (.cO aN) S=>match pr sh dX aN bw.toList fF&&(a.fh&&b.fh) with
    | true=>sh.ox s λA=>ao (any S) λL=>ao (kY (λA y=>vS sh rin dX aN bw.toList A y λs1=>
     fs ba T bK Psi a (bet:=dQ×dX.ak) assign s1 (I_ λs2=>fs ba T bK Psi b body s2 λe eR=>dX.ox eR λbG=>mpure (e,bG))) L A) λp=>OB k p.1 (sh.ae p.2)
    | false=>eu
   | _=>eu
  | _=>eu
 | .I8,_,c,s,k=>match c with
  | .region _ ops draw=>match draw&&Oy ops with
   | true=>BY ba T (IU bK Psi) Psi (mS ops.toList).toArray s (k .normal)
   | false=>eu
  | _=>eu
 | .fp,_,c,s,k=>match c with
  | .region _ ops draw=>match draw with
   | true=>BY ba T (IU bK Psi) Psi ops s (k .normal)
   | false=>nW ba T bK Psi ops ops.toList [] s (k .normal)
  | .skip=>k .normal s
  | .label _=>k .normal s
  | .exit id=>k (.exit id) s
  | .ret=>k .ret s
  | _=>eu
def mT(b5:Nat):Code->Bool
 | .region _ ops _=>ops.toList.all λo=>pk o b5
 | .seq a b=>mT b5 a&&mT b5 b
 | .cond _ a b=>mT b5 a&&mT b5 b
 | .block _ a=>mT b5 a
 | .loop a=>mT b5 a
 | .scope a=>mT b5 a
 | .rangeFunc _ bw a b=>bw.toList.all (λp=>decide (p<b5))&&(mT b5 a&&mT b5 b)
 | .skip=>true
 | .label _=>true
 | .exit _=>true
 | .ret=>true
 | _=>false
def qb(x y:cf):Prop:=(y.gT=true->x.gT=true)/\(y.gU=true->x.gU=true/\y.len=x.len/\y.ga=x.ga)/\(y.ib=true->x.ib=true)/\(y.pW=true->x.pW=true)/\∀ k,y.cq k=true->x.cq k=true
theorem qb.refl(x:cf):qb x x:=⟨id,λh=>⟨h,rfl,rfl⟩,id,id,λ_=>id⟩
theorem qb.gp(x:cf):qb x .gp:=⟨λh=>(by cases h),λh=>(by cases h),λh=>(by cases h),λh=>(by cases h),λ_ h=>(by cases h)⟩
def um(f:Nat->Nat)(H H':Nat->b'):Prop:=∀ b,(H' b).gen=0/\qb (H (f b)).body (H' b).body
section
variable {P:Program} {H H':Nat->b'} {kap:Nat->bP} {F F':Nat->Prop} {w:World} {f:Nat->Nat}
theorem W4(aA:um f H H'){b off:Nat}{v:Value}(h:bQ P H kap F w (.aK (f b) (H (f b)).gen off) v):bQ P H' (λb=>kap (f b)) F' w (.aK b 0 off) v:=
 ⟨⟨aKr _,h.1.2⟩,λ_ hc=>h.2 rfl ((aA b).2.1 hc)⟩
def OC(P:Program)(H H':Nat->b')(kap:Nat->bP)(f:Nat->Nat)(F F':Nat->Prop)(w:World){R:Type}(r:Option (R×List Nat))(l:List Nat)(av zn:aO)(y:R):Prop:=
 ∃ m,r=some (y,m)/\(∀ b∈m,b∈l)/\(kl H kap F' l->∀ v,bQ P H kap F w av v->bQ P H' (λb=>kap (f b)) F' w zn v)
theorem OC.iP{R:Type}{r:Option (R×List Nat)}{l:List Nat}{av zn:aO}{y:R}(h:r=some (y,l))(k:∀ v,bQ P H kap F w av v->bQ P H' (λb=>kap (f b)) F' w zn v):OC P H H' kap f F F' w r l av zn y:=
 ⟨l,h,λ_ V=>V,λ_=>k⟩
theorem lV{ag:Type}{b:Bool}{r:Option ag}{x:ag}(h:xp b r=some x):b=true/\r=some x:=by
 cases b with
 | true=>exact⟨rfl,h⟩
 | false=>cases h
theorem rV{t:aa}{av:aO}{R:Type}{r:Option (R×List Nat)}{z:t.ak×R}{l:List Nat}(h:zc H t av r=some (z,l)):∃ dO m,(eg t av).run H=some (z.1,dO)/\r=some (z.2,m)/\l=dO++m:=by
 unfold zc at h;grind
theorem OD{t:aa}{av:aO}{R:Type}{r:Option (R×List Nat)}{z:t.ak×R}{l:List Nat}(h:N5 t av r=some (z,l)):av=.eI t z.1/\r=some (z.2,l):=by
 unfold N5 at h;grind
theorem OE{b:Nat}{av:aO}{R:Type}{r:Option (R×List Nat)}{z:(Nat×Nat)×R}{l:List Nat}(h:N6 H b av r=some (z,l)) :
  r=some (z.2,l)/\(av=.sub b (H b).gen z.1.1 z.1.2\/(av=.own b (H b).gen/\(H b).body.gU=true/\z.1=(0,(H b).body.len))):=by
 unfold N6 at h;grind
theorem I'{aN:aa}{av:aO}{R:Type}{r:Option (R×List Nat)}{z:(Nat×(List aN.ak->Prop)×List aN.ak×Bool)×R}{l:List Nat}(h:N7 aN av r=some (z,l)) :
  r=some (z.2,l)/\av=.tr z.1.1 aN z.1.2.1 z.1.2.2.1 z.1.2.2.2:=by
 unfold N7 at h;grind
theorem OF{b:Nat}{av:aO}{R:Type}{r:Option (R×List Nat)}{z:Nat×R}{l:List Nat}(h:N9 H b av r=some (z,l)):r=some (z.2,l)/\av=.kj b (H b).gen z.1:=by
 unfold N9 at h;grind
theorem OG{av:aO}{R:Type}{r:Option (R×List Nat)}{z:Nat×R}{l:List Nat}(h:N8 av r=some (z,l)):r=some (z.2,l)/\av=.ia z.1:=by
 unfold N8 at h;grind
theorem W5{b off:Nat}{av:aO}(h:II H b off av=true):av=.aK b (H b).gen off:=by
 unfold II at h;grind
theorem W6{b:Nat}{av:aO}(h:IJ H b av=true):av=.own b (H b).gen:=by
 unfold IJ at h;grind
theorem ama{b:Nat}{av:aO}(h:N_ H b av=true):av=.gE b (H b).gen:=by
 unfold N_ at h;grind
theorem amb{b:Nat}{av:aO}(h:N' H b av=true):av=.la b (H b).gen:=by
 unfold N' at h;grind
theorem amc{av:aO}(h:Oa av=true):av=.bZ:=by
 unfold Oa at h;grind
theorem amd(aA:um f H H'){k:FuncId}{gX:z8'}{av:aO}(h:Ob H f k gX av=true){v:Value}(ab:bQ P H kap F w av v):bQ P H' (λb=>kap (f b)) F' w (.jV k gX.length (xn dz gX)) v:=by
 unfold Ob at h;split at h
 ·simp only[ajm,beq_iff_eq]at h;obtain⟨⟨rfl,rfl⟩,e⟩:=h;obtain⟨aJ,E,M,ai⟩:=ab;refine⟨aJ,E,M,λi D=>?_⟩;have he:=List.all_eq_true.1 e i (by grind);have ab:=ai i D;rw[show gX[i]?=some gX[i] by simp]at he;rw[W5 he]at ab;have:xn dz gX i=.aK gX[i].1 0 gX[i].2:=by simp[xn,ig,D,dz]
  rw[this];exact W4 aA ab
 grind
theorem ame(aA:um f H H'){ds:List Nat}{av:aO}(h:Oc H f ds av=true){v:Value}(ab:bQ P H kap F w av v):bQ P H' (λb=>kap (f b)) F' w (.agg ds.length (xo dz ds)) v:=by
 unfold Oc at h;split at h
 ·simp only[ajm,beq_iff_eq]at h;obtain⟨rfl,e⟩:=h;obtain⟨aJ,E,M,ai⟩:=ab;refine⟨aJ,E,M,λi D=>?_⟩;have he:=List.all_eq_true.1 e i (by grind);obtain⟨ab,hc⟩:=ai i D;refine⟨?_,hc⟩;rw[show ds[i]?=some ds[i] by simp]at he;rw[W6 he]at ab;have:xo dz ds i=.own ds[i] 0:=by simp[xo,ig,D,dz]
  rw[this];refine⟨⟨aKr _,ab.1.2⟩,λ_ hc=>?_⟩;obtain⟨aY,a_,_⟩:=(aA ds[i]).2.2.1 hc;rw[a_];exact ab.2 rfl aY
 grind
theorem zo(bd:∀ b,cX P H kap F w b)(bF:∀ r,F r->F' r)(aA:um f H H')(t:b6){av:aO}{R:Type}{r:Option (R×List Nat)}{z:t.cons R}{l:List Nat}(h:t.kp H f av r=some (z,l)) :
  OC P H H' kap f F F' w r l av (t.av dz z).1 (t.av dz z).2:=by
 cases t with
 | undef=>exact .iP h λ_ _=>by simp  [b6.av,bQ]
 | val t=>
  obtain⟨dO,m,al,rfl,rfl⟩:=rV h;exact⟨m,rfl,λb V=>aKy _ V,λaf v ab=>nQ bd bF al af.left ab⟩
 | eI t=>
  obtain⟨rfl,rfl⟩:=OD h;exact .iP rfl λv ⟨p,bI,E,M,ai⟩=>⟨p,bI,E,M.mono bF (dy.refl _ _),fQ _ bF (dy.refl _ _) ai⟩
 | aK b off=>
  obtain⟨E,M⟩:=lV h;obtain rfl:=W5 E;exact .iP M λv ab=>W4 aA ab
 | own b=>
  obtain⟨E,M⟩:=lV h;obtain rfl:=W6 E;refine .iP M λv ab=>⟨⟨aKr _,ab.1.2⟩,λ_ hc=>?_⟩
  obtain⟨aY,a_,_⟩:=(aA b).2.2.1 hc;simp  [dz];rw[a_];exact ab.2 rfl aY
 | sub b=>
  obtain⟨E,M⟩:=OE h;refine .iP E λv ab=>?_;rcases M with rfl | ⟨rfl,gg,ai⟩
  ·refine⟨⟨aKr _,ab.1.2⟩,λ_ hc=>?_⟩;obtain⟨aY,a_,b7⟩:=(aA b).2.2.1 hc;simp  [dz]at a_ b7 ⊢;rw[a_,b7];exact ab.2 rfl aY
  ·refine⟨⟨aKr _,ab.1.2⟩,λ_ hc=>?_⟩;obtain⟨aY,a_,b7⟩:=(aA b).2.2.1 hc;have:=ab.2 rfl aY;simp  [dz]at a_ b7 ⊢;rw[a_,ai];refine⟨⟨aKr _,ajn _⟩,?_⟩;rw[this];unfold bP.slice;cases aC:(kap (f b)).fK with
   | true=>exact .inl ⟨aC,rfl⟩
   | false=>exact .inr ⟨aC,(kap (f b)).off,by simp,by simp,λ_=>by simp⟩
 | gE b=>
  obtain⟨E,M⟩:=lV h;obtain rfl:=ama E;exact .iP M λv ab=>⟨⟨aKr _,ab.1.2⟩,λ_ hc=>ab.2 rfl ((aA b).2.2.2.1 hc)⟩
 | la b=>
  obtain⟨E,M⟩:=lV h;obtain rfl:=amb E;exact .iP M λv ab=>⟨⟨aKr _,ab.1.2⟩,λ_ hc=>ab.2 rfl ((aA b).2.2.2.2.1 hc)⟩
 | bZ=>
  obtain⟨E,M⟩:=lV h;obtain rfl:=amc E;exact .iP M λv ab=>ab
 | jV k gX=>
  obtain⟨E,M⟩:=lV h;exact .iP M λv ab=>amd aA E ab
 | iS ds=>
  obtain⟨E,M⟩:=lV h;exact .iP M λv ab=>ame aA E ab
 | kj b=>
  obtain⟨E,rfl⟩:=OF h;refine .iP E λv ab=>⟨⟨aKr _,ab.1.2⟩,λ_ hc=>?_⟩
  obtain⟨aY,a_,b7⟩:=(aA b).2.2.1 hc;have:=ab.2 rfl aY;simp  [dz]at a_ b7 ⊢;grind
 | tr aN=>
  obtain⟨E,rfl⟩:=I' h;exact .iP E λv ab=>ab
 | ia=>
  obtain⟨E,rfl⟩:=OG h;exact .iP E λv ab=>ab
theorem amf(bd:∀ b,cX P H kap F w b)(bF:∀ r,F r->F' r)(aA:um f H H'):∀ (ts:List b6) {c:Nat->aO} {i:Nat} {R:Type} {r:Option (R×List Nat)} {z:rT ts R} {l:List Nat},BP H f ts c i r=some (z,l)->
  ∃ m,r=some ((qV dz ts z).2,m)/\(∀ b∈m,b∈l)/\(kl H kap F' l->∀ j,j<ts.length->∀ v,bQ P H kap F w (c (i+j)) v->bQ P H' (λb=>kap (f b)) F' w ((qV dz ts z).1.getD j .undef) v):=by
 intro ts;induction ts with
 | nil=>intro c i R r z l h;exact⟨l,h,λ_ V=>V,λ_ j aI=>by grind⟩
 | cons t ts aP=>
  intro c i R r z l h;obtain⟨m1,E,M,ai⟩:=zo     bd bF aA t h;obtain⟨m2,aY,a_,hg⟩:=aP E;refine⟨m2,aY,λb V=>M b (a_ b V),λaf j aI v ab=>?_⟩;cases j with
  | zero=>exact ai af v ab
  | succ j=>
   have:=hg (λb V=>af b (M b V)) j (by grind) v (by grind);simpa [qV]using this
theorem amg(bd:∀ b,cX P H kap F w b)(bF:∀ r,F r->F' r)(aA:um f H H'):∀ (ts:List (Nat×b6)) {c:Nat->aO} {R:Type} {r:Option (R×List Nat)} {z:p9 ts R} {l:List Nat},BQ H f ts c r=some (z,l)->
  ∃ m,r=some ((fe dz ts z).2,m)/\(∀ b∈m,b∈l)/\(kl H kap F' l->∀ i v,bQ P H kap F w (c i) v->bQ P H' (λb=>kap (f b)) F' w (gh (fe dz ts z).1 i) v):=by
 intro ts;induction ts with
 | nil=>intro c R r z l h;exact⟨l,h,λ_ V=>V,λ_ _ _ _=>by simp  [fe,gh,bQ]⟩
 | cons p ts aP=>
  intro c R r z l h;obtain⟨m1,E,M,ai⟩:=zo     bd bF aA p.2 h;obtain⟨m2,aY,a_,hg⟩:=aP E;refine⟨m2,aY,λb V=>M b (a_ b V),λaf i v ab=>?_⟩;simp  [fe,gh];split
  ·grind
  ·exact hg (λb V=>af b (M b V)) i v ab
theorem Ja(t:b6){av:aO}{R:Type}{r:Option (R×List Nat)}{z:t.cons R}{l:List Nat}(h:t.kp H f av r=some (z,l)):∃ m,r=some ((t.av dz z).2,m)/\∀ b∈m,b∈l:=by
 cases t with
 | undef=>exact⟨l,h,λ_ h=>h⟩
 | val t=>obtain⟨_,m,_,M,ai⟩:=rV h;exact⟨m,M,λb V=>ai ▸ aKy _ V⟩
 | eI t=>exact⟨l,(OD h).2,λ_ h=>h⟩
 | sub b=>exact⟨l,(OE h).1,λ_ h=>h⟩
 | tr aN=>exact⟨l,(I' h).1,λ_ h=>h⟩
 | ia=>exact⟨l,(OG h).1,λ_ h=>h⟩
 | kj b=>exact⟨l,(OF h).1,λ_ h=>h⟩
 | aK b off=>exact⟨l,(lV h).2,λ_ h=>h⟩
 | own b=>exact⟨l,(lV h).2,λ_ h=>h⟩
 | gE b=>exact⟨l,(lV h).2,λ_ h=>h⟩
 | la b=>exact⟨l,(lV h).2,λ_ h=>h⟩
 | bZ=>exact⟨l,(lV h).2,λ_ h=>h⟩
 | jV k gX=>exact⟨l,(lV h).2,λ_ h=>h⟩
 | iS ds=>exact⟨l,(lV h).2,λ_ h=>h⟩
theorem amh:∀ (ts:List b6) {c:Nat->aO} {i:Nat} {R:Type} {r:Option (R×List Nat)} {z:rT ts R} {l:List Nat},BP H f ts c i r=some (z,l)->∃ m,r=some ((qV dz ts z).2,m)/\∀ b∈m,b∈l:=by
 intro ts;induction ts with
 | nil=>intro c i R r z l h;exact⟨l,h,λ_ h=>h⟩
 | cons t ts aP=>
  intro c i R r z l h;obtain⟨m,E,M⟩:=Ja t h;obtain⟨eh,ai,bf⟩:=aP E;exact⟨eh,ai,λb V=>M b (bf b V)⟩
theorem ami:∀ (ts:List (Nat×b6)) {c:Nat->aO} {R:Type} {r:Option (R×List Nat)} {z:p9 ts R} {l:List Nat},BQ H f ts c r=some (z,l)->∃ m,r=some ((fe dz ts z).2,m)/\∀ b∈m,b∈l:=by
 intro ts;induction ts with
 | nil=>intro c R r z l h;exact⟨l,h,λ_ h=>h⟩
 | cons p ts aP=>
  intro c R r z l h;obtain⟨m,E,M⟩:=Ja p.2 h;obtain⟨eh,ai,bf⟩:=aP E;exact⟨eh,ai,λb V=>M b (bf b V)⟩
theorem E9(t:b6){av:aO}{R:Type}{r:Option (R×List Nat)}{z:t.cons R}{l:List Nat}(h:t.kp H f av r=some (z,l))(U:∀ y m,r=some (y,m)->h4 H m):h4 H l:=by
 cases t with
 | undef=>exact U _ _ h
 | val t=>obtain⟨_,m,E,M,rfl⟩:=rV h;exact (oj E).append (U _ _ M)
 | eI t=>exact U _ _ (OD h).2
 | sub b=>exact U _ _ (OE h).1
 | tr aN=>exact U _ _ (I' h).1
 | ia=>exact U _ _ (OG h).1
 | kj b=>exact U _ _ (OF h).1
 | aK b off=>exact U _ _ (lV h).2
 | own b=>exact U _ _ (lV h).2
 | gE b=>exact U _ _ (lV h).2
 | la b=>exact U _ _ (lV h).2
 | bZ=>exact U _ _ (lV h).2
 | jV k gX=>exact U _ _ (lV h).2
 | iS ds=>exact U _ _ (lV h).2
theorem amj:∀ (ts:List b6) {c:Nat->aO} {i:Nat} {R:Type} {r:Option (R×List Nat)} {z:rT ts R} {l:List Nat},BP H f ts c i r=some (z,l)->(∀ y m,r=some (y,m)->h4 H m)->h4 H l:=by
 intro ts;induction ts with
 | nil=>intro c i R r z l h U;exact U _ _ h
 | cons t ts aP=>intro c i R r z l h U;exact E9 t h λy m hm=>aP hm U
theorem amk:∀ (ts:List (Nat×b6)) {c:Nat->aO} {R:Type} {r:Option (R×List Nat)} {z:p9 ts R} {l:List Nat},BQ H f ts c r=some (z,l)->(∀ y m,r=some (y,m)->h4 H m)->h4 H l:=by
 intro ts;induction ts with
 | nil=>intro c R r z l h U;exact U _ _ h
 | cons p ts aP=>intro c R r z l h U;exact E9 p.2 h λy m hm=>aP hm U
theorem OH{t:aa}{ts:List b6}{j6:cf}{R:Type}{r:Option (R×List Nat)}{z:rT ts R}{l:List Nat}(h:Od H f t ts j6 r=some (z,l)):∃ c,j6=.cells t c/\t.size=ts.length/\BP H f ts c 0 r=some (z,l):=by
 unfold Od at h;grind
theorem OI{e:aa}{j6:cf}{R:Type}{r:Option (R×List Nat)}{z:List e.ak×R}{l:List Nat}(h:Oe e j6 r=some (z,l)):r=some (z.2,l)/\j6=.bu e z.1:=by
 unfold Oe at h;grind
theorem OJ{e:aa}{t:b6}{j6:cf}{R:Type}{r:Option (R×List Nat)}{z:(List e.ak×Nat)×t.cons R}{l:List Nat}(h:Oh H f e t j6 r=some (z,l)):∃ v,j6=.hJ e z.1.1 z.1.2 v/\t.kp H f v r=some (z.2,l):=by
 unfold Oh at h;grind
theorem OK{k v:aa}{j6:cf}{R:Type}{r:Option (R×List Nat)}{z:List (k.ak×v.ak)×R}{l:List Nat}(h:Of k v j6 r=some (z,l)):r=some (z.2,l)/\j6=.mp k v z.1:=by
 unfold Of at h;grind
theorem OL{k v:aa}{j6:cf}{R:Type}{r:Option (R×List Nat)}{z:(Option (k.ak×v.ak)×List (k.ak×v.ak))×R}{l:List Nat}(h:Og k v j6 r=some (z,l)):r=some (z.2,l)/\j6=.cO k v z.1.1 z.1.2:=by
 unfold Og at h;grind
theorem OM{t:aa}{j6:cf}{R:Type}{r:Option (R×List Nat)}{z:t.ak×R}{l:List Nat}(h:Oi H t j6 r=some (z,l)):∃ c,j6=.cells t c/\zc H t (.agg t.size c) r=some (z,l):=by
 unfold Oi at h;grind
theorem ON{t:aa}{b:Nat}{R:Type}{r:Option (R×List Nat)}{z:t.ak×R}{l:List Nat}(h:Oj H t b r=some (z,l)):∃ dO m,(eg (.bV t) (.aK b (H b).gen 0)).run H=some (some z.1,dO)/\r=some (z.2,m)/\l=dO++m:=by
 unfold Oj at h;split at h<;>grind
theorem W7{e:aa}{b:Nat}{xs:List e.ak}{l:List Nat}(h:(eg (.slice e) (.own b (H b).gen)).run H=some (xs,l)):(H b).body=.bu e xs\/(H b).body=.iL e xs:=by
 simp  [eg,lF,aa.fE,eJ,aM.dC]at h;split at h
 ·simp  at h;obtain⟨z,bD,rfl,_⟩:=h;obtain⟨vA,rfl⟩:=mb bD;grind
 ·simp  at h;obtain⟨z,bD,rfl,_⟩:=h;obtain⟨vA,rfl⟩:=mb bD;grind
 grind
theorem aml{k v:aa}{b:Nat}{xs:List (k.ak×v.ak)}{l:List Nat}(h:(eg (.map k v) (.gE b (H b).gen)).run H=some (xs,l)):(H b).body=.mp k v xs\/(H b).body=.ky k v xs:=by
 simp  [eg,lF,aa.fE,eJ,aM.dC]at h;split at h
 ·simp  at h;obtain⟨z,bD,rfl,_⟩:=h;obtain⟨vA,rfl⟩:=mb bD;grind
 ·simp  at h;obtain⟨z,bD,rfl,_⟩:=h;obtain⟨vA,rfl⟩:=mb bD;grind
 grind
theorem amm{t:aa}{b:Nat}{x:Option t.ak}{l:List Nat}(h:(eg (.bV t) (.aK b (H b).gen 0)).run H=some (x,l)):(H b).body.gT=true:=by
 simp  [eg,lF,vq,if_true]at h;split at h
 ·rename_i V;rw[V];rfl
 ·rename_i V;rw[V];rfl
 ·cases h
theorem cb.W8(t:cb){b:Nat}{R:Type}{r:Option (R×List Nat)}{z:t.cons R}{l:List Nat}(h:t.kp H f b r=some (z,l)) :
  (∃ m,r=some ((t.body dz z).2,m)/\∀ c∈m,c∈l)/\qb (H b).body (t.body dz z).1/\∀ k,(t.body dz z).1.cq k=true->t.EZ=true:=by
 cases t with
 | cells t ts=>
  obtain⟨c,e,az,h⟩:=OH h;refine⟨amh ts h,?_,λ_ _=>rfl⟩;rw[e];exact⟨λ_=>rfl,λh=>(by cases h),λh=>(by cases h),λh=>(by cases h),λ_ _=>rfl⟩
 | bu e=>
  obtain⟨E,M⟩:=OI h;refine⟨⟨l,E,λ_ h=>h⟩,?_,λ_ _=>rfl⟩;rw[M];exact qb.refl _
 | iL e=>
  obtain⟨dO,m,E,M,rfl⟩:=rV h;refine⟨⟨m,M,λ_ h=>aKy _ h⟩,?_,λ_ h=>(by cases h)⟩;rcases W7 E with e | e<;>rw[e]
  ·exact⟨λh=>(by cases h),λ_=>⟨rfl,rfl,rfl⟩,λh=>(by cases h),λh=>(by cases h),λ_ h=>(by cases h)⟩
  ·exact qb.refl _
 | mp k v=>
  obtain⟨E,M⟩:=OK h;refine⟨⟨l,E,λ_ h=>h⟩,?_,λ_ _=>rfl⟩;rw[M];exact qb.refl _
 | ky k v=>
  obtain⟨dO,m,E,M,rfl⟩:=rV h;refine⟨⟨m,M,λ_ h=>aKy _ h⟩,?_,λ_ h=>(by cases h)⟩;rcases aml E with e | e<;>rw[e]
  ·exact⟨λh=>(by cases h),λh=>(by cases h),λ_=>rfl,λh=>(by cases h),λ_ h=>(by rfl)⟩
  ·exact qb.refl _
 | gI t=>
  obtain⟨c,e,h⟩:=OM h;obtain⟨dO,m,E,M,rfl⟩:=rV h;refine⟨⟨m,M,λ_ h=>aKy _ h⟩,?_,λ_ _=>rfl⟩;rw[e];exact⟨λ_=>rfl,λh=>(by cases h),λh=>(by cases h),λh=>(by cases h),λ_ _=>rfl⟩
 | hR t=>
  obtain⟨dO,m,E,M,rfl⟩:=ON h;refine⟨⟨m,M,λ_ h=>aKy _ h⟩,?_,λ_ h=>(by cases h)⟩;exact⟨λ_=>amm E,λh=>(by cases h),λh=>(by cases h),λh=>(by cases h),λ_ h=>(by cases h)⟩
 | cO k v=>
  obtain⟨E,M⟩:=OL h;refine⟨⟨l,E,λ_ h=>h⟩,?_,λ_ _=>rfl⟩;rw[M];exact qb.refl _
 | hJ e t=>
  obtain⟨v,ax,h⟩:=OJ h;refine⟨Ja t h,?_,λ_ _=>rfl⟩;rw[ax];exact⟨λh=>(by cases h),λ_=>⟨rfl,rfl,rfl⟩,λh=>(by cases h),λh=>(by cases h),λ_ h=>h⟩
theorem cb.E9(t:cb){b:Nat}{R:Type}{r:Option (R×List Nat)}{z:t.cons R}{l:List Nat}(h:t.kp H f b r=some (z,l))(U:∀ y m,r=some (y,m)->h4 H m):h4 H l:=by
 cases t with
 | cells t ts=>obtain⟨c,e,az,h⟩:=OH h;exact amj ts h U
 | bu e=>exact U _ _ (OI h).1
 | iL e=>obtain⟨dO,m,E,M,rfl⟩:=rV h;exact (oj E).append (U _ _ M)
 | mp k v=>exact U _ _ (OK h).1
 | ky k v=>obtain⟨dO,m,E,M,rfl⟩:=rV h;exact (oj E).append (U _ _ M)
 | gI t=>obtain⟨c,e,h⟩:=OM h;obtain⟨dO,m,E,M,rfl⟩:=rV h;exact (oj E).append (U _ _ M)
 | hR t=>obtain⟨dO,m,E,M,rfl⟩:=ON h;exact (oj E).append (U _ _ M)
 | cO k v=>exact U _ _ (OL h).1
 | hJ e t=>obtain⟨v,_,h⟩:=OJ h;exact Go.Fer.E9 t h U
theorem cb.amn(bd:∀ b,cX P H kap F w b)(bF:∀ r,F r->F' r)(aA:um f H H')(t:cb){b:Nat}{R:Type}{r:Option (R×List Nat)}{z:t.cons R}{l:List Nat}(h:t.kp H f b r=some (z,l))(af:kl H kap F' l) :
  ma P H' (λb=>kap (f b)) F' w (kap b) (t.body dz z).1:=by
 have V:=bd b;unfold cX at V;cases t with
 | cells t ts=>
  obtain⟨c,e,az,h⟩:=OH h;rw[e]at V;obtain⟨cs,T,aY,a_,b7⟩:=V;obtain⟨m,_,_,hg⟩:=amf   bd bF aA ts h;refine⟨cs,T,aY,a_,λi D=>⟨?_,(b7 i D).2⟩⟩;have:=hg af i (by omega) _ (by rw[Nat.zero_add];exact (b7 i D).1);exact this
 | bu e=>
  rw[(OI h).2]at V;refine⟨V.1,λaC=>?_⟩;obtain⟨cs,T,E,M,ai,bf,b2⟩:=V.2 aC;exact⟨cs,T,E,M,ai,bf,b2.mono bF (dy.refl _ _)⟩
 | iL e=>
  obtain⟨dO,m,E,M,rfl⟩:=rV h;have xc:=W7 E;have zp:=nQ   bd bF E af.left ⟨⟨ajn _,by unfold bP.slice;split<;>rfl⟩,λ_ _=>rfl⟩;have:=((eH rfl).1 zp).2;rcases xc with bt | bt<;>(rw[bt]at this;exact this)
 | mp k v=>
  rw[(OK h).2]at V;obtain⟨ms,clk,E,M⟩:=V;exact⟨ms,clk,E,M.mono bF (dy.refl _ _)⟩
 | ky k v=>
  obtain⟨dO,m,E,M,rfl⟩:=rV h;have zp:=nQ   bd bF E af.left ⟨⟨ajn _,rfl⟩,λ_ _=>rfl⟩;exact ((eH rfl).1 zp).2
 | gI t=>
  obtain⟨c,e,h⟩:=OM h;rw[e]at V;obtain⟨cs,T,aY,a_,b7⟩:=V;obtain⟨dO,m,al,_,rfl⟩:=rV h;have ab:bQ P H kap F w (.agg t.size c) (.agg cs):=⟨cs.toList,by simp,by omega,λj aI=>by
   simp_all⟩
  have zp:=nQ   bd bF al af.left ab;have jY:=Bo   (H:=H') (kap:=λb=>kap (f b)) t zp.2;refine⟨cs,T,aY,a_,λi D=>⟨?_,(b7 i D).2⟩⟩;have:=(jY.mc i (by rw[jY.len];simpa [Value.cells,a_]using D)).1;simpa [Value.cells]using this
 | hR t=>
  obtain⟨dO,m,E,M,rfl⟩:=ON h;have zp:=nQ   bd bF E af.left ⟨⟨ajn _,rfl⟩,λ_ _=>rfl⟩;rcases ((eH rfl).1 zp).2 with⟨_,e⟩ | ⟨p,y,bI,ax,aU,ai,bf⟩
  ·grind
  ·simp  at ax;subst ax;cases aU;exact⟨bI,ai,bf⟩
 | cO k v=>
  rw[(OL h).2]at V;exact yQ.mono V bF (dy.refl _ _) rfl
 | hJ e t=>
  obtain⟨v,ax,h⟩:=OJ h;rw[ax]at V;obtain⟨aZ,cs,T,E,M,ai,bf,b2,d_,hn,jL⟩:=V;obtain⟨m,_,_,hg⟩:=zo     bd bF aA t h;refine⟨aZ,cs,T,E,M,ai,bf,b2,λj aI vp=>?_,hg af _ hn,jL⟩;obtain⟨bI,d1,d2⟩:=d_ j aI vp;exact⟨bI,d1,fQ e bF (dy.refl _ _) d2⟩
theorem amo:∀ (l:List (Nat×cb)) {x:qU l} {m:List Nat},E0 H f l=some (x,m)->∀ b,fH (ij dz l x) b=⟨0,.gp⟩\/
  ∃ j6,fH (ij dz l x) b=⟨0,j6⟩/\qb (H (f b)).body j6/\∃ t,(b,t)∈l/\∀ k,j6.cq k=true->t.EZ=true:=by
 intro l;induction l with
 | nil=>intro x m _ b;exact .inl rfl
 | cons q l aP=>
  intro x m h b;obtain⟨dh,ee⟩:=q;obtain⟨⟨eh,E,M⟩,ai,bf⟩:=cb.W8 ee h;by_cases e:b=dh
  ·subst e;exact .inr ⟨_,by simp  [ij,fH],ai,ee,by simp,bf⟩
  ·rcases aP E b with k | ⟨j6,aY,a_,t,b7,hg⟩
   ·exact .inl (by simpa [ij,fH,e]using k)
   ·exact .inr ⟨j6,by simpa [ij,fH,e]using aY,a_,t,ajp _ b7,hg⟩
theorem amp:∀ (l:List (Nat×cb)) {x:qU l} {m:List Nat},E0 H f l=some (x,m)->h4 H m:=by
 intro l;induction l with
 | nil=>intro x m h;cases h;exact .nil H
 | cons q l aP=>intro x m h;exact cb.E9 q.2 h λy m hm=>aP hm
theorem amq(bd:∀ b,cX P H kap F w b)(bF:∀ r,F r->F' r)(aA:um f H H'):∀ (l:List (Nat×cb)) {x:qU l} {m:List Nat},E0 H f l=some (x,m)->kl H kap F' m->∀ b,ma P H' (λb=>kap (f b)) F' w (kap (f b)) (fH (ij dz l x) b).body:=by
 intro l;induction l with
 | nil=>intro x m _ _ b;trivial
 | cons q l aP=>
  intro x m h hm b;obtain⟨dh,ee⟩:=q;obtain⟨⟨eh,E,M⟩,_⟩:=cb.W8 ee h;by_cases e:b=dh
  ·subst e;simp  [ij,fH];exact cb.amn bd bF aA ee h hm
  ·have:=aP E (λc hc=>hm c (M c hc)) b;simpa [ij,fH,e]using this
theorem amr:∀ (ts:List (Nat×b6)) {c:Nat->aO} {R:Type} {r:Option (R×List Nat)} {z:p9 ts R} {l:List Nat},BQ H f ts c r=some (z,l)->∀ {i eo aN L n ae},gh (fe dz ts z).1 i=.tr eo aN L n ae->c i=.tr eo aN L n ae:=by
 intro ts;induction ts with
 | nil=>intro c R r z l _ i eo aN L n ae e;cases e
 | cons p ts aP=>
  intro c R r z l h i eo aN L n ae e;obtain⟨fW,t⟩:=p;obtain⟨m,E,_⟩:=Ja t h;simp  [fe,gh]at e;split at e
  ·rename_i ams;subst ams;cases t with
   | tr lR=>
    obtain⟨_,ai⟩:=I' h;rw[ai];exact e
   | _=>cases e
  grind
end
structure Jb(C:cB)(s:aE)(a:Act)(w:World)(kap:Nat->bP)(f:Nat->Nat)(F':Nat->Prop)(sh:ep)(A:sh.ak)(ck:List Nat):Prop where
 cc:∀ i,bQ C.P (sh.ae A).W (λb=>kap (f b)) F' w ((sh.ae A).aD i) (a.tmps.getD i Go.undef)
 bR:∀ b,cX C.P (sh.ae A).W (λb=>kap (f b)) F' w b
 cq:∀ b,((sh.ae A).W b).body.cq (kap (f b))=true->f b ∉ ck/\(s.W (f b)).body.cq (kap (f b))=true/\b∈sh.p_
 B1:um f s.W (sh.ae A).W
 tr:∀ l aN L n ae,(sh.ae A).aD cw=.tr l aN L n ae->s.aD cw=.tr l aN L n ae
theorem ep.W9{C:cB}{sh:ep}{f:Nat->Nat}{s:aE}{a:Act}{w:World}{kap:Nat->bP}{F:Nat->Prop}{A:sh.ak}{ck:List Nat}(h:sh.BR f s=some (A,ck))(U:bH C s a w kap F) :
  ∃ F',(∀ r,F r->F' r)/\bH C (s.cV ck) a w kap F'/\Jb C s a w kap f F' sh A ck:=by
 unfold ep.BR at h;split at h
 ·rename_i j5 aHc vG;split at h
  ·cases h;obtain⟨m,E,hm⟩:=ami sh.cc vG;have om:=amk sh.cc vG λy m hm=>amp sh.bR hm;obtain⟨F',f1,bE,f2⟩:=bH.mJ om U;have W_:=amo sh.bR E;have vT:um f s.W (sh.ae A).W:=by
    intro b;show (fH (ij dz sh.bR (fe dz sh.cc A).2) b).gen=0/\qb (s.W (f b)).body (fH (ij dz sh.bR (fe dz sh.cc A).2) b).body;rcases W_ b with e | ⟨j6,e,k,_⟩
    ·rw[e];exact⟨rfl,qb.gp _⟩
    grind
   obtain⟨m2,_,_,amt⟩:=amg     U.bR f1 vT sh.cc vG;refine⟨F',f1,bE,{ cc:=λi=>amt f2 i _ (U.cc i),bR:=λb=>?_,cq:=λb V=>?_,B1:=vT,tr:=λl aN L n ae e=>amr sh.cc vG e }⟩
   ·exact amq U.bR f1 vT sh.bR E (λc hc=>f2 c (hm c hc)) b
   ·have ah:=(vT b).2.2.2.2.2 _ V;rcases W_ b with e | ⟨j6,e,_,t,aT,aHd⟩
    ·have e:(sh.ae A).W b=_:=e;rw[e]at V;cases V
    ·have e:(sh.ae A).W b=_:=e;have bz:b∈sh.p_:=List.mem_filterMap.2 ⟨(b,t),aT,by grind⟩;grind
  grind
 grind
theorem Jb.zq{C:cB}{s:aE}{a:Act}{w:World}{kap:Nat->bP}{f:Nat->Nat}{F':Nat->Prop}{sh:ep}{A:sh.ak}{ck:List Nat}(h:Jb C s a w kap f F' sh A ck){b:Nat}(V:((sh.ae A).W b).body.cq (kap (f b))=true) :
  ((s.cV ck).W (f b)).body.cq (kap (f b))=true:=by
 obtain⟨E,M,_⟩:=h.cq b V;simp  [aE.cV,if_neg E];omega
theorem OO{C:cB}{s:aE}{a:Act}{w:World}{kap:Nat->bP}{F:Nat->Prop}(U:bH C s a w kap F){b:Nat}{e:aa} :
  bH C (s.c' b ⟨(s.W b).gen+1,.bu e []⟩) a w (λi=>if i=b then ⟨0,0,0,true⟩ else kap i) F:=
 U.EB (k:=⟨0,0,0,true⟩) (aKM _) (.inl rfl) (ajn _) (λ_ _=>rfl) (λh=>by grind) (dP.refl _) λ_ _=>⟨λ_=>rfl,λh=>by grind⟩
theorem amu{C:cB}{s:aE}{a:Act}{w:World}{kap:Nat->bP}{F:Nat->Prop}(U:bH C s a w kap F){i b bl g':Nat}(az:s.aD i=.own bl g'):∃ bX,bH C (Om s i b bl g') a w bX F:=by
 unfold Om;split
 ·rename_i e xs an ca;obtain⟨fc,rfl⟩:=aKv an;generalize oo:(λj=>if j=b then (⟨(s.W b).gen+1,.bu e xs⟩) else if j=bl then ⟨(s.W bl).gen+1,.gp⟩ else s.W j)=H';generalize lp:(λj=>if j=b then kap bl else kap j)=bX;have E:H' b=⟨(s.W b).gen+1,.bu e xs⟩:=by grind
  have M:H' bl=⟨(s.W bl).gen+1,.gp⟩:=by grind
  have ai:∀ j,j≠b->j≠bl->H' j=s.W j:=λj aY a_=>by grind
  have aY:bX b=kap bl:=by grind
  have b7:∀ j,j≠b->bX j=kap j:=λj k=>by grind
  have af:gb s.W kap H' bX:=by
   intro j;by_cases ax:j=b
   ·subst ax;rw[E];exact⟨Nat.le_succ _,λe=>absurd e (Nat.ne_of_lt (aKM _))⟩
   ·by_cases aU:j=bl
    ·subst aU;rw[M];exact⟨Nat.le_succ _,λe=>absurd e (Nat.ne_of_lt (aKM _))⟩
    ·rw[ai j ax aU,b7 j ax];exact rG.refl _ _
  have hr:∀ j,(H' j).body.cq (bX j)=true->(j=b/\(s.W bl).body.cq (kap bl)=true)\/(j≠b/\j≠bl/\(s.W j).body.cq (kap j)=true):=λj aI=>by
   by_cases ax:j=b
   ·grind
   ·by_cases aU:j=bl
    ·subst aU;rw[M]at aI;cases aI
    grind
  have h:=U.move         af (λ_ h=>h) (λ_ h=>.inl h) (ajn _) (λ_ _ _=>rfl) (dP.refl w)
   (λ_ j=>by
    by_cases ax:j=b
    ·subst ax;have bd:=U.bR bl;unfold cX at bd ⊢;rw[ca]at bd;rw[E,aY];exact bd
    ·by_cases aU:j=bl
     ·subst aU;unfold cX;rw[M];trivial
     ·exact cX.mG (U.bR j) af (λ_ h=>h) (dy.refl _ _) (by grind) (b7 j ax) λ_=>rfl)
   (λj aI=>by
    rcases hr j aI with⟨rfl,h⟩ | ⟨ax,_,h⟩
    ·have:=U.own bl h;grind
    ·have:=U.own j h;grind)
   (λj lj aI h2 e=>by
    rcases hr j aI with⟨rfl,h⟩ | ⟨ax,aU,h⟩<;>rcases hr lj h2 with⟨rfl,eA⟩ | ⟨W',amv,eA⟩
    ·rfl
    ·rw[aY,b7 lj W']at e;exact absurd (U.inj bl lj h eA e).symm amv
    ·rw[aY,b7 j ax]at e;exact absurd (U.inj j bl h eA e) aU
    ·rw[b7 j ax,b7 lj W']at e;exact U.inj j lj h eA e)
   U.dH
   (λj _ aI=>by
    by_cases ax:j=b
    ·subst ax;rw[E]at aI;rcases aI with aI | aI<;>cases aI
    ·by_cases aU:j=bl
     ·subst aU;rw[M]at aI;rcases aI with aI | aI<;>cases aI
     grind)
  refine⟨bX,{ h with cc:=λj=>?_,ek:=h.ek,dq:=h.dq,bR:=h.bR,fo:=λl aN L n ae bt=>?_ }⟩
  ·show bQ C.P _ _ F w (if j=i then .own b ((s.W b).gen+1) else s.aD j) _;split
   ·rename_i e;subst e;have ab:=U.cc j;rw[az]at ab;have jX:=ab.2 rfl (by rw[ca];rfl);exact⟨⟨by grind,ab.1.2⟩,λ_ _=>by grind⟩
   ·exact h.cc j
  ·have bt:(if cw=i then .own b ((s.W b).gen+1) else s.aD cw)=.tr l aN L n ae:=bt;split at bt
   ·grind
   ·exact h.fo l aN L n ae bt
 grind
theorem amw{C:cB}{ds:List (Nat×cb)}{s:aE}{a:Act}{w:World}{kap:Nat->bP}{F:Nat->Prop}(U:bH C s a w kap F)(i b:Nat):∃ bX,bH C (On ds s i b) a w bX F:=by
 unfold On;split
 ·rename_i e az _;have h:=OO U (b:=b) (e:=e);refine⟨_,{ h with cc:=λj=>?_,ek:=h.ek,dq:=h.dq,bR:=h.bR,fo:=λl aN L n ae bt=>?_ }⟩
  ·show bQ C.P _ _ F w (if j=i then .own b ((s.W b).gen+1) else s.aD j) _;split
   ·rename_i e;subst e;have ab:=U.cc j;rw[az]at ab;rw[ab];exact⟨⟨by simp[aE.c'],rfl⟩,λ_ _=>by simp[bP.slice]⟩
   ·exact h.cc j
  ·have bt:(if cw=i then .own b ((s.W b).gen+1) else s.aD cw)=.tr l aN L n ae:=bt;split at bt
   ·grind
   ·exact h.fo l aN L n ae bt
 ·rename_i az _;exact amu U az
 grind
theorem amx{C:cB}{ds:List (Nat×cb)}{s:aE}{a:Act}{w:World}{kap:Nat->bP}{F:Nat->Prop}(U:bH C s a w kap F)(c j b:Nat):∃ bX,bH C (Oo ds s c j b) a w bX F:=by
 unfold Oo;split
 ·rename_i t f hc;split
  ·rename_i e aw an _;have Xa:c≠b:=λe=>by grind
   have h:=OO U (b:=b) (e:=e);have jz:(s.c' b ⟨(s.W b).gen+1,.bu e []⟩).W c=s.W c:=by simp[aE.c',Xa]
   have bd:=h.bR c;unfold cX at bd;rw[jz,hc]at bd;obtain⟨cs,T,E,M,ai⟩:=bd;refine⟨_,h.qP       (by rw[jz,hc];rfl) rfl
    (sN (by grind) (λ_=>by rw[jz,hc];rfl) (λh=>by cases h) (λh=>by cases h) (λh=>by cases h)) (λ_=>by rw[jz,hc];rfl) (λh=>by cases h) (λ_ _=>rfl) rfl (dP.refl _) λH oo af _=>?_⟩
   refine⟨cs,T,E,M,λq bM=>⟨?_,(ai q bM).2⟩⟩;show bQ C.P H _ F w (if q=j then .own b ((s.W b).gen+1) else f q) _;split
   ·rename_i eq;subst eq;have ab:=(ai q bM).1;rw[aw]at ab;rw[ab];have aHe:H b=⟨(s.W b).gen+1,.bu e []⟩:=by rw[oo];simp[aE.c',Ne.symm Xa]
    exact⟨⟨by grind,rfl⟩,λ_ _=>by simp[bP.slice]⟩
   ·exact bQ.later af (λ_ h=>h) (dy.refl _ _) (ai q bM).1
  grind
 grind
theorem amy{C:cB}(sh:ep){s:aE}{a:Act}{w:World}{kap:Nat->bP}{F:Nat->Prop}(U:bH C s a w kap F):∃ bX,bH C (sh.IN s) a w bX F:=by
 have E:∀ (l:List (Nat×b6)) (s:aE) (kap:Nat->bP),bH C s a w kap F->∃ bX,bH C (IK sh.bR l s) a w bX F:=by
  intro l;induction l with
  | nil=>intro s kap h;exact⟨kap,h⟩
  | cons p l aP=>
   intro s kap h;simp  [IK];split
   ·obtain⟨bX,eA⟩:=amw   h p.1 _;exact aP _ _ eA
   grind
 have M:∀ (c:Nat) (l:List b6) (j:Nat) (s:aE) (kap:Nat->bP),bH C s a w kap F->∃ bX,bH C (IL sh.bR c l j s) a w bX F:=by
  intro c l;induction l with
  | nil=>intro j s kap h;exact⟨kap,h⟩
  | cons t l aP=>
   intro j s kap h;simp  [IL];split
   ·obtain⟨bX,eA⟩:=amx   h c j _;exact aP _ _ _ eA
   ·exact aP _ _ _ h
 have ai:∀ (l:List (Nat×cb)) (s:aE) (kap:Nat->bP),bH C s a w kap F->∃ bX,bH C (IM sh.bR l s) a w bX F:=by
  intro l;induction l with
  | nil=>intro s kap h;exact⟨kap,h⟩
  | cons p l aP=>
   intro s kap h;simp  [IM];split
   ·obtain⟨bX,eA⟩:=M p.1 _ 0 s kap h;exact aP _ _ eA
   grind
 obtain⟨amz,gY⟩:=E sh.cc s kap U;exact ai sh.bR _ _ gY
theorem Xb:∀ (l:List (Nat×cb)) (x:qU l) (b:Nat),(fH (ij dz l x) b).body.gU=true->∃ q∈l,q.1=b/\q.2.WM=true
 | [],_,_,h=>by cases h
 | p::l,x,b,h=>by
  simp  [ij,fH]at h;by_cases e:b=p.1
  ·rw[if_pos e]at h;refine⟨p,by simp,e.symm,?_⟩;obtain⟨fW,t⟩:=p;cases t<;>first | rfl | cases h
  ·rw[if_neg e]at h;obtain⟨q,E,M⟩:=Xb l _ b h;grind
theorem ep.B2{C:cB}{sh:ep}{s:aE}{a:Act}{w:World}{A:sh.ak}{kap:Nat->bP}{F:Nat->Prop}(h:sh.kp s=some A)(U:bH C s a w kap F):∃ bX F',(∀ r,F r->F' r)/\bH C (sh.ae A) a w bX F':=by
  obtain⟨kap,U⟩:=amy sh U;unfold ep.kp at h;generalize sh.IN s=s at h U;split at h;case h_2=>grind
  rename_i E_;simp only[aKt]at h;obtain⟨⟨j5,ck⟩,h,rfl⟩:=h;obtain⟨F',f1,bE,an⟩:=ep.W9 h U;have hr:=λb V=>an.zq (b:=b) V;exact⟨kap, F', f1, { bE with
    ek:=bE.ek,dq:=bE.dq,cc:=an.cc,bR:=an.bR,own:=λb V=>bE.own b (hr b V),inj:=λb bl V da=>bE.inj b bl (hr b V) (hr bl da)
    kQ:=λb r U hc=>bE.kQ b r U (hc.imp (λhc=>by
      have aZ:=(an.B1 b).2.1 hc;simp  [aE.cV];split
      · rcases Bz s.W (s.W b) with e | ⟨_,_,al,_⟩ | ⟨_,_,_,al,_⟩ | ⟨_,_,_,_,_,_,e⟩
        · grind
        · rw[al]at aZ;cases aZ
        · rw[al]at aZ;cases aZ
        · rw[e];rfl
      omega) (λhc=>by
      have aZ:=(an.B1 b).2.2.2.1 hc;simp  [aE.cV];split
      · rcases Bz s.W (s.W b) with e | ⟨_,_,al,_⟩ | ⟨_,_,_,_,e⟩ | ⟨_,_,_,_,al,_,_⟩
        · grind
        · rw[al]at aZ;cases aZ
        · rw[e];rfl
        · rw[al]at aZ;cases aZ
      omega))
    lE:=λb k ah _ br=>by
      obtain⟨cd,a2,_⟩:=(an.B1 b).2.2.1 br;have aA:(s.W b).gen=0:=by
        rcases Xb sh.bR (fe dz sh.cc j5).2 b br with⟨q,bM,rfl,mg⟩
        have:=List.all_eq_true.1 E_ q bM;have aL:=U.lD _ k ah;grind
      obtain⟨aY,a_⟩:=U.lE b k ah aA cd;grind
    fo:=λl aN L n ae e=>by
      obtain⟨E,M,Y,ai,bf,b2⟩:=bE.fo l aN L n ae (an.tr l aN L n ae e);grind }⟩
theorem ep.zo{C:cB}{sh:ep}{s:aE}{a:Act}{w:World}{A:sh.ak}(h:sh.kp s=some A)(U:c7 C s a w):c7 C (sh.ae A) a w:=by
 obtain⟨kap,F,U⟩:=U;obtain⟨bX,F',_,bE⟩:=ep.B2 h U;exact⟨bX,F',bE⟩
end Go.Fer
