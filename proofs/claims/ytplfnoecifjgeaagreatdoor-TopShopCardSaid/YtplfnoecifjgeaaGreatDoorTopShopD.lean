/- Part 4 of the proof of TopShop: shallow programs of Go functions, and what they compute. No condition. -/
import Derived.Test.YtplfnoecifjgeaaGreatDoorTopShopC
import Derived.RangeFuncBound
import Derived.Scope
import Derived.RangeFuncLeaves
import Derived.OpenShut
import Derived.WideKeyArgs
import Derived.ChangeSame
import Derived.Test.YtplfnoecifjgeaaGreatDoorProg
import Derived.KernelRfl
noncomputable section
set_option linter.unusedVariables false
set_option linter.unusedSimpArgs false
namespace Go.Fer
open Go.RowKit
theorem ah9{C:b9}(iN:C.r=none){β:Type}{s:aA}{a:Act}{w:World}(M:cu C s a w){g:Operand}{ps:Array Tmp}{assign body:Code}{q9 n:Nat}{eV:Nat->aG}(aB:a7 C.aN s.ay g=.rV q9 n eV){ic:zJ}(UI:Db C.P q9 ic)
    {x:ic.ts.ai} {bU:List Nat} (ag:(iY ic.ts ((List.range n).map eV)).run s.aa=some (x,bU)) {sh rin rout:dK} (ed:nW sh rout ic.aK ps.toList C.nt=true) {n0:sh.ai} (nX:sh.jb (s.cz bU)=some n0) (gJ:ic.pre x)
    {run:aA->A (dj×rout.ai)} {k:dj->aA->A β} {O:β->Prop} (hm:A.cw (jN (λD y=>tP sh rin rout ic.aK ps.toList D y run) (ic.seq x) n0) λp=>A.cw (k p.1 (sh.st p.2)) O)
    (Dy:∀ l,Hg C.P C.aN C.nt assign body l run) {Q:Exit->Act->World->Prop}
    (al:∀ u,C.jP u->∀ e s' a' w',cu (C.hl u) s' a' w'->A.cw (k e s') O->Q e.pq a' w'):(Code.rangeFunc g ps assign body).wpIn (dS C.r) 0 C.P Q a w:=by
  obtain⟨κ,F,M⟩:=M;obtain⟨zZ,f1,gK,f2⟩:=bl.lb (p8 _ ag) M;obtain⟨κ,ek,f3,cN⟩:=dK.zS nX gK;have ae:=j6 M g;rw[aB]at ae;obtain⟨aC,p1,ih,ax8⟩:=ae;have ah_:fp C.P ic.ts zZ w aC x:=u' M.bF f1 ic.ts ag f2 (by grind) λi G dO=>by
    grind
  have pg:∀ D:sh.ai,(sh.st D).ay b4=.undef:=λD=>by
    simp only[nW,Bool.and_eq_true,Bool.not_eq_true']at ed;exact xE sh.bT da D b4 ed.1.1.1.2
  rw[iN];refine wpIn_rangeFunc λfn _=>?_;have aT:w.heap.size<((w.alloc (.deferred (some []))).alloc (.loop (fc fn a.tmps ps assign body w.heap.size .ready .normal))).heap.size:=by simp;omega
  have aj:w.heap.size+1<((w.alloc (.deferred (some []))).alloc (.loop (fc fn a.tmps ps assign body w.heap.size .ready .normal))).heap.size:=by simp
  have DC:((w.alloc (.deferred (some []))).alloc (.loop (fc fn a.tmps ps assign body w.heap.size .ready .normal))).heap[w.heap.size+1]?=some (.loop (fc fn a.tmps ps assign body w.heap.size .ready .normal)):=by
    have:=p0 (w.alloc (.deferred (some []))) (.loop (fc fn a.tmps ps assign body w.heap.size .ready .normal));simp_all
  have DD:((w.alloc (.deferred (some []))).alloc (.loop (fc fn a.tmps ps assign body w.heap.size .ready .normal))).heap[w.heap.size]?=some (.deferred (some [])):=
    (o8 _ _ (by simp)).trans (p0 w _)
  have t':∀ r,r<w.heap.size->((w.alloc (.deferred (some []))).alloc (.loop (fc fn a.tmps ps assign body w.heap.size .ready .normal))).heap[r]?=w.heap[r]?:=λr h=>UB h;have DE:(Instr.enterLoop fn a.tmps ps assign body none).run C.P w=.ok (w.heap.size+1,[oJ w.heap.size]) ((w.alloc (.deferred (some []))).alloc (.loop (fc fn a.tmps ps assign body w.heap.size .ready .normal))):=run_enterLoop_outer fn a.tmps ps assign body;have xP:dd w ((w.alloc (.deferred (some []))).alloc (.loop (fc fn a.tmps ps assign body w.heap.size .ready .normal))):=⟨rfl,rfl,rfl⟩
  have MY:((w.alloc (.deferred (some []))).alloc (.loop (fc fn a.tmps ps assign body w.heap.size .ready .normal))).heap.size=w.heap.size+2:=by simp
  generalize (w.alloc (.deferred (some []))).alloc (.loop (fc fn a.tmps ps assign body w.heap.size .ready .normal))=cn at aT aj DC DD t' DE xP MY;have qe:c7 ek w cn:=⟨by omega,λr h=>t' r (cN.dc r h)⟩
  have dY:fp C.P ic.ts ek cn aC x:=(ah_.mono f3 (c7.refl _ _)).mono (λ_ h=>h) qe;have eB:bl { C with w0:=cn,F0:=ek,K0:=λ_=>False } (sh.st n0) a cn κ ek:=
    cN.vp cN.dH cN.dfr cN.gl cN.bT (λdJ ky e6 iZ im e=>by have e:(sh.st n0).ay b4=.aV dJ ky e6 iZ im:=e;grind)
      (λr h=>t' r (by
        rcases h with h | ⟨b,W,rfl⟩
        · exact cN.dc r h
        · exact (cN.own b W).1)) (by omega) (λ_ h=>.inl h) (λ_ h=>h) (λ_ h=>h.elim) (λ_ h=>h.elim) (λ_ _ h=>h) (Nat.le_refl _) (dd.refl _)
  have MZ:=UH (UC (S:=λT=>T=ic.seq x) (C:=C) (CI:={ C with w0:=cn,F0:=ek,K0:=λ_=>False }) (sh:=sh) (rin:=rin) (rout:=rout) (ps:=ps) (assign:=assign) (body:=body) (a:=a) (fn:=fn) (l:=w.heap.size+1) (B:=w.heap.size) (run:=run) (k:=k) (O:=O)
    rfl (by omega) (by rw[M.dH];omega) (by rw[M.dH];grind))
  have fm:∀ b,((sh.st n0).aa b).body.b1 (κ b)=true->¬((κ b).aa=w.heap.size+1\/(κ b).aa=w.heap.size):=λb W h=>by
    have:=(cN.own b W).1;omega
  have vq:=UI.iV (w.heap.size+1) _ ek (λr=>(∃ b,((sh.st n0).aa b).body.b1 (κ b)=true/\(κ b).aa=r)\/r=w.heap.size+1\/r=w.heap.size) cn aC x dY gJ MZ (λr h=>eB.dc r h) eB.iB
    (λr h=>by
      rcases h with⟨b,W,rfl⟩ | rfl | rfl
      · exact⟨(eB.own b W).1,(eB.own b W).2.1⟩
      · exact⟨aj,λh=>by have:=cN.dc _ h;omega⟩
      · exact⟨aT,λh=>by have:=cN.dc _ h;omega⟩)
    ⟨.normal,n0,κ,eB,DC,DD,λb W=>⟨.inl ⟨b,W,rfl⟩,fm b W⟩,.inr (.inl rfl),.inr (.inr rfl),λh=>by have:=cN.dc _ h;omega,λh=>by have:=cN.dc _ h;omega,rfl,λ_=>⟨rfl,λR jQ=>by grind⟩,λh=>by cases h⟩
  refine⟨w.heap.size+1,[oJ w.heap.size],cn,{ target:=.fn (.func q9) #[],args:=aC.toArray++#[.func (.yield (w.heap.size+1)) #[] #[]] },cn,q9,(aC++[Value.func (.yield (w.heap.size+1)) #[] #[]]).toArray,cn,DE,?_,λ_ _=>trivial,?_,λh=>(by cases h),callsIn_wide.2 (vq.mono λe eY ⟨v,iZ,st,F',gy,he,fY,hinv,g1,ee,g3,g4,g5,g6,g7⟩=>?_)⟩
  · have e:a.eval (.const (.func (.yield (w.heap.size+1)) #[] #[]))=.func (.yield (w.heap.size+1)) #[] #[]:=rfl
    simp[resolve,p1,Deferred.ofValue,e]
  · have:=UI.enter (aC++[Value.func (.yield (w.heap.size+1)) #[] #[]]).toArray cn
    simpa [invoke]using this
  subst he;obtain⟨e,D,κ',mr,E,U,ah,a1,bK,dp,fF,_,ix,o5⟩:=hinv;refine⟨sv e,_,run_endLoop E (by cases st<;>simp[fc]),?_⟩;have Hl:w.heap.size+1<eY.heap.size:=(Array.getElem?_eq_some_iff.1 E).1;generalize bc:Obj.loop _=ca;have hJ:A.cw (k e (sh.st D)) O:=by
    cases st with
    | true=>grind
    | false=>
      obtain⟨rfl,fl⟩:=ix rfl;exact (fl [] (show iZ++[]=ic.seq x by grind)).2 _ rfl
  have vj:∀ r,C.K0 r->r<w.heap.size:=λr h=>Nat.lt_of_lt_of_le (M.hs r h) M.size;have tZ:∀ r,C.K0 r->(eY.putObj (w.heap.size+1) ca).heap[r]?=C.w0.heap[r]?:=λr h=>by
    have cc:=vj r h;rw[World.putObj_heap_other (by omega),g4 r (by omega) λaS=>?_,t' r cc]
    · exact M.eH r h
    · rcases aS with⟨b,W,rfl⟩ | rfl | rfl
      · exact (cN.own b W).2.2 h
      · omega
      · omega
  have xQ:dd C.w0 (eY.putObj (w.heap.size+1) ca):=by
    have:=(M.eu.trans xP).trans g7;exact⟨this.os,this.tape,this.output⟩
  have Aa:C.jP ⟨eY.putObj (w.heap.size+1) ca,λr=>C.K0 r\/r=w.heap.size,[w.heap.size]⟩:=
    { su := λB aT => by
        have:B=w.heap.size:=by grind
        subst this;exact⟨.inr rfl,(World.putObj_heap_other (by omega)).trans U⟩
      ez:=λB aT=>by
        have:B=w.heap.size:=by grind
        subst this;exact⟨λh=>by grind,M.size⟩
      mq:=by simp
      gV:=λ_ h=>.inl h
      eH:=tZ
      size:=by have:=M.size;simp;omega
      eu:=xQ }
  have nY:cu (C.hl ⟨eY.putObj (w.heap.size+1) ca,λr=>C.K0 r\/r=w.heap.size,[w.heap.size]⟩) (sh.st D) { a with defers:=[oJ w.heap.size]++a.defers } (eY.putObj (w.heap.size+1) ca):=by
    have M0:∀ r,F' r->C.F0 r\/¬(C.K0 r\/r=w.heap.size):=λr bb=>by
      rcases ee r bb with h | h | h
      · rcases cN.hh r h with dw | dw
        · exact .inl dw
        · exact .inr λal=>al.elim dw λe=>by have:=cN.dc r h;omega
      · rcases h with⟨b,W,rfl⟩ | rfl | rfl
        · exact .inr λal=>al.elim (cN.own b W).2.2 λe=>fm b W (.inr e)
        · exact (dp bb).elim
        · exact (fF bb).elim
      grind
    refine⟨κ',F',mr.vp (r:=C.r) mr.dH (by show [oJ w.heap.size]++a.defers=_;rw[M.dfr];rfl) mr.gl mr.bT (λdJ ky e6 iZ im e=>by have e:(sh.st D).ay b4=.aV dJ ky e6 iZ im:=e;grind)
      (λr h=>World.putObj_heap_other λe=>by
        grind) (by simp) M0 (λr h=>g1 r (cN.hQ r h)) (λr h=>?_) (λ_ _=>rfl) (λb W h=>?_) (Nat.le_refl _) (dd.refl _)⟩
    · simp only[World.putObj_size]
      grind
    · rcases h with h | h
      · rcases (g5 _ (ah b W).1).1 with aS | aS
        · rcases aS with⟨bd,cR,e⟩ | e | e
          · exact (cN.own bd cR).2.2 (e ▸ h)
          · exact (ah b W).2 (.inl e)
          · exact (ah b W).2 (.inr e)
        grind
      grind
  have bt:=al _ Aa e _ _ _ nY hJ;cases e with
  | normal=>exact bt
  | exit id=>exact wpIn_exit bt
  | ret=>exact wpIn_ret bt
theorem ah'{C:b9}(iN:C.r=none){β:Type}{s:aA}{a:Act}{w:World}(M:cu C s a w){g:Operand}{ps:Array Tmp}{assign body:Code}{aK:ad}{S:List aK.ai->Prop}(aB:a7 C.aN s.ay g=.val (.ct aK) S)
    {sh rin rout:dK} (ed:nW sh rout aK ps.toList C.nt=true) {n0:sh.ai} (nX:sh.jb s=some n0) (eP:∃ L,S L)
    {run:aA->A (dj×rout.ai)} {k:dj->aA->A β} {O:β->Prop} (hm:∀ L,S L->A.cw (jN (λD y=>tP sh rin rout aK ps.toList D y run) L n0) λp=>A.cw (k p.1 (sh.st p.2)) O)
    (Dy:∀ l,Hg C.P C.aN C.nt assign body l run) {Q:Exit->Act->World->Prop}
    (al:∀ u,C.jP u->∀ e s' a' w',cu (C.hl u) s' a' w'->A.cw (k e s') O->Q e.pq a' w'):(Code.rangeFunc g ps assign body).wpIn (dS C.r) 0 C.P Q a w:=by
  obtain⟨κ,F,M⟩:=M;obtain⟨κ,ek,f3,cN⟩:=dK.zS nX M;have ae:=j6 M g;rw[aB]at ae;have p1:=ff _ f3 (c7.refl _ _) ((dV rfl).1 ae).2;simp only[bI]at p1;obtain⟨u,hu,_,aia⟩:=p1;have hu:=(List.cons.inj hu).1;have pg:∀ D:sh.ai,(sh.st D).ay b4=.undef:=λD=>by
    simp only[nW,Bool.and_eq_true,Bool.not_eq_true']at ed;exact xE sh.bT da D b4 ed.1.1.1.2
  rw[iN];refine wpIn_rangeFunc λfn _=>?_;have aT:w.heap.size<((w.alloc (.deferred (some []))).alloc (.loop (fc fn a.tmps ps assign body w.heap.size .ready .normal))).heap.size:=by simp;omega
  have aj:w.heap.size+1<((w.alloc (.deferred (some []))).alloc (.loop (fc fn a.tmps ps assign body w.heap.size .ready .normal))).heap.size:=by simp
  have DC:((w.alloc (.deferred (some []))).alloc (.loop (fc fn a.tmps ps assign body w.heap.size .ready .normal))).heap[w.heap.size+1]?=some (.loop (fc fn a.tmps ps assign body w.heap.size .ready .normal)):=by
    have:=p0 (w.alloc (.deferred (some []))) (.loop (fc fn a.tmps ps assign body w.heap.size .ready .normal));simp_all
  have DD:((w.alloc (.deferred (some []))).alloc (.loop (fc fn a.tmps ps assign body w.heap.size .ready .normal))).heap[w.heap.size]?=some (.deferred (some [])):=
    (o8 _ _ (by simp)).trans (p0 w _)
  have t':∀ r,r<w.heap.size->((w.alloc (.deferred (some []))).alloc (.loop (fc fn a.tmps ps assign body w.heap.size .ready .normal))).heap[r]?=w.heap[r]?:=λr h=>UB h;have DE:(Instr.enterLoop fn a.tmps ps assign body none).run C.P w=.ok (w.heap.size+1,[oJ w.heap.size]) ((w.alloc (.deferred (some []))).alloc (.loop (fc fn a.tmps ps assign body w.heap.size .ready .normal))):=run_enterLoop_outer fn a.tmps ps assign body;have xP:dd w ((w.alloc (.deferred (some []))).alloc (.loop (fc fn a.tmps ps assign body w.heap.size .ready .normal))):=⟨rfl,rfl,rfl⟩
  have MY:((w.alloc (.deferred (some []))).alloc (.loop (fc fn a.tmps ps assign body w.heap.size .ready .normal))).heap.size=w.heap.size+2:=by simp
  generalize (w.alloc (.deferred (some []))).alloc (.loop (fc fn a.tmps ps assign body w.heap.size .ready .normal))=cn at aT aj DC DD t' DE xP MY;have qe:c7 ek w cn:=⟨by omega,λr h=>t' r (cN.dc r h)⟩
  have eB:bl { C with w0:=cn,F0:=ek,K0:=λ_=>False } (sh.st n0) a cn κ ek:=
    cN.vp cN.dH cN.dfr cN.gl cN.bT (λdJ ky e6 iZ im e=>by have e:(sh.st n0).ay b4=.aV dJ ky e6 iZ im:=e;grind)
      (λr h=>t' r (by
        rcases h with h | ⟨b,W,rfl⟩
        · exact cN.dc r h
        · exact (cN.own b W).1)) (by omega) (λ_ h=>.inl h) (λ_ h=>h) (λ_ h=>h.elim) (λ_ h=>h.elim) (λ_ _ h=>h) (Nat.le_refl _) (dd.refl _)
  have MZ:=UC (S:=S) (C:=C) (CI:={ C with w0:=cn,F0:=ek,K0:=λ_=>False }) (sh:=sh) (rin:=rin) (rout:=rout) (ps:=ps) (assign:=assign) (body:=body) (a:=a) (fn:=fn) (l:=w.heap.size+1) (B:=w.heap.size) (run:=run) (k:=k) (O:=O)
    rfl (by omega) (by rw[M.dH];omega) (by rw[M.dH];grind)
  have fm:∀ b,((sh.st n0).aa b).body.b1 (κ b)=true->¬((κ b).aa=w.heap.size+1\/(κ b).aa=w.heap.size):=λb W h=>by
    have:=(cN.own b W).1;omega
  obtain⟨q9,c6,aib,sj,L6⟩:=aia ek cn (λ_ h=>h) qe (λr h=>eB.dc r h) eB.iB eP;have vq:=L6 (w.heap.size+1) _ (λr=>(∃ b,((sh.st n0).aa b).body.b1 (κ b)=true/\(κ b).aa=r)\/r=w.heap.size+1\/r=w.heap.size)
    (λr h=>by
      rcases h with⟨b,W,rfl⟩ | rfl | rfl
      · exact⟨(eB.own b W).1,(eB.own b W).2.1⟩
      · exact⟨aj,λh=>by have:=cN.dc _ h;omega⟩
      · exact⟨aT,λh=>by have:=cN.dc _ h;omega⟩)
    MZ ⟨.normal,n0,κ,eB,DC,DD,λb W=>⟨.inl ⟨b,W,rfl⟩,fm b W⟩,.inr (.inl rfl),.inr (.inr rfl),λh=>by have:=cN.dc _ h;omega,λh=>by have:=cN.dc _ h;omega,rfl,λ_=>⟨rfl,λR jQ=>hm R jQ⟩,λh=>by cases h⟩
  refine⟨w.heap.size+1,[oJ w.heap.size],cn,{ target:=.fn (.func q9) c6,args:=#[.func (.yield (w.heap.size+1)) #[] #[]] },cn,q9,#[Value.func (.yield (w.heap.size+1)) #[] #[]]++c6,cn,DE,?_,λ_ _=>trivial,?_,λh=>(by cases h),callsIn_wide.2 (vq.mono λe eY ⟨v,pre,st,F',gy,he,fY,hinv,g1,ee,g3,g4,g5,g6,M1⟩=>?_)⟩
  · have e:a.eval (.const (.func (.yield (w.heap.size+1)) #[] #[]))=.func (.yield (w.heap.size+1)) #[] #[]:=rfl
    simp[resolve,hu,aib,Deferred.ofValue,e]
  · have:=sj (#[Value.func (.yield (w.heap.size+1)) #[] #[]]++c6) cn
    simpa [invoke]using this
  have g7:dd cn eY:=⟨M1.1,M1.2.1,M1.2.2⟩
  subst he;obtain⟨e,D,κ',mr,E,U,ah,a1,bK,dp,fF,_,ix,o5⟩:=hinv;refine⟨sv e,_,run_endLoop E (by cases st<;>simp[fc]),?_⟩;have Hl:w.heap.size+1<eY.heap.size:=(Array.getElem?_eq_some_iff.1 E).1;generalize bc:Obj.loop _=ca;have hJ:A.cw (k e (sh.st D)) O:=by
    cases st with
    | true=>grind
    | false=>
      obtain⟨rfl,fl⟩:=ix rfl;exact (fl [] (show S (pre++[]) by grind)).2 _ rfl
  have vj:∀ r,C.K0 r->r<w.heap.size:=λr h=>Nat.lt_of_lt_of_le (M.hs r h) M.size;have tZ:∀ r,C.K0 r->(eY.putObj (w.heap.size+1) ca).heap[r]?=C.w0.heap[r]?:=λr h=>by
    have cc:=vj r h;rw[World.putObj_heap_other (by omega),g4 r (by omega) λaS=>?_,t' r cc]
    · exact M.eH r h
    · rcases aS with⟨b,W,rfl⟩ | rfl | rfl
      · exact (cN.own b W).2.2 h
      · omega
      · omega
  have xQ:dd C.w0 (eY.putObj (w.heap.size+1) ca):=by
    have:=(M.eu.trans xP).trans g7;exact⟨this.os,this.tape,this.output⟩
  have Aa:C.jP ⟨eY.putObj (w.heap.size+1) ca,λr=>C.K0 r\/r=w.heap.size,[w.heap.size]⟩:=
    { su := λB aT => by
        have:B=w.heap.size:=by grind
        subst this;exact⟨.inr rfl,(World.putObj_heap_other (by omega)).trans U⟩
      ez:=λB aT=>by
        have:B=w.heap.size:=by grind
        subst this;exact⟨λh=>by grind,M.size⟩
      mq:=by simp
      gV:=λ_ h=>.inl h
      eH:=tZ
      size:=by have:=M.size;simp;omega
      eu:=xQ }
  have nY:cu (C.hl ⟨eY.putObj (w.heap.size+1) ca,λr=>C.K0 r\/r=w.heap.size,[w.heap.size]⟩) (sh.st D) { a with defers:=[oJ w.heap.size]++a.defers } (eY.putObj (w.heap.size+1) ca):=by
    have M0:∀ r,F' r->C.F0 r\/¬(C.K0 r\/r=w.heap.size):=λr bb=>by
      rcases ee r bb with h | h | h
      · rcases cN.hh r h with dw | dw
        · exact .inl dw
        · exact .inr λal=>al.elim dw λe=>by have:=cN.dc r h;omega
      · rcases h with⟨b,W,rfl⟩ | rfl | rfl
        · exact .inr λal=>al.elim (cN.own b W).2.2 λe=>fm b W (.inr e)
        · exact (dp bb).elim
        · exact (fF bb).elim
      grind
    refine⟨κ',F',mr.vp (r:=C.r) mr.dH (by show [oJ w.heap.size]++a.defers=_;rw[M.dfr];rfl) mr.gl mr.bT (λdJ ky e6 iZ im e=>by have e:(sh.st D).ay b4=.aV dJ ky e6 iZ im:=e;grind)
      (λr h=>World.putObj_heap_other λe=>by
        grind) (by simp) M0 (λr h=>g1 r (cN.hQ r h)) (λr h=>?_) (λ_ _=>rfl) (λb W h=>?_) (Nat.le_refl _) (dd.refl _)⟩
    · simp only[World.putObj_size]
      grind
    · rcases h with h | h
      · rcases (g5 _ (ah b W).1).1 with aS | aS
        · rcases aS with⟨bd,cR,e⟩ | e | e
          · exact (cN.own bd cR).2.2 (e ▸ h)
          · exact (ah b W).2 (.inl e)
          · exact (ah b W).2 (.inr e)
        grind
      grind
  have bt:=al _ Aa e _ _ _ nY hJ;cases e with
  | normal=>exact bt
  | exit id=>exact wpIn_exit bt
  | ret=>exact wpIn_ret bt
end Go.Fer
namespace Go.Fer
open Go.RowKit
open A (V)
section
variable {F:Fence} {n:Nat} {P:Program} {Q:Exit->Act->World->Prop} {a:Act} {w:World}
theorem aic{c:Code}{Ho β:Type}{body:Ho->A (V Ho β)}{O:β->Prop}(I:Ho->Act->World->Prop)
  (round:∀ D a w,I D a w->(body D).ck->(∀ r,(body D).bL (.done r)->O r)->c.wpIn F n P (Exit.then (λa' w'=>∃ iJ,(body D).bL (.next iJ)/\I iJ a' w') Q) a w)
  {D:Ho} (aD:A.BS body D) (af:∀ r,A.yW body D r->O r) (eB:I D a w):(Code.loop c).wpIn F n P Q a w:=by
 intro b k cs ri W M;have key:∀ D,A.BS body D->(∀ r,A.yW body D r->O r)->∀ a w,I D a w->
   ∃ e a' w',Q e a' w'/\ArrivesIn (Machine.fenced P F) P (lone (b.atR a (.code c::.inLoop c::k)) cs w) b k cs e a' w':=by
  intro D aD;induction aD with
  | mk D h _ aJ=>
   intro af a w eB;obtain⟨e,lW,lX,bt,fa⟩:=round D a w eB h (λr M=>af r (.done _ _ M)) b (.inLoop c::k) cs ri W M;cases e with
   | normal=>
    obtain⟨iJ,pv,aid⟩:=bt;obtain⟨M2,M3,M4,M5,M6⟩:=aJ iJ pv (λr M=>af r (.next _ _ _ pv M)) lW lX aid;exact⟨M2,M3,M4,M5,.of_steps (StepsIn.trans fa (.one (fenced_calm W M rfl) stepR_inLoop)) M6⟩
   | exit id=>exact⟨_,lW,lX,bt,.pass (x:=.inLoop c) rfl (λ_ _=>.inl (by simp)) fa⟩
   | goto l=>exact⟨_,lW,lX,bt,.pass (x:=.inLoop c) rfl (λ_ _=>.inl (by simp)) fa⟩
   | ret=>exact⟨_,lW,lX,bt,.pass (x:=.inLoop c) rfl (λ_ _=>.inl (by simp)) fa⟩
   | panic M7=>exact⟨_,lW,lX,bt,.pass (x:=.inLoop c) rfl (λ_ _=>.inl (by simp)) fa⟩
   | outgrown=>exact⟨_,lW,lX,bt,.pass (x:=.inLoop c) rfl (λ_ _=>.inl (by simp)) fa⟩
 obtain⟨e,a',w',bt,fa⟩:=key D aD af a w eB;exact⟨e,a',w',bt,.of_steps (.one (fenced_calm W M rfl) stepR_loop) fa⟩
theorem aie{p q:Prop}(bt:q)(h:q->p):p/\q:=⟨h bt,bt⟩
def Hp(F:Fence)(n:Nat)(P:Program)(c:Code)(Q:Exit->Act->World->Prop)(a:Act)(w:World):Prop:=
 ∀ (b:Frame) (k:List Item) (cs:List Frame),b.roundOf=F.round->F.fn b.fn->F.room (cs.length+1+n)->
  ∃ e a' w',Q e a' w'/\ArrivesIn (Machine.fenced P F) P (lone (b.atR a (.code c::.inLoop c::k)) cs w) b k cs e a' w'
theorem aif{c:Code}(h:Hp F n P c Q a w):(Code.loop c).wpIn F n P Q a w:=λb k cs ri W M=>by
 obtain⟨e,a',w',bt,fa⟩:=h b k cs ri W M;exact⟨e,a',w',bt,.of_steps (.one (fenced_calm W M rfl) stepR_loop) fa⟩
theorem aih{c:Code}(h:c.wpIn F n P (Exit.then (λa' w'=>Hp F n P c Q a' w') Q) a w):Hp F n P c Q a w:=λb k cs ri W M=>by
 obtain⟨e,lW,lX,bt,fa⟩:=h b (.inLoop c::k) cs ri W M;cases e with
 | normal=>
  obtain⟨M2,M3,M4,M5,M6⟩:=bt b k cs ri W M;exact⟨M2,M3,M4,M5,.of_steps (StepsIn.trans fa (.one (fenced_calm W M rfl) stepR_inLoop)) M6⟩
 | exit id=>exact⟨_,lW,lX,bt,.pass (x:=.inLoop c) rfl (λ_ _=>.inl (by simp)) fa⟩
 | goto l=>exact⟨_,lW,lX,bt,.pass (x:=.inLoop c) rfl (λ_ _=>.inl (by simp)) fa⟩
 | ret=>exact⟨_,lW,lX,bt,.pass (x:=.inLoop c) rfl (λ_ _=>.inl (by simp)) fa⟩
 | panic M7=>exact⟨_,lW,lX,bt,.pass (x:=.inLoop c) rfl (λ_ _=>.inl (by simp)) fa⟩
 | outgrown=>exact⟨_,lW,lX,bt,.pass (x:=.inLoop c) rfl (λ_ _=>.inl (by simp)) fa⟩
theorem Ab{b:Frame}{k:List Item}{cs:List Frame}{c:Code}:step P (lone (b.atR a (.code (.scope c)::k)) cs w)=.next (lone (b.atR a (.code c::.inScope c::k)) cs w):=
 step_lone_go (by rfl)
theorem aii{b:Frame}{k:List Item}{cs:List Frame}{c:Code}:step P (lone (b.atR a (.inScope c::k)) cs w)=.next (lone (b.atR a k) cs w):=
 step_lone_go (by rfl)
theorem aij{c:Code}(h:c.wpIn F n P (Exit.noGoto Q) a w):(Code.scope c).wpIn F n P Q a w:=by
 intro b k cs ri W M;have aX:(lone (b.atR a (.code (.scope c)::k)) cs w).fenced P F:=fenced_calm W M rfl;obtain⟨e,lW,lX,bt,fa⟩:=h b (.inScope c::k) cs ri W M;cases e with
 | normal=>exact⟨.normal,lW,lX,bt,.head aX Ab (StepsIn.trans fa (.one (fenced_calm W M rfl) aii))⟩
 | exit id=>
  have ag:exitTo id (.inScope c::k)=exitTo id k:=by rfl
  exact⟨.exit id,lW,lX,bt,λk' al=>.head aX Ab (fa.1 k' (by grind)),λbb al=>let ⟨k₁,E,U⟩:=fa.2 bb (by grind);⟨k₁,E,.head aX Ab U⟩⟩
 | goto l=>exact bt.elim
 | ret=>exact⟨.ret,lW,lX,bt,.of_steps (.one aX Ab) fa⟩
 | panic M7=>exact⟨.panic M7,lW,lX,bt,.of_steps (.one aX Ab) fa⟩
 | outgrown=>exact⟨.outgrown,lW,lX,bt,.of_steps (.one aX Ab) fa⟩
end
section
variable {T:Nat->ad} {be:Nat->Option aL} {Ψ:Nat->Option e5}
def M8{D β:Type}(m:A (V D β))(O:β->Prop)(st:V D β):Prop:=
 match st with
 | .next s=>m.bL (.next s)
 | .done r=>O r
theorem aik{C:b9}{s s':aA}{i:Nat}{a:Act}{w:World}(h:LO s i=some s')(M:cu C s a w):cu C s' a w:=by
 obtain⟨κ,F,M⟩:=M;unfold LO at h;split at h
 ·rename_i b g n off aD;split at h
  ·rename_i e xs bS;split at h
   ·rename_i aB;cases h;have ae:=M.bT i;rw[aD]at ae;obtain⟨aO,aR,bO⟩:=ae.2 aB (by rw[bS];rfl);rw[bS]at aO bO;have aT:=M.bF b;unfold cE at aT;rw[bS]at aT;obtain⟨cs,T,bE,c2,c3,c4,c5⟩:=aT.2 aR;have aO:n<xs.length:=aO;obtain⟨bh,d1,d2⟩:=c5 n aO;have d2:bI C.P (.slice e) F w bh xs[n]:=d2;obtain⟨u,rfl,hu⟩:=BY (t:=.slice e) rfl d2;have tu:cs.getD ((κ b).off+n) Go.undef=u:=by
     have:=d1 0 (by simp);simp only[ad.size,Nat.mul_one,Nat.add_zero]at this;rw[Array.getD_eq_getD_getElem?,this];rfl
    have gq:fq s.aa κ (λq=>if q=b then (⟨g,.gj (.st (.slice e)) xs n (.val (.slice e) (xs.getD n []))⟩:bJ) else s.aa q) κ:=
     qN aB (λh=>by cases h) (λ_=>by rw[bS];exact⟨rfl,rfl,rfl⟩) (λh=>by cases h) (λh=>by cases h)
    have cN:=M.o9 (b:=b) (x:=⟨g,.gj (.st (.slice e)) xs n (.val (.slice e) (xs.getD n []))⟩) (w':=w) (by rw[bS];simp[bQ.b1,aR]) (by simp[bQ.b1,aR]) gq (λh=>by cases h) (λh=>by cases h) (λ_ _=>rfl) rfl (dd.refl w) λH mO cc he=>
     ⟨aR,cs,T,bE,c2,c3,c4,⟨rfl,aO⟩,λj aE _=>c5 j aE,by rw[tu,show xs.getD n []=xs[n] by simp[aO]];exact (dV rfl).2 ⟨hu,d2⟩,by rw[tu];exact Kb (t:=.slice e) rfl d2⟩
    refine⟨κ,F,{ cN with bT:=λj=>?_,dH:=cN.dH,dfr:=cN.dfr,bF:=cN.bF,eM:=λl aK L m st a6=>?_ }⟩
    ·show bB _ _ _ _ _ (if j=i then _ else _) _;split
     ·rename_i aE;subst aE;refine⟨⟨by show g<=(if b=b then _ else _:bJ).gen;simp,ae.1.2⟩,λ_ _=>?_⟩;show _<(if b=b then _ else _:bJ).body.len/\_/\_=Value.pointer (some ⟨_,_+_*(if b=b then _ else _:bJ).body.e2,_⟩);simp only[if_true];exact⟨aO,aR,bO⟩
     ·exact cN.bT j
    ·have a6:(if b4=i then _ else _)=aG.aV l aK L m st:=a6;split at a6
     ·cases a6
     ·exact cN.eM l aK L m st a6
   ·cases h
  ·cases h
 ·cases h
theorem ail{C:b9}{s s':aA}{b:Nat}{a:Act}{w:World}(h:LP s b=some s')(M:cu C s a w):cu C s' a w:=by
 obtain⟨κ,F,M⟩:=M;unfold LP at h;split at h
 ·rename_i e xs n v bS;split at h
  ·rename_i y bU aS;split at h
   ·cases h
   ·rename_i p6;cases h;have p6:b ∉ bU:=by simpa using p6
    obtain⟨F',f1,bb,f2⟩:=bl.lb (mN aS) M;have zr:(s.cz bU).aa b=s.aa b:=by simp[aA.cz,p6]
    have aT:=M.bF b;have M9:=bb.bF b;unfold cE at aT M9;rw[zr,bS]at M9;rw[bS]at aT;obtain⟨aX,cs,T,bE,c2,c3,c4,c5,lM,ox,w7⟩:=M9;obtain⟨_,di,hU,UJ,_,_,_,_,_,aim,_⟩:=aT;rw[bE]at UJ;cases UJ;have u6:=mc M.bF f1 aS f2 aim;obtain⟨Hi,oK⟩:=(dV rfl).1 u6;have gq:fq (s.cz bU).aa κ (λq=>if q=b then (⟨(s.aa b).gen,.bg (.st (.slice e)) (xs.set n y)⟩:bJ) else (s.cz bU).aa q) κ:=
     qN (by rw[zr]) (λh=>by cases h) (λ_=>by rw[zr,bS];exact⟨rfl,by simp[bQ.len],rfl⟩) (λh=>by cases h) (λh=>by cases h)
    refine⟨κ,F',bb.o9 (b:=b) (w':=w) (by rw[zr,bS];simp[bQ.b1,aX]) (by simp[bQ.b1,aX]) gq (λh=>by cases h) (λh=>by cases h) (λ_ _=>rfl) rfl (dd.refl w) λH mO cc he=>⟨λaw=>(by rw[aX]at aw;cases aw),λ_=>⟨cs,T,bE,c2,by simpa using c3,c4,λj aE=>?_⟩⟩⟩;by_cases qM:j=n
    ·subst qM;refine⟨[cs.getD ((κ b).off+j) Go.undef],λq bt=>?_,?_⟩
     ·have bt:q=0:=by simpa using bt
      subst bt;have:(κ b).off+j<cs.size:=by
       have:=c5.2;simp only[ad.size,Nat.mul_one]at c2;omega
      simp[ad.size,this]
     ·rw[List.getElem_set_self];exact oK
    ·obtain⟨bh,d1,d2⟩:=lM j (by simpa using aE) qM;exact⟨bh,d1,by rw[List.getElem_set_ne (Ne.symm qM)];exact d2⟩
  ·cases h
 ·cases h
theorem ain:∀ (ann:cC),(∀ (C:b9) (_:C.P.follows .mixedOrders=true) (_:dT C.P T) (_:jn C.P be) (_:lV C.P C.aN Ψ) (_:C.r=none\/ann.ej=true) {β:Type} (c:Code) (s:aA) (k:dj->aA->A β) (O:β->Prop) (Q:Exit->Act->World->Prop) (a:Act) (w:World),lo C.nt c=true->cu C s a w->A.cw (eI C.aN T be Ψ ann c s k) O->(∀ u,C.jP u->∀ e s' a' w',cu (C.hl u) s' a' w'->A.cw (k e s') O->Q e.pq a' w')->c.wpIn (dS C.r) 0 C.P Q a w)/\(ann.oD=true->∀ (C:b9) (_:C.P.follows .mixedOrders=true) (_:dT C.P T) (_:jn C.P be) (_:lV C.P C.aN Ψ) (_:C.r=none\/ann.ej=true) {β:Type} (c:Code) (s:aA) (k:dj->aA->A β) (O:β->Prop) (Q:Exit->Act->World->Prop) (a:Act) (w:World),lo C.nt c=true->cu C s a w->A.cw (eI C.aN T be Ψ ann (.loop c) s k) O->(∀ u,C.jP u->∀ e s' a' w',cu (C.hl u) s' a' w'->A.cw (k e s') O->Q e.pq a' w')->Hp (dS C.r) 0 C.P c Q a w):=by
 intro ann;induction ann with
 | eO=>
  refine⟨?_,λ_ C en aU cA cZ fW β c s k O Q a w hc M hm al=>by unfold eI at hm;exact (gC hm).elim⟩;intro C en aU cA cZ fW β c s k O Q a w hc M hm al;unfold eI at hm;split at hm
  ·rename_i id ops draw;cases draw with
   | true=>exact ahG en aU (TX cA cZ) cZ (λo af=>List.all_eq_true.1 hc o af) (λs' a' w' bb fl=>al C.hF C.vo .normal s' a' w' bb fl) M hm
   | false=>
    refine wpIn_region ?_;have:=My (Q:=Q) (ops:=ops) aU cA cZ (λo af=>List.all_eq_true.1 hc o af) (k:=k .normal) (O:=O) (λs' a' w' bb fl=>al C.hF C.vo .normal s' a' w' bb fl) ops.toList 0 [] s a w (by simp) (λp an=>by cases an) M hm;rw[List.range_eq_range'];omega
  ·exact wpIn_skip (al C.hF C.vo .normal s a w M hm)
  ·exact wpIn_label (al C.hF C.vo .normal s a w M hm)
  ·exact wpIn_exit (al C.hF C.vo (.exit _) s a w M hm)
  ·exact wpIn_ret (al C.hF C.vo .ret s a w M hm)
  ·exact (gC hm).elim
 | seq x y hx lr=>
  have hx:=hx.1;have lr:=lr.1;refine⟨?_,λh=>by simp[cC.oD]at h⟩;intro C en aU cA cZ fW β c s k O Q a w hc M hm al;have lY:C.r=none\/x.ej=true:=fW.imp id λh=>by simp only[cC.ej,Bool.and_eq_true]at h;grind
  have qk:C.r=none\/y.ej=true:=fW.imp id λh=>by simp only[cC.ej,Bool.and_eq_true]at h;grind
  unfold eI at hm;split at hm
  ·rename_i n1 Ac;simp only[lo,Bool.and_eq_true]at hc;refine wpIn_seq (hx C en aU cA cZ lY n1 s _ O _ a w hc.1 M hm λu hu e s' a' w' bb fl=>?_);cases e with
   | normal=>exact lr (C.hl u) en aU cA cZ qk Ac s' k O Q a' w' hc.2 bb fl λv ae=>by rw[b9.z_];exact al _ (hu.then ae)
   | exit id=>exact al u hu (.exit id) s' a' w' bb fl
   | ret=>exact al u hu .ret s' a' w' bb fl
  ·exact (gC hm).elim
 | join sh x y hx lr=>
  have hx:=hx.1;have lr:=lr.1;refine⟨?_,λh=>by simp[cC.oD]at h⟩;intro C en aU cA cZ fW β c s k O Q a w hc M hm al;have lY:C.r=none\/x.ej=true:=fW.imp id λh=>by simp only[cC.ej,Bool.and_eq_true]at h;grind
  have qk:C.r=none\/y.ej=true:=fW.imp id λh=>by simp only[cC.ej,Bool.and_eq_true]at h;grind
  unfold eI at hm;split at hm
  ·rename_i n1 Ac;simp only[lo,Bool.and_eq_true]at hc;rw[A.f']at hm;refine wpIn_seq (hx C en aU cA cZ lY n1 s _ _ _ a w hc.1 M hm λu hu e s' a' w' bb fl=>?_);cases e with
   | normal=>
    obtain⟨D,nX,U⟩:=tY fl;have ah:=A.ea.1 U;exact lr (C.hl u) en aU cA cZ qk Ac _ k O Q a' w' hc.2 (dK.xz nX bb) ah λv ae=>by rw[b9.z_];exact al _ (hu.then ae)
   | exit id=>
    simp only[xx,A.f',A.ea,V.bz]at fl;exact al u hu (.exit id) s' a' w' bb fl
   | ret=>
    simp only[xx,A.f',A.ea,V.bz]at fl;exact al u hu .ret s' a' w' bb fl
  ·exact (gC hm).elim
 | cond x y hx lr=>
  have hx:=hx.1;have lr:=lr.1;refine⟨?_,λh=>by simp[cC.oD]at h⟩;intro C en aU cA cZ fW β c s k O Q a w hc M hm al;have lY:C.r=none\/x.ej=true:=fW.imp id λh=>by simp only[cC.ej,Bool.and_eq_true]at h;grind
  have qk:C.r=none\/y.ej=true:=fW.imp id λh=>by simp only[cC.ej,Bool.and_eq_true]at h;grind
  unfold eI at hm;split at hm
  ·rename_i co n1 Ac;simp only[lo,Bool.and_eq_true]at hc;unfold Tc at hm;split at hm
   ·rename_i t hu;obtain⟨κ,F,eX⟩:=M;have ae:=j6 eX co;rw[hu]at ae;refine wpIn_cond_split (fg.1 ae) (λaH=>?_) (λaH=>?_)
    ·subst aH;exact hx C en aU cA cZ lY n1 s k O Q a w hc.1 ⟨κ,F,eX⟩ hm al
    ·subst aH;exact lr C en aU cA cZ qk Ac s k O Q a w hc.2 ⟨κ,F,eX⟩ hm al
   ·rename_i g t hu;rw[A.kK]at hm;obtain⟨bc,hm⟩:=hm;obtain⟨κ,F,eX⟩:=M;have ae:=j6 eX co;rw[hu]at ae;refine wpIn_cond_split (fg.1 (ae.1 bc)) (λaH=>?_) (λaH=>?_)
    ·subst aH;exact hx C en aU cA cZ lY n1 s k O Q a w hc.1 ⟨κ,F,eX⟩ hm al
    ·subst aH;exact lr C en aU cA cZ qk Ac s k O Q a w hc.2 ⟨κ,F,eX⟩ hm al
   ·exact (gC hm).elim
  ·exact (gC hm).elim
 | block x hx=>
  have hx:=hx.1;refine⟨?_,λh=>by simp[cC.oD]at h⟩;intro C en aU cA cZ fW β c s k O Q a w hc M hm al;have lY:C.r=none\/x.ej=true:=fW;unfold eI at hm;split at hm
  ·rename_i id n1;refine wpIn_block (hx C en aU cA cZ lY n1 s _ O _ a w hc M hm λu hu e s' a' w' bb fl=>?_);cases e with
   | normal=>exact al u hu .normal s' a' w' bb fl
   | exit GD=>
    simp only[Tb]at fl;simp only[dj.pq,Exit.inBlock];split at fl
    ·rename_i e;rw[if_pos e];exact al u hu .normal s' a' w' bb fl
    ·rename_i e;rw[if_neg e];exact al u hu (.exit GD) s' a' w' bb fl
   | ret=>exact al u hu .ret s' a' w' bb fl
  ·exact (gC hm).elim
 | loop sh x hx=>
  have hx:=hx.1;refine⟨?_,λh=>by simp[cC.oD]at h⟩;intro C en aU cA cZ fW β c s k O Q a w hc M hm al;have lY:C.r=none\/x.ej=true:=fW;unfold eI at hm;split at hm
  ·rename_i n1;obtain⟨D,nX,U⟩:=tY hm;refine aic (I:=λD a w=>∃ u,C.jP u/\cu (C.hl u) (sh.st D) a w) (O:=O) (λD a w ⟨v,ae,eB⟩ qZ Dk=>?_) U.1 U.2 ⟨C.hF,C.vo,dK.xz nX M⟩;refine hx (C.hl v) en aU cA cZ lY n1 (sh.st D) _ (M8 (eI C.aN T be Ψ x n1 (sh.st D) (xx k λs'=>sh.mZ s' λiJ=>A.pure (V.next iJ))) O) _ a w hc eB ⟨qZ,λst fY=>?_⟩ λu hu e s' a' w' bb fl=>?_
   ·cases st with
    | next iJ=>exact fY
    | done r=>exact Dk r fY
   ·cases e with
    | normal=>
     obtain⟨iJ,MT,ah⟩:=tY fl;have a1:=A.ea.1 ah;exact⟨iJ,a1,_,ae.then hu,by rw[<-b9.z_];exact dK.xz MT bb⟩
    | exit id=>
     simp only[xx,A.f',A.ea,M8]at fl;exact al _ (ae.then hu) (.exit id) s' a' w' (by rw[<-b9.z_];omega) fl
    | ret=>
     simp only[xx,A.f',A.ea,M8]at fl;exact al _ (ae.then hu) .ret s' a' w' (by rw[<-b9.z_];omega) fl
  ·exact (gC hm).elim
 | scope x hx=>
  have hx:=hx.1;refine⟨?_,λh=>by simp[cC.oD]at h⟩;intro C en aU cA cZ fW β c s k O Q a w hc M hm al;have lY:C.r=none\/x.ej=true:=fW;unfold eI at hm;split at hm
  ·rename_i n1;refine aij (hx C en aU cA cZ lY n1 s _ O _ a w hc M hm λu hu e s' a' w' bb fl=>?_);have:=al u hu e s' a' w' bb fl;cases e<;>exact this
  ·exact (gC hm).elim
 | range sh rin rout x y hx lr=>
  have hx:=hx.1;have lr:=lr.1;refine⟨?_,λh=>by simp[cC.oD]at h⟩;intro C en aU cA cZ fW β c s k O Q a w hc M hm al;unfold eI at hm;split at hm
  ·rename_i g ps assign body;simp only[lo,Bool.and_eq_true,List.all_eq_true,decide_eq_true_eq]at hc;obtain⟨ax9,UK,UL⟩:=hc;split at hm
   ·rename_i q9 n eV aB;split at hm
    ·rename_i ic aio;split at hm
     ·rename_i ax_ bU ag;split at hm
      ·rename_i ed;simp only[Bool.and_eq_true]at ed;obtain⟨ed,lY,qk⟩:=ed;obtain⟨D,nX,U⟩:=tY hm;rw[A.kK,A.f']at U;simp only[Td]at U;have iN:C.r=none:=fW.resolve_right λh=>by cases h
       have M_:nW sh rout ic.aK ps.toList C.nt=true:=by
        simp only[nW,Bool.and_eq_true,List.all_eq_true,decide_eq_true_eq]at ed ⊢;grind
       refine ah9 iN M aB (cZ q9 _ aio) ag M_ nX U.1 U.2 (λl=>?_) al;intro C1 jr tx rj tJ ey b8 cn qi j_ ke;have h:=hx C1 (jr ▸ en) (jr ▸ aU) (jr ▸ cA) (by grind) (.inr lY) assign ey (GF λdN=>eI C.aN T be Ψ y body dN λe eJ=>rout.mZ eJ λbm=>A.pure (e,bm)) qi
        (Exit.then (λa2 c_=>∃ u dN,C1.jP u/\cu (C1.hl u) dN a2 c_/\
         ∀ (hv:b9),hv.P=C.P->hv.aN=C.aN->hv.nt=C.nt->hv.r=some l->∀ (c_:World),cu hv dN a2 c_->
          body.wpIn (dS (some l)) 0 C.P (λe a3 eY=>∃ (a6:dj) (v:nZ) (eJ:aA) (bm:rout.ai),e=a6.pq/\hv.jP v/\cu (hv.hl v) eJ a3 eY/\rout.jb eJ=some bm/\qi (a6,bm)) a2 c_) (λ_ _ _=>False)) b8 cn (rj ▸ UK) j_ (tx ▸ ke)
        λu hu e dN a2 c_ cN pt=>?_
       ·grind
       ·cases e with
        | normal=>
         refine⟨u,dN,hu,cN,λhv xR M' Na aip c_ mr=>?_⟩;have h:=lr hv (xR ▸ en) (xR ▸ aU) (xR ▸ cA) (by grind) (.inr qk) body dN (λe eJ=>rout.mZ eJ λbm=>A.pure (e,bm)) qi
          (λe a3 eY=>∃ (a6:dj) (v:nZ) (eJ:aA) (bm:rout.ai),e=a6.pq/\hv.jP v/\cu (hv.hl v) eJ a3 eY/\rout.jb eJ=some bm/\qi (a6,bm)) a2 c_ (Na ▸ UL) mr (M' ▸ pt) λv ae e eJ a3 eY oL Hq=>by
           obtain⟨bm,gf,bK⟩:=tY Hq;exact⟨e,v,eJ,bm,rfl,ae,oL,gf,A.ea.1 bK⟩
         grind
        | exit id=>exact (gC pt).elim
        | ret=>exact (gC pt).elim
      ·exact (gC hm).elim
     ·exact (gC hm).elim
    ·exact (gC hm).elim
   ·rename_i aK S aB;split at hm
    ·rename_i ed;simp only[Bool.and_eq_true]at ed;obtain⟨ed,lY,qk⟩:=ed;obtain⟨D,nX,U⟩:=tY hm;rw[A.f']at U;have iN:C.r=none:=fW.resolve_right λh=>by cases h
     have M_:nW sh rout aK ps.toList C.nt=true:=by
      simp only[nW,Bool.and_eq_true,List.all_eq_true,decide_eq_true_eq]at ed ⊢;grind
     refine ah' iN M aB M_ nX U.1 (λL iM=>by have ah:=A.f'.1 (U.2 L iM);simp only[Td]at ah;exact ah) (λl=>?_) al;intro C1 jr tx rj tJ ey b8 cn qi j_ ke;have h:=hx C1 (jr ▸ en) (jr ▸ aU) (jr ▸ cA) (by grind) (.inr lY) assign ey (GF λdN=>eI C.aN T be Ψ y body dN λe eJ=>rout.mZ eJ λbm=>A.pure (e,bm)) qi
      (Exit.then (λa2 c_=>∃ u dN,C1.jP u/\cu (C1.hl u) dN a2 c_/\
       ∀ (hv:b9),hv.P=C.P->hv.aN=C.aN->hv.nt=C.nt->hv.r=some l->∀ (c_:World),cu hv dN a2 c_->
        body.wpIn (dS (some l)) 0 C.P (λe a3 eY=>∃ (a6:dj) (v:nZ) (eJ:aA) (bm:rout.ai),e=a6.pq/\hv.jP v/\cu (hv.hl v) eJ a3 eY/\rout.jb eJ=some bm/\qi (a6,bm)) a2 c_) (λ_ _ _=>False)) b8 cn (rj ▸ UK) j_ (tx ▸ ke)
      λu hu e dN a2 c_ cN pt=>?_
     ·grind
     ·cases e with
      | normal=>
       refine⟨u,dN,hu,cN,λhv xR M' Na aip c_ mr=>?_⟩;have h:=lr hv (xR ▸ en) (xR ▸ aU) (xR ▸ cA) (by grind) (.inr qk) body dN (λe eJ=>rout.mZ eJ λbm=>A.pure (e,bm)) qi
        (λe a3 eY=>∃ (a6:dj) (v:nZ) (eJ:aA) (bm:rout.ai),e=a6.pq/\hv.jP v/\cu (hv.hl v) eJ a3 eY/\rout.jb eJ=some bm/\qi (a6,bm)) a2 c_ (Na ▸ UL) mr (M' ▸ pt) λv ae e eJ a3 eY oL Hq=>by
         obtain⟨bm,gf,bK⟩:=tY Hq;exact⟨e,v,eJ,bm,rfl,ae,oL,gf,A.ea.1 bK⟩
       grind
      | exit id=>exact (gC pt).elim
      | ret=>exact (gC pt).elim
    ·exact (gC hm).elim
   ·exact (gC hm).elim
  ·exact (gC hm).elim
 | nV x y hx lr=>
  refine aie (λ_ C en aU cA cZ fW β c s k O Q a w hc M hm al=>?_) λkey C en aU cA cZ fW β c s k O Q a w hc M hm al=>?_
  ·have lY:C.r=none\/x.ej=true:=fW.imp id λh=>by simp only[cC.ej,Bool.and_eq_true]at h;grind
   have qk:C.r=none\/y.ej=true:=fW.imp id λh=>by simp only[cC.ej,Bool.and_eq_true]at h;grind
   unfold eI at hm;simp only at hm;split at hm
   ·rename_i hu;refine aih (hx.1 C en aU cA cZ lY c s _ O _ a w hc M hm λu xC e s' a' w' bb fl=>?_);cases e with
    | normal=>exact lr.2 hu (C.hl u) en aU cA cZ qk c s' k O Q a' w' hc bb fl λv ae=>by rw[b9.z_];exact al _ (xC.then ae)
    | exit id=>exact al u xC (.exit id) s' a' w' bb fl
    | ret=>exact al u xC .ret s' a' w' bb fl
   ·exact (gC hm).elim
  ·cases c with
   | loop n1=>exact aif (key rfl C en aU cA cZ fW n1 s k O Q a w hc M hm al)
   | _=>unfold eI at hm;exact (gC hm).elim
 | GC=>
  refine⟨?_,λh=>by simp[cC.oD]at h⟩;intro C en aU cA cZ fW β c s k O Q a w hc M hm al;unfold eI at hm;split at hm
  ·rename_i id ops draw;split at hm
   ·rename_i h;rw[Bool.and_eq_true]at h;obtain⟨rfl,h⟩:=h;exact ahM en (fW.resolve_right (by simp[cC.ej])) h aU (TX cA cZ) cZ (λo af=>List.all_eq_true.1 hc o af) (λs' a' w' bb fl=>al C.hF C.vo .normal s' a' w' bb fl) M hm
   ·exact (gC hm).elim
  ·exact (gC hm).elim
 | nQ i x aJ=>
  have aJ:=aJ.1;refine⟨?_,λh=>by simp[cC.oD]at h⟩;intro C en aU cA cZ fW β c s k O Q a w hc M hm al;unfold eI at hm;split at hm
  ·rename_i s' ae;exact aJ C en aU cA cZ fW c s' k O Q a w hc (aik ae M) hm al
  ·exact (gC hm).elim
 | GB b x aJ=>
  have aJ:=aJ.1;refine⟨?_,λh=>by simp[cC.oD]at h⟩;intro C en aU cA cZ fW β c s k O Q a w hc M hm al;unfold eI at hm;split at hm
  ·rename_i s' ae;exact aJ C en aU cA cZ fW c s' k O Q a w hc (ail ae M) hm al
  ·exact (gC hm).elim
 | num i n x aJ=>
  have aJ:=aJ.1;refine⟨?_,λh=>by simp[cC.oD]at h⟩;intro C en aU cA cZ fW β c s k O Q a w hc M hm al;unfold eI at hm;split at hm
  ·rename_i v f ae;rw[A.kK]at hm;have h:=hm.2;rw[afp ae hm.1]at h;exact aJ C en aU cA cZ fW c s k O Q a w hc M h al
  ·exact (gC hm).elim
 | split i off n x aJ=>
  have aJ:=aJ.1;refine⟨?_,λh=>by simp[cC.oD]at h⟩;intro C en aU cA cZ fW β c s k O Q a w hc M hm al;unfold eI at hm;split at hm
  ·rename_i v f ae;rw[A.kK]at hm;have h:=S_ hm.2 hm.1.1 hm.1.2;rw[afo ae hm.1.1]at h;exact aJ C en aU cA cZ fW c s k O Q a w hc M h al
  ·exact (gC hm).elim
theorem UM(ann:cC):∀ (C:b9) (_:C.P.follows .mixedOrders=true) (_:dT C.P T) (_:jn C.P be) (_:lV C.P C.aN Ψ) (_:C.r=none\/ann.ej=true) {β:Type} (c:Code) (s:aA) (k:dj->aA->A β) (O:β->Prop) (Q:Exit->Act->World->Prop) (a:Act) (w:World),lo C.nt c=true->cu C s a w->A.cw (eI C.aN T be Ψ ann c s k) O->(∀ u,C.jP u->∀ e s' a' w',cu (C.hl u) s' a' w'->A.cw (k e s') O->Q e.pq a' w')->c.wpIn (dS C.r) 0 C.P Q a w:=(ain ann).1
end
end Go.Fer
namespace Go.Fer
open Go.RowKit
def DF(T:Nat->ad)(s:aA):List ResultVar->Option (List aG)
 | []=>some []
 | r::l=>match DF T s l with
  | none=>none
  | some aC=>match r with
   | .tmp t=>some (s.ay t::aC)
   | .cell a ty=>match (y9 (T ty) (s.ay a)).run s.aa with
    | some v=>some (v::aC)
    | none=>none
def Nb(t:ad)(n:Nat):Bool:=
 match t with
 | .az _ _=>n != 1
 | .cV=>n == 0
 | _=>n == 1
def vr(T:Nat->ad)(kx:List ResultVar)(aV:ad)(e:dj)(s:aA):A aV.ai:=
 match e with
 | .exit _=>A.fail
 | _=>match DF T s kx with
  | some avs=>match (iY aV avs).run s.aa with
   | some (y,_)=>A.pure y
   | none=>A.fail
  | none=>A.fail
def Ad(t:ad)(x:t.ai)(n:Nat):List (Nat×aG):=(List.range n).map λi=>(i,kr t x i)
def sx(t:ad):Nat:=if t=.cV then 0 else j4 t
def pw(t:ad)(x:t.ai):aA:=SY (Ad t x (sx t)) []
def DG(aP:dG)(T:Nat->ad)(be:Nat->Option aL)(Ψ:Nat->Option e5)(fn:Func)(c:Code)(ann:cC)(ts aV:ad)(x:ts.ai):A aV.ai:=
 eI aP T be Ψ ann c (pw ts x) (vr T fn.results.toList aV)
def Hr(av:aG):aG:=match av with | .val (.bH e) p=>.dW e (p.getD e.dh) | v=>v
def DH(av:aG):Prop:=match av with | .val (.bH _) p=>p.isSome=true | _=>True
def Hs(n:Nat)(s:aA):aA:=⟨λi=>if i<n\/eS<i then s.ay i else Hr (s.ay i),s.aa⟩
def DI(n:Nat)(s:aA):Prop:=∀ i,¬(i<n\/eS<i)->DH (s.ay i)
def aiq(aP:dG)(T:Nat->ad)(be:Nat->Option aL)(Ψ:Nat->Option e5)(fn:Func)(c:Code)(ann:cC)(n:Nat)(ts aV:ad)(x:ts.ai):A aV.ai:=
 A.ab (DI n (pw ts x)) (eI aP T be Ψ ann c (Hs n (pw ts x)) (vr T fn.results.toList aV))
def DJ(fn:Func)(c:Code)(ts aV:ad):Bool:=
 lo fn.ntmps c && Nb aV fn.results.size && decide (sx ts <= fn.ntmps) && !(fn.name == "runtime.NumGoroutine") && decide (fn.ntmps <= eS)
def Ae:z9'->List aG->Option (List aG)
 | [],[]=>some []
 | none::g,v::aC=>match Ae g aC with
  | some l=>some (v::l)
  | none=>none
 | some n::g,v::aC=>match v,Ae g aC with
  | .agg m f,some l=>if m=n then some ((List.range n).map f++l) else none
  | _,_=>none
 | _,_=>none
def Ht(T:Nat->ad)(kx:List ResultVar)(kz:z9')(bL:dK)(e:dj)(s:aA):A bL.ai:=
 match e with
 | .exit _=>A.fail
 | _=>match DF T s kx with
  | some avs=>match Ae kz avs with
   | some l=>match decide (l.length<=eS) with
    | true=>bL.mZ (sb s l) λbm=>A.pure bm
    | false=>A.fail
   | none=>A.fail
  | none=>A.fail
def Nc(aP:dG)(T:Nat->ad)(be:Nat->Option aL)(Ψ:Nat->Option e5)(fn:Func)(c:Code)(ann:cC)(cp bL:dK)(kz:z9')(D:cp.ai):A bL.ai:=
 eI aP T be Ψ ann c (cp.st D) (Ht T fn.results.toList kz bL)
def DK(fn:Func)(c:Code)(kc:Nat)(kz:z9'):Bool:=
 lo fn.ntmps c && decide (fn.results.size = kz.length) && decide (kc <= fn.ntmps) && !(fn.name == "runtime.NumGoroutine") && decide (fn.ntmps <= eS)
section
variable {C:b9} {T:Nat->ad} {be:Nat->Option aL} {Ψ:Nat->Option e5}
def Af(tmps:Array Value)(r:ResultVar):Sem Value:=
 match r with
 | .tmp t=>pure (tmps.getD t undef)
 | .cell b t=>do loadVar t (<-asAddr (tmps.getD b undef))
theorem UN(fn:Func)(tmps:Array Value):results fn tmps=(fn.results.mapM (Af tmps) >>= λaC=>pure (if h:aC.size=1 then aC[0] else .tuple aC)):=by
 rfl
theorem UO(aU:dT C.P T){s:aA}{a:Act}{w:World}{κ:Nat->bD}{F:Nat->Prop}(M:bl C s a w κ F):∀ (kx:List ResultVar) {avs:List aG},DF T s kx=some avs->
  ∃ aC:List Value,(kx.mapM (Af a.tmps)).run C.P w=.ok aC w/\aC.length=kx.length/\avs.length=kx.length/\
   ∀ i (h:i<avs.length) (dw:i<aC.length),bB C.P s.aa κ F w avs[i] aC[i]:=by
 intro kx;induction kx with
 | nil=>intro avs h;cases h;simp
 | cons r kx aJ=>
  intro avs h;simp only[DF]at h;split at h
  ·cases h
  ·rename_i l aj;obtain⟨aC,E,U,ah,a1⟩:=aJ aj;have one:∃ av v,avs=av::l/\(Af a.tmps r).run C.P w=.ok v w/\bB C.P s.aa κ F w av v:=by
    split at h
    ·rename_i t;cases h;exact⟨_,_,rfl,rfl,M.bT t⟩
    ·rename_i b ty;split at h
     ·rename_i v ae;cases h;obtain⟨u,aO,aR⟩:=RY aU M ae (M.bT b);refine⟨v,u,rfl,?_,aR⟩;unfold Instr.loadAt at aO;unfold Af;simp only;generalize a.tmps.getD b Go.undef=z at aO ⊢;cases z with
      | pointer p=>
       cases p with
       | none=>simp[Instr.sureAddr]at aO
       | some p=>simpa [Instr.sureAddr,asAddr]using aO
      | _=>simp[Instr.sureAddr]at aO
     grind
   obtain⟨av,v,rfl,aO,aR⟩:=one;refine⟨v::aC,?_,by grind,by grind,λi G dO=>?_⟩
   ·simp_all
   grind
theorem air(aU:dT C.P T){fn:Func}{aV:ad}(rk:Nb aV fn.results.size=true){e:dj}{s:aA}{a:Act}{w:World}{O:aV.ai->Prop}(M:cu C s a w)(hm:A.cw (vr T fn.results.toList aV e s) O) :
  (∀ id,e≠.exit id)/\∃ κ F v y,bl C s a w κ F/\(results fn a.tmps).run C.P w=.ok v w/\O y/\∃ F',(∀ r,F' r->C.F0 r\/¬C.K0 r)/\(∀ r,F' r->r<w.heap.size)/\tj C.P aV F' w v y:=by
 obtain⟨κ,F,M⟩:=M;unfold vr at hm;split at hm
 ·exact (gC hm).elim
 ·rename_i eP;refine⟨λid he=>eP id he,?_⟩;split at hm
  ·rename_i avs Nd;split at hm
   ·rename_i y l aS;obtain⟨aC,E,U,ah,a1⟩:=UO aU M _ Nd;obtain⟨F',f1,bb,f2⟩:=bl.lb (p8 _ aS) M;have dY:=u' (F':=F') M.bF f1 aV aS f2 (by omega) a1;have c8:(results fn a.tmps).run C.P w=.ok (if h:aC.toArray.size=1 then aC.toArray[0] else .tuple aC.toArray) w:=by
     rw[UN,Sem.run_bind];have:(fn.results.mapM (Af a.tmps)).run C.P w=.ok aC.toArray w:=by
      rw[Array.mapM_eq_mapM_toList,map_eq_pure_bind,Sem.run_bind,E];rfl
     simp_all
    refine⟨κ,F,_,y,M,c8,A.ea.1 hm,F',bb.hh,bb.dc,aC,?_,dY⟩;have cf:aC.length=fn.results.size:=by omega
    rw[<-cf]at rk;clear c8 dY E a1 U cf aS;have one:aC.length=1->aC=[if h:aC.toArray.size=1 then aC.toArray[0] else .tuple aC.toArray]:=by
     intro h;match aC,h with
     | [v],_=>rfl
    cases aV<;>simp only[Nb,beq_iff_eq,bne_iff_ne,ne_eq]at rk<;>simp only[yY];case az=>rw[dif_neg (by simpa using rk)]
    case cV=>
     have:aC=[]:=List.length_eq_zero_iff.1 rk;subst this;exact⟨rfl,rfl⟩
    all_goals exact one rk
   ·exact (gC hm).elim
  ·exact (gC hm).elim
theorem UP{l:List (Nat×aG)}{i:Nat}:fr l i=.undef\/(i,fr l i)∈l:=by
 induction l with
 | nil=>exact .inl rfl
 | cons p l aJ=>
  simp only[fr];grind
theorem ua{P : Program}{k : FuncId}{fn : Func}{c : Code}(ao : P.funcs[k]? = some fn)(W : fn.body = some c)(aw : (fn.name == "runtime.NumGoroutine") = false)(args : Array Value)(w : World) :
  (callFunc k args).run P w=.ok (.enter k args) w:=by
 have aw : ¬ fn.name = "runtime.NumGoroutine" := by grind
 simp[callFunc,ao,W,aw]
def px(w:World):List Nat->World
 | []=>w
 | B::ms=>px (w.putObj B (.deferred none)) ms
theorem UQ:∀ (ms:List Nat) (w:World),(px w ms).heap.size=w.heap.size
 | [],_=>rfl
 | _::ms,_=>(UQ ms _).trans World.putObj_size
theorem Nf:∀ (ms:List Nat) (w:World) {r:Nat},r ∉ ms->(px w ms).heap[r]?=w.heap[r]?
 | [],_,_,_=>rfl
 | B::ms,w,r,h=>by
  simp only[List.mem_cons,not_or]at h;exact (Nf ms _ h.2).trans (World.putObj_heap_other h.1)
theorem UR:∀ (ms:List Nat) (w:World),dd w (px w ms)
 | [],w=>dd.refl w
 | B::ms,w=>by
  have h:dd w (w.putObj B (.deferred none)):=⟨rfl,rfl,rfl⟩
  exact h.trans (UR ms _)
theorem Ng{P:Program}{fn:Func}{tmps:Array Value}{R:Ending->World->Prop}:∀ (ms:List Nat) (w:World),ms.Nodup->(∀ B∈ms,w.heap[B]?=some (.deferred (some [])))->
  (∃ v,(results fn tmps).run P (px w ms)=.ok v (px w ms)/\R (.returned v) (px w ms))->LeavesInM Fence.wide 0 P fn tmps R (ms.map oJ) .returning w
 | [],w,_,_,h=>h
 | B::ms,w,aw,aT,h=>by
  simp only[List.nodup_cons]at aw;refine⟨by simp,.inl ⟨B,_,rfl,run_takeDeferred (aT B (by simp)),?_⟩⟩;exact Ng ms _ aw.2 (λais dw=>(World.putObj_heap_other λe=>aw.1 (by grind)).trans (aT ais (List.mem_cons_of_mem _ dw))) h
theorem cu.US{u:nZ}{s:aA}{a:Act}{w:World}(hu:C.jP u)(ait:∀ r,C.F0 r->r<C.w0.heap.size)(vj:∀ r,C.K0 r->r<C.w0.heap.size)(h:cu (C.hl u) s a w) :
  cu { C with dfr:=u.ms.map oJ++C.dfr } s a (px w u.ms)/\a.defers=u.ms.map oJ++C.dfr/\∀ B∈u.ms,w.heap[B]?=some (.deferred (some [])):=by
 obtain⟨κ,F,h⟩:=h;have ax':∀ B∈u.ms,¬F B:=λB aT ao=>by
  obtain⟨E,_⟩:=hu.su B aT;rcases h.hh B ao with U | U
  ·have:=ait B U;have:=(hu.ez B aT).2;omega
  ·exact U E
 have cf:=UQ u.ms w;have hc:=UR u.ms w;refine⟨⟨κ,F,h.Hf (w0:=C.w0) (w':=px w u.ms) (K0:=C.K0) (r:=C.r) (λr M=>hu.gV r M) (λr M=>Nf _ _ λhm=>?_) (Nat.le_of_eq cf.symm) hc vj (λr M=>?_) ?_ ?_⟩,h.dfr,λB aT=>?_⟩
 ·rcases M with M | M
  ·grind
  ·exact M (hu.su r hm).1
 ·exact (Nf _ _ λhm=>(hu.ez r hm).1 M).trans ((h.eH r (hu.gV r M)).trans (hu.eH r M))
 ·rw[cf];exact Nat.le_trans hu.size h.size
 ·exact (hu.eu.trans h.eu).trans hc
 ·exact (h.eH B (hu.su B aT).1).trans (hu.su B aT).2
theorem UT{P:Program}{aP:dG}(en:P.follows .mixedOrders=true){k:FuncId}{fn:Func}{c:Code}{ann:cC}{ts aV:ad}{sh:ts.ai->A aV.ai}(aU:dT P T)(h':qL P aP)(cA:jn P be)(cZ:lV P aP Ψ)(ao:P.funcs[k]?=some fn)(W:fn.body=some c)
    (cL:DJ fn c ts aV=true) {s0:ts.ai->aA} {pre:ts.ai->Prop} (na:∀ x C a w,cu C (pw ts x) a w->pre x->cu C (s0 x) a w)
    (nF:∀ x,A.le (A.ab (pre x) (eI aP T be Ψ ann c (s0 x) (vr T fn.results.toList aV))) (sh x)):h3 P k ts aV sh:=by
  simp only[DJ,Bool.and_eq_true,Bool.not_eq_true',decide_eq_true_eq]at cL;obtain⟨⟨⟨⟨DL,rk⟩,aiu⟩,Nh⟩,tV⟩:=cL;refine⟨ua ao W Nh,λF w args x bn gn dY qZ=>?_⟩;obtain⟨⟨gJ,E⟩,U⟩:=nF x qZ;have hlen:args.length=sx ts/\∀ i,i<sx ts->∀ (H:Nat->bJ) (κ:Nat->bD),bB P H κ F w (kr ts x i) (args.getD i Go.undef):=by
    unfold sx;split
    · rename_i e
      subst e
      have:args=[]:=dY.1
      grind
    · rename_i e
      exact⟨(tC (H:=λ_=>⟨0,.fz⟩) (κ:=λ_=>⟨0,0,0,false⟩) ts dY e).1,λi G H κ=>(tC ts dY e).2 i G⟩
  let C:b9:={ P:=P,w0:=w,F0:=F,K0:=λr=>r<w.heap.size,nt:=fn.ntmps,r:=none,dfr:=[],ie:=λ_=>none,cd:=⟨0,.cV,λ_=>False,λ_ _ _ _ _=>False⟩,aN:=aP }
  let a0:Act:={ tmps:=args.toArray++Array.replicate (fn.ntmps - args.toArray.size) undef,defers:=[] }
  let aiv:Nat->bD:=λ_=>⟨0,0,0,false⟩
  have qf:∀ i,(pw ts x).ay i=.undef\/(i<sx ts/\(pw ts x).ay i=kr ts x i):=λi=>by
    rcases UP (l:=Ad ts x (sx ts)) (i:=i) with e | e
    · exact .inl e
    · refine .inr ?_
      generalize bk:fr (Ad ts x (sx ts)) i=z at e
      simp only[Ad,List.mem_map,List.mem_range,Prod.mk.injEq]at e
      obtain⟨j,aE,rfl,rfl⟩:=e
      exact⟨aE,bk⟩
  have M:cu C (pw ts x) a0 w:=by
    refine⟨aiv, F, { dH := ?_, dfr := rfl, bT := λi => ?_, bF := λb => trivial, own := λb W => (by cases W), inj := λb bd W _ _ => (by cases W), dc := bn, hh := λr M => .inl M, hQ := λr M => M, hs := λr M => M, eH := λr _ => rfl, size := Nat.le_refl _, eu := dd.refl w,gl:=tV,km:=λb r h=>(by cases h),jE:=λb r h=>(by cases h),j2:=λb k h=>(by cases h),kn:=λb k h=>(by cases h),eM:=λl aK L n st e=>?_,jF:=h',iB:=gn }⟩
    · grind
    · rcases qf i with e | ⟨G,e⟩
      · rw[e];simp only[bB]
      · rw[e]
        have:a0.tmps.getD i Go.undef=args.getD i Go.undef:=by
          have dO:i<args.length:=by omega
          simp[a0,Array.getD_eq_getD_getElem?,List.getD_eq_getElem?_getD,Array.getElem?_append,dO]
        grind
    · rcases qf b4 with h | ⟨h,_⟩
      · grind
      · unfold b4 eS at *;omega
  refine callsIn_wide.1 (callsIn_of_wp_marks (F:=Fence.wide) (n:=0) ao W trivial ?_);have hw:=UM ann C en aU cA cZ (.inl rfl) (k:=vr T fn.results.toList aV) (O:=(eI aP T be Ψ ann c (s0 x) (vr T fn.results.toList aV)).bL) (Q:=bodyPostM Fence.wide 0 P fn λe w'=>∃ v y,e=.returned v/\(sh x).bL y/\tj P aV (uT F w w') w' v y/\Below w.heap.size w w') c (s0 x) a0 w DL (na x C a0 w M gJ) ⟨E,λ_ h=>h⟩;refine hw λu hu e s' a' w' bb hm=>?_;obtain⟨cN,ar,aT⟩:=cu.US hu bn (λ_ h=>h) bb;obtain⟨eP,κ,zZ,v,y,eX,c8,aS,F',f1,f2,gp⟩:=air (C:={ C with dfr:=u.ms.map oJ++C.dfr }) aU rk cN hm;have tN:LeavesInM Fence.wide 0 P fn a'.tmps (λe w'=>∃ v y,e=.returned v/\(sh x).bL y/\tj P aV (uT F w w') w' v y/\Below w.heap.size w w') a'.defers .returning w':=by
    rw[ar];simp only[C,List.append_nil];refine Ng u.ms w' hu.mq aT ⟨v,c8,v,y,rfl,U y aS,?_,eX.eu.os,eX.eu.tape,eX.eu.output,eX.size,eX.eH⟩;obtain⟨aC,aO,aR,bO⟩:=gp;refine⟨aC,aO,aR,ff aV (λr M=>?_) (c7.refl _ _) bO⟩;rcases f1 r M with h | h
    · exact .inl h
    · exact .inr ⟨Nat.le_of_not_lt h,f2 r M⟩
  cases e with
  | normal=>exact tN
  | exit id=>grind
  | ret=>exact tN
theorem aiw{P:Program}{aP:dG}(en:P.follows .mixedOrders=true){k:FuncId}{fn:Func}{c:Code}{ann:cC}{ts aV:ad}{sh:ts.ai->A aV.ai}(aU:dT P T)(h':qL P aP)(cA:jn P be)(cZ:lV P aP Ψ)(ao:P.funcs[k]?=some fn)(W:fn.body=some c)
  (cL:DJ fn c ts aV=true) (nF:∀ x,A.le (DG aP T be Ψ fn c ann ts aV x) (sh x)):h3 P k ts aV sh:=
 UT en aU h' cA cZ ao W cL (ann:=ann) (s0:=pw ts) (pre:=λ_=>True) (λ_ _ _ _ h _=>h) λx aD=>⟨⟨trivial,(nF x aD).1⟩,(nF x aD).2⟩
theorem aix{C:b9}{s:aA}{a:Act}{w:World}{n:Nat}(h:cu C s a w)(hc:DI n s):cu C (Hs n s) a w:=by
 obtain⟨κ,F,M⟩:=h;refine⟨κ,F,{ M with bT:=λi=>?_,dH:=M.dH,dfr:=M.dfr,bF:=M.bF,eM:=λl aK L m st e=>?_ }⟩
 ·show bB C.P s.aa κ F w (if i<n\/eS<i then s.ay i else Hr (s.ay i)) _;split
  ·exact M.bT i
  ·rename_i G;have ae:=M.bT i;have an:=hc i G;unfold Hr;unfold DH at an;split
   ·rename_i e p he;rw[he]at ae an;have an:p.isSome=true:=an;obtain⟨_,ae⟩:=(dV rfl).1 ae;simp only[bI]at ae;rcases ae with⟨_,rfl⟩ | ⟨q,y,bh,bt,rfl,aO,aR⟩
    ·cases an
    ·exact⟨q,bh,(List.cons.inj bt).1,aO,aR⟩
   omega
 ·have e:(if b4<n\/eS<b4 then s.ay b4 else Hr (s.ay b4))=.aV l aK L m st:=e;rw[if_pos (.inr (by decide))]at e;exact M.eM l aK L m st e
theorem aiy{P:Program}{aP:dG}(en:P.follows .mixedOrders=true){k:FuncId}{fn:Func}{c:Code}{ann:cC}{n:Nat}{ts aV:ad}{sh:ts.ai->A aV.ai}(aU:dT P T)(h':qL P aP)(cA:jn P be)(cZ:lV P aP Ψ)(ao:P.funcs[k]?=some fn)(W:fn.body=some c)
  (cL:DJ fn c ts aV=true) (nF:∀ x,A.le (aiq aP T be Ψ fn c ann n ts aV x) (sh x)):h3 P k ts aV sh:=
 UT en aU h' cA cZ ao W cL (ann:=ann) (s0:=λx=>Hs n (pw ts x)) (pre:=λx=>DI n (pw ts x)) (λ_ _ _ _ h an=>aix h an) nF
theorem Ni{H:Nat->bJ}{κ:Nat->bD}{F:Nat->Prop}{w:World}{P:Program}:∀ (g:z9') {avs l:List aG} {us:List Value},Ae g avs=some l->avs.length=us.length->(∀ i (h:i<avs.length) (dw:i<us.length),bB P H κ F w avs[i] us[i])->
  ∃ aC:List Value,C5 g us aC/\l.length=aC.length/\∀ i,i<aC.length->bB P H κ F w (l.getD i .undef) (aC.getD i undef)
 | [],[],l,us,h,aj,_=>by
  cases h;have:us=[]:=List.eq_nil_of_length_eq_zero aj.symm;subst this;exact⟨[],rfl,rfl,λi G=>by cases G⟩
 | [],_::_,_,_,h,_,_=>by cases h
 | none::_,[],_,_,h,_,_=>by cases h
 | some _::_,[],_,_,h,_,_=>by cases h
 | none::g,av::avs,l,[],_,aj,_=>by cases aj
 | some n::g,av::avs,l,[],_,aj,_=>by cases aj
 | none::g,av::avs,l,u::us,h,aj,ae=>by
  simp only[Ae]at h;split at h
  ·rename_i dJ Hm;cases h;obtain⟨aC,E,U,ah⟩:=Ni g Hm (by grind) λi h dw=>ae (i+1) (Nat.succ_lt_succ h) (Nat.succ_lt_succ dw);refine⟨u::aC,⟨aC,rfl,E⟩,by grind,λi G=>?_⟩;cases i with
   | zero=>exact ae 0 (Nat.zero_lt_succ _) (Nat.zero_lt_succ _)
   | succ i=>grind
  grind
 | some n::g,av::avs,l,u::us,h,aj,ae=>by
  simp only[Ae]at h;split at h
  ·rename_i m f dJ Hm;split at h
   ·rename_i SB;cases h;subst SB;obtain⟨aC,E,U,ah⟩:=Ni g Hm (by grind) λi h dw=>ae (i+1) (Nat.succ_lt_succ h) (Nat.succ_lt_succ dw);obtain⟨cs,aO,aR,bO⟩:bB P H κ F w (.agg m f) u:=ae 0 (Nat.zero_lt_succ _) (Nat.zero_lt_succ _);refine⟨cs++aC,⟨cs.toArray,aC,aO,by omega,λc hc=>?_,by simp,E⟩,by grind,λi G=>?_⟩
    ·obtain⟨j,aE,rfl⟩:=List.mem_iff_getElem.1 (by omega:c∈cs);grind
    grind
   grind
  grind
def aiz(P:Program)(aP:dG)(T:Nat->ad)(fn:Func)(c:Code)(ic:cK):Prop:=
 ∀ (C:b9) (D:ic.cp.ai) (Q:Exit->Act->World->Prop) (a:Act) (w:World),C.P=P->C.aN=aP->C.nt=fn.ntmps->C.r=none->C.dfr=[]->lo C.nt c=true->cu C (ic.cp.st D) a w->(ic.sh D).ck->
  (∀ u,C.jP u->∀ e s' a' w',cu (C.hl u) s' a' w'->A.cw (Ht T fn.results.toList ic.kz ic.bL e s') (ic.sh D).bL->Q e.pq a' w')->c.wpIn (dS C.r) 0 C.P Q a w
theorem aiA{P:Program}{aP:dG}{k:FuncId}{fn:Func}{c:Code}{ic:cK}(aU:dT P T)(ao:P.funcs[k]?=some fn)(W:fn.body=some c)
  (cL:DK fn c ic.kc ic.kz=true) (aiB:aiz P aP T fn c ic):cS P aP k ic:=by
 simp only[DK,Bool.and_eq_true,Bool.not_eq_true',decide_eq_true_eq]at cL;obtain⟨⟨⟨⟨DL,rk⟩,aiu⟩,Nh⟩,tV⟩:=cL;refine⟨ua ao W Nh,λC a w κ F D jr Ag iN rb r' h' M qZ=>?_⟩;subst jr;subst Ag;subst h';have aya:a.tmps.size=ic.kc:=M.dH.trans r';have eW:∀ i,(a.tmps++Array.replicate (fn.ntmps - a.tmps.size) undef).getD i undef=a.tmps.getD i undef:=λi=>by
  simp only[Array.getD_eq_getD_getElem?,Array.getElem?_append];grind
 have bb:bl { C with nt:=fn.ntmps,dfr:=[],r:=none } (ic.cp.st D) { tmps:=a.tmps++Array.replicate (fn.ntmps - a.tmps.size) undef,defers:=[] } C.w0 κ F:=
  { M with dH:=(by grind),dfr:=rfl,gl:=tV,bT:=λi=>(by rw[eW];exact M.bT i),bF:=M.bF }
 refine callsIn_wide.1 (callsIn_of_wp_marks (F:=Fence.wide) (n:=0) ao W trivial ?_);refine aiB { C with nt:=fn.ntmps,dfr:=[],r:=none } D _ _ C.w0 rfl rfl rfl rfl rfl DL ⟨κ,F,bb⟩ qZ λu hu e s' a' w' bb hm=>?_;obtain⟨⟨m',ek,cN⟩,ar,aT⟩:=cu.US hu (λr h=>M.dc r (M.hQ r h)) M.hs bb;have key:(∀ id,e≠.exit id)/\LeavesInM Fence.wide 0 C.P fn a'.tmps (λe w'=>∃ v bm aC κ' F',e=.returned v/\(ic.sh D).bL bm/\GL ic.kz v aC/\bl { C with nt:=aC.length } (ic.bL.st bm) { tmps:=aC.toArray,defers:=[] } w' κ' F') a'.defers .returning w':=by
  unfold Ht at hm;split at hm
  ·exact (gC hm).elim
  ·rename_i eP;refine⟨λid he=>eP id he,?_⟩;split at hm
   ·rename_i avs Nd;split at hm
    ·rename_i l aj;split at hm
     ·rename_i cc;have cc:l.length<=eS:=of_decide_eq_true cc;obtain⟨us,aO,aR,bO,fI⟩:=UO (C:={ C with nt:=fn.ntmps,dfr:=u.ms.map oJ++[],r:=none }) aU cN _ Nd;obtain⟨aC,g1,ee,g3⟩:=Ni ic.kz aj (by omega) fI;obtain⟨bm,gf,bK⟩:=tY hm;have a8:=cN.args (avs:=l) (us:=aC) (by omega) ee g3;obtain⟨Hj,Uy,_,mr⟩:=dK.zS gf a8;rw[ar];simp only[List.append_nil];have c8:(results fn a'.tmps).run C.P (px w' u.ms)=.ok (if us.length=1 then us.getD 0 undef else .tuple us.toArray) (px w' u.ms):=by
       rw[UN,Sem.run_bind];have:(fn.results.mapM (Af a'.tmps)).run C.P (px w' u.ms)=.ok us.toArray (px w' u.ms):=by
        rw[Array.mapM_eq_mapM_toList,map_eq_pure_bind,Sem.run_bind,aO];rfl
       rw[this];simp only[Result.andThen_ok,Sem.run_pure,List.size_toArray];grind
      refine Ng u.ms w' hu.mq aT ⟨_,c8,_,bm,aC,Hj,Uy,rfl,A.ea.1 bK,⟨us,?_,rfl,g1⟩,?_⟩
      ·rw[aR];simpa using rk
      ·have e:({ C with nt:=aC.length }:b9)={ C with nt:=aC.length,dfr:=[],r:=none }:=by
        cases C;simp only at iN rb;subst iN;subst rb;rfl
       rw[e];exact mr
     ·exact (gC hm).elim
    ·exact (gC hm).elim
   ·exact (gC hm).elim
 cases e with
 | normal=>exact key.2
 | exit id=>grind
 | ret=>exact key.2
theorem UU{P:Program}{aP:dG}(en:P.follows .mixedOrders=true){k:FuncId}{fn:Func}{c:Code}{ann:cC}{ic:cK}(aU:dT P T)(cA:jn P be)(cZ:lV P aP Ψ)(ao:P.funcs[k]?=some fn)(W:fn.body=some c)
  (cL:DK fn c ic.kc ic.kz=true) (nF:∀ D,A.le (Nc aP T be Ψ fn c ann ic.cp ic.bL ic.kz D) (ic.sh D)):cS P aP k ic:=
 aiA aU ao W cL λC D Q a w jr h' _ iN _ DL M qZ al=>by
  subst jr;subst h';obtain⟨E,U⟩:=nF D qZ;exact UM ann C en aU cA cZ (.inl iN) c (ic.cp.st D) (Ht T fn.results.toList ic.kz ic.bL) (Nc C.aN T be Ψ fn c ann ic.cp ic.bL ic.kz D).bL Q a w DL M ⟨E,λ_ h=>h⟩ λu hu e s' a' w' bb hm=>al u hu e s' a' w' bb ⟨hm.1,λy aS=>U y (hm.2 y aS)⟩
end
def rl:List (Nat×ad)->Nat->ad
 | [],_=>.cV
 | p::l,i=>if i=p.1 then p.2 else rl l i
def UW(P:Program)(l:List (Nat×ad)):Bool:=l.all λp=>cF P p.2 (.inl p.1)
theorem aiC{P:Program}{l:List (Nat×ad)}(h:UW P l=true):dT P (rl l):=by
 intro id;induction l with
 | nil=>exact .inl rfl
 | cons p l aJ=>
  simp only[UW,List.all_cons,Bool.and_eq_true]at h;simp only[rl];split
  ·rename_i e;subst e;exact .inr h.1
  ·exact aJ h.2
end Go.Fer
namespace Go.Fer
open Go.RowKit
theorem UX{P:Program}{aP:dG}{k:FuncId}{c:cK}(h:cS P aP k c)(h':qL P aP){ic:zJ}(mk:ic.ts.ai->Nat->(List ic.aK.ai->Prop)->c.cp.ai)(aw:c.kc=j4 ic.ts+1)(hX:c.kc<=eS)(tU:ic.ts≠.cV)
    (fm:∀ x l L i,(c.cp.st (mk x l L)).ay i=.undef\/(i<j4 ic.ts/\(c.cp.st (mk x l L)).ay i=kr ic.ts x i)\/(i=j4 ic.ts/\(c.cp.st (mk x l L)).ay i=.hg l)\/(i=b4/\(c.cp.st (mk x l L)).ay i=.aV l ic.aK L [] false))
    (iF:c.cp.bF=[]) (pv:∀ bm,∃ n st l L,(c.bL.st bm).ay b4=.aV l ic.aK L n st)
    (r3:∀ x l,ic.pre x->(c.sh (mk x l (λT=>T=ic.seq x))).ck/\∀ bm,(c.sh (mk x l (λT=>T=ic.seq x))).bL bm->∀ dJ e6 n,(c.bL.st bm).ay b4=.aV dJ ic.aK e6 n false->n=ic.seq x):Db P k ic:=by
  refine⟨h.enter,λl I F Y w args x dY gJ cL bn gn iG eB=>?_⟩;obtain⟨iC,Hh⟩:=tC (H:=λ_=>⟨0,.fz⟩) (κ:=λ_=>⟨0,0,0,false⟩) ic.ts dY tU;have ub:∀ b,(c.cp.st (mk x l (λT=>T=ic.seq x))).aa b=⟨0,.fz⟩:=λb=>by
    show eR (hk da c.cp.bF (eD da c.cp.bT (mk x l (λT=>T=ic.seq x))).2) b=_;generalize (eD da c.cp.bT (mk x l (λT=>T=ic.seq x))).2=z;revert z;rw[iF];intro z;rfl
  have cf:(args++[Value.func (.yield l) #[] #[]]).length=c.kc:=by grind
  have M:bl { P:=P,w0:=w,F0:=F,K0:=λr=>r<w.heap.size/\¬Y r,nt:=c.kc,r:=none,dfr:=[],ie:=λ_=>none,cd:=⟨l,ic.aK,λT=>T=ic.seq x,I⟩,aN:=aP } (c.cp.st (mk x l (λT=>T=ic.seq x)))
      { tmps:=(args++[Value.func (.yield l) #[] #[]]).toArray,defers:=[] } w (λ_=>⟨0,0,0,false⟩) F:=
    { dH := by omega
      dfr:=rfl
      bT:=λi=>by
        rcases fm x l (λT=>T=ic.seq x) i with e | ⟨G,e⟩ | ⟨G,e⟩ | ⟨G,e⟩
        · rw[e];trivial
        · rw[e]
          have:=(tC (H:=(c.cp.st (mk x l (λT=>T=ic.seq x))).aa) (κ:=λ_=>⟨0,0,0,false⟩) ic.ts dY tU).2 i G
          have aM:(args++[Value.func (.yield l) #[] #[]]).toArray.getD i undef=args.getD i undef:=by
            rw[Array.getD_eq_getD_getElem?,List.getD_eq_getElem?_getD,List.getElem?_toArray,List.getElem?_append_left (by omega)]
          grind
        · rw[e]
          show (args++[Value.func (.yield l) #[] #[]]).toArray.getD i undef=_
          simp_all
        · rw[e];trivial
      bF:=λb=>by unfold cE;rw[ub b];trivial
      own:=λb W=>by rw[ub b]at W;cases W
      inj:=λb bd W _ _=>by rw[ub b]at W;cases W
      dc:=bn
      hh:=λr M=>.inl M
      hQ:=λr M=>M
      hs:=λr M=>M.1
      eH:=λ_ _=>rfl
      size:=Nat.le_refl _
      eu:=dd.refl _
      gl:=hX
      km:=λb r h=>by cases h
      jE:=λb r h=>by cases h
      j2:=λb k h=>by cases h
      kn:=λb k h=>by cases h
      eM:=λdJ ky e6 n st e=>by
        rcases fm x l (λT=>T=ic.seq x) b4 with a6 | ⟨G,_⟩ | ⟨G,_⟩ | ⟨_,a6⟩
        · grind
        · unfold b4 eS at *;omega
        · grind
        · rw[a6]at e
          cases e
          exact⟨⟨I,rfl⟩,cL,Y,λr M=>⟨(iG r M).1,(iG r M).2,λk=>k.2 M⟩,λb W=>(by rw[ub b]at W;cases W),lJ.y0.2 eB⟩
      jF:=h',iB:=gn }
  obtain⟨aD,tN⟩:=r3 x l gJ;refine (h.iV _ _ w _ F _ rfl rfl rfl rfl rfl rfl M aD).mono λe w' ⟨v,bm,aC,κ',F',he,gf,_,bb⟩=>?_;obtain⟨n,st,dJ,e6,qf⟩:=pv bm;obtain⟨⟨aiD,Nj⟩,_,gy,ah,a1,Nk⟩:=bb.eM dJ ic.aK e6 n st qf;refine⟨v,n,st,F',gy,he,λfY=>?_,lJ.y0.1 Nk,bb.hQ,λr cN=>?_,bb.dc,λr E U=>bb.eH r ⟨E,U⟩,λr cN=>⟨?_,(ah r cN).1,(ah r cN).2.1⟩,bb.size,bb.eu⟩
  · grind
  · rcases bb.hh r cN with h | h
    · exact .inl h
    · by_cases aS:Y r
      · exact .inr (.inl aS)
      · exact .inr (.inr (Nat.le_of_not_lt λcc=>h ⟨cc,aS⟩))
  grind
theorem Nl{P:Program}{aP:dG}{k:FuncId}{c:cK}(h:cS P aP k c)(h':qL P aP){cs:List ad}{aK:ad}{S:(gi (cs.map .bH)).ai->List aK.ai->Prop}(mk:(gi (cs.map .bH)).ai->Nat->(List aK.ai->Prop)->c.cp.ai)
    (aw:c.kc=j4 (gi (cs.map .bH))+1) (hX:c.kc<=eS) (tU:gi (cs.map .bH)≠.cV)
    (fm:∀ x l L i,(∃ T,S x T)->(c.cp.st (mk x l L)).ay i=.undef\/(i<j4 (gi (cs.map .bH))+1/\0<i/\∃ e y,(c.cp.st (mk x l L)).ay i=.dW e y/\kr (gi (cs.map .bH)) x (i - 1)=.val (.bH e) (some y))\/(i=0/\(c.cp.st (mk x l L)).ay i=.hg l)\/(i=b4/\(c.cp.st (mk x l L)).ay i=.aV l aK L [] false))
    (iF:c.cp.bF=[]) (pv:∀ bm,∃ n st l L,(c.bL.st bm).ay b4=.aV l aK L n st)
    (r3:∀ x l,(∃ L,S x L)->(c.sh (mk x l (S x))).ck/\∀ bm,(c.sh (mk x l (S x))).bL bm->∀ dJ e6 p,(c.bL.st bm).ay b4=.aV dJ aK e6 p false->S x p):wT P k ⟨cs,aK,S⟩:=by
  refine⟨h.enter,λF w args x bn gn dY eP l UY Y iG aiE aiF=>?_⟩;have cL:=UH aiE;obtain⟨iC,Hh⟩:=tC (H:=λ_=>⟨0,.fz⟩) (κ:=λ_=>⟨0,0,0,false⟩) (gi (cs.map .bH)) dY tU;have ub:∀ b,(c.cp.st (mk x l (S x))).aa b=⟨0,.fz⟩:=λb=>by
    show eR (hk da c.cp.bF (eD da c.cp.bT (mk x l (S x))).2) b=_;generalize (eD da c.cp.bT (mk x l (S x))).2=z;revert z;rw[iF];intro z;rfl
  have cf:(Value.func (.yield l) #[] #[]::args).length=c.kc:=by grind
  have M:bl { P:=P,w0:=w,F0:=F,K0:=λr=>r<w.heap.size/\¬Y r,nt:=c.kc,r:=none,dfr:=[],ie:=λ_=>none,cd:=⟨l,aK,S x,UY⟩,aN:=aP } (c.cp.st (mk x l (S x)))
      { tmps:=(Value.func (.yield l) #[] #[]::args).toArray,defers:=[] } w (λ_=>⟨0,0,0,false⟩) F:=
    { dH := by omega
      dfr:=rfl
      bT:=λi=>by
        rcases fm x l (S x) i eP with e | ⟨G,oA,lG,y,e,aiG⟩ | ⟨G,e⟩ | ⟨G,e⟩
        · rw[e];trivial
        · rw[e]
          have:=(tC (H:=(c.cp.st (mk x l (S x))).aa) (κ:=λ_=>⟨0,0,0,false⟩) (gi (cs.map .bH)) dY tU).2 (i - 1) (by omega)
          have aM:(Value.func (.yield l) #[] #[]::args).toArray.getD i undef=args.getD (i - 1) undef:=by
            obtain⟨j,rfl⟩:∃ j,i=j+1:=⟨i - 1,by omega⟩
            simp
          rw[aM]
          rw[aiG]at this
          obtain⟨_,ae⟩:=(dV rfl).1 this
          simp only[bI]at ae
          rcases ae with⟨_,aw⟩ | ⟨q,mS,bh,bt,Cu,aO,aR⟩
          · cases aw
          · cases Cu
            exact⟨q,bh,(List.cons.inj bt).1,aO,aR⟩
        · rw[e]
          subst G
          rfl
        · rw[e];trivial
      bF:=λb=>by unfold cE;rw[ub b];trivial
      own:=λb W=>by rw[ub b]at W;cases W
      inj:=λb bd W _ _=>by rw[ub b]at W;cases W
      dc:=bn
      hh:=λr M=>.inl M
      hQ:=λr M=>M
      hs:=λr M=>M.1
      eH:=λ_ _=>rfl
      size:=Nat.le_refl _
      eu:=dd.refl _
      gl:=hX
      km:=λb r h=>by cases h
      jE:=λb r h=>by cases h
      j2:=λb k h=>by cases h
      kn:=λb k h=>by cases h
      eM:=λdJ ky e6 n st e=>by
        rcases fm x l (S x) b4 eP with a6 | ⟨G,_⟩ | ⟨G,_⟩ | ⟨_,a6⟩
        · grind
        · grind
        · grind
        · rw[a6]at e
          cases e
          exact⟨⟨UY,rfl⟩,cL,Y,λr M=>⟨(iG r M).1,(iG r M).2,λk=>k.2 M⟩,λb W=>(by rw[ub b]at W;cases W),lJ.y0.2 aiF⟩
      jF:=h',iB:=gn }
  obtain⟨aD,tN⟩:=r3 x l eP;have fa:#[Value.func (.yield l) #[] #[]]++args.toArray=(Value.func (.yield l) #[] #[]::args).toArray:=by simp
  rw[fa];refine (h.iV _ _ w _ F _ rfl rfl rfl rfl rfl rfl M aD).mono λe w' ⟨v,bm,aC,κ',F',he,gf,_,bb⟩=>?_;obtain⟨n,st,dJ,e6,qf⟩:=pv bm;obtain⟨⟨aiD,Nj⟩,_,gy,ah,a1,Nk⟩:=bb.eM dJ aK e6 n st qf;refine⟨v,n,st,F',gy,he,λfY=>?_,lJ.y0.1 Nk,bb.hQ,λr cN=>?_,bb.dc,λr E U=>bb.eH r ⟨E,U⟩,λr cN=>⟨?_,(ah r cN).1,(ah r cN).2.1⟩,bb.size,⟨bb.eu.os,bb.eu.tape,bb.eu.output⟩⟩
  · grind
  · rcases bb.hh r cN with h | h
    · exact .inl h
    · by_cases aS:Y r
      · exact .inr (.inl aS)
      · exact .inr (.inr (Nat.le_of_not_lt λcc=>h ⟨cc,aS⟩))
  grind
end Go.Fer
namespace Go.Fer
open Go.RowKit Go.ChangeShapes Go.WideShapes
def ad.hK:ad->Bool
 | .bool | .int _ | .str | .cV=>true
 | .st t=>t.hK
 | .az a b=>a.hK&&b.hK
 | .slice e=>e.hK
 | _=>false
def ad.hB:(t:ad)->t.ai->Prop
 | .int k,x=>fS k x
 | .str,x=>x.length<2 ^ 63
 | .st t,x=>t.hB x
 | .az a b,x=>a.hB x.1/\b.hB x.2
 | .slice e,xs=>xs.length<2 ^ 63/\∀ y∈xs,e.hB y
 | .array n e,xs=>xs.length=n/\∀ y∈xs,e.hB y
 | _,_=>True
theorem Ah{P:Program}{w:World}{F:Nat->Prop}:∀ (t:ad) {cs:List Value} {x:t.ai},bI P t F w cs x->t.hB x
 | .bool,_,_,_=>trivial
 | .int _,_,_,h=>h.2
 | .str,_,_,h=>h.2
 | .cV,_,_,_=>trivial
 | .st t,_,_,h=>by simp only[bI]at h;exact Ah t h
 | .az a b,_,_,h=>by
  simp only[bI]at h;obtain⟨c,d,_,E,U⟩:=h;exact⟨Ah a E,Ah b U⟩
 | .slice e,_,xs,h=>by
  simp only[bI]at h;obtain⟨a,cap,_,E,U,ah,a1⟩:=h;refine⟨by omega,λy aS=>?_⟩;obtain⟨i,G,rfl⟩:=List.mem_iff_getElem.1 aS;cases a with
  | none=>have:=ah rfl;omega
  | some p=>
   obtain⟨bh,_,k⟩:=(a1 p rfl (by omega)).2.2 i G;exact Ah e k
 | .array n e,_,xs,h=>by
  simp only[bI]at h;obtain⟨fo,_,E,U,ah⟩:=h;refine⟨U,λy aS=>?_⟩;obtain⟨i,G,rfl⟩:=List.mem_iff_getElem.1 aS;exact Ah e (ah i G (by omega))
 | .bH _,_,_,_=>trivial
 | .map _ _,_,_,_=>trivial
 | .fn _ _,_,_,_=>trivial
 | .ct _,_,_,_=>trivial
 | .ep,_,_,_=>trivial
section
variable {H:Type} {enc:TypeId×Value->H} {P:Program} {w:World}
theorem b6.cells{t:ad}{id:TypeId}(h:b6 P t id):P.cellsOf id=t.size:=by
 obtain⟨i,z,E,U,_⟩:=kq h.kp;simp[Program.cellsOf,E,U]
theorem UZ{a:Addr}{n:Nat}{bh:List Value}(h:w.cells? 0 a n=some bh)(aw:0<n):a.spot=none/\a.block<w.heap.size/\bh.length=n/\∀ j (aE:j<bh.length),w.cell? ⟨a.block,a.off+j,none⟩=some bh[j]:=by
 have W:=World.cells?_block h aw;have n2:a.spot=none:=by
  unfold World.cells? at h;split at h
  ·obtain⟨m,rfl⟩:∃ m,n=m+1:=⟨n - 1,by omega⟩
   rw[List.range_succ_eq_map]at h;simp only[List.mapM_cons,Option.bind_eq_bind,Option.bind_eq_some_iff]at h;obtain⟨v,ae,_⟩:=h;cases aD:a.spot with
   | none=>rfl
   | some x=>simp[World.cell?,Addr.add,aD]at ae;split at ae<;>cases ae
  ·cases h
 unfold World.cells? at h;split at h
 ·have hlen:bh.length=n:=by
   have:∀ (l:List Nat) (r:List Value),l.mapM (λi=>w.cell? (a.add i))=some r->r.length=l.length:=by
    intro l;induction l with
    | nil=>intro r M;simp at M;subst M;rfl
    | cons x l aJ=>
     intro r M;simp only[List.mapM_cons,Option.bind_eq_bind,Option.bind_eq_some_iff,Option.pure_def,Option.some.injEq]at M;obtain⟨v,_,pX,bb,rfl⟩:=M;simp[aJ pX bb]
   simpa using this _ _ h
  refine⟨n2,W,hlen,λj aE=>?_⟩;have:∀ (l:List Nat) (r:List Value),l.mapM (λi=>w.cell? (a.add i))=some r->∀ j (E:j<l.length) (U:j<r.length),w.cell? (a.add l[j])=some r[j]:=by
   intro l;induction l with
   | nil=>intro r _ j E;simp at E
   | cons x l aJ=>
    intro r M j E U;simp only[List.mapM_cons,Option.bind_eq_bind,Option.bind_eq_some_iff,Option.pure_def,Option.some.injEq]at M;obtain⟨v,ae,pX,bb,rfl⟩:=M;cases j with
    | zero=>exact ae
    | succ j=>exact aJ pX bb j (by simpa using E) (by simpa using U)
  have E:=this _ _ h j (by simp;omega) aE;rw[<-E];have zb:a.add ((List.range n)[j]'(by simp;omega))=⟨a.block,a.off+j,none⟩:=by
   cases a;simp only at n2;subst n2;simp[Addr.add]
  rw[zb]
 ·cases h
def ql(w:World):Nat->Prop:=λr=>r<w.heap.size
def ad.oM(n:Nat):(t:ad)->t.ai->Prop
 | .st t,x=>t.oM n x
 | .az a b,x=>a.oM n x.1/\b.oM n x.2
 | .slice e,xs=>xs.length<=n/\∀ y∈xs,e.oM n y
 | _,_=>True
structure BQ(b:DataW H->Nat):Prop where
 len:∀ e s,e.length<=b (.slice e s)
 BR:∀ e s d,d∈e->b d<=b (.slice e s)
 Rp:∀ l d,d∈l->b d<=b (.agg l)
variable {b:DataW H->Nat} {N:Nat}
theorem aiH(W:BQ b)(t:ad):(t.hK=true->∀ {id:TypeId} {cj:Nat} {cs:List Value} {x:DataW H×List MemPlace},b6 P t id->DataW.trod enc P w 0 (λ_=>true) true cj id cs=some x->b x.1<=N->∃ y,bI P t (ql w) w cs y/\t.oM N y)/\
  (t.hK=true->∀ {l:List Field} {off n:Nat} {cs:List Value},cF P t (.inr (l,off))=true->(∀ f∈l,∃ x,DataW.trod enc P w 0 (λ_=>true) true n f.type ((cs.drop f.offset).take (P.cellsOf f.type))=some x/\b x.1<=N)->∃ y,bI P t (ql w) w ((cs.drop off).take t.size) y/\t.oM N y):=by
 induction t with
 | bool=>
  refine⟨λ_ {id cj cs x} aH h _=>?_,λ_ {l off n cs} h=>by simp[cF]at h⟩;have hu:P.underlying id=some .bool:=by
   unfold b6 at aH;simp only[cF,Bool.and_eq_true]at aH;obtain⟨_,aH⟩:=aH;split at aH
   ·assumption
   ·cases aH
  obtain⟨b,rfl,_⟩:=DataW.trod_bool hu h;exact⟨_,rfl,trivial⟩
 | int k=>
  refine⟨λ_ {id cj cs x} aH h _=>?_,λ_ {l off n cs} h=>by simp[cF]at h⟩;obtain⟨n,rfl,_,hw⟩:=DataW.trod_int aH.int h;simp only[Lit.wf,Bool.and_eq_true,decide_eq_true_eq]at hw;exact⟨n,⟨rfl,hw⟩,trivial⟩
 | str=>
  refine⟨λ_ {id cj cs x} aH h _=>?_,λ_ {l off n cs} h=>by simp[cF]at h⟩;obtain⟨s,rfl,_,hw⟩:=DataW.trod_string aH.str h;refine⟨s.data.toList,⟨by simp,?_⟩,trivial⟩;have:s.data.toList.length=s.size:=by rw[Array.length_toList];rfl
  rw[this];have:maxLen<2 ^ 63:=by decide
  omega
 | cV=>exact⟨λ_ {id cj cs x} aH h _=>by simp[b6,cF]at aH,λ_ {l off n cs} h=>by simp[cF]at h⟩
 | st t aJ=>
  refine⟨λaj {id cj cs x} aH h nb=>?_,λ_ {l off n cs} h=>by simp[cF]at h⟩;have aj:t.hK=true:=aj;have Hu:P.cellsOf id=t.size:=aH.cells;obtain⟨eV,hu⟩:=aH.st;obtain⟨xs,n,_,rfl,hlen,SI,ao⟩:=DataW.trod_struct hu h;unfold b6 at aH;simp only[cF,Bool.and_eq_true]at aH;obtain⟨_,aH⟩:=aH;rw[hu]at aH;have jj:∀ f∈eV.toList,∃ x,DataW.trod enc P w 0 (λ_=>true) true n f.type ((cs.drop f.offset).take (P.cellsOf f.type))=some x/\b x.1<=N:=by
   intro f aiI;obtain⟨i,G,rfl⟩:=List.mem_iff_getElem.1 aiI;have dO:i<eV.size:=by simpa using G
   refine⟨xs[i]'(by omega),?_,Nat.le_trans (W.Rp _ _ (List.mem_map_of_mem (List.getElem_mem _))) nb⟩;rw[ao i _ (by simp[dO])];exact List.getElem?_eq_getElem _
  simp only at aH;split at aH
  ·have aH:=of_decide_eq_true aH;subst aH;have:cs=[]:=by
    have:=hlen.trans Hu;simpa [ad.size]using this
   subst this;exact⟨(),rfl,trivial⟩
  ·rename_i f fW;simp only[Bool.and_eq_true,beq_iff_eq,bne_iff_ne]at aH;obtain⟨⟨⟨aX,E⟩,_⟩,_⟩:=aH;obtain⟨x,ag,aiJ⟩:=jj f (by rw[fW];simp);have hc:P.cellsOf f.type=t.size:=b6.cells E;rw[aX,hc,List.drop_zero,List.take_of_length_le (by omega)]at ag;exact aJ.1 aj E ag aiJ
  ·obtain⟨y,aS⟩:=aJ.2 aj aH jj;rw[List.drop_zero,List.take_of_length_le (by omega)]at aS;exact⟨y,aS⟩
 | az a b fy eL=>
  refine⟨λ_ {id cj cs x} aH h _=>by simp[b6,cF]at aH,λaj {l off n cs} aH h=>?_⟩;simp only[ad.hK,Bool.and_eq_true]at aj;have join:∀ {y:a.ai} {z:b.ai},bI P a (ql w) w ((cs.drop off).take a.size) y/\a.oM N y->bI P b (ql w) w ((cs.drop (off+a.size)).take b.size) z/\b.oM N z->∃ y,bI P (.az a b) (ql w) w ((cs.drop off).take (ad.az a b).size) y/\(ad.az a b).oM N y:=by
   intro y z aS bk;refine⟨(y,z),⟨_,_,?_,aS.1,bk.1⟩,aS.2,bk.2⟩;simp only[ad.size];rw[List.take_add,List.drop_drop]
  match l,aH with
  | f::g::[],aH=>
   simp only[cF,Bool.and_eq_true,beq_iff_eq,bne_iff_ne]at aH;obtain⟨⟨⟨⟨aX,E⟩,_⟩,_⟩,⟨⟨⟨gV,aO⟩,_⟩,_⟩⟩:=aH;obtain⟨x,ag,aw⟩:=h f (by simp);obtain⟨dM,nM,CF⟩:=h g (by simp);rw[aX,b6.cells E]at ag;rw[gV,b6.cells aO]at nM;obtain⟨y,aS⟩:=fy.1 aj.1 E ag aw;obtain⟨z,bk⟩:=eL.1 aj.2 aO nM CF;exact join aS bk
  | f::g::e::eV,aH=>
   simp only[cF,Bool.and_eq_true,beq_iff_eq,bne_iff_ne]at aH;obtain⟨⟨⟨⟨aX,E⟩,_⟩,_⟩,aO⟩:=aH;obtain⟨x,ag,aw⟩:=h f (by simp);rw[aX,b6.cells E]at ag;obtain⟨y,aS⟩:=fy.1 aj.1 E ag aw;obtain⟨z,bk⟩:=eL.2 aj.2 aO λiE rf=>h iE (List.mem_cons_of_mem _ rf);exact join aS bk
 | slice e aJ=>
  refine⟨λaj {id cj cs x} aH h nb=>?_,λ_ {l off n cs} h=>by simp[cF]at h⟩;have aj:e.hK=true:=aj;obtain⟨i,hu,he,cf⟩:=aH.sl;have Hu:=he.cells;rcases DataW.trod_slice hu h with⟨rfl,_⟩ | ⟨a,len,cap,elems,cm,n,rfl,rfl,ag,_,U0,xa,j',eW,U1,_⟩
  ·exact⟨[],⟨none,0,rfl,Nat.le_refl _,by decide,λ_=>rfl,λp an=>by cases an⟩,Nat.zero_le _,λy aS=>by cases aS⟩
  ·rw[ag]at nb;have lf:0<P.cellsOf i:=by rw[Hu];omega
   have key:∀ j,j<len->∃ bh y,w.cells? 0 (a.add (j*P.cellsOf i)) (P.cellsOf i)=some bh/\bI P e (ql w) w bh y/\e.oM N y:=by
    intro j aE;have:=eW j aE;rw[List.getElem?_eq_getElem (by omega)]at this;obtain⟨bh,E,U⟩:=Option.bind_eq_some_iff.1 this;obtain⟨y,aS⟩:=aJ.1 aj he U (Nat.le_trans (W.BR _ _ _ (List.mem_map_of_mem (List.getElem_mem _))) nb);exact⟨bh,y,E,aS⟩
   have aiK:0<cap->a.spot=none/\a.block<w.heap.size:=by
    intro hc;have:∃ bh,w.cells? 0 (a.add (0*P.cellsOf i)) (P.cellsOf i)=some bh:=by
     by_cases KK:0<len
     ·obtain⟨bh,_,E,_⟩:=key 0 KK;exact⟨bh,E⟩
     ·obtain⟨m1,m2⟩:=U1 rfl;have bk:len=0:=by omega
      subst bk;have:=m2 0 (by omega);rw[List.getElem?_eq_getElem (by omega)]at this;obtain⟨bh,E,_⟩:=Option.bind_eq_some_iff.1 this;exact⟨bh,E⟩
    obtain⟨bh,E⟩:=this;have ax:a.add (0*P.cellsOf i)=a:=by unfold Addr.add;simp
    rw[ax]at E;obtain⟨aO,aR,_⟩:=UZ E lf;exact⟨aO,aR⟩
   have:∃ ys:List e.ai,ys.length=len/\∀ j (aE:j<ys.length),∃ bh,w.cells? 0 (a.add (j*P.cellsOf i)) (P.cellsOf i)=some bh/\bI P e (ql w) w bh ys[j]/\e.oM N ys[j]:=by
    clear eW j' h U0 U1 nb;induction len with
    | zero=>exact⟨[],rfl,λj aE=>by simp at aE⟩
    | succ m aiL=>
     obtain⟨ys,j7,cW⟩:=aiL λj aE=>key j (by omega);obtain⟨bh,y,E,U⟩:=key m (by omega);refine⟨ys++[y],by simp[j7],λj aE=>?_⟩;by_cases xd:j<ys.length
     ·rw[List.getElem_append_left xd];exact cW j xd
     ·have:j=m:=by simp at aE;omega
      subst this;refine⟨bh,E,?_⟩;rw[List.getElem_append_right (by omega)];simpa [j7]using U
   have aiM:len<=N:=by have:=W.len (elems.map (·.1)) (cm.map (·.1));rw[List.length_map,j']at this;exact Nat.le_trans this nb
   obtain⟨ys,rfl,j7⟩:=this;have zo:maxLen<2 ^ 63:=by decide
   refine⟨ys,⟨some a,cap,rfl,U0,by omega,(by simp),λp an uW=>?_⟩,aiM,λy aS=>by
    obtain⟨j,aE,rfl⟩:=List.mem_iff_getElem.1 aS;obtain⟨bh,_,E,U⟩:=j7 j aE;exact U⟩
   cases an;obtain⟨aO,aR⟩:=aiK uW;refine⟨aR,aO,λj aE=>?_⟩;obtain⟨bh,d1,d2,_⟩:=j7 j aE;obtain⟨m1,m2,m3,m4⟩:=UZ d1 lf;refine⟨bh,⟨aR,rfl,λq bt=>?_⟩,d2⟩;have:=m4 q bt;have ax:a.add (j*P.cellsOf i)=⟨a.block,a.off+j*e.size,none⟩:=by
    rw[Hu];cases a;simp only at aO;subst aO;unfold Addr.add;split
    ·rename_i aX;simp[aX]
    ·rfl
   rw[ax]at this;exact this
 | array n e aJ=>exact⟨λh=>by simp[ad.hK]at h,λh=>by simp[ad.hK]at h⟩
 | bH e aJ=>exact⟨λh=>by simp[ad.hK]at h,λh=>by simp[ad.hK]at h⟩
 | map k v wQ wR=>exact⟨λh=>by simp[ad.hK]at h,λh=>by simp[ad.hK]at h⟩
 | fn a b fy eL=>exact⟨λh=>by simp[ad.hK]at h,λh=>by simp[ad.hK]at h⟩
 | ct a aJ=>exact⟨λh=>by simp[ad.hK]at h,λh=>by simp[ad.hK]at h⟩
 | ep=>exact⟨λh=>by simp[ad.hK]at h,λh=>by simp[ad.hK]at h⟩
theorem U2(W:BQ b){t:ad}(aj:t.hK=true){id:TypeId}(aH:b6 P t id){base:Nat}{v:Value}{d:DataW H}{ps:List MemPlace}(cL:Value.okWide P w .any base id v)
  (h:DataW.Trod enc P w 0 (λ_=>true) true id v d ps) (nb:b d<=N):∃ y,er P t (ql w) w v y/\t.oM N y:=by
 obtain⟨n,aw⟩:=h;obtain⟨y,aS,ao⟩:=(aiH W t).1 aj aH aw nb;refine⟨y,⟨?_,aS⟩,ao⟩;cases t with
 | bool=>
  simp only[bI]at aS;have hu:P.underlying id=some .bool:=by
   unfold b6 at aH;simp only[cF,Bool.and_eq_true]at aH;obtain⟨_,aH⟩:=aH;split at aH
   ·assumption
   ·cases aH
  simp only[Value.okWide,hu,Cell.okWide,Cell.ok]at cL;cases v<;>first | rfl | exact cL.elim
 | int k=>
  simp only[Value.okWide,aH.int,Cell.okWide,Cell.ok]at cL;cases v<;>first | rfl | exact cL.elim
 | str=>
  simp only[Value.okWide,aH.str,Cell.okWide,Cell.ok]at cL;cases v<;>first | rfl | exact cL.elim
 | cV=>simp[b6,cF]at aH
 | st t=>
  obtain⟨eV,hu⟩:=aH.st;simp only[Value.okWide,hu]at cL;obtain⟨cs,rfl,hc,_⟩:=cL;exact⟨cs,rfl,hc.trans aH.cells⟩
 | az a b=>simp[b6,cF]at aH
 | slice e=>
  obtain⟨i,hu,_⟩:=aH.sl;simp only[Value.okWide,hu,Cell.okWide,Cell.ok]at cL;cases v<;>first | rfl | exact cL.elim
 | array n e=>simp[ad.hK]at aj
 | bH e=>simp[ad.hK]at aj
 | map k v=>simp[ad.hK]at aj
 | fn a b=>simp[ad.hK]at aj
 | ct a=>simp[ad.hK]at aj
 | ep=>simp[ad.hK]at aj
def xS(P:Program):List TypeId->ad->Bool
 | [id],t=>cF P t (.inl id)&&t.hK
 | id::ids,.az a b=>cF P a (.inl id)&&a.hK&&xS P ids b
 | _,_=>false
theorem U3(W:BQ b):∀ (ids:List TypeId) (ts:ad) {base:Nat} {aC:List Value} {bh:List (DataW H)} {ps:List MemPlace},xS P ids ts=true->DataW.TrodAll enc P w 0 (λ_=>true) true ids aC bh ps->
  (∀ (j:Nat) t v,ids[j]?=some t->aC[j]?=some v->Value.okWide P w .any base t v)->(∀ d∈bh,b d<=N)->∃ x,fp P ts (ql w) w aC x/\ts.oM N x
 | [],ts,_,aC,bh,ps,h,_,_,_=>by simp[xS]at h
 | [id],t,_,aC,bh,ps,h,ik,cL,nb=>by
  simp only[xS,Bool.and_eq_true]at h;obtain⟨v0,Nn,d0,No,FX,Cj,rfl,rfl,rfl,aX,sy⟩:=trodAll_cons ik;obtain⟨rfl,rfl,rfl⟩:=trodAll_nil sy;obtain⟨y,⟨xG,sn⟩,ao⟩:=U2 W h.2 h.1 (cL 0 id v0 rfl rfl) aX (nb _ (List.mem_cons_self ..));refine⟨y,⟨?_,by simpa [ej]using sn⟩,ao⟩;cases t<;>first | exact⟨v0,rfl,xG⟩ | (simp[cF]at h;done)
 | id::aiN::ids,ts,base,aC,bh,ps,h,ik,cL,nb=>by
  cases ts with
  | az a b=>
   simp only[xS,Bool.and_eq_true]at h;obtain⟨v0,Nn,d0,No,FX,Cj,rfl,rfl,rfl,aX,sy⟩:=trodAll_cons ik;obtain⟨y,⟨xG,sn⟩,ao⟩:=U2 W h.1.2 h.1.1 (cL 0 id v0 rfl rfl) aX (nb _ (List.mem_cons_self ..));obtain⟨z,⟨aiO,aiP⟩,aB⟩:=U3 W (aiN::ids) b h.2 sy (λj t v E U=>cL (j+1) t v (by simpa using E) (by simpa using U)) λd ar=>nb d (List.mem_cons_of_mem _ ar);exact⟨(y,z),⟨⟨xG,aiO⟩,_,_,J' _ _,sn,aiP⟩,ao,aB⟩
  | _=>simp[xS]at h
theorem U4(aj:laidOutB P=true){w':World}{U5:Nat->Bool}:∀ (ids:List TypeId) {aC:List Value} {bh:List (DataW H)} {ps:List MemPlace},(ids.all λt=>P.readableRec t&&decide (t<P.types.size))=true->
  DataW.TrodAll enc P w 0 (λ_=>true) true ids aC bh ps->(∀ p∈ps,w.sameAt w' p)->(∀ p∈ps,U5 p.block=true)->DataW.TrodAll enc P w' 0 U5 true ids aC bh ps
 | [],_,_,_,_,h,_,_=>by
  obtain⟨rfl,rfl,rfl⟩:=trodAll_nil h;rfl
 | id::ids,aC,bh,ps,M,h,E,U=>by
  simp only[List.all_cons,Bool.and_eq_true,decide_eq_true_eq]at M;obtain⟨v0,Nn,d0,No,FX,Cj,rfl,rfl,rfl,aX,sy⟩:=trodAll_cons h;exact trodAll_cons_mk (Go.WideElems.Trod_stays aj M.1.1 M.1.2 aX (λp an=>E p (List.mem_append_left _ an)) (λp an=>U p (List.mem_append_left _ an)))
   (U4 aj ids M.2 sy (λp an=>E p (List.mem_append_right _ an)) (λp an=>U p (List.mem_append_right _ an)))
theorem acT(W:BQ b){k:FuncId}{fn:Func}{ts:ad}{sh:ts.ai->A (ad.bool).ai}{spec:ChangeSpec}{rt:TypeId}(aiQ:laidOutB P=true)(xe:h3 P k ts .bool sh)(aiR:∀ x,ts.hB x->ts.oM N x->A.cw (sh x) λy=>y=true)
  (dY:xS P fn.params.toList ts=true) (aiS:(fn.params.toList.all λt=>P.readableRec t&&decide (t<P.types.size))=true) (gp:fn.resultTypes=#[rt]) (aiT:P.underlying rt=some .bool)
  (ae:spec.vars=[]) (tf:∀ (H:Type) (bh:List (DataW H)),bh.length=fn.params.size->spec.fn H bh={ results:=[.lit (.bool true)],args:=bh })
  {base:Nat} {args:Array Value} {bh gs:List (DataW H)} {before:List MemPlace} (xT:∀ (j:Nat) t v,fn.params[j]?=some t->args[j]?=some v->Value.okWide P w .any base t v)
  (wM:DataW.Whole enc P fn.params.toList spec.vars false w args.toList bh gs before) (nb:∀ d∈bh,b d<=N) (gn:nH P (ql w) w:=by exact λb W=>absurd (show b<0 from W) (Nat.not_lt_zero b)) :
  Calls P k args w λe qj=>∃ v,e=.returned v/\spec.post enc P fn false true false false w args v qj:=by
 have cc:=wM.lt;have U6:=wM;obtain⟨p,q,ik,Np,rfl,tw,_⟩:=wM;have bt:gs=[]/\q=[]:=by
  rw[ae]at Np;cases gs with
  | nil=>exact⟨rfl,Np⟩
  | cons _ _=>exact Np.elim
 obtain⟨rfl,rfl⟩:=bt;simp only[List.append_nil]at U6 cc tw;obtain⟨x,ag,ao⟩:=U3 W fn.params.toList ts dY ik (λj t v E U=>xT j t v (by simpa using E) (by simpa using U)) nb;obtain⟨aD,af⟩:=aiR x (Ah ts ag.2) ao;have u7:bh.length=fn.params.size:=by
  have:∀ (ids:List TypeId) {aC:List Value} {bh:List (DataW H)} {ps:List MemPlace},DataW.TrodAll enc P w 0 (λ_=>true) true ids aC bh ps->bh.length=ids.length:=by
   intro ids;induction ids with
   | nil=>intro aC bh ps h;obtain⟨rfl,rfl,rfl⟩:=trodAll_nil h;rfl
   | cons id ids aJ=>intro aC bh ps h;obtain⟨v0,Nn,d0,No,FX,Cj,rfl,rfl,rfl,aX,sy⟩:=trodAll_cons h;simp[aJ sy]
  simpa using this _ ik
 have hc:=xe.iV (ql w) w args.toList x (λ_ h=>h) gn ag aD;refine hc.mono λe qj ⟨v,y,he,aS,M,W⟩=>?_;have aS:=af y aS;subst aS;obtain⟨aC,b_,cy⟩:=M;have aiU:v=.bool true:=by
  simp only[yY]at b_;subst b_;obtain⟨⟨u,hu,nF⟩,nN⟩:=cy;simp only[List.cons.injEq,and_true]at hu;subst hu;simp only[kL]at nF;simp only[J',nF,acY,bI]at nN;simpa using nN
 subst aiU;have q1:∀ p'∈p,w.sameAt qj p':=by
  intro p' an;have E:=W.block _ (cc p' an);cases p' with
  | cell b off=>simp only[World.sameAt,World.cell?];simp only[MemPlace.block]at E;rw[E]
  | map b=>exact E
 refine⟨_,he,bh,[],p,[],p,[],U6,?_,?_,?_,?_,λh=>by cases h⟩
 ·rw[List.append_nil,tf H bh u7,gp];exact trodAll_cons_mk (shut_bool aiT true) trodAll_mk0
 ·rw[List.append_nil,tf H bh u7];exact U4 aiQ _ aiS ik q1 λp' an=>by simpa using cc p' an
 ·rw[ae,List.append_nil,tf H bh u7];rfl
 ·refine⟨W.os,W.output,λi G=>?_⟩;have E:=W.block i G;rw[E];exact (World.keptBut_refl w λHv=>Hv∈p/\(Hv∈[]\/Hv∈p\/Hv∈[])).2.2 i G
end
end Go.Fer
namespace Go.Fer.om
open Go.Proofs
abbrev t2:ad:=.int .i64
abbrev t3:ad:=.int .i64
abbrev t4:ad:=.bool
abbrev t5:ad:=.int .u8
abbrev aiV:ad:=.int .u8
abbrev aiW:ad:=.st (.az t2 (.az t3 (.az t4 aiV)))
abbrev t9:ad:=.str
abbrev aiX:ad:=.str
abbrev aiY:ad:=.str
abbrev t21:ad:=.int .i32
abbrev xU:ad:=.st (.az t3 t3)
abbrev Ai:ad:=.st (.az t3 (.az t3 xU))
abbrev t22:ad:=.slice Ai
abbrev eF:ad:=.slice t3
abbrev Aj:ad:=.st (.az t3 (.az eF xU))
abbrev Hw:ad:=.slice Aj
abbrev vs:ad:=.st Hw
abbrev DM:ad:=.slice vs
abbrev Ak:ad:=.st (.az t3 (.az t3 (.az t3 t3)))
abbrev Hx:ad:=.slice Ak
abbrev n3:ad:=.st (.az t22 (.az DM (.az t3 Hx)))
abbrev xV:ad:=.st (.az t3 (.az t3 (.az t3 (.az t3 eF))))
abbrev t28:ad:=.slice xV
abbrev vt:ad:=.st (.az eF (.az xU (.az t3 (.az t3 t3))))
abbrev Hy:ad:=.slice vt
abbrev rm:ad:=.st (.az t3 (.az t3 t3))
abbrev Al:ad:=.slice rm
abbrev t32:ad:=.st (.az n3 (.az eF (.az t28 (.az Hy (.az Al t3)))))
abbrev qm:ad:=.slice xU
abbrev jc:ad:=.st (.az t3 (.az t3 (.az t3 (.az t3 (.az t3 t3)))))
abbrev n5:ad:=.slice jc
abbrev Nq:ad:=.st (.az t3 (.az t3 (.az t3 (.az t3 (.az t3 (.az t3 t3))))))
abbrev te:ad:=.st (.az qm (.az n5 (.az eF (.az qm Nq))))
abbrev wN:ad:=.st (.az t32 te)
abbrev aiZ:ad:=.int .i64
abbrev U7:ad:=.slice t9
abbrev ai0:ad:=.st (.az t3 (.az t3 (.az t3 t3)))
abbrev ai1:ad:=.st (.az t3 (.az t3 (.az t3 (.az t3 (.az t3 (.az t3 (.az t3 t3)))))))
abbrev qn:ad:=.st wN
abbrev t105:ad:=.bH qn
abbrev U8:ad:=.ep
abbrev Nr:ad:=.st (.az t3 (.az t4 U8))
abbrev Ns:ad:=.map t9 Nr
abbrev DN:ad:=.slice eF
abbrev xW:ad:=.st (.az n3 DN)
abbrev U9:ad:=.bH xW
abbrev Nt:ad:=.fn t3 t3
abbrev qo:ad:=.st (.az jc t3)
abbrev Nu:ad:=.slice qo
abbrev Nv:ad:=.array 10 Nu
abbrev DO:ad:=.st (.az eF Nv)
abbrev py:ad:=.bH DO
abbrev Nw:ad:=.slice py
abbrev rn:ad:=.st (.az te (.az n5 Nw))
abbrev vu:ad:=.bH rn
abbrev U_:ad:=.fn t3 t4
abbrev ai2:ad:=.fn vu t4
abbrev ai3:ad:=.fn (.az jc t3) t4
abbrev t138:ad:=.ct (.az jc t3)
abbrev U':ad:=.fn py (.az t3 t4)
abbrev Hz:ad:=.map t3 t3
abbrev Nx:ad:=.ct t3
abbrev ai4:ad:=.ct t3
abbrev Va:ad:=.st (.az t3 t3)
abbrev Vb:ad:=.slice Va
abbrev Vc:ad:=.st (.az t3 (.az t3 t3))
abbrev Vd:ad:=.map Vc t3
abbrev t222:ad:=.st (.az t32 (.az Vb Vd))
abbrev oN:ad:=.bH t222
abbrev ai5:ad:=.fn eF t4
abbrev t164:ad:=.ct eF
abbrev Ve:ad:=.st (.az t3 (.az t3 t3))
abbrev ai6:ad:=.slice Ve
abbrev t171:ad:=.slice t5
abbrev Vf:ad:=.fn vt t4
abbrev Vg:ad:=.fn Ak t4
abbrev Ny:ad:=.fn jc t4
abbrev t228:ad:=.int .u64
abbrev ai7:ad:=.slice t3
abbrev ai8:ad:=.bH n3
abbrev ai9:ad:=.bH vs
abbrev ai_:ad:=.array 4 t9
abbrev Vh:ad:=.st (.az t3 (.az t3 t3))
abbrev ai':ad:=.map Vh t3
abbrev HA:ad:=.map t3 jc
abbrev aja:ad:=.int .u32
abbrev Vi:ad:=.int .u64
abbrev Vj:ad:=.fn xV t4
abbrev Vk:ad:=.fn rm t4
abbrev Vl:ad:=.fn Aj t4
abbrev Vm:ad:=.slice n5
abbrev Vn:ad:=.fn Ai t4
abbrev Vo:ad:=.fn vs t4
abbrev DP:ad:=.fn (.az qo qo) t3
abbrev ajb:ad:=.int .i64
abbrev ajc:ad:=.slice DN
abbrev ajd:ad:=.int .i64
abbrev Vp:ad:=.int .u64
abbrev aje:ad:=.bH t3
abbrev Vq:ad:=.st (.az jc t3)
abbrev ajf:ad:=.slice Vq
abbrev Vr:ad:=.st (.az t3 eF)
abbrev ajg:ad:=.slice Vr
abbrev ajh:ad:=.bH t5
abbrev aji:ad:=.array 24 t5
abbrev ajj:ad:=.bH Vp
abbrev ajk:ad:=.slice Al
abbrev ajl:ad:=.array 256 t5
abbrev Vs:ad:=.st (.az t5 t5)
abbrev ajm:ad:=.array 16 Vs
abbrev Vt:ad:=.st t9
abbrev ajn:ad:=.bH Vt
abbrev ajo:ad:=.array 20 Vi
abbrev ajp:ad:=.array 65 t5
abbrev ajq:ad:=.array 32 t5
abbrev ajr:ad:=.array 64 t5
abbrev ajs:ad:=.int .u8
def vv:List (Nat×ad):=[(2,t2),(3,t3),(4,t4),(5,t5),(8,aiW),(9,t9),(10,aiX),(11,aiY),(21,t21),(22,t22),(23,DM),(24,Hx),(26,n3),(27,eF),(28,t28),(29,Hy),(30,Al),(32,t32),(33,qm),(34,n5),(36,Nq),(38,te),(40,wN),(42,Ak),(44,aiZ),(48,U7),(58,xU),(63,ai0),(74,ai1),(87,vt),(91,rm),(93,xV),(105,t105),(107,Ns),(111,qn),(115,U9),(121,DN),(123,xW),(125,jc),(128,Nt),(130,vu),(133,U_),(134,ai2),(137,py),(138,t138),(140,U'),(141,Nu),(142,Nv),(144,qo),(148,Hz),(149,Nw),(151,rn),(153,Nx),(154,ai4),(157,oN),(162,ai5),(164,t164),(165,ai6),(171,t171),(177,Vf),(188,U8),(190,Nr),(196,Ai),(197,Hw),(199,vs),(201,Aj),(203,Vg),(209,Ny),(215,ai3),(217,DO),(219,Vd),(220,Vb),(222,t222),(224,Vc),(227,Va),(228,t228),(235,Ve),(237,ai7),(249,ai8),(253,ai9),(261,ai_),(269,ai'),(271,Vh),(273,HA),(282,aja),(285,Vi),(289,Vj),(290,Vk),(297,Vl),(298,Vm),(304,Vn),(306,Vo),(311,DP),(313,ajb),(336,ajc),(351,ajd),(359,Vp),(363,aje),(368,ajf),(372,Vq),(374,ajg),(380,ajh),(386,aji),(398,ajj),(402,Vr),(403,ajk),(408,ajl),(410,Vs),(411,ajm),(414,ajn),(416,Vt),(418,ajo),(419,ajp),(423,ajq),(424,ajr),(432,ajs)]
theorem n6:dT Tryz.prog (rl vv):=aiC (by kernel_rfl)
theorem HB:Tryz.prog.follows .mixedOrders=true:=by kernel_rfl
def xX(_:Nat):Option aL:=none
theorem HC:jn Tryz.prog xX:=λk c h=>by cases h
def dE:dG:={ tk:=λ_=>none,tl:=λ_=>none }
theorem mu:qL Tryz.prog dE where
 tk:=λk v h=>by cases h
 tl:=λk v h=>by cases h
end Go.Fer.om
namespace Go.Fer
open Go.RowKit
def hH.kA(c:hH):aL:=⟨c.ts,.az c.aV .cV,λx=>(c.sh x).ck,λx=>((c.sh x).val c.aV.dh,())⟩
end Go.Fer
namespace Go.Fer
theorem A.ajt{ak:Type}{p:Prop}{m n:A ak}(h:n.ck->p)(k:A.le m n):A.le (A.ab p m) n:=λaD=>⟨⟨h aD,(k aD).1⟩,(k aD).2⟩
theorem rp{ak:Type}{o:Option ak}{x:ak}(h:o=some x):o.isSome=true:=by rw[h];rfl
def Nz(ts:ad)(x:ts.ai)(n:Nat):Nat->Prop
 | 0=>True
 | k+1=>Nz ts x n k/\DH (kr ts x (n+k))
theorem Vu{ts:ad}{x:ts.ai}{n:Nat}:∀ {k:Nat},Nz ts x n k->∀ i,i<k->DH (kr ts x (n+i))
 | 0,_,i,h=>by omega
 | k+1,hc,i,h=>by
  by_cases e:i=k
  ·rw[e];exact hc.2
  ·exact Vu hc.1 i (by omega)
theorem Vv(ts:ad)(x:ts.ai):∀ (l:List Nat) (i:Nat),fr (l.map λi=>(i,kr ts x i)) i=if i∈l then kr ts x i else .undef
 | [],i=>by simp[fr]
 | j::l,i=>by
  simp only[List.map_cons,fr];by_cases e:i=j
  ·subst e;simp
  ·rw[if_neg e,Vv ts x l i];simp[e]
theorem sz{ts:ad}{x:ts.ai}{n:Nat}(h:Nz ts x n (sx ts - n)):DI n (pw ts x):=λi G=>by
 show DH (fr (Ad ts x (sx ts)) i);unfold Ad;rw[Vv];split
 ·rename_i hm;rw[List.mem_range]at hm;have aw:¬i<n:=λh=>G (.inl h);have:=Vu h (i - n) (by omega);rwa [show n+(i - n)=i by omega]at this
 ·trivial
end Go.Fer
namespace Go.Fer
open A (V)
theorem bC{n:Int}(E:-9223372036854775808<=n)(U:n<9223372036854775808):IntKind.i64.wrap n=n:=by
 show (if (true&&decide (n % 2 ^ 64>=(2 ^ (64 - 1):Int)))=true then n % 2 ^ 64 - 2 ^ 64 else n % 2 ^ 64)=n;grind
theorem ch(a b:Int):Add.add a b=a+b:=rfl
theorem gW(a b:Nat):Add.add a b=a+b:=rfl
theorem Vw{ak:Type}(a b:List ak):Append.append a b=a++b:=rfl
theorem bV(n:Nat):Int.ofNat n=(n:Int):=rfl
theorem qp{x c d:Bool}:(x||!(if (!x)=true then c else d))=(x||!c):=by grind
theorem Vx{x c d:Bool}:(x||(if (!x)=true then c else d))=(x||c):=by grind
theorem vw{x c d:Bool}:(x&&(if x=true then c else d))=(x&&c):=by grind
namespace A
variable {ak β gx D aI:Type}
theorem bu{m:A ak}{p:Prop}{v:ak}(h:p->m=pure v):le m (dR p v):=λan=>by
 rw[h an];exact⟨trivial,λ_ aS=>aS⟩
theorem sA{m:A ak}{p:Prop}{v:ak}(h:p->cw m λy=>y=v):le m (dR p v):=λan=>h an
theorem gL{p:Prop}{v d:ak}:(dR p v).val d=v:=by
 unfold val;have h:∃ x,(dR p v).bL x:=⟨v,rfl⟩
 rw[dif_pos h];exact h.choose_spec
theorem fs{v d:ak}:(pure v).val d=v:=gL (p:=True)
theorem n7{p:Prop}{v:ak}:(dR p v).ck=p:=rfl
theorem vx{p:Prop}{v:ak}:(dR p v).CQ:=λ_ _ h k=>h.trans k.symm
theorem jd{g:Bool}{p:Prop}{v d:ak}:cq g (dR p v) d=dR (g=true->p) (if g=true then v else d):=by
 cases g
 ·exact (bR (by simp) _).symm
 ·simp[cq]
theorem kT{g:Bool}{v d:ak}:cq g (pure v) d=pure (if g=true then v else d):=by cases g<;>rfl
theorem bX{f:D->A β}{x:D}:V.bz f (.next x:V D β)=f x:=rfl
theorem pz{f:D->A β}{r:β}:V.bz f (.done r:V D β)=pure r:=rfl
end A
def eZ{ak β aI:Type}(f:ak->β->V β aI)(fin:β->aI):List ak->β->aI
 | [],b=>fin b
 | x::l,b=>match f x b with
  | .next bd=>eZ f fin l bd
  | .done r=>r
def V.hn{D β aI:Type}(g:β->D):V β aI->V D aI
 | .next b=>.next (g b)
 | .done r=>.done r
theorem A.fC{ak β D aI:Type}{body:D->A (V D aI)}{s0:D}(l:List ak)(mk:Nat->β->D)(f:ak->β->V β aI)(fin:β->aI)(I:Nat->β->Prop)(b:β)(na:s0=mk 0 b)(aX:I 0 b)
  (aD:∀ i (h:i<l.length) b,I i b->body (mk i b)=A.pure (V.hn (mk (i+1)) (f l[i] b))/\∀ bd,f l[i] b=.next bd->I (i+1) bd)
  (ao:∀ b,I l.length b->body (mk l.length b)=A.pure (.done (fin b))):A.loop body s0=A.pure (eZ f fin l b):=by
 subst na;have key:∀ (k:Nat) (r:List ak) (b:β),k<=l.length->r=l.drop k->I k b->A.loop body (mk k b)=A.pure (eZ f fin r b):=by
  intro k r;induction r generalizing k with
  | nil=>
   intro b al M eB;have:k=l.length:=by have:=congrArg List.length M;grind
   subst this;exact A.rS (ao b eB)
  | cons x r aJ=>
   intro b al M eB;have cc:k<l.length:=by
    grind
   rw[List.drop_eq_getElem_cons cc]at M;injection M with ag M
   obtain⟨E,U⟩:=aD k cc b eB;rw[<-ag]at E U;simp only[eZ];cases rf:f x b with
   | next bd=>
    rw[rf]at E;rw[A.yX E];grind
   | done pX=>
    rw[rf]at E;exact A.rS E
 grind
theorem A.dB{ak β D aI:Type}{body:D->A (V D aI)}{s0:D}(l:List ak)(mk:Nat->β->D)(f:ak->β->V β aI)(fin:β->aI)(b:β)(na:s0=mk 0 b)
  (aD:∀ i (h:i<l.length) b,body (mk i b)=A.pure (V.hn (mk (i+1)) (f l[i] b)))
  (ao:∀ b,body (mk l.length b)=A.pure (.done (fin b))):A.loop body s0=A.pure (eZ f fin l b):=
 A.fC l mk f fin (λ_ _=>True) b na trivial (λi h b _=>⟨aD i h b,λ_ _=>trivial⟩) λb _=>ao b
section
variable {ak β aI:Type}
theorem sB{p:ak->Bool}{r:aI}{fin:β->aI}:∀ (l:List ak) (b:β),eZ (λx b=>if p x=true then .done r else .next b) fin l b=if l.any p=true then r else fin b
 | [],b=>by rfl
 | x::l,b=>by
  simp only[eZ,List.any_cons,Bool.or_eq_true];by_cases h:p x=true
  ·simp[h]
  ·have h:p x=false:=by grind
   simp only[h,Bool.false_eq_true,if_false,false_or];exact sB l b
theorem HD{p:ak->Bool}{r:aI}{fin:β->aI}:∀ (l:List ak) (b:β),eZ (λx b=>if p x=true then .next b else .done r) fin l b=if l.all p=true then fin b else r
 | [],b=>by rfl
 | x::l,b=>by
  simp only[eZ,List.all_cons,Bool.and_eq_true];by_cases h:p x=true
  ·simp only[h,if_true,true_and];exact HD l b
  grind
theorem dP{h:β->ak->β}{fin:β->aI}:∀ (l:List ak) (b:β),eZ (λx b=>.next (h b x)) fin l b=fin (l.foldl h b)
 | [],b=>rfl
 | x::l,b=>by simp only[eZ,List.foldl_cons];exact dP l (h b x)
theorem Vy{p:ak->Bool}:∀ (l:List ak) (b:List ak),l.foldl (λb x=>if p x=true then b++[x] else b) b=b++l.filter p
 | [],b=>by simp
 | x::l,b=>by
  simp only[List.foldl_cons,List.filter_cons];rw[Vy l];grind
theorem qq{gx:Type}{g:ak->gx}:∀ (l:List ak) (b:List gx),l.foldl (λb x=>b++[g x]) b=b++l.map g
 | [],b=>by simp
 | x::l,b=>by simp only[List.foldl_cons,List.map_cons];rw[qq l];simp
end
theorem Vz{ak:Type}{p q:ak->Bool}(h:∀ x,p x=!q x)(l:List ak):l.any p=!l.all q:=by
 grind
theorem kU{ak β aI:Type}{p q:ak->Bool}{r:aI}{fin:β->aI}(l:List ak)(b:β)(h:∀ x,p x=!q x):eZ (λx b=>if p x=true then .done r else .next b) fin l b=if l.all q=true then fin b else r:=by
 rw[sB,Vz h];grind
theorem nc{D β aI:Type}{c:Bool}{mk:β->D}{b:β}{r:aI}:(if c=true then A.pure (V.done r) else A.pure (V.next (mk b)))=A.pure (V.hn mk (if c=true then .done r else .next b)):=by cases c<;>rfl
theorem VA{D β aI:Type}{c:Bool}{mk:β->D}{b:β}{r:aI}:(if c=true then A.pure (V.done r) else A.pure (V.next (mk b)))=A.pure (V.hn mk (if c=true then .done r else .next b)):=by cases c<;>rfl
theorem cT{l:Nat}{i:Nat}(h:i<l):decide ((i:Int)<(l:Int))=true:=by grind
theorem cG{l:Nat}{i:Nat}(h:i<l):((0:Int)<=(i:Int)/\(i:Int)<(l:Int))=True:=by grind
theorem df{ak:Type}{l:List ak}{i:Nat}{d:ak}(h:i<l.length):l.getD (Int.toNat (i:Int)) d=l[i]:=by
 grind
theorem xY{ak:Type}{l:List ak}{i:Int}{d:ak}(aX:0<=i)(h:i<(l.length:Int)):l.getD i.toNat d∈l:=by
 grind
def ev(a b:Int):z1':=(List.range (b - a+1).toNat).map λ(i:Nat)=>a+(i:Int)
theorem xZ(a b:Int):(ev a b).length=(b - a+1).toNat:=by simp[ev]
theorem DQ{a b:Int}{i:Nat}(h:i<(ev a b).length):(ev a b)[i]=a+i:=by simp[ev]
theorem sC{a b n:Int}:n∈ev a b<->a<=n/\n<=b:=by
 simp only[ev,List.mem_map,List.mem_range];constructor
 ·omega
 ·rintro⟨E,U⟩;exact⟨(n - a).toNat,by omega,by omega⟩
end Go.Fer
namespace Go.Fer.om
open Go.Proofs
abbrev oO:Type:=List (Nat×hH)
def oP{ak:Type}:List (Nat×ak)->Nat->Option ak
 | [],_=>none
 | p::l,k=>if k=p.1 then some p.2 else oP l k
theorem DR{ak:Type}{k:Nat}{c:ak}:∀ {l:List (Nat×ak)},oP l k=some c->(k,c)∈l
 | [],h=>by cases h
 | p::l,h=>by
  unfold oP at h;split at h
  ·rename_i e;cases h;subst e;simp
  ·exact List.mem_cons_of_mem _ (DR h)
def sD(T:oO):List (Nat×e5)->Nat->Option e5
 | [],k=>match oP T k with
  | some c=>some (.dx c)
  | none=>none
 | p::l,k=>if k=p.1 then some p.2 else sD T l k
def VB(k:Nat)(c:hH):Prop:=h3 Tryz.prog k c.ts c.aV c.sh/\(c.dR=true->∀ x,(c.sh x).CQ)
structure kV(T:oO):Type where
 ok:∀ p∈T,VB p.1 p.2
abbrev aju{T:oO}(_:kV T):oO:=T
def ajv:kV []:=⟨λp h=>by cases h⟩
def kV.cons{T:oO}(h:kV T){n:Nat}{c:hH}(k:VB n c):kV ((n,c)::T):=⟨λp an=>by
 rcases List.mem_cons.1 an with rfl | an
 ·exact k
 ·exact h.ok p an⟩
def DS(aP:dG):List (Nat×e5)->Prop
 | []=>True
 | p::l=>p.2.hB Tryz.prog aP p.1/\DS aP l
theorem kV.HE{aP:dG}{T:oO}(h:kV T):∀ {sp:List (Nat×e5)},DS aP sp->lV Tryz.prog aP (sD T sp)
 | [],_,k,c,e=>by
  unfold sD at e;split at e
  ·rename_i c' hc;cases e;exact h.ok (k,c') (DR hc)
  ·cases e
 | p::l,aD,k,c,e=>by
  unfold sD at e;split at e
  ·rename_i al;cases e;subst al;exact aD.1
  ·exact kV.HE h (sp:=l) aD.2 k c e
def Am:ad->List ad
 | .cV=>[]
 | .az a b=>a::Am b
 | t=>[t]
def VC:ad->ad
 | .bH t=>t
 | t=>t
def VD{ts VE:ad}(e:VE=ts){aV:ad}(sh:ts.ai->A aV.ai):VE.ai->A aV.ai:=e ▸ sh
def NA(pA:Nat)(c:hH):Option Fw:=
 if h:((Am c.ts).take pA).all ad.gz=true/\gi ((Am c.ts).take pA++(((Am c.ts).drop pA).map VC).map .bH)=c.ts then some ⟨(Am c.ts).take pA,((Am c.ts).drop pA).map VC,c.aV,VD h.2 c.sh⟩ else none
def VF:z8'->Nat->Option Nat
 | [],_=>none
 | p::l,k=>if k=p.1 then some p.2 else VF l k
def An(T:oO)(cl:z8')(HF:List (Nat×wS)):dG where
 tk:=λk=>match oP T k with
  | some c=>some ⟨c.ts,c.aV,c.sh⟩
  | none=>none
 tl:=λk=>match VF cl k with
  | some pA=>match oP T k with
   | some c=>NA pA c
   | none=>none
  | none=>none
 wU:=oP HF
def DT:List (Nat×wS)->Prop
 | []=>True
 | p::l=>wT Tryz.prog p.1 p.2/\DT l
theorem DT.mem:∀ {l:List (Nat×wS)},DT l->∀ p∈l,wT Tryz.prog p.1 p.2
 | [],_,p,h=>by cases h
 | q::l,h,p,an=>by
  rcases List.mem_cons.1 an with rfl | an
  ·exact h.1
  ·exact DT.mem h.2 p an
theorem ajw{k pA:Nat}{c:hH}{v:Fw}(h:h3 Tryz.prog k c.ts c.aV c.sh)(e:NA pA c=some v):v.as.all ad.gz=true/\h3 Tryz.prog k (gi (v.as++v.cs.map .bH)) v.aV v.sh:=by
 unfold NA at e;split at e
 ·rename_i cW;cases e;refine⟨cW.1,?_⟩;have key:∀ (ts:ad) (e:ts=c.ts),h3 Tryz.prog k ts c.aV (VD e c.sh):=by rintro _ rfl;exact h
  exact key _ cW.2
 ·cases e
theorem kV.u{T:oO}(h:kV T)(cl:z8')(HF:List (Nat×wS))(G:DT HF):qL Tryz.prog (An T cl HF) where
 tk:=λk v e=>by
  simp only[An]at e;split at e
  ·rename_i c hc;cases e;exact (h.ok (k,c) (DR hc)).1
  ·cases e
 tl:=λk v e=>by
  simp only[An]at e;split at e
  ·split at e
   ·rename_i c hc;exact ajw (h.ok (k,c) (DR hc)).1 e
   ·cases e
  ·cases e
 wU:=λk v e=>G.mem (k,v) (DR e)
abbrev rq(fn:Func):Code:=fn.body.getD .skip
theorem HG{fn:Func}(h:fn.body.isSome=true):fn.body=some (rq fn):=by
 unfold rq;cases e:fn.body with
 | none=>rw[e]at h;cases h
 | some b=>rfl
abbrev DU(fn:Func)(ts aV:ad):Bool:=fn.body.isSome&&DJ fn (rq fn) ts aV
theorem HH{T:oO}(aU:kV T){aP:dG}(h':qL Tryz.prog aP){sp:List (Nat×e5)}(n2:DS aP sp){n:Nat}{fn:Func}(ao:Tryz.prog.funcs[n]?=some fn){ts aV:ad}{sh:ts.ai->A aV.ai}{ann:cC}{S:ts.ai->A aV.ai}(aD:∀ x,A.le (S x) (sh x))(cL:DU fn ts aV=true)(aj:∀ x,DG aP (rl vv) xX (sD T sp) fn (rq fn) ann ts aV x=S x):h3 Tryz.prog n ts aV sh:=
 have cL:=Bool.and_eq_true _ _ ▸ cL
 aiw HB n6 h' HC (aU.HE n2) ao (HG cL.1) cL.2 λx=>A.le_trans (A.le_of_eq (aj x)) (aD x)
def mk{T:oO}(aU:kV T){n:Nat}{fn:Func}(ao:Tryz.prog.funcs[n]?=some fn)(c:aL)(ann:cC){S:c.ts.ai->A c.aV.ai}(aD:∀ x,A.le (S x) (c.sh x))(cL:DU fn c.ts c.aV=true:=by kernel_rfl)(aj:∀ x,DG dE (rl vv) xX (sD T []) fn (rq fn) ann c.ts c.aV x=S x:=by intro x;kernel_rfl):kV ((n,c.dx)::T):=
 aU.cons ⟨HH aU mu (sp:=[]) trivial ao aD cL aj,λ_ _=>A.vx⟩
def lZ{T:oO}(aU:kV T)(cl:z8'){n:Nat}{fn:Func}(ao:Tryz.prog.funcs[n]?=some fn)(c:aL)(ann:cC){S:c.ts.ai->A c.aV.ai}(aD:∀ x,A.le (S x) (c.sh x))(cL:DU fn c.ts c.aV=true:=by kernel_rfl)(aj:∀ x,DG (An T cl []) (rl vv) xX (sD T []) fn (rq fn) ann c.ts c.aV x=S x:=by intro x;kernel_rfl):kV ((n,c.dx)::T):=
 aU.cons ⟨HH aU (aU.u cl [] trivial) (sp:=[]) trivial ao aD cL aj,λ_ _=>A.vx⟩
def pB{T:oO}(aU:kV T){aP:dG}(h':qL Tryz.prog aP)(sp:List (Nat×e5))(n2:DS aP sp){n:Nat}{fn:Func}(ao:Tryz.prog.funcs[n]?=some fn)(c:aL)(ann:cC){S:c.ts.ai->A c.aV.ai}(aD:∀ x,A.le (S x) (c.sh x))(cL:DU fn c.ts c.aV=true:=by kernel_rfl)(aj:∀ x,DG aP (rl vv) xX (sD T sp) fn (rq fn) ann c.ts c.aV x=S x:=by intro x;kernel_rfl):kV ((n,c.dx)::T):=
 aU.cons ⟨HH aU h' n2 ao aD cL aj,λ_ _=>A.vx⟩
def jR{T:oO}(aU:kV T)(cl:z8'){n:Nat}{fn:Func}(ao:Tryz.prog.funcs[n]?=some fn)(c:aL)(pA:Nat)(ann:cC){S:c.ts.ai->A c.aV.ai}(aD:∀ x,A.le (S x) (c.sh x))(hc:∀ x,c.pre x->DI pA (pw c.ts x):=by intro x h;obtain⟨f,ao,_⟩:=h;exact sz ⟨trivial,rp ao⟩)(cL:DU fn c.ts c.aV=true:=by kernel_rfl)
  (aj:∀ x,eI (An T cl []) (rl vv) xX (sD T []) ann (rq fn) (Hs pA (pw c.ts x)) (vr (rl vv) fn.results.toList c.aV)=S x:=by intro x;kernel_rfl):kV ((n,c.dx)::T):=
 have cL:=Bool.and_eq_true _ _ ▸ cL
 aU.cons ⟨aiy (n:=pA) HB n6 (aU.u cl [] trivial) HC (aU.HE (sp:=[]) trivial) ao (HG cL.1) cL.2 λx=>A.ajt (hc x) (A.le_trans (A.le_of_eq (aj x)) (aD x)),λ_ _=>A.vx⟩
theorem d_{T:oO}(aU:kV T){aP:dG}(sp:List (Nat×e5))(n2:DS aP sp){n:Nat}{fn:Func}(ao:Tryz.prog.funcs[n]?=some fn){c:cK}(ann:cC){S:c.cp.ai->A c.bL.ai}(aD:∀ x,A.le (S x) (c.sh x))(cL:(fn.body.isSome&&DK fn (rq fn) c.kc c.kz)=true:=by kernel_rfl)(aj:∀ x,Nc aP (rl vv) xX (sD T sp) fn (rq fn) ann c.cp c.bL c.kz x=S x:=by intro x;kernel_rfl):cS Tryz.prog aP n c:=
 have cL:=Bool.and_eq_true _ _ ▸ cL
 UU HB n6 HC (aU.HE n2) ao (HG cL.1) cL.2 λx=>A.le_trans (A.le_of_eq (aj x)) (aD x)
theorem NB{aP:dG}{n:Nat}{fn:Func}(ao:Tryz.prog.funcs[n]?=some fn){c:cK}(aD:∀ x,¬(c.sh x).ck)(cL:(fn.body.isSome&&DK fn (rq fn) c.kc c.kz)=true:=by kernel_rfl):cS Tryz.prog aP n c:=
 have cL:=Bool.and_eq_true _ _ ▸ cL
 UU HB n6 HC (Ψ:=λ_=>none) (λk c h=>by cases h) (ann:=.eO) ao (HG cL.1) cL.2 λx h=>absurd h (aD x)
end Go.Fer.om
namespace Go.Fer
open Go.RowKit
theorem ajx{P:Program}{aP:dG}{k:FuncId}{ts e:ad}(tU:ts≠.cV){c:cK}(h:cS P aP k c)(h':qL P aP){sh:ts.ai->A (ad.slice e).ai}{b0:Nat}(mk:ts.ai->c.cp.ai)
    (ajy:∀ x,c.cp.st (mk x)=⟨fr ((List.range (j4 ts)).map λi=>(i,kr ts x i)),λ_=>⟨0,.fz⟩⟩) (aw:c.kc=j4 ts) (hX:c.kc<=eS) (ajz:c.kz=[none]) (val:c.bL.ai->List e.ai)
    (pv:∀ bm,(c.bL.st bm).ay 0=.own b0 0/\(c.bL.st bm).aa b0=⟨0,.bg e (val bm)⟩)
    (r3:∀ x,(sh x).ck->(c.sh (mk x)).ck/\∀ bm,(c.sh (mk x)).bL bm->val bm=(sh x).val (ad.slice e).dh):nK (hH.kA ⟨ts,.slice e,sh,true⟩).aV=true/\Cz P k (hH.kA ⟨ts,.slice e,sh,true⟩):=by
  refine⟨rfl,h.enter,?_⟩;intro (x:ts.ai) (aD:(sh x).ck) y aS F w args bn gn (dY:fp P ts F w args x);cases aS;obtain⟨iC,Hh⟩:=tC (H:=λ_=>⟨0,.fz⟩) (κ:=λ_=>⟨0,0,0,false⟩) ts dY tU;let C:b9:={ P:=P,w0:=w,F0:=F,K0:=λr=>r<w.heap.size,nt:=c.kc,r:=none,dfr:=[],ie:=λ_=>none,cd:=⟨0,.cV,λ_=>False,λ_ _ _ _ _=>False⟩,aN:=aP }
  have C_:∀ i,fr ((List.range (j4 ts)).map λi=>(i,kr ts x i)) i=.undef\/(i<j4 ts/\fr ((List.range (j4 ts)).map λi=>(i,kr ts x i)) i=kr ts x i):=λi=>by
    rcases UP (l:=(List.range (j4 ts)).map λi=>(i,kr ts x i)) (i:=i) with e | e
    · exact .inl e
    · refine .inr ?_
      generalize bk:fr ((List.range (j4 ts)).map λi=>(i,kr ts x i)) i=z at e
      simp only[List.mem_map,List.mem_range,Prod.mk.injEq]at e
      obtain⟨j,aE,rfl,rfl⟩:=e
      exact⟨aE,rfl⟩
  have M:bl C (c.cp.st (mk x)) { tmps:=args.toArray,defers:=[] } w (λ_=>⟨0,0,0,false⟩) F:=by
    rw[ajy];refine { dH := ?_, dfr := rfl, bT := λi => ?_, bF := λb => trivial, own := λb W => (by cases W), inj := λb bd W _ _ => (by cases W), dc := bn, hh := λr M => .inl M, hQ := λr M => M, hs := λr M => M, eH := λr _ => rfl, size := Nat.le_refl _, eu := dd.refl w,gl:=hX,km:=λb r h=>(by cases h),jE:=λb r h=>(by cases h),j2:=λb k h=>(by cases h),kn:=λb k h=>(by cases h),eM:=λl aK L n st e=>?_,jF:=h',iB:=gn }
    · grind
    · rcases C_ i with e | ⟨G,e⟩
      · show bB _ _ _ _ _ (fr _ i) _
        rw[e];trivial
      · show bB _ _ _ _ _ (fr _ i) _
        rw[e]
        have:=Hh i G
        simpa [Array.getD_eq_getD_getElem?,List.getD_eq_getElem?_getD]using this
    · rcases C_ b4 with h | ⟨h,_⟩
      · grind
      · unfold b4 at h;unfold eS at hX;omega
  obtain⟨Mm,tK⟩:=r3 x aD;refine (h.iV C _ w _ F (mk x) rfl rfl rfl rfl rfl rfl M Mm).mono λa6 w' ⟨v,bm,aC,κ',F',BW,gf,GV,bb⟩=>?_;obtain⟨ajA,xJ⟩:=pv bm;rw[ajz]at GV;obtain⟨us,fB,Md,NC⟩:=GV;obtain⟨u,rfl⟩:∃ u,us=[u]:=by
    match us,fB with
    | [u],_=>simp
  have ND:aC=[u]:=by
    obtain⟨_,ND,U⟩:=NC;rw[ND,U]
  have ae:v=u:=by simpa using Md
  have fm:=bb.bT 0;rw[ajA,ND]at fm;have VG:u=(κ' b0).slice ((c.bL.st bm).aa b0).body.len:=by
    have:=fm.2 (by rw[xJ]) (by rw[xJ];rfl);simp_all
  rw[xJ]at VG;have aT:=bb.bF b0;unfold cE at aT;rw[xJ]at aT;obtain⟨E,U⟩:=aT;have xT:val bm=(sh x).val (ad.slice e).dh:=tK bm gf;refine⟨κ' b0,F',by rw[BW,ae,VG];simp only[bQ.len];rw[xT];rfl,bb.hQ,λr VH=>?_,λaw=>?_,λaw=>?_,bb.eu.os,bb.eu.tape,bb.eu.output,bb.size,bb.eH⟩
  · rcases bb.hh r VH with cW | cW
    · exact .inl cW
    · exact .inr ⟨Nat.le_of_not_lt cW,bb.dc r VH⟩
  · have:=E aw
    rw[xT]at this
    exact this
  · have af:=bb.own b0 (by rw[xJ];simp[bQ.b1,aw])
    obtain⟨cs,T,bE,c2,c3,c4,c5⟩:=U aw
    rw[xT]at c3 c5
    exact⟨⟨Nat.le_of_not_lt af.2.2,af.1,af.2.1⟩,cs,T,bE,c2,c3,c4,c5⟩
end Go.Fer
namespace Go.Fer
open A (V)
abbrev bj:Type:=z2'×List (List (Int×z1'×Int×Int))×Int×z2'
abbrev qt:Type:=bj×List (z1')
abbrev fe(l:z4')(a b:Int):z4':=lL (k:=.int .i64) (v:=.int .i64) l a b
abbrev vy(l:z5')(a:Int×Int×Int)(b:Int):z5':=lL (k:=.st (.az (.int .i64) (.az (.int .i64) (.int .i64)))) (v:=.int .i64) l a b
def NF(x:z2'×List (List (Int×z1'×Int×Int))×Int×z2'):A bj:=
 A.ab (bM (Add.add 0 (List.length x.1))) (A.ab (bM (Add.add 0 (List.length x.2.2.2))) (A.bind (A.loop (λ(D:Int×bj×Int×Int×z2'×z2'×List (List (Int×z1'×Int×Int))×Unit)=>letI f:=D.1<Int.ofNat (List.length D.2.1.2.1);letI e:=List.getD D.2.1.2.1 (Int.toNat D.1) [];letI d:=D.2.2.2;if decide f=true then A.bind (A.ab (0<=D.1/\f) (A.ab (bM (Add.add 0 (List.length e))) (A.bind (A.loop (λ(D:Int×Int×bj×Int×Int×z2'×z2'×List (Int×z1'×Int×Int)×List (List (Int×z1'×Int×Int))×Unit)=>letI i:=D.2.1;letI h:=D.2.2.2;letI b:=h.2.2;letI c:=i<Int.ofNat (List.length b.2.2.1);letI a:=List.getD b.2.2.1 (Int.toNat i) (0,[],0,0);if decide c=true then A.ab (0<=i/\c) (A.ab (bM (Add.add 0 (List.length a.2.1))) (A.ab (0<=i/\c) (A.pure (V.next (D.1,IntKind.wrap .i64 (Add.add i 1),D.2.2.1,h.1,h.2.1,b.1,b.2.1,List.set b.2.2.1 (Int.toNat i) (a.1,[]++a.2.1,a.2.2),b.2.2.2.1,()))))) else A.bind (A.pure (V.next (D.1,D.2.2.1,h.1,h.2.1,b.1,b.2.1,b.2.2.1,b.2.2.2.1,()))) λr=>A.pure (V.done r)) (D.1,0,D.2.1,D.2.2.1,d.1,d.2.1,d.2.2.1,[]++e,d.2.2.2.1,())) (V.bz (λ(D:Int×bj×Int×Int×z2'×z2'×List (Int×z1'×Int×Int)×List (List (Int×z1'×Int×Int))×Unit)=>letI g:=D.2.2.2.2;A.ab (bM (Add.add (List.length g.2.2.2.1) (Add.add 0 1))) (A.pure (V.next (D.1,D.2.1,D.2.2.1,D.2.2.2.1,g.1,g.2.1,g.2.2.2.1++[g.2.2.1],())))))))) (V.bz (λ(D:Int×bj×Int×Int×z2'×z2'×List (List (Int×z1'×Int×Int))×Unit)=>letI j:=D.2.2.2;A.pure (V.next (IntKind.wrap .i64 (Add.add D.1 1),D.2.1,D.2.2.1,j.1,j.2.1,j.2.2.1,j.2.2.2.1,())))) else A.bind (A.pure (V.next (D.2.2.1,d.1,d.2.1,d.2.2.1,d.2.2.2.1,()))) λr=>A.pure (V.done r)) (0,x,0,x.2.2.1,[]++x.1,[]++x.2.2.2,[],())) (V.bz (λ(D:Int×Int×z2'×z2'×List (List (Int×z1'×Int×Int))×Unit)=>A.pure (D.2.2.1,D.2.2.2.2.1,D.2.1,D.2.2.2.1)))))
def NG(ls:Int×Int×Int->A Bool)(x:bj×Int):A Bool:=
 A.bind (ls (x.2,0,IntKind.wrap .i64 (Int.ofNat (List.length x.1.1)-1))) λy=>A.pure y
def HI(ls:Int×Int×Int->A Bool)(ajB:bj×Int->A Bool)(x:bj×Int×Int):A Bool:=
 A.bind (ajB (x.1,x.2.1)) λy=>A.ab (y=true->(y=true/\y=true)/\(0<=x.2.1/\x.2.1<Int.ofNat (List.length x.1.2.1))/\True) (A.bind (cq y (ls (x.2.2,0,IntKind.wrap .i64 (Int.ofNat (List.length (List.getD x.1.2.1 (Int.toNat x.2.1) []))-1))) false) (λb3=>A.pure (y&&b3)))
def NH(ajC:z2'×List (List (Int×z1'×Int×Int))×Int×z2'->A Bool)(x:z2'×List (List (Int×z1'×Int×Int))×Int×z2'):A Int:=
 A.bind (ajC x) λy=>if (!y)=true then A.pure 70 else A.bind (A.loop (λ(D:Int×bj×Unit)=>if decide (D.1<Int.ofNat (List.length D.2.1.2.2.2))=true then A.bind (A.loop (λ(D:Int×Int×bj×Unit)=>letI d:=D.2.2.1.2.2.2;letI c:=Int.ofNat (List.length d);letI b:=List.getD d (Int.toNat D.1) (0,0,0,0);letI a:=List.getD d (Int.toNat D.2.1) (0,0,0,0);if decide (D.2.1<D.1)=true then A.ab (0<=D.2.1/\D.2.1<c) (A.ab (0<=D.1/\D.1<c) (if (decide (a.1=b.1)&&decide (a.2.1=b.2.1)&&decide (a.2.2.1=b.2.2.1)&&decide (a.2.2.2≠b.2.2.2))=true then A.bind (A.bind (A.bind (A.bind (A.pure 71) (λr=>A.pure (V.done r))) (λr=>A.pure (V.done r))) (λr=>A.pure (V.done r))) λr=>A.pure (V.done r) else A.pure (V.next (D.1,IntKind.wrap .i64 (Add.add D.2.1 1),D.2.2.1,())))) else A.bind (A.pure (V.next (D.1,D.2.2.1,()))) λr=>A.pure (V.done r)) (D.1,0,D.2.1,())) (V.bz (λ(D:Int×bj×Unit)=>A.pure (V.next (IntKind.wrap .i64 (Add.add D.1 1),D.2.1,())))) else A.bind (A.pure (V.next ())) λr=>A.pure (V.done r)) (0,x,())) (V.bz (λ(D:Unit)=>A.pure 0))
def VI(ajD:z1'×Int->A Bool)(ls:Int×Int×Int->A Bool)(x:bj×Int×Int×Int×Int):A Bool:=
 letI e:=x.2.2.2;letI c:=List.getD x.1.2.1 (Int.toNat e.1) [];letI b:=List.getD x.1.1 (Int.toNat x.2.1) (0,0,0,0);letI a:=List.getD c (Int.toNat e.2) (0,[],0,0);letI d:=decide (b.1=a.1);A.ab (0<=x.2.1/\x.2.1<Int.ofNat (List.length x.1.1)) (A.ab (0<=e.1/\e.1<Int.ofNat (List.length x.1.2.1)) (A.ab (0<=e.2/\e.2<Int.ofNat (List.length c)) (A.bind (cq d (ajD (a.2.1,b.2.1)) false) (λy=>A.bind (cq (d&&y) (ls (x.2.2.1,a.2.2.1,IntKind.wrap .i64 (Add.add a.2.2.2 x.1.2.2.1))) false) λb3=>A.pure (d&&y&&b3)))))
def NI(x:z1'):A Bool:=
 A.bind (A.loop (λ(D:z1'×Int×Unit)=>letI c:=D.2.1;letI b:=IntKind.wrap .i64 (c-1);letI a:=Int.ofNat (List.length D.1);if decide (c<a)=true then A.ab (0<=c/\c<a) (A.ab (0<=b/\b<a) (if decide (List.getD D.1 (Int.toNat c) 0<=List.getD D.1 (Int.toNat b) 0)=true then A.bind (A.bind (A.pure false) (λr=>A.pure (V.done r))) λr=>A.pure (V.done r) else A.pure (V.next (D.1,IntKind.wrap .i64 (Add.add c 1),())))) else A.bind (A.pure (V.next ())) λr=>A.pure (V.done r)) (x,1,())) (V.bz (λ(D:Unit)=>A.pure true))
def ajE(x:Int×Int×Int):A Bool:=
 A.pure (decide (x.1>=x.2.1)&&decide (x.1<=x.2.2))
def NJ(ls:Int×Int×Int->A Bool)(x:bj×Int):A Bool:=
 A.bind (ls (x.2,0,IntKind.wrap .i64 (Int.ofNat (List.length x.1.2.1)-1))) λy=>A.pure y
def NK(ajF:bj×Int->A Bool)(ajG:bj×Int×Int->A Bool)(ls:Int×Int×Int->A Bool)(NL:Int×Int->A Bool)(ajH:Int×z1'×Int×Int->A Bool)(x:z2'×List (List (Int×z1'×Int×Int))×Int×z2'):A Bool:=
 letI c:=decide (Int.ofNat (List.length x.1) > 10)||decide (Int.ofNat (List.length x.2.1) > 6);A.bind (cq (!c) (ls (x.2.2.1,0,99)) false) λy=>if (c||!y||decide (Int.ofNat (List.length x.2.2.2) > 30))=true then A.pure false else A.bind (A.loop (λ(D:Int×bj×Unit)=>letI h:=D.1<Int.ofNat (List.length D.2.1.1);letI b:=List.getD D.2.1.1 (Int.toNat D.1) (0,0,0,0);if decide h=true then A.ab (0<=D.1/\h) (A.bind (ls (b.1,0,9)) (λy=>A.bind (cq (!(!y)) (ls (b.2.1,0,9)) false) λb3=>A.bind (cq (!(!y||!b3)) (NL b.2.2) false) λdC=>if (!y||!b3||!dC)=true then A.bind (A.bind (A.pure false) (λr=>A.pure (V.done r))) λr=>A.pure (V.done r) else A.pure (V.next (IntKind.wrap .i64 (Add.add D.1 1),D.2.1,())))) else A.bind (A.pure (V.next (D.2.1,()))) λr=>A.pure (V.done r)) (0,x,())) (V.bz (λ(D:bj×Unit)=>A.bind (A.loop (λ(D:Int×bj×Unit)=>letI g:=D.1<Int.ofNat (List.length D.2.1.2.1);if decide g=true then A.bind (A.ab (0<=D.1/\g) (if decide (Int.ofNat (List.length (List.getD D.2.1.2.1 (Int.toNat D.1) [])) > 4)=true then A.bind (A.bind (A.bind (A.pure false) (λr=>A.pure (V.done r))) (λr=>A.pure (V.done r))) λr=>A.pure (V.done r) else A.loop (λ(D:Int×Int×bj×Unit)=>letI j:=D.2.2.1;letI e:=0<=D.1/\D.1<Int.ofNat (List.length j.2.1);letI d:=List.getD j.2.1 (Int.toNat D.1) [];letI i:=D.2.1<Int.ofNat (List.length d);A.ab e (if decide i=true then A.ab e (A.ab (0<=D.2.1/\i) (A.bind (ajH (List.getD d (Int.toNat D.2.1) (0,[],0,0))) (λy=>if (!y)=true then A.bind (A.bind (A.bind (A.bind (A.pure false) (λr=>A.pure (V.done r))) (λr=>A.pure (V.done r))) (λr=>A.pure (V.done r))) λr=>A.pure (V.done r) else A.pure (V.next (D.1,IntKind.wrap .i64 (Add.add D.2.1 1),j,()))))) else A.bind (A.pure (V.next (D.1,j,()))) λr=>A.pure (V.done r))) (D.1,0,D.2.1,()))) (V.bz (λ(D:Int×bj×Unit)=>A.pure (V.next (IntKind.wrap .i64 (Add.add D.1 1),D.2.1,())))) else A.bind (A.pure (V.next (D.2.1,()))) λr=>A.pure (V.done r)) (0,D.1,())) (V.bz (λ(D:bj×Unit)=>A.bind (A.loop (λ(D:Int×bj×Unit)=>letI f:=D.1<Int.ofNat (List.length D.2.1.2.2.2);letI a:=List.getD D.2.1.2.2.2 (Int.toNat D.1) (0,0,0,0);if decide f=true then A.ab (0<=D.1/\f) (A.bind (ajF (D.2.1,a.1)) (λy=>A.bind (cq (!(!y)) (ajG (D.2.1,a.2.1,a.2.2.1)) false) λb3=>A.bind (cq (!(!y||!b3)) (ls (a.2.2.2,0,1)) false) λdC=>if (!y||!b3||!dC)=true then A.bind (A.bind (A.pure false) (λr=>A.pure (V.done r))) λr=>A.pure (V.done r) else A.pure (V.next (IntKind.wrap .i64 (Add.add D.1 1),D.2.1,())))) else A.bind (A.pure (V.next ())) λr=>A.pure (V.done r)) (0,D.1,())) (V.bz (λ(D:Unit)=>A.pure true))))))
def NM(ls:Int×Int×Int->A Bool)(x:Int×Int):A Bool:=
 A.bind (ls (x.1,0,x.2)) λy=>A.pure (y&&decide (x.2<=999))
def NN(ajI:z1'->A Bool)(ls:Int×Int×Int->A Bool)(NL:Int×Int->A Bool)(x:Int×z1'×Int×Int):A Bool:=
 A.bind (A.loop (λ(D:Int×(Int×z1'×Int×Int)×Unit)=>letI b:=D.1<Int.ofNat (List.length D.2.1.2.1);if decide b=true then A.ab (0<=D.1/\b) (A.bind (ls (List.getD D.2.1.2.1 (Int.toNat D.1) 0,0,9)) (λy=>if (!y)=true then A.bind (A.bind (A.pure false) (λr=>A.pure (V.done r))) λr=>A.pure (V.done r) else A.pure (V.next (IntKind.wrap .i64 (Add.add D.1 1),D.2.1,())))) else A.bind (A.pure (V.next (D.2.1,()))) λr=>A.pure (V.done r)) (0,x,())) (V.bz (λ(D:(Int×z1'×Int×Int)×Unit)=>A.bind (ls (D.1.1,0,9)) λy=>letI a:=y&&decide (Int.ofNat (List.length D.1.2.1)<=4);A.bind (cq a (ajI D.1.2.1) false) λb3=>A.bind (cq (a&&b3) (NL D.1.2.2) false) λdC=>A.pure (a&&b3&&dC)))
def VJ(ayb:Int×Int->A (Int×Int))(ajJ:Int×Int->A (Int×Int))(x:Int×Int):A (Int×Int):=
 A.bind (ajJ x) λy=>A.pure y
def VK(ajK:z1'×Int->A Int)(x:z1'×Int):A Bool:=
 A.bind (ajK x) λy=>A.pure (decide (y>=0))
def VL(x:Int×Int):A (Int×Int):=
 A.ab ((0:Int)<=32) (A.ab ((0:Int)<=32) (A.ab ((0:Int)<=32) (A.ab ((0:Int)<=32) (A.ab ((0:Int)<=32) (A.pure (IntKind.wrap .u64 (Add.add (IntKind.wrap .u64 (Add.add (IntKind.wrap .u64 (ji .u64 x.1 32*ji .u64 x.2 32)) (ji .u64 (IntKind.wrap .u64 (Add.add (IntKind.wrap .u64 (ji .u64 x.1 32*lK .u64 x.2 4294967295)) (ji .u64 (IntKind.wrap .u64 (lK .u64 x.1 4294967295*lK .u64 x.2 4294967295)) 32))) 32))) (ji .u64 (IntKind.wrap .u64 (Add.add (lK .u64 (IntKind.wrap .u64 (Add.add (IntKind.wrap .u64 (ji .u64 x.1 32*lK .u64 x.2 4294967295)) (ji .u64 (IntKind.wrap .u64 (lK .u64 x.1 4294967295*lK .u64 x.2 4294967295)) 32))) 4294967295) (IntKind.wrap .u64 (lK .u64 x.1 4294967295*ji .u64 x.2 32)))) 32)),IntKind.wrap .u64 (x.1*x.2)))))))
def NO(x:z1'×Int):A Int:=
 A.bind (A.loop (λ(D:z1'×Int×Int×Int×Unit)=>letI a:=D.2.2.2.1;if decide (a<D.2.2.1)=true then A.ab (0<=a/\a<Int.ofNat (List.length D.1)) (if decide (D.2.1=List.getD D.1 (Int.toNat a) 0)=true then A.bind (A.bind (A.pure a) (λr=>A.pure (V.done r))) λr=>A.pure (V.done r) else A.pure (V.next (D.1,D.2.1,D.2.2.1,IntKind.wrap .i64 (Add.add a 1),()))) else A.bind (A.pure (V.next ())) λr=>A.pure (V.done r)) (x.1,x.2,Int.ofNat (List.length x.1),0,())) (V.bz (λ(D:Unit)=>A.pure (-1)))
def NP(ajL:z2'×List (List (Int×z1'×Int×Int))×Int×z2'->A Bool)(x:z2'×List (List (Int×z1'×Int×Int))×Int×z2'):A Int:=
 A.bind (ajL x) λy=>if (!y)=true then A.pure 70 else A.bind (A.loop (λ(D:z2'×Int×Int×z5'×Unit)=>letI c:=D.2.2.1;letI a:=List.getD D.1 (Int.toNat c) (0,0,0,0);letI b:=Option.map (λx=>x.2) (List.find? (λp=>decide (a.1=p.1.1)&&(decide (a.2.1=p.1.2.1)&&decide (a.2.2.1=p.1.2.2))) D.2.2.2.1);if decide (c<D.2.1)=true then A.ab (0<=c/\c<Int.ofNat (List.length D.1)) (if (Option.isSome b&&decide (Option.getD b 0≠a.2.2.2))=true then A.bind (A.bind (A.pure 71) (λr=>A.pure (V.done r))) λr=>A.pure (V.done r) else A.pure (V.next (D.1,D.2.1,IntKind.wrap .i64 (Add.add c 1),vy D.2.2.2.1 (a.1,a.2.1,a.2.2.1) a.2.2.2,()))) else A.bind (A.pure (V.next ())) λr=>A.pure (V.done r)) (x.2.2.2,Int.ofNat (List.length x.2.2.2),0,[],())) (V.bz (λ(D:Unit)=>A.pure 0))
def NQ(mv:bj×Bool->A (Option qt×Int))(iq:bj×Int->A Bool)(x:bj×Int):A ((Int×Int)×Int):=
 letI a:=Int.toNat x.2;A.ab (iq x).ck (A.ab (mv (x.1,A.val (iq x) false)).ck (if decide ((A.val (mv (x.1,A.val (iq x) false)) (none,0)).2≠0)=true then A.pure ((0,0),(A.val (mv (x.1,A.val (iq x) false)) (none,0)).2) else A.ab (Option.isSome (A.val (mv (x.1,A.val (iq x) false)) (none,0)).1=true) (A.ab (0<=x.2/\x.2<Int.ofNat (List.length (Option.getD (A.val (mv (x.1,A.val (iq x) false)) (none,0)).1 (([],[],0,[]),[])).2)) (A.ab ((0:Int)<=0/\0<Int.ofNat (List.length (List.getD (Option.getD (A.val (mv (x.1,A.val (iq x) false)) (none,0)).1 (([],[],0,[]),[])).2 a []))) (A.ab (0<=IntKind.wrap .i64 (Int.ofNat (List.length (List.getD (Option.getD (A.val (mv (x.1,A.val (iq x) false)) (none,0)).1 (([],[],0,[]),[])).2 a []))-1)/\IntKind.wrap .i64 (Int.ofNat (List.length (List.getD (Option.getD (A.val (mv (x.1,A.val (iq x) false)) (none,0)).1 (([],[],0,[]),[])).2 a []))-1)<Int.ofNat (List.length (List.getD (Option.getD (A.val (mv (x.1,A.val (iq x) false)) (none,0)).1 (([],[],0,[]),[])).2 a []))) (A.pure ((List.getD (List.getD (Option.getD (A.val (mv (x.1,A.val (iq x) false)) (none,0)).1 (([],[],0,[]),[])).2 a []) (Int.toNat 0) 0,List.getD (List.getD (Option.getD (A.val (mv (x.1,A.val (iq x) false)) (none,0)).1 (([],[],0,[]),[])).2 a []) (Int.toNat (IntKind.wrap .i64 (Int.ofNat (List.length (List.getD (Option.getD (A.val (mv (x.1,A.val (iq x) false)) (none,0)).1 (([],[],0,[]),[])).2 a []))-1))) 0),0)))))))
def NR(mv:bj×Bool->A (Option qt×Int))(iq:bj×Int->A Bool)(x0:bj×Int×Int->A Bool)(ajM:Option qt×Int×Int×Int->A Int)(x:bj×Int×Int×Int):A (Int×Int):=
 letI b:=(x.1,x.2.2);letI a:=(x.1,x.2.1);A.ab (iq a).ck (A.ab (A.val (iq a) false=true->(A.val (iq a) false=true/\A.val (iq a) false=true/\A.val (iq a) false=true/\True)/\(x0 b).ck/\True) (A.ab (True/\(A.val (iq a) false=true->A.val (iq a) false=true)) (A.ab (mv (x.1,A.val (iq a) false&&A.val (x0 b) false)).ck (if decide ((A.val (mv (x.1,A.val (iq a) false&&A.val (x0 b) false)) (none,0)).2≠0)=true then A.pure (0,(A.val (mv (x.1,A.val (iq a) false&&A.val (x0 b) false)) (none,0)).2) else A.bind (ajM ((A.val (mv (x.1,A.val (iq a) false&&A.val (x0 b) false)) (none,0)).1,x.2)) λy=>A.pure (y,0)))))
def VM(oQ:Int×Int×Int->A Bool)(ajN:z2'×(Int×Int×Int×Int->A Bool)->A Bool)(ajO:List (List (Int×z1'×Int×Int))×(List (Int×z1'×Int×Int)->A Bool)->A Bool)(NS:z2'×(Int×Int×Int×Int->A Bool)->A Bool)(ajP:List (Int×z1'×Int×Int)×Option (Int×z1'×Int×Int->A Bool)->A Bool)(ajQ:(Int×Int×Int×Int)×Option bj->A Bool)(ajR:Int×Int×Int×Int->A Bool)(ajS:Int×z1'×Int×Int->A Bool)(x:z2'×List (List (Int×z1'×Int×Int))×Int×z2'):A Bool:=
 letI c:=decide (Int.ofNat (List.length x.1)<=10);A.bind (cq c (ajN (x.1,ajR)) false) λy=>letI a:=c&&y&&decide (Int.ofNat (List.length x.2.1)<=6);A.bind (cq a (ajO (x.2.1,λx=>ajP (x,some ajS))) false) λb3=>A.bind (cq (a&&b3) (oQ (x.2.2.1,0,99)) false) λdC=>letI b:=a&&b3&&dC&&decide (Int.ofNat (List.length x.2.2.2)<=30);A.bind (cq b (NS (x.2.2.2,λhy=>ajQ (hy,some x))) false) λgD=>A.pure (b&&gD)
def NT(DV:z2'×List (List (Int×z1'×Int×Int))×Int×z2'->A Int)(NS:z2'×(Int×Int×Int×Int->A Bool)->A Bool)(ajT:(Int×Int×Int×Int)×Option Int×Option bj×Option Int->A Bool)(x:bj×Bool):A (Option qt×Int):=
 A.bind (DV x.1) λy=>if decide (y≠0)=true then A.pure (none,y) else if (!x.2)=true then A.pure (none,1) else A.bind (A.loop (λ(D:z2'×Int×Int×bj×z2'×List (List (Int×z1'×Int×Int))×Int×z2'×List (z1')×Unit)=>letI i:=D.2.2.1;letI g:=List.getD D.1 (Int.toNat i) (0,0,0,0);letI c:=D.2.2.2.2;if decide (i<D.2.1)=true then A.bind (A.ab (0<=i/\i<Int.ofNat (List.length D.1)) (A.bind (A.loop (λ(D:z2'×Int×Int×bj×Int×(Int×Int×Int×Int)×z1'×Int×z2'×List (List (Int×z1'×Int×Int))×Int×z2'×List (z1')×Unit)=>letI d:=D.2.2.2;letI a:=d.2.2.2;letI j:=a.2.2;letI e:=j.2.2;if decide (a.2.1<=d.2.2.1.2.2.2)=true then A.bind (A.bind (NS (d.1.2.2.2,λx=>ajT (x,some d.2.1,some d.1,some a.2.1))) (λy=>if y=true then A.ab (bM (Add.add (List.length a.1) (Add.add 0 1))) (A.pure (V.next (D.1,D.2.1,D.2.2.1,d.1,d.2.1,d.2.2.1,a.1++[a.2.1],a.2.1,j.1,j.2.1,e.1,e.2.1,e.2.2.1,()))) else A.pure (V.next (D.1,D.2.1,D.2.2.1,d.1,d.2.1,d.2.2.1,a.1,a.2.1,j.1,j.2.1,e.1,e.2.1,e.2.2.1,())))) (V.bz (λ(D:z2'×Int×Int×bj×Int×(Int×Int×Int×Int)×z1'×Int×z2'×List (List (Int×z1'×Int×Int))×Int×z2'×List (z1')×Unit)=>letI k:=D.2.2.2;letI b:=k.2.2.2;A.pure (V.next (D.1,D.2.1,D.2.2.1,k.1,k.2.1,k.2.2.1,b.1,IntKind.wrap .i64 (Add.add b.2.1 1),b.2.2.1,b.2.2.2.1,b.2.2.2.2.1,b.2.2.2.2.2.1,b.2.2.2.2.2.2.1,())))) else A.bind (A.pure (V.next (D.1,D.2.1,D.2.2.1,d.1,a.1,j.1,j.2.1,e.1,e.2.1,e.2.2.1,()))) λr=>A.pure (V.done r)) (D.1,D.2.1,i,D.2.2.2.1,i,g,[],g.2.2.1,c.1,c.2.1,c.2.2.1,c.2.2.2.1,c.2.2.2.2.1,())) (V.bz (λ(D:z2'×Int×Int×bj×z1'×z2'×List (List (Int×z1'×Int×Int))×Int×z2'×List (z1')×Unit)=>letI f:=D.2.2.2.2;if decide (Int.ofNat (List.length f.1)=0)=true then A.bind (A.bind (A.bind (A.pure (none,3)) (λr=>A.pure (V.done r))) (λr=>A.pure (V.done r))) λr=>A.pure (V.done r) else A.ab True (A.ab (bM (Add.add (List.length f.2.2.2.2.2.1) (Add.add 0 1))) (A.ab True (A.pure (V.next (D.1,D.2.1,D.2.2.1,D.2.2.2.1,f.2.1,f.2.2.1,f.2.2.2.1,f.2.2.2.2.1,f.2.2.2.2.2.1++[f.1],()))))))))) (V.bz (λ(D:z2'×Int×Int×bj×z2'×List (List (Int×z1'×Int×Int))×Int×z2'×List (z1')×Unit)=>letI h:=D.2.2.2.2;A.pure (V.next (D.1,D.2.1,IntKind.wrap .i64 (Add.add D.2.2.1 1),D.2.2.2.1,h.1,h.2.1,h.2.2.1,h.2.2.2.1,h.2.2.2.2.1,())))) else A.bind (A.pure (V.next (c.1,c.2.1,c.2.2.1,c.2.2.2.1,c.2.2.2.2.1,()))) λr=>A.pure (V.done r)) (x.1.1,Int.ofNat (List.length x.1.1),0,x.1,x.1.1,x.1.2.1,x.1.2.2.1,x.1.2.2.2,[],())) (V.bz (λ(D:z2'×List (List (Int×z1'×Int×Int))×Int×z2'×List (z1')×Unit)=>A.pure (some ((D.1,D.2.1,D.2.2.1,D.2.2.2.1),D.2.2.2.2.1),0)))
def ajU(oQ:Int×Int×Int->A Bool)(x:bj×Int):A Bool:=
 A.bind (oQ (x.2,0,IntKind.wrap .i64 (Int.ofNat (List.length x.1.1)-1))) λy=>A.pure y
def VN(oQ:Int×Int×Int->A Bool)(x:bj×Int×Int):A Bool:=
 letI a:=Int.ofNat (List.length x.1.2.1);A.bind (oQ (x.2.1,0,IntKind.wrap .i64 (a-1))) λy=>A.ab (y=true->(y=true/\y=true)/\(0<=x.2.1/\x.2.1<a)/\True) (A.bind (cq y (oQ (x.2.2,0,IntKind.wrap .i64 (Int.ofNat (List.length (List.getD x.1.2.1 (Int.toNat x.2.1) []))-1))) false) (λb3=>A.pure (y&&b3)))
def NU(HJ:bj×Int×Int×Int×Int->A Bool)(ajV:Int×Int->A Int)(x:Option qt×Int×Int×Int):A Int:=
 letI b:=(Option.getD x.1 (([],[],0,[]),[])).2;letI e:=List.getD b (Int.toNat x.2.1) [];A.bind (A.ab (Option.isSome x.1=true) (A.ab (0<=x.2.1/\x.2.1<Int.ofNat (List.length b)) (A.loop (λ(D:Option qt×Int×Int×Int×Int×z1'×Int×Int×Unit)=>letI c:=D.2.2.2;letI a:=c.2.2;letI f:=a.2.2.1;if decide (f<a.2.1)=true then A.bind (A.ab (0<=f/\f<Int.ofNat (List.length a.1)) (A.ab (Option.isSome D.1=true) (A.bind (HJ ((Option.getD D.1 (([],[],0,[]),[])).1,D.2.1,List.getD a.1 (Int.toNat f) 0,D.2.2.1,c.1)) (λy=>if y=true then A.pure (V.next (D.1,D.2.1,D.2.2.1,c.1,IntKind.wrap .i64 (Add.add c.2.1 1),a.1,a.2.1,f,())) else A.pure (V.next (D.1,D.2.1,D.2.2.1,c.1,c.2.1,a.1,a.2.1,f,())))))) (V.bz (λ(D:Option qt×Int×Int×Int×Int×z1'×Int×Int×Unit)=>letI g:=D.2.2.2;A.pure (V.next (D.1,D.2.1,D.2.2.1,g.1,g.2.1,g.2.2.1,g.2.2.2.1,IntKind.wrap .i64 (Add.add g.2.2.2.2.1 1),())))) else A.bind (A.pure (V.next (D.1,D.2.1,c.2.1,()))) λr=>A.pure (V.done r)) (x.1,x.2.1,x.2.2.1,x.2.2.2,0,e,Int.ofNat (List.length e),0,())))) (V.bz (λ(D:Option qt×Int×Int×Unit)=>letI d:=(Option.getD D.1 (([],[],0,[]),[])).2;A.ab (Option.isSome D.1=true) (A.ab (0<=D.2.1/\D.2.1<Int.ofNat (List.length d)) (A.bind (ajV (D.2.2.1,Int.ofNat (List.length (List.getD d (Int.toNat D.2.1) [])))) (λy=>A.pure y)))))
def ajW(x:z1'):A Bool:=
 A.bind (A.loop (λ(D:z1'×Int×Unit)=>letI c:=D.2.1;letI b:=IntKind.wrap .i64 (c-1);letI a:=Int.ofNat (List.length D.1);if decide (c<a)=true then A.ab (0<=c/\c<a) (A.ab (0<=b/\b<a) (if decide (List.getD D.1 (Int.toNat c) 0<=List.getD D.1 (Int.toNat b) 0)=true then A.bind (A.bind (A.pure false) (λr=>A.pure (V.done r))) λr=>A.pure (V.done r) else A.pure (V.next (D.1,IntKind.wrap .i64 (Add.add c 1),())))) else A.bind (A.pure (V.next ())) λr=>A.pure (V.done r)) (x,1,())) (V.bz (λ(D:Unit)=>A.pure true))
def ajX(x:Int×Int×Int):A Bool:=
 A.pure (decide (x.2.1<=x.1)&&decide (x.1<=x.2.2))
def VO(DW:Int->A Bool)(NV:Int×Int->A Bool)(x:Int×Int×Int×Int):A Bool:=
 A.bind (DW x.1) λy=>A.bind (cq y (DW x.2.1) false) λb3=>A.bind (cq (y&&b3) (NV x.2.2) false) λdC=>A.pure (y&&b3&&dC)
def VP(oQ:Int×Int×Int->A Bool)(x:Int):A Bool:=
 A.bind (oQ (x,0,9)) λy=>A.pure y
def ajY(oQ:Int×Int×Int->A Bool)(x:Int×Int):A Bool:=
 A.bind (oQ (x.1,0,x.2)) λy=>A.pure (y&&decide (x.2<=999))
def VQ(ajZ:z1'->A Bool)(aj0:z1'×(Int->A Bool)->A Bool)(DW:Int->A Bool)(NV:Int×Int->A Bool)(x:Int×z1'×Int×Int):A Bool:=
 A.bind (DW x.1) λy=>letI a:=y&&decide (Int.ofNat (List.length x.2.1)<=4);A.bind (cq a (aj0 (x.2.1,DW)) false) λb3=>A.bind (cq (a&&b3) (ajZ x.2.1) false) λdC=>A.bind (cq (a&&b3&&dC) (NV x.2.2) false) λgD=>A.pure (a&&b3&&dC&&gD)
def VR(aj1:List (Int×z1'×Int×Int)×(Int×z1'×Int×Int->A Bool)->A Bool)(x:List (Int×z1'×Int×Int)×Option (Int×z1'×Int×Int->A Bool)):A Bool:=
 letI a:=decide (Int.ofNat (List.length x.1)<=4);A.bind (cq a (aj1 (x.1,Option.getD x.2 λx=>{ ck:=False,bL:=λx=>False })) false) λy=>A.pure (a&&y)
def VS(iq:bj×Int->A Bool)(x0:bj×Int×Int->A Bool)(oQ:Int×Int×Int->A Bool)(x:(Int×Int×Int×Int)×Option bj):A Bool:=
 letI a:=Option.getD x.2 ([],[],0,[]);A.bind (iq (a,x.1.1)) λy=>A.bind (cq y (x0 (a,x.1.2.1,x.1.2.2.1)) false) λb3=>A.bind (cq (y&&b3) (oQ (x.1.2.2.2,0,1)) false) λdC=>A.pure (y&&b3&&dC)
def VT(HJ:bj×Int×Int×Int×Int->A Bool)(x:(Int×Int×Int×Int)×Option Int×Option bj×Option Int):A Bool:=
 letI e:=Option.getD x.2.1 0;letI c:=decide (x.1.1≠e);letI b:=(Option.getD x.2.2.1 ([],[],0,[]),e,Option.getD x.2.2.2 0,x.1.2.1,x.1.2.2.1);letI a:=(!c)=true;letI d:=a->a/\True/\True;A.ab d (A.ab d (A.ab (a->(a/\a/\a/\a/\a/\True)/\(HJ b).ck/\True) (A.ab d (A.ab (a->(a/\True)/\True/\True) (A.ab (a->(a/\a)/\True/\True) (A.ab (True/\(c=false->a)) (A.pure (c||decide (A.val (HJ b) false=decide (x.1.2.2.2=1))))))))))
def VU(oQ:Int×Int×Int->A Bool)(hL:z1'×Int->A Bool)(x:bj×Int×Int×Int×Int):A Bool:=
 letI e:=x.2.2.2;letI c:=List.getD x.1.2.1 (Int.toNat e.1) [];letI b:=List.getD x.1.1 (Int.toNat x.2.1) (0,0,0,0);letI a:=List.getD c (Int.toNat e.2) (0,[],0,0);letI d:=decide (b.1=a.1);A.ab (0<=x.2.1/\x.2.1<Int.ofNat (List.length x.1.1)) (A.ab (0<=e.1/\e.1<Int.ofNat (List.length x.1.2.1)) (A.ab (0<=e.2/\e.2<Int.ofNat (List.length c)) (A.bind (cq d (hL (a.2.1,b.2.1)) false) (λy=>A.bind (cq (d&&y) (oQ (x.2.2.1,a.2.2.1,IntKind.wrap .i64 (Add.add a.2.2.2 x.1.2.2.1))) false) λb3=>A.pure (d&&y&&b3)))))
def VV(x:Int×Int):A Int:=
 if decide (x.1=x.2)=true then A.pure 1 else if decide (x.1=0)=true then A.pure 2 else A.pure 3
def NW(NX:z2'×List (List (Int×z1'×Int×Int))×Int×z2'->A Int)(x:z2'×List (List (Int×z1'×Int×Int))×Int×z2'):A Bool:=
 if (decide (Int.ofNat (List.length x.1) > 40)||decide (Int.ofNat (List.length x.2.1) > 40)||decide (Int.ofNat (List.length x.2.2.2) > 60))=true then A.pure true else A.bind (A.loop (λ(D:Int×bj×Unit)=>letI e:=D.1<Int.ofNat (List.length D.2.1.2.1);if decide e=true then A.bind (A.ab (0<=D.1/\e) (if decide (Int.ofNat (List.length (List.getD D.2.1.2.1 (Int.toNat D.1) [])) > 20)=true then A.bind (A.bind (A.bind (A.pure true) (λr=>A.pure (V.done r))) (λr=>A.pure (V.done r))) λr=>A.pure (V.done r) else A.loop (λ(D:Int×Int×bj×Unit)=>letI g:=D.2.2.1;letI c:=0<=D.1/\D.1<Int.ofNat (List.length g.2.1);letI a:=List.getD g.2.1 (Int.toNat D.1) [];letI f:=D.2.1<Int.ofNat (List.length a);A.ab c (if decide f=true then A.ab c (A.ab (0<=D.2.1/\f) (if decide (Int.ofNat (List.length (List.getD a (Int.toNat D.2.1) (0,[],0,0)).2.1) > 20)=true then A.bind (A.bind (A.bind (A.bind (A.pure true) (λr=>A.pure (V.done r))) (λr=>A.pure (V.done r))) (λr=>A.pure (V.done r))) λr=>A.pure (V.done r) else A.pure (V.next (D.1,IntKind.wrap .i64 (Add.add D.2.1 1),g,())))) else A.bind (A.pure (V.next (D.1,g,()))) λr=>A.pure (V.done r))) (D.1,0,D.2.1,()))) (V.bz (λ(D:Int×bj×Unit)=>A.pure (V.next (IntKind.wrap .i64 (Add.add D.1 1),D.2.1,())))) else A.bind (A.pure (V.next (D.2.1,()))) λr=>A.pure (V.done r)) (0,x,())) (V.bz (λ(D:bj×Unit)=>A.bind (NX D.1) λy=>if decide (y≠0)=true then A.pure false else A.bind (A.loop (λ(D:Int×bj×Unit)=>letI d:=(List.getD D.2.1.1 (Int.toNat D.1) (0,0,0,0)).2.2;letI b:=D.1<Int.ofNat (List.length D.2.1.1);if decide b=true then A.ab (0<=D.1/\b) (A.ab (0<=D.1/\b) (if decide (IntKind.wrap .i64 (d.2-d.1)>=50)=true then A.bind (A.bind (A.pure true) (λr=>A.pure (V.done r))) λr=>A.pure (V.done r) else A.pure (V.next (IntKind.wrap .i64 (Add.add D.1 1),D.2.1,())))) else A.bind (A.pure (V.next (D.2.1,()))) λr=>A.pure (V.done r)) (0,D.1,())) (V.bz (λ(D:bj×Unit)=>A.pure (decide (Int.ofNat (List.length D.1.1) > 6)||decide (Int.ofNat (List.length D.1.2.1) > 4)||decide (Int.ofNat (List.length D.1.2.2.2) > 10))))))
def aj2(x:Unit):A bj:=
 A.pure ([(1,2,300,310),(1,3,305,305),(2,1,50,60),(1,2,320,330)],[[(1,[2,3],300,306),(2,[1],40,58)],[(1,[2],310,326)]],5,[(0,1,0,0)])
abbrev c1:Type:=Int×Int×Int×Int×z1'
abbrev dm:Type:=z1'×(Int×Int)×Int×Int×Int
abbrev rr:Type:=Int×Int×Int
abbrev bp:Type:=bj×z1'×List c1×List dm×List rr×Int
abbrev dy:Type:=bp×z4'×z5'
def VW(aj3:z2'×List (List (Int×z1'×Int×Int))×Int×z2'->A bj)(x:bp):A (bp):=
 letI p:=x.2.2.2;A.bind (aj3 x.1) λy=>A.ab (bM (Add.add 0 (List.length x.2.1))) (A.ab (bM (Add.add 0 (List.length x.2.2.1))) (A.ab (bM (Add.add 0 (List.length p.1))) (A.ab (bM (Add.add 0 (List.length p.2.1))) (A.bind (A.loop (λ(D:Int×(bj×z1'×List (Int×Int×Int×Int×z1')×List dm×z3'×Int)×Int×Int×z2'×List (List (Int×z1'×Int×Int))×Int×z2'×Int×z1'×List c1×List dm×z3'×Unit)=>letI m:=Int.toNat D.1;letI e:=(List.getD D.2.1.2.2.1 m (0,0,0,0,[])).2.2.2.2;letI d:=D.2.2.2.2;letI a:=d.2.2.2.2;letI o:=a.2.2;letI k:=D.1<Int.ofNat (List.length o.1);letI c:=List.getD o.1 m (0,0,0,0,[]);if decide k=true then A.ab (0<=D.1/\D.1<Int.ofNat (List.length D.2.1.2.2.1)) (A.ab (bM (Add.add 0 (List.length e))) (A.ab (0<=D.1/\k) (A.pure (V.next (IntKind.wrap .i64 (Add.add D.1 1),D.2.1,D.2.2.1,D.2.2.2.1,d.1,d.2.1,d.2.2.1,d.2.2.2.1,a.1,a.2.1,List.set o.1 m (c.1,c.2.1,c.2.2.1,c.2.2.2.1,[]++e),o.2.1,o.2.2.1,()))))) else A.bind (A.pure (V.next (D.2.1,D.2.2.1,D.2.2.2.1,d.1,d.2.1,d.2.2.1,d.2.2.2.1,a.1,a.2.1,o.1,o.2.1,o.2.2.1,()))) λr=>A.pure (V.done r)) (0,x,0,0,y.1,y.2.1,y.2.2.1,y.2.2.2,p.2.2,[]++x.2.1,[]++x.2.2.1,[]++p.1,[]++p.2.1,())) (V.bz (λ(D:(bj×z1'×List c1×List (z1'×(Int×Int)×Int×Int×Int)×z3'×Int)×Int×Int×z2'×List (List (Int×z1'×Int×Int))×Int×z2'×Int×z1'×List c1×List dm×z3'×Unit)=>letI g:=D.2.2.2.2.2;A.bind (A.loop (λ(D:Int×(bj×z1'×List c1×List (z1'×(Int×Int)×Int×Int×Int)×z3'×Int)×Int×Int×z2'×List (List (Int×z1'×Int×Int))×Int×z2'×Int×z1'×List c1×List dm×z3'×Unit)=>letI n:=Int.toNat D.1;letI i:=D.2.2.2.2;letI f:=(List.getD D.2.1.2.2.2.1 n ([],(0,0),0,0,0)).1;letI b:=i.2.2.2;letI j:=b.2.2.2.2;letI l:=D.1<Int.ofNat (List.length j.1);if decide l=true then A.ab (0<=D.1/\D.1<Int.ofNat (List.length D.2.1.2.2.2.1)) (A.ab (bM (Add.add 0 (List.length f))) (A.ab (0<=D.1/\l) (A.pure (V.next (IntKind.wrap .i64 (Add.add D.1 1),D.2.1,D.2.2.1,D.2.2.2.1,i.1,i.2.1,i.2.2.1,b.1,b.2.1,b.2.2.1,b.2.2.2.1,List.set j.1 n ([]++f,(List.getD j.1 n ([],(0,0),0,0,0)).2),j.2.1,()))))) else A.bind (A.pure (V.next (D.2.2.1,D.2.2.2.1,i.1,i.2.1,i.2.2.1,b.1,b.2.1,b.2.2.1,b.2.2.2.1,j.1,j.2.1,()))) λr=>A.pure (V.done r)) (0,D.1,D.2.1,D.2.2.1,D.2.2.2.1,D.2.2.2.2.1,g.1,g.2.1,g.2.2.1,g.2.2.2.1,g.2.2.2.2.1,g.2.2.2.2.2.1,g.2.2.2.2.2.2.1,())) (V.bz (λ(D:Int×Int×z2'×List (List (Int×z1'×Int×Int))×Int×z2'×Int×z1'×List c1×List dm×z3'×Unit)=>letI h:=D.2.2.2.2.2;A.pure ((D.2.2.1,D.2.2.2.1,D.2.2.2.2.1,h.1),h.2.2.1,h.2.2.2.1,h.2.2.2.2.1,h.2.2.2.2.2.1,h.2.1)))))))))
def VX(aj4:bp×Bool->A (Int×Int))(x:bp):A (Int×Int):=
 A.bind (aj4 (x,true)) λy=>A.pure y
def VY(oR:bp×Bool->A (Option dy×Int))(aj5:Option dy->Prop)(aj6:Option dy->List (z1'))(NY:Option dy×z1'->A (z3'×Bool))(aj7:Option dy×z3'->A Bool)(NZ:Option dy×z3'->A Int)(x:bp):A (Int×Int):=
 A.bind (oR (x,true)) λy=>if decide (y.2≠0)=true then A.pure (0,y.2) else A.ab (aj5 y.1) (A.bind (jN (λ(D:Option (bp×z4'×z5')×Int×Unit) (y:z1')=>A.bind (A.bind (NY (D.1,y)) (λb3=>A.bind (cq (!(!b3.2)) (aj7 (D.1,b3.1)) false) λdC=>if (!b3.2||!dC)=true then A.pure (dj.normal,D.1,D.2.1,()) else A.bind (NZ (D.1,b3.1)) λgD=>if (decide (D.2.1=-1)||decide (gD<D.2.1))=true then A.pure (dj.normal,D.1,gD,()) else A.pure (dj.normal,D.1,D.2.1,()))) λp=>A.pure (p.1,p.2.1,p.2.2.1,())) (aj6 y.1) (y.1,-1,())) (λp=>letI a:=decide (p.2.2.1=-1)=true;sg (if a then A.pure (0,3) else A.pure (p.2.2.1,0)) (λid=>if id=0 then if a then A.pure (0,3) else A.pure (p.2.2.1,0) else A.fail) A.fail p.1))
def VZ(oR:bp×Bool->A (Option dy×Int))(DX:bp×Int->A Bool)(N0:z1'×Int×Unit->A (z1'×Unit))(Ao:Option dy×z1'->A Bool)(x:bp×Int):A (z1'×Int):=
 A.ab (DX x).ck (A.ab (oR (x.1,A.val (DX x) false)).ck (if decide ((A.val (oR (x.1,A.val (DX x) false)) (none,0)).2≠0)=true then A.pure ([],(A.val (oR (x.1,A.val (DX x) false)) (none,0)).2) else A.bind (N0 ([-1],Int.ofNat (List.length x.1.2.2.2.1),())) λy=>A.bind (A.loop (λ(D:Int×Option ((bj×z1'×List c1×List dm×z3'×Int)×z4'×z5')×Int×Int×z1'×z1'×Unit)=>letI b:=D.2.2.2;letI a:=List.set b.2.2.1 (Int.toNat D.1) b.1;if decide (b.1<D.2.2.1)=true then A.bind (A.ab (0<=D.1/\D.1<Int.ofNat (List.length b.2.2.1)) (A.bind (Ao (D.2.1,a)) (λy=>if y=true then A.ab (bM (Add.add (List.length b.2.1) (Add.add 0 1))) (A.pure (V.next (D.1,D.2.1,D.2.2.1,b.1,b.2.1++[b.1],a,()))) else A.pure (V.next (D.1,D.2.1,D.2.2.1,b.1,b.2.1,a,()))))) (V.bz (λ(D:Int×Option ((bj×z1'×List c1×List (z1'×(Int×Int)×Int×Int×Int)×z3'×Int)×z4'×z5')×Int×Int×z1'×z1'×Unit)=>A.pure (V.next (D.1,D.2.1,D.2.2.1,IntKind.wrap .i64 (Add.add D.2.2.2.1 1),D.2.2.2.2.1,D.2.2.2.2.2.1,())))) else A.bind (A.pure (V.next (b.2.1,()))) λr=>A.pure (V.done r)) (x.2,(A.val (oR (x.1,A.val (DX x) false)) (none,0)).1,Int.ofNat (List.length x.1.2.2.1),0,[],y.1,())) (V.bz (λ(D:z1'×Unit)=>A.pure (D.1,0)))))
def V0(DV:z2'×List (List (Int×z1'×Int×Int))×Int×z2'->A Int)(aj8:bp->A Bool)(x:bp):A Int:=
 A.bind (DV x.1) λy=>if decide (y≠0)=true then A.pure y else A.bind (aj8 x) λy=>if (!y)=true then A.pure 80 else A.pure 0
def V1(NX:z2'×List (List (Int×z1'×Int×Int))×Int×z2'->A Int)(n8:Int×Int×Int->A Bool)(V2:bp×Int×Int×Int×Int×z1'->A Bool)(aj9:z1'×(Int×Int)×Int×Int×Int->A Bool)(x:bp):A Int:=
 letI a:=decide (Int.ofNat (List.length x.2.1)≠Int.ofNat (List.length x.1.1))||decide (Int.ofNat (List.length x.2.2.1) > 8)||decide (Int.ofNat (List.length x.2.2.2.1) > 6)||decide (Int.ofNat (List.length x.2.2.2.2.1) > 8);A.bind (NX x.1) λy=>if decide (y≠0)=true then A.pure y else A.bind (cq (!a) (n8 (x.2.2.2.2.2,0,99)) false) λy=>if (a||!y)=true then A.pure 80 else A.bind (A.loop (λ(D:Int×(bj×z1'×List (Int×Int×Int×Int×z1')×List dm×z3'×Int)×Unit)=>letI g:=D.1<Int.ofNat (List.length D.2.1.2.1);if decide g=true then A.ab (0<=D.1/\g) (A.bind (n8 (List.getD D.2.1.2.1 (Int.toNat D.1) 0,0,10)) (λy=>if (!y)=true then A.bind (A.bind (A.pure 80) (λr=>A.pure (V.done r))) λr=>A.pure (V.done r) else A.pure (V.next (IntKind.wrap .i64 (Add.add D.1 1),D.2.1,())))) else A.bind (A.pure (V.next (D.2.1,()))) λr=>A.pure (V.done r)) (0,x,())) (V.bz (λ(D:(bj×z1'×List c1×List dm×z3'×Int)×Unit)=>A.bind (A.loop (λ(D:Int×(bj×z1'×List c1×List dm×z3'×Int)×Unit)=>letI f:=D.1<Int.ofNat (List.length D.2.1.2.2.1);letI c:=(D.2.1,List.getD D.2.1.2.2.1 (Int.toNat D.1) (0,0,0,0,[]));if decide f=true then A.ab (0<=D.1/\f) (A.ab (V2 c).ck (if (!(A.val (V2 c) false))=true then A.bind (A.bind (A.pure 80) (λr=>A.pure (V.done r))) λr=>A.pure (V.done r) else A.pure (V.next (IntKind.wrap .i64 (Add.add D.1 1),D.2.1,())))) else A.bind (A.pure (V.next (D.2.1,()))) λr=>A.pure (V.done r)) (0,D.1,())) (V.bz (λ(D:(bj×z1'×List c1×List (z1'×(Int×Int)×Int×Int×Int)×z3'×Int)×Unit)=>A.bind (A.loop (λ(D:Int×(bj×z1'×List c1×List (z1'×(Int×Int)×Int×Int×Int)×z3'×Int)×Unit)=>letI e:=D.1<Int.ofNat (List.length D.2.1.2.2.2.1);if decide e=true then A.ab (0<=D.1/\e) (A.bind (aj9 (List.getD D.2.1.2.2.2.1 (Int.toNat D.1) ([],(0,0),0,0,0))) (λy=>if (!y)=true then A.bind (A.bind (A.pure 80) (λr=>A.pure (V.done r))) λr=>A.pure (V.done r) else A.pure (V.next (IntKind.wrap .i64 (Add.add D.1 1),D.2.1,())))) else A.bind (A.pure (V.next (D.2.1,()))) λr=>A.pure (V.done r)) (0,D.1,())) (V.bz (λ(D:(bp)×Unit)=>A.bind (A.loop (λ(D:Int×(bj×z1'×List c1×List dm×z3'×Int)×Unit)=>letI d:=D.1<Int.ofNat (List.length D.2.1.2.2.2.2.1);letI b:=List.getD D.2.1.2.2.2.2.1 (Int.toNat D.1) (0,0,0);if decide d=true then A.ab (0<=D.1/\d) (A.bind (n8 (b.1,0,99)) (λy=>A.bind (cq (!(!y)) (n8 (b.2.1,0,IntKind.wrap .i64 (Int.ofNat (List.length D.2.1.1.1)-1))) false) λb3=>A.bind (cq (!(!y||!b3)) (n8 (b.2.2,1,10)) false) λdC=>if (!y||!b3||!dC)=true then A.bind (A.bind (A.pure 80) (λr=>A.pure (V.done r))) λr=>A.pure (V.done r) else A.pure (V.next (IntKind.wrap .i64 (Add.add D.1 1),D.2.1,())))) else A.bind (A.pure (V.next ())) λr=>A.pure (V.done r)) (0,D.1,())) (V.bz (λ(D:Unit)=>A.pure 0))))))))
def V3(oR:bp×Bool->A (Option dy×Int))(Ao:Option dy×z1'->A Bool)(Ap:bp×z1'->A Bool)(l0:Option dy×z1'->A Int)(x:bp×z1'):A (Int×Int):=
 A.ab (Ap x).ck (A.ab (oR (x.1,A.val (Ap x) false)).ck (if decide ((A.val (oR (x.1,A.val (Ap x) false)) (none,0)).2≠0)=true then A.pure (0,(A.val (oR (x.1,A.val (Ap x) false)) (none,0)).2) else A.bind (Ao ((A.val (oR (x.1,A.val (Ap x) false)) (none,0)).1,x.2)) λy=>if (!y)=true then A.pure (0,3) else A.bind (l0 ((A.val (oR (x.1,A.val (Ap x) false)) (none,0)).1,x.2)) λy=>A.pure (y,0)))
def V4(oR:bp×Bool->A (Option dy×Int))(aj_:Option dy->A (z1'))(l0:Option dy×z1'->A Int)(x:bp×Bool):A (Int×Int):=
 A.bind (oR x) λy=>if decide (y.2≠0)=true then A.pure (0,y.2) else A.bind (aj_ y.1) λb3=>A.bind (l0 (y.1,b3)) λy=>A.pure (y,0)
def N1(DY:bp->A Int)(HK:bj×Int->A ((Int×Int)×Int))(vz:bj×Int×Int×Int->A (Int×Int))(Aq:z4'×Int->A (z4'))(x:bp×Bool):A (Option dy×Int):=
 letI e1:=x.1.1.2;letI f1:=x.1.2.2;A.bind (DY x.1) λy=>if decide (y≠0)=true then A.pure (none,y) else if (!x.2)=true then A.pure (none,1) else A.bind (if decide (Int.ofNat (List.length x.1.2.1) > 0)=true then A.bind (HK (x.1.1,0)) λy=>if decide (y.2≠0)=true then A.bind (A.pure (none,y.2)) λr=>A.pure (V.done r) else A.pure (V.next (x.1,[],x.1.1.1,e1.1,e1.2.1,e1.2.2,x.1.2.1,f1.1,f1.2.1,f1.2.2.1,f1.2.2.2,())) else A.pure (V.next (x.1,[],x.1.1.1,e1.1,e1.2.1,e1.2.2,x.1.2.1,f1.1,f1.2.1,f1.2.2.1,f1.2.2.2,()))) (V.bz (λ(D:(bj×z1'×List c1×List (z1'×(Int×Int)×Int×Int×Int)×z3'×Int)×z5'×z2'×List (List (Int×z1'×Int×Int))×Int×z2'×z1'×List c1×List (z1'×(Int×Int)×Int×Int×Int)×z3'×Int×Unit)=>letI t:=D.2.2.2.2.2;A.bind (A.loop (λ(D:Int×Int×(bj×z1'×List c1×List dm×z3'×Int)×z5'×z2'×List (List (Int×z1'×Int×Int))×Int×z2'×z1'×List c1×List (z1'×(Int×Int)×Int×Int×Int)×z3'×Int×Unit)=>letI bE:=D.2.2;letI h:=bE.2.2.2.2;letI g1:=h.2.2.2;if decide (D.2.1<D.1)=true then A.bind (A.loop (λ(D:Int×Int×Int×List (List (Int×z1'×Int×Int))×Int×Int×(bj×z1'×List c1×List (z1'×(Int×Int)×Int×Int×Int)×z3'×Int)×z5'×z2'×List (List (Int×z1'×Int×Int))×Int×z2'×z1'×List c1×List dm×z3'×Int×Unit)=>letI i1:=D.2.2.2;letI j:=i1.2.2;letI c:=j.2.2.2;letI o:=c.2.2.2.2;if decide (j.1<i1.2.1)=true then A.bind (A.ab (0<=j.1/\j.1<Int.ofNat (List.length i1.1)) (A.loop (λ(D:Int×Int×Int×Int×List (List (Int×z1'×Int×Int))×Int×Int×Int×Int×(bj×z1'×List c1×List dm×z3'×Int)×z5'×z2'×List (List (Int×z1'×Int×Int))×Int×z2'×z1'×List (Int×Int×Int×Int×z1')×List dm×z3'×Int×Unit)=>letI m1:=D.2.2;letI k:=m1.2.2;letI hR:=k.2.2;letI a:=hR.2.2;letI w:=a.2.2.2;letI f:=w.2.2.2;letI d1:=f.2.2.2;if decide (a.1<hR.2.1)=true then A.bind (A.bind (vz (a.2.1.1,D.1,D.2.1,a.1)) (λy=>if decide (y.1=1)=true then A.ab True (A.ab (True/\True/\True) (A.ab True (A.pure (V.next (D.1,D.2.1,m1.1,m1.2.1,k.1,k.2.1,hR.1,hR.2.1,a.1,a.2.1,vy a.2.2.1 (D.1,D.2.1,a.1) (IntKind.wrap .i64 (Add.add (Option.getD (Option.map (λx=>x.2) (List.find? (λp=>decide (D.1=p.1.1)&&(decide (D.2.1=p.1.2.1)&&decide (a.1=p.1.2.2))) a.2.2.1)) 0) 1)),w.1,w.2.1,w.2.2.1,f.1,f.2.1,f.2.2.1,d1.1,d1.2.1,d1.2.2.1,()))))) else A.pure (V.next (D.1,D.2.1,m1.1,m1.2.1,k.1,k.2.1,hR.1,hR.2.1,a.1,a.2.1,a.2.2.1,w.1,w.2.1,w.2.2.1,f.1,f.2.1,f.2.2.1,d1.1,d1.2.1,d1.2.2.1,())))) (V.bz (λ(D:Int×Int×Int×Int×List (List (Int×z1'×Int×Int))×Int×Int×Int×Int×bp×z5'×z2'×List (List (Int×z1'×Int×Int))×Int×z2'×z1'×List c1×List dm×z3'×Int×Unit)=>letI ax:=D.2.2.2.2.2;letI g:=ax.2.2.2.2;letI z:=g.2.2.2.2.2;A.pure (V.next (D.1,D.2.1,D.2.2.1,D.2.2.2.1,D.2.2.2.2.1,ax.1,ax.2.1,ax.2.2.1,IntKind.wrap .i64 (Add.add ax.2.2.2.1 1),g.1,g.2.1,g.2.2.1,g.2.2.2.1,g.2.2.2.2.1,z.1,z.2.1,z.2.2.1,z.2.2.2.1,z.2.2.2.2.1,z.2.2.2.2.2.1,())))) else A.bind (A.pure (V.next (D.1,m1.1,m1.2.1,k.1,k.2.1,hR.1,a.2.1,a.2.2.1,w.1,w.2.1,w.2.2.1,f.1,f.2.1,f.2.2.1,d1.1,d1.2.1,d1.2.2.1,()))) λr=>A.pure (V.done r)) (D.1,j.1,D.2.1,D.2.2.1,i1.1,i1.2.1,j.1,Int.ofNat (List.length (List.getD i1.1 (Int.toNat j.1) [])),0,j.2.1,j.2.2.1,c.1,c.2.1,c.2.2.1,c.2.2.2.1,o.1,o.2.1,o.2.2.1,o.2.2.2.1,o.2.2.2.2.1,()))) (V.bz (λ(D:Int×Int×Int×List (List (Int×z1'×Int×Int))×Int×Int×(bj×z1'×List c1×List dm×z3'×Int)×z5'×z2'×List (List (Int×z1'×Int×Int))×Int×z2'×z1'×List c1×List (z1'×(Int×Int)×Int×Int×Int)×z3'×Int×Unit)=>letI E:=D.2.2.2.2;letI i:=E.2.2.2.2;letI aO:=i.2.2.2.2;A.pure (V.next (D.1,D.2.1,D.2.2.1,D.2.2.2.1,E.1,IntKind.wrap .i64 (Add.add E.2.1 1),E.2.2.1,E.2.2.2.1,i.1,i.2.1,i.2.2.1,i.2.2.2.1,aO.1,aO.2.1,aO.2.2.1,aO.2.2.2.1,aO.2.2.2.2.1,())))) else A.bind (A.pure (V.next (D.2.1,D.2.2.1,j.2.1,j.2.2.1,c.1,c.2.1,c.2.2.1,c.2.2.2.1,o.1,o.2.1,o.2.2.1,o.2.2.2.1,o.2.2.2.2.1,()))) λr=>A.pure (V.done r)) (D.2.1,D.1,D.2.1,bE.1.1.2.1,Int.ofNat (List.length bE.1.1.2.1),0,bE.1,bE.2.1,bE.2.2.1,bE.2.2.2.1,h.1,h.2.1,h.2.2.1,g1.1,g1.2.1,g1.2.2.1,g1.2.2.2.1,())) (V.bz (λ(D:Int×Int×(bj×z1'×List c1×List (z1'×(Int×Int)×Int×Int×Int)×z3'×Int)×z5'×z2'×List (List (Int×z1'×Int×Int))×Int×z2'×z1'×List c1×List (z1'×(Int×Int)×Int×Int×Int)×z3'×Int×Unit)=>letI jJ:=D.2.2.2;letI m:=jJ.2.2.2;A.pure (V.next (D.1,IntKind.wrap .i64 (Add.add D.2.1 1),D.2.2.1,jJ.1,jJ.2.1,jJ.2.2.1,m.1,m.2.1,m.2.2.1,m.2.2.2.1,m.2.2.2.2.1,m.2.2.2.2.2.1,m.2.2.2.2.2.2.1,())))) else A.bind (A.pure (V.next (bE.1,bE.2.1,bE.2.2.1,bE.2.2.2.1,h.1,h.2.1,h.2.2.1,g1.1,g1.2.1,g1.2.2.1,g1.2.2.2.1,()))) λr=>A.pure (V.done r)) (Int.ofNat (List.length D.1.2.1),0,D.1,D.2.1,D.2.2.1,D.2.2.2.1,D.2.2.2.2.1,t.1,t.2.1,t.2.2.1,t.2.2.2.1,t.2.2.2.2.1,t.2.2.2.2.2.1,())) (V.bz (λ(D:(bj×z1'×List (Int×Int×Int×Int×z1')×List dm×z3'×Int)×z5'×z2'×List (List (Int×z1'×Int×Int))×Int×z2'×z1'×List (Int×Int×Int×Int×z1')×List dm×z3'×Int×Unit)=>letI u:=D.2.2.2.2.2;A.bind (A.loop (λ(D:z1'×Int×Int×(bj×z1'×List c1×List dm×z3'×Int)×z5'×z2'×List (List (Int×z1'×Int×Int))×Int×z2'×z1'×List (Int×Int×Int×Int×z1')×List dm×z3'×Int×z4'×Unit)=>letI l:=D.2.2;letI x1:=l.2.2.2;letI n:=List.getD D.1 (Int.toNat l.1) 0;letI d:=x1.2.2.2;letI b8:=d.2.2.2.2;if decide (l.1<D.2.1)=true then A.ab (0<=l.1/\l.1<Int.ofNat (List.length D.1)) (A.ab True (A.ab (Aq ([(l.1,0)],n)).ck (A.ab (bM (Add.add (List.length b8.2.2.1) (List.length (A.val (Aq ([(l.1,0)],n)) [])))) (A.ab True (A.pure (V.next (D.1,D.2.1,IntKind.wrap .i64 (Add.add l.1 1),l.2.1,l.2.2.1,x1.1,x1.2.1,x1.2.2.1,d.1,d.2.1,d.2.2.1,d.2.2.2.1,b8.1,b8.2.1,b8.2.2.1++A.val (Aq ([(l.1,0)],n)) [],()))))))) else A.bind (A.pure (V.next (l.2.1,l.2.2.1,x1.1,x1.2.1,x1.2.2.1,d.1,d.2.1,d.2.2.1,d.2.2.2.1,b8.1,b8.2.1,b8.2.2.1,()))) λr=>A.pure (V.done r)) (D.1.2.1,Int.ofNat (List.length D.1.2.1),0,D.1,D.2.1,D.2.2.1,D.2.2.2.1,D.2.2.2.2.1,u.1,u.2.1,u.2.2.1,u.2.2.2.1,u.2.2.2.2.1,u.2.2.2.2.2.1,[],())) (V.bz (λ(D:(bj×z1'×List c1×List (z1'×(Int×Int)×Int×Int×Int)×z3'×Int)×z5'×z2'×List (List (Int×z1'×Int×Int))×Int×z2'×z1'×List c1×List dm×z3'×Int×z4'×Unit)=>letI q:=D.2.2.2.2.2;A.bind (A.loop (λ(D:z3'×Int×Int×z5'×z2'×List (List (Int×z1'×Int×Int))×Int×z2'×z1'×List (Int×Int×Int×Int×z1')×List dm×z3'×Int×z4'×Unit)=>letI s:=D.2.2;letI ec:=s.2.2.2;letI e:=ec.2.2;letI dL:=e.2.2.2.2;letI b:=List.getD D.1 (Int.toNat s.1) (0,0,0);letI ds:=(b.2.1,b.1);if decide (s.1<D.2.1)=true then A.ab (0<=s.1/\s.1<Int.ofNat (List.length D.1)) (A.ab True (A.ab (Aq ([ds],b.2.2)).ck (A.ab (bM (Add.add (List.length dL.2.2.1) (List.length (A.val (Aq ([ds],b.2.2)) [])))) (A.ab True (A.pure (V.next (D.1,D.2.1,IntKind.wrap .i64 (Add.add s.1 1),s.2.1,s.2.2.1,ec.1,ec.2.1,e.1,e.2.1,e.2.2.1,e.2.2.2.1,dL.1,dL.2.1,dL.2.2.1++A.val (Aq ([ds],b.2.2)) [],()))))))) else A.bind (A.pure (V.next (s.2.1,s.2.2.1,ec.1,ec.2.1,e.1,e.2.1,e.2.2.1,e.2.2.2.1,dL.1,dL.2.1,dL.2.2.1,()))) λr=>A.pure (V.done r)) (D.1.2.2.2.2.1,Int.ofNat (List.length D.1.2.2.2.2.1),0,D.2.1,D.2.2.1,D.2.2.2.1,D.2.2.2.2.1,q.1,q.2.1,q.2.2.1,q.2.2.2.1,q.2.2.2.2.1,q.2.2.2.2.2.1,q.2.2.2.2.2.2.1,())) (V.bz (λ(D:z5'×z2'×List (List (Int×z1'×Int×Int))×Int×z2'×z1'×List (Int×Int×Int×Int×z1')×List dm×z3'×Int×z4'×Unit)=>letI v:=D.2.2.2.2.2;A.pure (some (((D.2.1,D.2.2.1,D.2.2.2.1,D.2.2.2.2.1),v.1,v.2.1,v.2.2.1,v.2.2.2.1,v.2.2.2.2.1),v.2.2.2.2.2.1,D.1),0)))))))))
def N2(HL:(z1'×(Int×Int)×Int×Int×Int)×Int×Int×Int×Int×z1'->A Int)(x:Option dy×z1'):A (z3'×Bool):=
 A.bind (A.loop (λ(D:Option ((bj×z1'×List c1×List dm×z3'×Int)×z4'×z5')×z1'×Int×Int×z3'×Unit)=>letI l:=D.2;letI g:=Option.isSome D.1=true;letI e:=l.2.2;letI j:=Int.toNat e.1;letI b:=List.getD l.1 j 0;letI a:=(Option.getD D.1 ((([],[],0,[]),[],[],[],[],0),[],[])).1.2.2;letI f:=List.getD a.1 (Int.toNat b) (0,0,0,0,[]);letI d:=List.getD a.2.1 j ([],(0,0),0,0,0);if decide (e.1<l.2.1)=true then A.bind (A.ab (0<=e.1/\e.1<Int.ofNat (List.length l.1)) (if decide (List.getD l.1 j (0:Int)<0)=true then A.pure (V.next (D.1,l.1,l.2.1,e.1,e.2.1,())) else A.ab g (A.ab (0<=e.1/\e.1<Int.ofNat (List.length a.2.1)) (A.ab g (A.ab (0<=b/\b<Int.ofNat (List.length a.1)) (A.bind (A.bind (HL (d,f)) (λy=>if decide (y=0)=true then A.bind (A.bind (A.bind (A.bind (A.pure ([],false)) (λr=>A.pure (V.done r))) (λr=>A.pure (V.done r))) (λr=>A.pure (V.done r))) λr=>A.pure (V.done r) else if decide (y=2)=true then A.ab g (A.pure (V.next (D.1,IntKind.wrap .i64 (d.2.2.2.1-a.2.2.2),l.1,l.2.1,e.1,e.2.1,f,()))) else A.pure (V.next (D.1,d.2.2.2.1,l.1,l.2.1,e.1,e.2.1,f,())))) (V.bz (λ(D:Option ((bj×z1'×List c1×List (z1'×(Int×Int)×Int×Int×Int)×z3'×Int)×z4'×z5')×Int×z1'×Int×Int×z3'×(Int×Int×Int×Int×z1')×Unit)=>letI h:=D.2.2.2.2;if decide (D.2.1<0)=true then A.bind (A.bind (A.bind (A.pure ([],false)) (λr=>A.pure (V.done r))) (λr=>A.pure (V.done r))) λr=>A.pure (V.done r) else A.loop (λ(D:Option ((bj×z1'×List c1×List dm×z3'×Int)×z4'×z5')×Int×z1'×Int×Int×z1'×Int×Int×z3'×(Int×Int×Int×Int×z1')×Unit)=>letI k:=D.2.2.2;letI c:=k.2.2;letI i:=c.2.2;if decide (i.1<c.2.1)=true then A.ab (0<=i.1/\i.1<Int.ofNat (List.length c.1)) (A.ab (bM (Add.add (List.length i.2.1) (Add.add 0 1))) (A.pure (V.next (D.1,D.2.1,D.2.2.1,k.1,k.2.1,c.1,c.2.1,IntKind.wrap .i64 (Add.add i.1 1),i.2.1++[(i.2.2.1.2.2.2.1,List.getD c.1 (Int.toNat i.1) 0,D.2.1)],i.2.2.1,())))) else A.bind (A.pure (V.next (D.1,D.2.2.1,k.1,k.2.1,i.2.1,()))) λr=>A.pure (V.done r)) (D.1,D.2.1,D.2.2.1,D.2.2.2.1,h.1,h.2.2.1.2.2.2.2,Int.ofNat (List.length h.2.2.1.2.2.2.2),0,h.2.1,h.2.2.1,()))))))))) (V.bz (λ(D:Option (bp×z4'×z5')×z1'×Int×Int×z3'×Unit)=>A.pure (V.next (D.1,D.2.1,D.2.2.1,IntKind.wrap .i64 (Add.add D.2.2.2.1 1),D.2.2.2.2.1,())))) else A.bind (A.pure (V.next (e.2.1,()))) λr=>A.pure (V.done r)) (x.1,x.2,Int.ofNat (List.length x.2),0,[],())) (V.bz (λ(D:z3'×Unit)=>A.pure (D.1,true)))
def N3(HM:Option dy×(Int×Int)×Int×Int×Int->A Bool)(x:Option dy×z3'):A Bool:=
 A.bind (A.loop (λ(D:Option ((bj×z1'×List c1×List dm×z3'×Int)×z4'×z5')×z3'×Int×Int×Unit)=>letI b:=D.2.2.2.1;if decide (b<D.2.2.1)=true then A.bind (A.ab (0<=b/\b<Int.ofNat (List.length D.2.1)) (A.bind (A.ab (Option.isSome D.1=true) (A.loop (λ(D:Option ((bp)×z4'×z5')×Bool×z3'×Int×Int×Int×Int×(Int×Int×Int)×Unit)=>letI a:=D.2.2.2.2;if decide (a.2.2.1<a.2.1)=true then A.bind (cq (!D.2.1) (HM (D.1,(a.2.2.1,0),a.2.2.2.1)) false) λy=>A.pure (V.next (D.1,D.2.1||y,D.2.2.1,D.2.2.2.1,a.1,a.2.1,IntKind.wrap .i64 (Add.add a.2.2.1 1),a.2.2.2.1,())) else A.bind (A.pure (V.next (D.1,D.2.1,D.2.2.1,D.2.2.2.1,a.1,()))) λr=>A.pure (V.done r)) (D.1,false,D.2.1,D.2.2.1,b,Int.ofNat (List.length (Option.getD D.1 ((([],[],0,[]),[],[],[],[],0),[],[])).1.2.1),0,List.getD D.2.1 (Int.toNat b) (0,0,0),()))) (V.bz (λ(D:Option ((bj×z1'×List c1×List (z1'×(Int×Int)×Int×Int×Int)×z3'×Int)×z4'×z5')×Bool×z3'×Int×Int×Unit)=>if (!D.2.1)=true then A.bind (A.bind (A.bind (A.pure false) (λr=>A.pure (V.done r))) (λr=>A.pure (V.done r))) λr=>A.pure (V.done r) else A.pure (V.next (D.1,D.2.2.1,D.2.2.2.1,D.2.2.2.2.1,())))))) (V.bz (λ(D:Option ((bj×z1'×List (Int×Int×Int×Int×z1')×List dm×z3'×Int)×z4'×z5')×z3'×Int×Int×Unit)=>A.pure (V.next (D.1,D.2.1,D.2.2.1,IntKind.wrap .i64 (Add.add D.2.2.2.1 1),())))) else A.bind (A.pure (V.next ())) λr=>A.pure (V.done r)) (x.1,x.2,Int.ofNat (List.length x.2),0,())) (V.bz (λ(D:Unit)=>A.pure true))
def N4(N0:z1'×Int×Unit->A (z1'×Unit))(N5:Option dy×z3'×Int×z4'×z1'×Unit->A (Bool×z4'×z1'×Unit))(x:Option dy×z3'):A Int:=
 A.ab (Option.isSome x.1=true) (A.bind (N0 ([-1],Int.ofNat (List.length (Option.getD x.1 ((([],[],0,[]),[],[],[],[],0),[],[])).2.1),())) (λy=>A.bind (A.loop (λ(D:Option ((bj×z1'×List c1×List (z1'×(Int×Int)×Int×Int×Int)×z3'×Int)×z4'×z5')×z3'×Int×Int×Int×z1'×Unit)=>letI a:=D.2.2.2;if decide (a.2.1<a.1)=true then A.bind (A.bind (N5 (D.1,D.2.1,a.2.1,[],a.2.2.1,())) (λy=>if (!y.1)=true then A.pure (V.next (D.1,D.2.1,IntKind.wrap .i64 (Add.add D.2.2.1 1),a.1,a.2.1,y.2.2.1,())) else A.pure (V.next (D.1,D.2.1,D.2.2.1,a.1,a.2.1,y.2.2.1,())))) (V.bz (λ(D:Option ((bj×z1'×List (Int×Int×Int×Int×z1')×List dm×z3'×Int)×z4'×z5')×z3'×Int×Int×Int×z1'×Unit)=>A.pure (V.next (D.1,D.2.1,D.2.2.1,D.2.2.2.1,IntKind.wrap .i64 (Add.add D.2.2.2.2.1 1),D.2.2.2.2.2.1,())))) else A.bind (A.pure (V.next (D.2.2.1,()))) λr=>A.pure (V.done r)) (x.1,x.2,0,Int.ofNat (List.length x.2),0,y.1,())) (V.bz (λ(D:Int×Unit)=>A.pure D.1))))
def V5(kC:Int×Int×Int->A Bool)(x:bp×Int):A Bool:=
 A.bind (kC (x.2,0,IntKind.wrap .i64 (Int.ofNat (List.length x.1.2.2.2.1)-1))) λy=>A.pure y
def aj'(x2:Int×Int->A (Int×Int))(x:z1'×Int):A (z1'):=
 A.bind (if decide (x.2<0)=true then A.ab False (A.ab False (A.pure (V.next (x.1,x.2,())))) else A.pure (V.next (x.1,x.2,()))) (V.bz (λ(D:z1'×Int×Unit)=>A.bind (x2 (IntKind.wrap .u64 (Int.ofNat (List.length D.1)),IntKind.wrap .u64 D.2.1)) λy=>A.bind (if (decide (y.1 > 0)||decide (y.2 > 9223372036854775807))=true then A.ab False (A.ab False (A.pure (V.next (D.1,y.2,())))) else A.pure (V.next (D.1,y.2,()))) (V.bz (λ(D:z1'×Int×Unit)=>letI b:=IntKind.wrap .i64 D.2.1;letI f:=Int.toNat b;letI e:=List.take (List.length (List.replicate f (0:Int))-0) D.1;A.ab (0<=b/\b=b/\bM f) (A.ab True (A.bind (A.loop (λ(D:Int×z1'×Unit)=>letI g:=Int.toNat D.1;letI c:=List.take g D.2.1;letI a:=Int.ofNat (List.length D.2.1);letI d:=Int.toNat a-g;if decide (D.1<a)=true then A.ab (0<=D.1/\D.1<=a/\a<=a) (A.ab ((0:Int)<=0/\0<=D.1/\D.1<=a) (A.ab True (A.pure (V.next (IntKind.wrap .i64 (Add.add D.1 (Int.ofNat (if d<=List.length c then d else List.length c))),c++List.take d c++List.drop (Add.add g (List.length (List.take d c))) D.2.1,()))))) else A.bind (A.pure (V.next (D.2.1,()))) λr=>A.pure (V.done r)) (Int.ofNat (if List.length (List.replicate f (0:Int))-0<=List.length D.1 then List.length (List.replicate f (0:Int))-0 else List.length D.1),[]++e++List.drop (Add.add 0 (List.length e)) (List.replicate f (0:Int)),())) (V.bz (λ(D:z1'×Unit)=>A.pure D.1))))))))
def V6(NY:Option dy×z1'->A (z3'×Bool))(NZ:Option dy×z3'->A Int)(x:Option dy×z1'):A Bool:=
 A.bind (NY x) λy=>A.bind (cq y.2 (NZ (x.1,y.1)) 0) λb3=>A.pure (y.2&&decide (b3=0))
def V7(DZ:Int->A Bool)(N6:z1'×(Int->A Bool)->A Bool)(aka:List c1×(Int×Int×Int×Int×z1'->A Bool)->A Bool)(akb:List dm×(z1'×(Int×Int)×Int×Int×Int->A Bool)->A Bool)(akc:z3'×(Int×Int×Int->A Bool)->A Bool)(akd:(Int×Int×Int×Int×z1')×Option bj->A Bool)(ake:(Int×Int×Int)×Option bj->A Bool)(akf:z1'×(Int×Int)×Int×Int×Int->A Bool)(akg:Int->A Bool)(x:bp):A Bool:=
 letI e:=x.2.2.2;letI b:=decide (Int.ofNat (List.length x.2.1)=Int.ofNat (List.length x.1.1));A.bind (cq b (N6 (x.2.1,akg)) false) λy=>letI d:=b&&!y&&decide (Int.ofNat (List.length x.2.2.1)<=8);A.bind (cq d (aka (x.2.2.1,λhy=>akd (hy,some x.1))) false) λb3=>letI a:=d&&!b3&&decide (Int.ofNat (List.length e.1)<=6);A.bind (cq a (akb (e.1,akf)) false) λdC=>letI c:=a&&!dC&&decide (Int.ofNat (List.length e.2.1)<=8);A.bind (cq c (akc (e.2.1,λhy=>ake (hy,some x.1))) false) λgD=>A.bind (cq (c&&!gD) (DZ e.2.2) false) λlu=>A.pure (c&&!gD&&lu)
def akh(x:Int×Int×Int):A Bool:=
 A.pure (decide (x.2.1<=x.1)&&decide (x.1<=x.2.2))
def V8(n8:Int×Int×Int->A Bool)(HN:z1'×Int->A Bool)(x:bp×Int×Int×Int×Int×z1'):A Bool:=
 letI c:=x.2.2.2.2;letI b:=Int.ofNat (List.length x.1.1.2.1);letI a:=(c.2,IntKind.wrap .i64 (Int.ofNat (List.length (List.getD x.1.1.2.1 (Int.toNat c.1) []))-1));A.bind (n8 (x.2.1,0,99)) λy=>A.bind (cq (!(!y)) (n8 (x.2.2.1,0,99)) false) λb3=>A.bind (cq (!(!y||!b3)) (n8 (x.2.2.2.1,0,99)) false) λdC=>A.bind (cq (!(!y||!b3||!dC)) (n8 (c.1,0,IntKind.wrap .i64 (b-1))) false) λgD=>if (!y||!b3||!dC||!gD)=true then A.pure false else A.ab (0<=c.1/\c.1<b) (A.ab (HN a).ck (A.pure (A.val (HN a) false)))
def V9(n8:Int×Int×Int->A Bool)(HN:z1'×Int->A Bool)(x:z1'×(Int×Int)×Int×Int×Int):A Bool:=
 A.bind (n8 (Int.ofNat (List.length x.1),1,8)) λy=>A.bind (cq y (HN (x.1,99)) false) λb3=>letI a:=y&&b3&&decide (0<=x.2.1.1)&&decide (x.2.1.1<=x.2.1.2)&&decide (x.2.1.2<=99);A.bind (cq a (n8 (x.2.2.1,0,99)) false) λdC=>A.bind (cq (a&&dC) (n8 (x.2.2.2.1,0,99)) false) λgD=>A.bind (cq (a&&dC&&gD) (n8 (x.2.2.2.2,0,100000)) false) λlu=>A.pure (a&&dC&&gD&&lu)
def V_(kC:Int×Int×Int->A Bool)(x:bp×Int):A Bool:=
 A.bind (kC (x.2,0,IntKind.wrap .i64 (Int.ofNat (List.length x.1.2.2.1)-1))) λy=>A.pure y
def V'(kC:Int×Int×Int->A Bool)(hL:z1'×Int->A Bool)(x:(z1'×(Int×Int)×Int×Int×Int)×Int×Int×Int×Int×z1'):A Int:=
 A.bind (hL (x.1.1,x.2.1)) λy=>A.bind (cq (!(!y)) (kC (x.2.2.1,x.1.2.1)) false) λb3=>if (!y||!b3)=true then A.pure 0 else if decide (x.2.2.2.1=x.1.2.2.1)=true then A.pure 1 else if decide (x.2.2.2.1=0)=true then A.pure 2 else A.pure 0
def N7(aki:z1'×Int->A (z1'))(Ao:Option dy×z1'->A Bool)(l0:Option dy×z1'->A Int)(akj:Option dy->Prop)(akk:Option dy->List (z1'))(x:Option dy):A (z1'):=
 A.ab (Option.isSome x=true) (A.bind (aki ([-1],Int.ofNat (List.length (Option.getD x ((([],[],0,[]),[],[],[],[],0),[],[])).1.2.2.2.1))) (λy=>A.ab (akj x) (A.bind (jN (λ(D:Option ((bj×z1'×List c1×List (z1'×(Int×Int)×Int×Int×Int)×z3'×Int)×z4'×z5')×z1'×Unit) (y:z1')=>letI b:=(D.1,y);letI a:=(D.1,D.2.1);A.bind (A.ab (l0 b).ck (A.ab (l0 a).ck (A.ab (decide (A.val (l0 b) 0 > A.val (l0 a) 0)=true->(decide (A.val (l0 b) 0 > A.val (l0 a) 0)=true/\decide (A.val (l0 b) 0 > A.val (l0 a) 0)=true/\True)/\(Ao b).ck/\True) (A.ab (True/\(decide (A.val (l0 b) 0 > A.val (l0 a) 0)=true->decide (A.val (l0 b) 0 > A.val (l0 a) 0)=true)) (if (decide (A.val (l0 b) 0 > A.val (l0 a) 0)&&A.val (Ao b) false)=true then A.pure (dj.normal,D.1,y,()) else A.pure (dj.normal,D.1,D.2.1,())))))) λp=>A.pure (p.1,p.2.1,p.2.2.1,())) (akk x) (x,y,())) (λp=>sg (A.pure p.2.2.1) (λid=>if id=0 then A.pure p.2.2.1 else A.fail) A.fail p.1))))
def Wa(akl:bp×Int->A Bool)(hL:z1'×Int->A Bool)(x:bp×z1'):A Bool:=
 A.bind (A.loop (λ(D:z1'×z1'×Int×Int×(bj×z1'×List c1×List (z1'×(Int×Int)×Int×Int×Int)×z3'×Int)×Unit)=>letI e:=D.2.2;letI b:=e.2.1;letI c:=Int.toNat b;letI f:=List.getD D.2.1 c 0;letI a:=decide (List.getD D.2.1 c (0:Int)≠-1);if decide (b<e.1)=true then A.ab (0<=b/\b<Int.ofNat (List.length D.2.1)) (A.bind (cq a (akl (e.2.2.1,f)) false) (λy=>letI d:=(a&&!(!y))=true;A.ab (d->(d/\True/\d)/\((0:Int)<=0/\0<=b/\b<=Int.ofNat (List.length D.1))/\True) (A.bind (cq (a&&!(!y)) (hL (List.take c D.1,f)) false) (λb3=>if (a&&(!y||b3))=true then A.bind (A.bind (A.pure false) (λr=>A.pure (V.done r))) λr=>A.pure (V.done r) else A.pure (V.next (D.1,D.2.1,e.1,IntKind.wrap .i64 (Add.add b 1),e.2.2.1,())))))) else A.bind (A.pure (V.next (D.1,e.2.2.1,()))) λr=>A.pure (V.done r)) (x.2,x.2,Int.ofNat (List.length x.2),0,x.1,())) (V.bz (λ(D:z1'×(bj×z1'×List c1×List dm×z3'×Int)×Unit)=>A.pure (decide (Int.ofNat (List.length D.1)=Int.ofNat (List.length D.2.1.2.2.2.1)))))
def N8(x:Option dy×z1'):A Int:=
 A.bind (A.loop (λ(D:Option ((bj×z1'×List c1×List dm×z3'×Int)×z4'×z5')×Int×z1'×Int×Int×Unit)=>letI c:=D.2.2;letI b:=(Option.getD D.1 ((([],[],0,[]),[],[],[],[],0),[],[])).1.2.2.2.1;letI a:=c.2.2.1;if decide (a<c.2.1)=true then A.bind (A.ab (0<=a/\a<Int.ofNat (List.length c.1)) (if decide (List.getD c.1 (Int.toNat a) (0:Int)≠-1)=true then A.ab (Option.isSome D.1=true) (A.ab (0<=a/\a<Int.ofNat (List.length b)) (A.pure (V.next (D.1,IntKind.wrap .i64 (Add.add D.2.1 (List.getD b (Int.toNat a) ([],(0,0),0,0,0)).2.2.2.2),c.1,c.2.1,a,())))) else A.pure (V.next (D.1,D.2.1,c.1,c.2.1,a,())))) (V.bz (λ(D:Option ((bj×z1'×List (Int×Int×Int×Int×z1')×List dm×z3'×Int)×z4'×z5')×Int×z1'×Int×Int×Unit)=>A.pure (V.next (D.1,D.2.1,D.2.2.1,D.2.2.2.1,IntKind.wrap .i64 (Add.add D.2.2.2.2.1 1),())))) else A.bind (A.pure (V.next (D.2.1,()))) λr=>A.pure (V.done r)) (x.1,0,x.2,Int.ofNat (List.length x.2),0,())) (V.bz (λ(D:Int×Unit)=>A.pure D.1))
def akm(x2:Int×Int->A (Int×Int))(x:z4'×Int):A (z4'):=
 A.bind (if decide (x.2<0)=true then A.ab False (A.ab False (A.pure (V.next (x.1,x.2,())))) else A.pure (V.next (x.1,x.2,()))) (V.bz (λ(D:z4'×Int×Unit)=>A.bind (x2 (IntKind.wrap .u64 (Int.ofNat (List.length D.1)),IntKind.wrap .u64 D.2.1)) λy=>A.bind (if (decide (y.1 > 0)||decide (y.2 > 9223372036854775807))=true then A.ab False (A.ab False (A.pure (V.next (D.1,y.2,())))) else A.pure (V.next (D.1,y.2,()))) (V.bz (λ(D:z4'×Int×Unit)=>letI b:=IntKind.wrap .i64 D.2.1;letI f:=Int.toNat b;letI d:=List.take (List.length (List.replicate f ((0:Int),(0:Int)))-0) D.1;A.ab (0<=b/\b=b/\bM f) (A.ab True (A.bind (A.loop (λ(D:Int×z4'×Unit)=>letI g:=Int.toNat D.1;letI c:=List.take g D.2.1;letI a:=Int.ofNat (List.length D.2.1);letI e:=Int.toNat a-g;if decide (D.1<a)=true then A.ab (0<=D.1/\D.1<=a/\a<=a) (A.ab ((0:Int)<=0/\0<=D.1/\D.1<=a) (A.ab True (A.pure (V.next (IntKind.wrap .i64 (Add.add D.1 (Int.ofNat (if e<=List.length c then e else List.length c))),c++List.take e c++List.drop (Add.add g (List.length (List.take e c))) D.2.1,()))))) else A.bind (A.pure (V.next (D.2.1,()))) λr=>A.pure (V.done r)) (Int.ofNat (if List.length (List.replicate f ((0:Int),(0:Int)))-0<=List.length D.1 then List.length (List.replicate f ((0:Int),(0:Int)))-0 else List.length D.1),[]++d++List.drop (Add.add 0 (List.length d)) (List.replicate f ((0:Int),(0:Int))),())) (V.bz (λ(D:z4'×Unit)=>A.pure D.1))))))))
def Wb(x:Option dy×(Int×Int)×Int×Int×Int):A Bool:=
 letI c:=decide (x.2.1.2<=x.2.2.2.2);letI a:=c=true;letI b:=a->a/\True/\True;A.ab (a->a/\Option.isSome x.1=true/\True) (A.ab b (A.ab b (A.ab b (A.ab b (A.ab b (A.ab (a->(a/\a/\a/\True)/\True/\True) (A.ab (a->(a/\a)/\True/\True) (A.ab (a->(a/\True)/\True/\True) (A.ab (True/\(a->a)) (A.pure (c&&decide (Option.getD (Option.map (λx=>x.2) (List.find? (λp=>decide (x.2.1.1=p.1.1)&&(decide (x.2.2.1=p.1.2.1)&&decide (x.2.2.2.1=p.1.2.2))) (Option.getD x.1 ((([],[],0,[]),[],[],[],[],0),[],[])).2.2)) (0:Int) > 0))))))))))))
def akn(x:Int×Int×Int):A Bool:=
 A.pure (decide (x.2.1<=x.1)&&decide (x.1<=x.2.2))
def Wc(kC:Int×Int×Int->A Bool)(vA:Int->A Bool)(N9:z1'×(Int->A Bool)->A Bool)(ako:Int×Option bj×Option (Int×Int×Int×Int×z1')->A Bool)(x:(Int×Int×Int×Int×z1')×Option bj):A Bool:=
 letI b:=Option.getD x.2 ([],[],0,[]);A.bind (vA x.1.1) λy=>A.bind (cq (!(!y)) (vA x.1.2.1) false) λb3=>A.bind (cq (!(!y||!b3)) (vA x.1.2.2.1) false) λdC=>letI a:=!y||!b3||!dC;A.bind (cq (!a) (kC (x.1.2.2.2.1,0,IntKind.wrap .i64 (Int.ofNat (List.length b.2.1)-1))) false) λgD=>A.bind (cq (!(a||!gD)) (N9 (x.1.2.2.2.2,λhy=>ako (hy,some b,some x.1))) false) λlu=>A.pure (a||!gD||!lu)
def Wd(kC:Int×Int×Int->A Bool)(x:Int):A Bool:=
 A.bind (kC (x,0,99)) λy=>A.pure y
def We(x:z1'×(Int->A Bool)):A Bool:=
 A.bind (A.loop (λ(D:z1'×(Int->A Bool)×z1'×Int×Int×Unit)=>letI e:=D.2.2;letI a:=e.2.2.1;letI d:=List.getD e.1 (Int.toNat a) 0;letI c:=IntKind.wrap .i64 (a-1);if decide (a<e.2.1)=true then A.ab (0<=a/\a<Int.ofNat (List.length e.1)) (A.bind (D.2.1 d) (λy=>letI b:=(!(!y)&&decide (a > 0))=true;A.ab (b->(b/\b)/\(0<=c/\c<Int.ofNat (List.length D.1))/\True) (if (!y||decide (a > 0)&&decide (d<=List.getD D.1 (Int.toNat c) 0))=true then A.bind (A.bind (A.pure false) (λr=>A.pure (V.done r))) λr=>A.pure (V.done r) else A.pure (V.next (D.1,D.2.1,e.1,e.2.1,IntKind.wrap .i64 (Add.add a 1),()))))) else A.bind (A.pure (V.next ())) λr=>A.pure (V.done r)) (x.1,x.2,x.1,Int.ofNat (List.length x.1),0,())) (V.bz (λ(D:Unit)=>A.pure true))
def Wf(kC:Int×Int×Int->A Bool)(x:Int×Option bj×Option (Int×Int×Int×Int×z1')):A Bool:=
 letI b:=(Option.getD x.2.1 ([],[],0,[])).2.1;letI a:=(Option.getD x.2.2 (0,0,0,0,[])).2.2.2.1;A.ab (0<=a/\a<Int.ofNat (List.length b)) (A.bind (kC (x.1,0,IntKind.wrap .i64 (Int.ofNat (List.length (List.getD b (Int.toNat a) []))-1))) (λy=>A.pure y))
def Wg(kC:Int×Int×Int->A Bool)(vA:Int->A Bool)(N9:z1'×(Int->A Bool)->A Bool)(DZ:Int->A Bool)(x:z1'×(Int×Int)×Int×Int×Int):A Bool:=
 A.bind (kC (Int.ofNat (List.length x.1),1,8)) λy=>A.bind (cq (!(!y)) (N9 (x.1,vA)) false) λb3=>A.bind (cq (!(!y||!b3)) (vA x.2.1.1) false) λdC=>A.bind (cq (!(!y||!b3||!dC)) (vA x.2.1.2) false) λgD=>letI a:=!y||!b3||!dC||!gD||decide (x.2.1.1 > x.2.1.2);A.bind (cq (!a) (vA x.2.2.1) false) λlu=>A.bind (cq (!(a||!lu)) (DZ x.2.2.2.1) false) λvC=>A.bind (cq (!(a||!lu||!vC)) (kC (x.2.2.2.2,0,100000)) false) λAr=>A.pure (a||!lu||!vC||!Ar)
def Wh(kC:Int×Int×Int->A Bool)(x:Int):A Bool:=
 A.bind (kC (x,0,99)) λy=>A.pure y
def Wi(kC:Int×Int×Int->A Bool)(DZ:Int->A Bool)(x:(Int×Int×Int)×Option bj):A Bool:=
 A.bind (DZ x.1.1) λy=>A.bind (cq (!(!y)) (kC (x.1.2.1,0,IntKind.wrap .i64 (Int.ofNat (List.length (Option.getD x.2 ([],[],0,[])).1)-1))) false) λb3=>A.bind (cq (!(!y||!b3)) (kC (x.1.2.2,1,10)) false) λdC=>A.pure (!y||!b3||!dC)
def Wj(kC:Int×Int×Int->A Bool)(x:Int):A Bool:=
 A.bind (kC (x,0,10)) λy=>A.pure (!y)
def Wk(x:z1'×Int):A Bool:=
 A.bind (A.loop (λ(D:z1'×Int×Int×Unit)=>letI e:=D.2.2.1;letI j:=decide (e > 0);letI i:=List.getD D.1 (Int.toNat e) 0;letI h:=IntKind.wrap .i64 (e-1);letI d:=Int.ofNat (List.length D.1);letI k:=0<=e/\e<d;letI b:=decide (List.getD D.1 (Int.toNat e) (0:Int)<0);letI f:=(!b)=true;letI a:=b||decide (i > D.2.1);letI g:=(!a)=true;letI c:=(!a&&j)=true;letI l:=c->c/\True/\True;if decide (e<d)=true then A.ab k (A.ab (f->(f/\f)/\k/\True) (A.ab (f->f/\True/\True) (A.ab (f->(f/\f)/\True/\True) (A.ab (True/\(b=false->f)) (A.ab (g->(g/\True)/\True/\True) (A.ab (g->True/\True/\g) (A.ab (c->(c/\c)/\k/\True) (A.ab l (A.ab (c->(c/\True)/\True/\True) (A.ab (c->(c/\c)/\(0<=h/\h<d)/\True) (A.ab l (A.ab (c->(c/\c)/\True/\True) (A.ab (g->(g/\(j=true->c))/\True/\True) (A.ab (True/\(a=false->g)) (if (a||j&&decide (i<=List.getD D.1 (Int.toNat h) 0))=true then A.bind (A.bind (A.pure false) (λr=>A.pure (V.done r))) λr=>A.pure (V.done r) else A.pure (V.next (D.1,D.2.1,IntKind.wrap .i64 (Add.add e 1),()))))))))))))))))) else A.bind (A.pure (V.next ())) λr=>A.pure (V.done r)) (x.1,x.2,0,())) (V.bz (λ(D:Unit)=>A.pure true))
def HO(x3:Option dy×z1'×Int×Nat×(Nat×(List (z1')->Prop)×List (z1')×Bool)×Unit->A (Bool×(Nat×(List (z1')->Prop)×List (z1')×Bool)×Unit))(x:Option dy×Nat×(Nat×(List (z1')->Prop)×List (z1')×Bool)×Unit):A ((Nat×(List (z1')->Prop)×List (z1')×Bool)×Unit):=
 A.bind (x3 (x.1,[],1,x.2.1,x.2.2.1,())) λy=>A.pure (y.2.1,())
def HP(x3:Option dy×z1'×Int×Nat×(Nat×(List (z1')->Prop)×List (z1')×Bool)×Unit->A (Bool×(Nat×(List (z1')->Prop)×List (z1')×Bool)×Unit))(x:Option dy×Nat×(Nat×(List (z1')->Prop)×List (z1')×Bool)×Unit):A ((Nat×(List (z1')->Prop)×List (z1')×Bool)×Unit):=
 A.bind (x3 (x.1,[],0,x.2.1,x.2.2.1,())) λy=>A.pure (y.2.1,())
def N_(HM:Option dy×(Int×Int)×Int×Int×Int->A Bool)(N5:Option dy×z3'×Int×z4'×z1'×Unit->A (Bool×z4'×z1'×Unit))(x:Option dy×z3'×Int×z4'×z1'×Unit):A (Bool×z4'×z1'×Unit):=
 letI k:=(Option.getD x.1 ((([],[],0,[]),[],[],[],[],0),[],[])).2.1;A.bind (A.ab (Option.isSome x.1=true) (A.loop (λ(D:Option ((bj×z1'×List c1×List (z1'×(Int×Int)×Int×Int×Int)×z3'×Int)×z4'×z5')×z3'×Int×z4'×Int×Int×z4'×z1'×Unit)=>letI o:=D.2.1;letI i:=D.2.2;letI c:=i.2.2.2;letI m:=c.2.2.1;letI l:=Int.toNat c.1;letI j:=Option.map (λx=>x.2) (List.find? (λp=>decide (c.1=p.1)) c.2.1);letI g:=0<=c.1/\c.1<Int.ofNat (List.length m);letI f:=(D.1,List.getD i.2.1 l (0,0),List.getD o (Int.toNat i.1) (0,0,0));letI d:=fe c.2.1 c.1 (IntKind.wrap .i64 (Add.add (Option.getD j 0) 1));letI b:=decide (List.getD m l (0:Int)=-1);letI h:=(!b)=true;letI a:=decide (Option.getD j (0:Int) > 0);letI e:=(!a)=true;letI q:=e->e/\True/\True;if decide (c.1<i.2.2.1)=true then A.bind (A.ab (0<=c.1/\c.1<Int.ofNat (List.length i.2.1)) (A.ab (e->(e/\e)/\(0<=i.1/\i.1<Int.ofNat (List.length o))/\True) (A.ab q (A.ab (e->(e/\e/\e/\True)/\(HM f).ck/\True) (A.ab q (A.ab (True/\(a=false->e)) (if (a||!(A.val (HM f) false))=true then A.pure (V.next (D.1,o,i.1,i.2.1,i.2.2.1,c.1,c.2.1,m,())) else A.ab g (A.ab (h->(h/\h)/\g/\True) (if h then A.ab (h/\h/\h/\h/\h/\True) (A.bind (N5 (D.1,o,List.getD m l 0,d,m,())) (λy=>if (b||y.1)=true then A.ab (0<=c.1/\c.1<Int.ofNat (List.length y.2.2.1)) (A.bind (A.bind (A.bind (A.pure (true,y.2.1,List.set y.2.2.1 l i.1,())) (λr=>A.pure (V.done r))) (λr=>A.pure (V.done r))) (λr=>A.pure (V.done r))) else A.pure (V.next (D.1,o,i.1,i.2.1,i.2.2.1,c.1,y.2.1,y.2.2.1,())))) else A.ab (True/\(b=false->false=true)) (if (b||false)=true then A.ab g (A.bind (A.bind (A.bind (A.pure (true,d,List.set m l i.1,())) (λr=>A.pure (V.done r))) (λr=>A.pure (V.done r))) (λr=>A.pure (V.done r))) else A.pure (V.next (D.1,o,i.1,i.2.1,i.2.2.1,c.1,d,m,())))))))))))) (V.bz (λ(D:Option ((bj×z1'×List c1×List dm×z3'×Int)×z4'×z5')×z3'×Int×z4'×Int×Int×z4'×z1'×Unit)=>letI n:=D.2.2.2;A.pure (V.next (D.1,D.2.1,D.2.2.1,n.1,n.2.1,IntKind.wrap .i64 (Add.add n.2.2.1 1),n.2.2.2.1,n.2.2.2.2.1,())))) else A.bind (A.pure (V.next (c.2.1,m,()))) λr=>A.pure (V.done r)) (x.1,x.2.1,x.2.2.1,k,Int.ofNat (List.length k),0,x.2.2.2.1,x.2.2.2.2.1,()))) (V.bz (λ(D:z4'×z1'×Unit)=>A.pure (false,D.1,D.2.1,())))
def N'(HL:(z1'×(Int×Int)×Int×Int×Int)×Int×Int×Int×Int×z1'->A Int)(x3:Option dy×z1'×Int×Nat×(Nat×(List (z1')->Prop)×List (z1')×Bool)×Unit->A (Bool×(Nat×(List (z1')->Prop)×List (z1')×Bool)×Unit))(hL:z1'×Int->A Bool)(x:Option dy×z1'×Int×Nat×(Nat×(List (z1')->Prop)×List (z1')×Bool)×Unit):A (Bool×(Nat×(List (z1')->Prop)×List (z1')×Bool)×Unit):=
 letI p:=Option.isSome x.1=true;letI o:=Int.ofNat (List.length x.2.1);letI i:=x.2.2.2.2.1;letI e:=(Option.getD x.1 ((([],[],0,[]),[],[],[],[],0),[],[])).1.2.2;A.ab p (if decide (o=Int.ofNat (List.length e.2.1))=true then A.bind (A.ab (x.2.2.2.1=i.1/\i.2.2.2=false/\(∃ (T:List (z1')),i.2.1 (i.2.2.1++x.2.1::T))) (A.any (λx=>True))) λy=>A.pure (y,(i.1,i.2.1,i.2.2.1++[x.2.1],!y),()) else A.bind (A.ab p (A.loop (λ(D:Option dy×z1'×Int×Nat×Int×List c1×Int×Int×(Nat×(List (z1')->Prop)×List (z1')×Bool)×Unit)=>letI q:=D.2.1;letI l:=D.2.2;letI j:=(Option.getD D.1 ((([],[],0,[]),[],[],[],[],0),[],[])).1.2.2.2.1;letI c:=l.2.2;letI m:=List.take (Int.toNat c.1) q;letI k:=c.2.2.2;letI d:=(List.getD j (Int.toNat c.1) ([],(0,0),0,0,0),List.getD c.2.1 (Int.toNat k.1) (0,0,0,0,[]));letI a:=(q,k.1);if decide (k.1<c.2.2.1)=true then A.bind (A.ab (0<=k.1/\k.1<Int.ofNat (List.length c.2.1)) (A.ab (hL a).ck (A.ab ((!(A.val (hL a) false))=true->(!(A.val (hL a) false))=true/\Option.isSome D.1=true/\True) (A.ab ((!(A.val (hL a) false))=true->(!(A.val (hL a) false))=true/\True/\True) (A.ab ((!(A.val (hL a) false))=true->(!(A.val (hL a) false))=true/\True/\True) (A.ab ((!(A.val (hL a) false))=true->(!(A.val (hL a) false))=true/\True/\True) (A.ab ((!(A.val (hL a) false))=true->((!(A.val (hL a) false))=true/\(!(A.val (hL a) false))=true)/\(0<=c.1/\c.1<Int.ofNat (List.length j))/\True) (A.ab ((!(A.val (hL a) false))=true->(!(A.val (hL a) false))=true/\True/\True) (A.ab ((!(A.val (hL a) false))=true->((!(A.val (hL a) false))=true/\(!(A.val (hL a) false))=true/\True)/\(HL d).ck/\True) (A.ab ((!(A.val (hL a) false))=true->((!(A.val (hL a) false))=true/\True)/\True/\True) (A.ab (True/\(A.val (hL a) false=false->(!(A.val (hL a) false))=true)) (if (A.val (hL a) false||decide (A.val (HL d) (0:Int)=0))=true then A.pure (V.next (D.1,q,l.1,l.2.1,c.1,c.2.1,c.2.2.1,k.1,k.2.1,())) else A.ab ((0:Int)<=0/\0<=c.1/\c.1=c.1/\c.1<=Int.ofNat (List.length q)) (A.ab (0<Add.add 0 1/\bM (Add.add (List.length m) (Add.add 0 1))) (A.bind (x3 (D.1,m++[k.1],l.1,l.2.1,k.2.1,())) (λy=>if (!y.1)=true then A.bind (A.bind (A.bind (A.pure (false,y.2.1,())) (λr=>A.pure (V.done r))) (λr=>A.pure (V.done r))) λr=>A.pure (V.done r) else A.pure (V.next (D.1,q,l.1,l.2.1,c.1,c.2.1,c.2.2.1,k.1,y.2.1,()))))))))))))))))) (V.bz (λ(D:Option dy×z1'×Int×Nat×Int×List c1×Int×Int×(Nat×(List (z1')->Prop)×List (z1')×Bool)×Unit)=>letI n:=D.2.2.2.2;A.pure (V.next (D.1,D.2.1,D.2.2.1,D.2.2.2.1,n.1,n.2.1,n.2.2.1,IntKind.wrap .i64 (Add.add n.2.2.2.1 1),n.2.2.2.2.1,())))) else A.bind (A.pure (V.next (D.1,q,l.1,l.2.1,c.1,k.2.1,()))) λr=>A.pure (V.done r)) (x.1,x.2.1,x.2.2.1,x.2.2.2.1,o,e.1,Int.ofNat (List.length e.1),0,i,()))) (V.bz (λ(D:Option dy×z1'×Int×Nat×Int×(Nat×(List (z1')->Prop)×List (z1')×Bool)×Unit)=>letI s:=D.2.2;letI h:=s.2.2;letI g:=List.take (Int.toNat h.1) D.2.1;letI f:=decide (s.1=0);letI b:=(!f)=true;A.ab (b->(b/\True/\b/\b)/\((0:Int)<=0/\0<=h.1/\h.1=h.1/\h.1<=Int.ofNat (List.length D.2.1))/\True) (if b then A.ab (b/\b) (A.ab (0<Add.add 0 1/\bM (Add.add (List.length g) (Add.add 0 1))) (if b then A.ab (b/\b/\b/\True) (A.bind (x3 (D.1,g++[-1],s.1,s.2.1,h.2.1,())) (λy=>A.pure (f||y.1,y.2.1,()))) else A.ab (True/\(f=false->false=true)) (A.pure (f||false,h.2.1,())))) else if b then A.ab (b/\false=true/\b/\b/\True) (A.bind (x3 (D.1,g++[-1],s.1,s.2.1,h.2.1,())) (λy=>A.pure (f||y.1,y.2.1,()))) else A.ab (True/\(f=false->false=true)) (A.pure (f||false,h.2.1,()))))))
def akp(x2:Int×Int->A (Int×Int))(x:z1'×Int×Unit):A (z1'×Unit):=
 A.bind (if decide (x.2.1<0)=true then A.ab False (A.ab False (A.pure (V.next (x.1,x.2.1,())))) else A.pure (V.next (x.1,x.2.1,()))) (V.bz (λ(D:z1'×Int×Unit)=>A.bind (x2 (IntKind.wrap .u64 (Int.ofNat (List.length D.1)),IntKind.wrap .u64 D.2.1)) λy=>A.bind (if (decide (y.1 > 0)||decide (y.2 > 9223372036854775807))=true then A.ab False (A.ab False (A.pure (V.next (D.1,y.2,())))) else A.pure (V.next (D.1,y.2,()))) (V.bz (λ(D:z1'×Int×Unit)=>letI b:=IntKind.wrap .i64 D.2.1;letI f:=Int.toNat b;letI e:=List.take (List.length (List.replicate f (0:Int))-0) D.1;A.ab (0<=b/\b=b/\bM f) (A.ab True (A.bind (A.loop (λ(D:Int×z1'×Unit)=>letI g:=Int.toNat D.1;letI c:=List.take g D.2.1;letI a:=Int.ofNat (List.length D.2.1);letI d:=Int.toNat a-g;if decide (D.1<a)=true then A.ab (0<=D.1/\D.1<=a/\a<=a) (A.ab ((0:Int)<=0/\0<=D.1/\D.1<=a) (A.ab True (A.pure (V.next (IntKind.wrap .i64 (Add.add D.1 (Int.ofNat (if d<=List.length c then d else List.length c))),c++List.take d c++List.drop (Add.add g (List.length (List.take d c))) D.2.1,()))))) else A.bind (A.pure (V.next (D.2.1,()))) λr=>A.pure (V.done r)) (Int.ofNat (if List.length (List.replicate f (0:Int))-0<=List.length D.1 then List.length (List.replicate f (0:Int))-0 else List.length D.1),[]++e++List.drop (Add.add 0 (List.length e)) (List.replicate f (0:Int)),())) (V.bz (λ(D:z1'×Unit)=>A.pure (D.1,())))))))))
end Go.Fer
