/- Part 4 of the proof of TopTrials: shallow programs of Go functions, and what they compute. No condition. -/
import Derived.Test.YtplfnoecifjgeaaGreatDoorTopTrialsC
import Derived.RangeFuncBound
import Derived.Scope
import Derived.RangeFuncLeaves
import Derived.OpenShut
import Derived.WideKeyArgs
import Derived.ChangeSame
import Derived.Test.YtplfnoecifjgeaaGreatDoorProg
import Derived.KernelRfl
noncomputable section
set_option linter.unusedVariables false
set_option linter.unusedSimpArgs false
namespace Go.Fer
open Go.RowKit
theorem ah1{C:b'}(iM:C.r=none){β:Type}{s:aA}{a:Act}{w:World}(M:cu C s a w){g:Operand}{ps:Array Tmp}{assign body:Code}{rh n:Nat}{eU:Nat->aH}(aC:a8 C.aN s.ay g=.r6 rh n eU){ic:zO}(UA:Da C.P rh ic)
    {x:ic.ts.ai} {bV:List Nat} (ah:(iY ic.ts ((List.range n).map eU)).run s.aa=some (x,bV)) {sh rin rout:dJ} (ed:nX sh rout ic.aM ps.toList C.nt=true) {n1:sh.ai} (nY:sh.jb (s.cB bV)=some n1) (gN:ic.pre x)
    {run:aA->A (dj×rout.ai)} {k:dj->aA->A β} {O:β->Prop} (hm:A.cy (jM (λD y=>t' sh rin rout ic.aM ps.toList D y run) (ic.seq x) n1) λp=>A.cy (k p.1 (sh.st p.2)) O)
    (Dx:∀ l,He C.P C.aN C.nt assign body l run) {Q:Exit->Act->World->Prop}
    (an:∀ u,C.jO u->∀ e s' a' w',cu (C.hk u) s' a' w'->A.cy (k e s') O->Q e.po a' w'):(Code.rangeFunc g ps assign body).wpIn (dT C.r) 0 C.P Q a w:=by
  obtain⟨κ,F,M⟩:=M;obtain⟨z_,f1,gO,f2⟩:=bm.lj (qc _ ah) M;obtain⟨κ,en,f3,cO⟩:=dJ.zX nY gO;have ae:=j8 M g;rw[aC]at ae;obtain⟨aD,p5,ig,ayn⟩:=ae;have ah2:fq C.P ic.ts z_ w aD x:=vn M.bE f1 ic.ts ah f2 (by grind) λi G dL=>by
    grind
  have pf:∀ D:sh.ai,(sh.st D).ay b6=.undef:=λD=>by
    simp only[nX,Bool.and_eq_true,Bool.not_eq_true']at ed;exact xL sh.bU c_ D b6 ed.1.1.1.2
  rw[iM];refine wpIn_rangeFunc λfn _=>?_;have aT:w.heap.size<((w.alloc (.deferred (some []))).alloc (.loop (fc fn a.tmps ps assign body w.heap.size .ready .normal))).heap.size:=by simp;omega
  have aj:w.heap.size+1<((w.alloc (.deferred (some []))).alloc (.loop (fc fn a.tmps ps assign body w.heap.size .ready .normal))).heap.size:=by simp
  have DA:((w.alloc (.deferred (some []))).alloc (.loop (fc fn a.tmps ps assign body w.heap.size .ready .normal))).heap[w.heap.size+1]?=some (.loop (fc fn a.tmps ps assign body w.heap.size .ready .normal)):=by
    have:=p4 (w.alloc (.deferred (some []))) (.loop (fc fn a.tmps ps assign body w.heap.size .ready .normal));simp_all
  have DB:((w.alloc (.deferred (some []))).alloc (.loop (fc fn a.tmps ps assign body w.heap.size .ready .normal))).heap[w.heap.size]?=some (.deferred (some [])):=
    (o8 _ _ (by simp)).trans (p4 w _)
  have uk:∀ r,r<w.heap.size->((w.alloc (.deferred (some []))).alloc (.loop (fc fn a.tmps ps assign body w.heap.size .ready .normal))).heap[r]?=w.heap[r]?:=λr h=>Ut h;have DC:(Instr.enterLoop fn a.tmps ps assign body none).run C.P w=.ok (w.heap.size+1,[oK w.heap.size]) ((w.alloc (.deferred (some []))).alloc (.loop (fc fn a.tmps ps assign body w.heap.size .ready .normal))):=run_enterLoop_outer fn a.tmps ps assign body;have xW:dd w ((w.alloc (.deferred (some []))).alloc (.loop (fc fn a.tmps ps assign body w.heap.size .ready .normal))):=⟨rfl,rfl,rfl⟩
  have MM:((w.alloc (.deferred (some []))).alloc (.loop (fc fn a.tmps ps assign body w.heap.size .ready .normal))).heap.size=w.heap.size+2:=by simp
  generalize (w.alloc (.deferred (some []))).alloc (.loop (fc fn a.tmps ps assign body w.heap.size .ready .normal))=cp at aT aj DA DB uk DC xW MM;have qj:c6 en w cp:=⟨by omega,λr h=>uk r (cO.db r h)⟩
  have dY:fq C.P ic.ts en cp aD x:=(ah2.mono f3 (c6.refl _ _)).mono (λ_ h=>h) qj;have eB:bm { C with w0:=cp,F0:=en,K0:=λ_=>False } (sh.st n1) a cp κ en:=
    cO.vG cO.dH cO.dfr cO.gq cO.bU (λdI kB e7 iZ im e=>by have e:(sh.st n1).ay b6=.aW dI kB e7 iZ im:=e;grind)
      (λr h=>uk r (by
        rcases h with h | ⟨b,W,rfl⟩
        · exact cO.db r h
        · exact (cO.al b W).1)) (by omega) (λ_ h=>.inl h) (λ_ h=>h) (λ_ h=>h.elim) (λ_ h=>h.elim) (λ_ _ h=>h) (Nat.le_refl _) (dd.refl _)
  have MN:=Uz (Uu (S:=λT=>T=ic.seq x) (C:=C) (CI:={ C with w0:=cp,F0:=en,K0:=λ_=>False }) (sh:=sh) (rin:=rin) (rout:=rout) (ps:=ps) (assign:=assign) (body:=body) (a:=a) (fn:=fn) (l:=w.heap.size+1) (B:=w.heap.size) (run:=run) (k:=k) (O:=O)
    rfl (by omega) (by rw[M.dH];omega) (by rw[M.dH];grind))
  have fm:∀ b,((sh.st n1).aa b).body.b1 (κ b)=true->¬((κ b).aa=w.heap.size+1\/(κ b).aa=w.heap.size):=λb W h=>by
    have:=(cO.al b W).1;omega
  have vH:=UA.iV (w.heap.size+1) _ en (λr=>(∃ b,((sh.st n1).aa b).body.b1 (κ b)=true/\(κ b).aa=r)\/r=w.heap.size+1\/r=w.heap.size) cp aD x dY gN MN (λr h=>eB.db r h) eB.iA
    (λr h=>by
      rcases h with⟨b,W,rfl⟩ | rfl | rfl
      · exact⟨(eB.al b W).1,(eB.al b W).2.1⟩
      · exact⟨aj,λh=>by have:=cO.db _ h;omega⟩
      · exact⟨aT,λh=>by have:=cO.db _ h;omega⟩)
    ⟨.normal,n1,κ,eB,DA,DB,λb W=>⟨.inl ⟨b,W,rfl⟩,fm b W⟩,.inr (.inl rfl),.inr (.inr rfl),λh=>by have:=cO.db _ h;omega,λh=>by have:=cO.db _ h;omega,rfl,λ_=>⟨rfl,λR jP=>by grind⟩,λh=>by cases h⟩
  refine⟨w.heap.size+1,[oK w.heap.size],cp,{ target:=.fn (.func rh) #[],args:=aD.toArray++#[.func (.yield (w.heap.size+1)) #[] #[]] },cp,rh,(aD++[Value.func (.yield (w.heap.size+1)) #[] #[]]).toArray,cp,DC,?_,λ_ _=>trivial,?_,λh=>(by cases h),callsIn_wide.2 (vH.mono λe eX ⟨v,iZ,st,F',gE,he,gz,hinv,g1,ey,g3,g4,g5,g6,g7⟩=>?_)⟩
  · have e:a.eval (.const (.func (.yield (w.heap.size+1)) #[] #[]))=.func (.yield (w.heap.size+1)) #[] #[]:=rfl
    simp[resolve,p5,Deferred.ofValue,e]
  · have:=UA.enter (aD++[Value.func (.yield (w.heap.size+1)) #[] #[]]).toArray cp
    simpa [invoke]using this
  subst he;obtain⟨e,D,κ',mB,E,U,ag,a6,bM,dn,fT,_,jh,p0⟩:=hinv;refine⟨sF e,_,run_endLoop E (by cases st<;>simp[fc]),?_⟩;have Hj:w.heap.size+1<eX.heap.size:=(Array.getElem?_eq_some_iff.1 E).1;generalize be:Obj.loop _=cb;have hJ:A.cy (k e (sh.st D)) O:=by
    cases st with
    | true=>grind
    | false=>
      obtain⟨rfl,fl⟩:=jh rfl;exact (fl [] (show iZ++[]=ic.seq x by grind)).2 _ rfl
  have vy:∀ r,C.K0 r->r<w.heap.size:=λr h=>Nat.lt_of_lt_of_le (M.ht r h) M.size;have ui:∀ r,C.K0 r->(eX.putObj (w.heap.size+1) cb).heap[r]?=C.w0.heap[r]?:=λr h=>by
    have cc:=vy r h;rw[World.putObj_heap_other (by omega),g4 r (by omega) λaR=>?_,uk r cc]
    · exact M.eG r h
    · rcases aR with⟨b,W,rfl⟩ | rfl | rfl
      · exact (cO.al b W).2.2 h
      · omega
      · omega
  have xX:dd C.w0 (eX.putObj (w.heap.size+1) cb):=by
    have:=(M.ew.trans xW).trans g7;exact⟨this.os,this.tape,this.output⟩
  have Ag:C.jO ⟨eX.putObj (w.heap.size+1) cb,λr=>C.K0 r\/r=w.heap.size,[w.heap.size]⟩:=
    { sE := λB aT => by
        have:B=w.heap.size:=by grind
        subst this;exact⟨.inr rfl,(World.putObj_heap_other (by omega)).trans U⟩
      eA:=λB aT=>by
        have:B=w.heap.size:=by grind
        subst this;exact⟨λh=>by grind,M.size⟩
      mA:=by simp
      hl:=λ_ h=>.inl h
      eG:=ui
      size:=by have:=M.size;simp;omega
      ew:=xX }
  have nZ:cu (C.hk ⟨eX.putObj (w.heap.size+1) cb,λr=>C.K0 r\/r=w.heap.size,[w.heap.size]⟩) (sh.st D) { a with defers:=[oK w.heap.size]++a.defers } (eX.putObj (w.heap.size+1) cb):=by
    have MO:∀ r,F' r->C.F0 r\/¬(C.K0 r\/r=w.heap.size):=λr bc=>by
      rcases ey r bc with h | h | h
      · rcases cO.hg r h with dt | dt
        · exact .inl dt
        · exact .inr λan=>an.elim dt λe=>by have:=cO.db r h;omega
      · rcases h with⟨b,W,rfl⟩ | rfl | rfl
        · exact .inr λan=>an.elim (cO.al b W).2.2 λe=>fm b W (.inr e)
        · exact (dn bc).elim
        · exact (fT bc).elim
      grind
    refine⟨κ',F',mB.vG (r:=C.r) mB.dH (by show [oK w.heap.size]++a.defers=_;rw[M.dfr];rfl) mB.gq mB.bU (λdI kB e7 iZ im e=>by have e:(sh.st D).ay b6=.aW dI kB e7 iZ im:=e;grind)
      (λr h=>World.putObj_heap_other λe=>by
        grind) (by simp) MO (λr h=>g1 r (cO.hQ r h)) (λr h=>?_) (λ_ _=>rfl) (λb W h=>?_) (Nat.le_refl _) (dd.refl _)⟩
    · simp only[World.putObj_size]
      grind
    · rcases h with h | h
      · rcases (g5 _ (ag b W).1).1 with aR | aR
        · rcases aR with⟨bf,dc,e⟩ | e | e
          · exact (cO.al bf dc).2.2 (e ▸ h)
          · exact (ag b W).2 (.inl e)
          · exact (ag b W).2 (.inr e)
        grind
      grind
  have bt:=an _ Ag e _ _ _ nZ hJ;cases e with
  | normal=>exact bt
  | exit id=>exact wpIn_exit bt
  | ret=>exact wpIn_ret bt
theorem ah3{C:b'}(iM:C.r=none){β:Type}{s:aA}{a:Act}{w:World}(M:cu C s a w){g:Operand}{ps:Array Tmp}{assign body:Code}{aM:ad}{S:List aM.ai->Prop}(aC:a8 C.aN s.ay g=.val (.ct aM) S)
    {sh rin rout:dJ} (ed:nX sh rout aM ps.toList C.nt=true) {n1:sh.ai} (nY:sh.jb s=some n1) (eO:∃ L,S L)
    {run:aA->A (dj×rout.ai)} {k:dj->aA->A β} {O:β->Prop} (hm:∀ L,S L->A.cy (jM (λD y=>t' sh rin rout aM ps.toList D y run) L n1) λp=>A.cy (k p.1 (sh.st p.2)) O)
    (Dx:∀ l,He C.P C.aN C.nt assign body l run) {Q:Exit->Act->World->Prop}
    (an:∀ u,C.jO u->∀ e s' a' w',cu (C.hk u) s' a' w'->A.cy (k e s') O->Q e.po a' w'):(Code.rangeFunc g ps assign body).wpIn (dT C.r) 0 C.P Q a w:=by
  obtain⟨κ,F,M⟩:=M;obtain⟨κ,en,f3,cO⟩:=dJ.zX nY M;have ae:=j8 M g;rw[aC]at ae;have p5:=ff _ f3 (c6.refl _ _) ((dV rfl).1 ae).2;simp only[bJ]at p5;obtain⟨u,hu,_,ah4⟩:=p5;have hu:=(List.cons.inj hu).1;have pf:∀ D:sh.ai,(sh.st D).ay b6=.undef:=λD=>by
    simp only[nX,Bool.and_eq_true,Bool.not_eq_true']at ed;exact xL sh.bU c_ D b6 ed.1.1.1.2
  rw[iM];refine wpIn_rangeFunc λfn _=>?_;have aT:w.heap.size<((w.alloc (.deferred (some []))).alloc (.loop (fc fn a.tmps ps assign body w.heap.size .ready .normal))).heap.size:=by simp;omega
  have aj:w.heap.size+1<((w.alloc (.deferred (some []))).alloc (.loop (fc fn a.tmps ps assign body w.heap.size .ready .normal))).heap.size:=by simp
  have DA:((w.alloc (.deferred (some []))).alloc (.loop (fc fn a.tmps ps assign body w.heap.size .ready .normal))).heap[w.heap.size+1]?=some (.loop (fc fn a.tmps ps assign body w.heap.size .ready .normal)):=by
    have:=p4 (w.alloc (.deferred (some []))) (.loop (fc fn a.tmps ps assign body w.heap.size .ready .normal));simp_all
  have DB:((w.alloc (.deferred (some []))).alloc (.loop (fc fn a.tmps ps assign body w.heap.size .ready .normal))).heap[w.heap.size]?=some (.deferred (some [])):=
    (o8 _ _ (by simp)).trans (p4 w _)
  have uk:∀ r,r<w.heap.size->((w.alloc (.deferred (some []))).alloc (.loop (fc fn a.tmps ps assign body w.heap.size .ready .normal))).heap[r]?=w.heap[r]?:=λr h=>Ut h;have DC:(Instr.enterLoop fn a.tmps ps assign body none).run C.P w=.ok (w.heap.size+1,[oK w.heap.size]) ((w.alloc (.deferred (some []))).alloc (.loop (fc fn a.tmps ps assign body w.heap.size .ready .normal))):=run_enterLoop_outer fn a.tmps ps assign body;have xW:dd w ((w.alloc (.deferred (some []))).alloc (.loop (fc fn a.tmps ps assign body w.heap.size .ready .normal))):=⟨rfl,rfl,rfl⟩
  have MM:((w.alloc (.deferred (some []))).alloc (.loop (fc fn a.tmps ps assign body w.heap.size .ready .normal))).heap.size=w.heap.size+2:=by simp
  generalize (w.alloc (.deferred (some []))).alloc (.loop (fc fn a.tmps ps assign body w.heap.size .ready .normal))=cp at aT aj DA DB uk DC xW MM;have qj:c6 en w cp:=⟨by omega,λr h=>uk r (cO.db r h)⟩
  have eB:bm { C with w0:=cp,F0:=en,K0:=λ_=>False } (sh.st n1) a cp κ en:=
    cO.vG cO.dH cO.dfr cO.gq cO.bU (λdI kB e7 iZ im e=>by have e:(sh.st n1).ay b6=.aW dI kB e7 iZ im:=e;grind)
      (λr h=>uk r (by
        rcases h with h | ⟨b,W,rfl⟩
        · exact cO.db r h
        · exact (cO.al b W).1)) (by omega) (λ_ h=>.inl h) (λ_ h=>h) (λ_ h=>h.elim) (λ_ h=>h.elim) (λ_ _ h=>h) (Nat.le_refl _) (dd.refl _)
  have MN:=Uu (S:=S) (C:=C) (CI:={ C with w0:=cp,F0:=en,K0:=λ_=>False }) (sh:=sh) (rin:=rin) (rout:=rout) (ps:=ps) (assign:=assign) (body:=body) (a:=a) (fn:=fn) (l:=w.heap.size+1) (B:=w.heap.size) (run:=run) (k:=k) (O:=O)
    rfl (by omega) (by rw[M.dH];omega) (by rw[M.dH];grind)
  have fm:∀ b,((sh.st n1).aa b).body.b1 (κ b)=true->¬((κ b).aa=w.heap.size+1\/(κ b).aa=w.heap.size):=λb W h=>by
    have:=(cO.al b W).1;omega
  obtain⟨rh,c1,ah5,sx,LU⟩:=ah4 en cp (λ_ h=>h) qj (λr h=>eB.db r h) eB.iA eO;have vH:=LU (w.heap.size+1) _ (λr=>(∃ b,((sh.st n1).aa b).body.b1 (κ b)=true/\(κ b).aa=r)\/r=w.heap.size+1\/r=w.heap.size)
    (λr h=>by
      rcases h with⟨b,W,rfl⟩ | rfl | rfl
      · exact⟨(eB.al b W).1,(eB.al b W).2.1⟩
      · exact⟨aj,λh=>by have:=cO.db _ h;omega⟩
      · exact⟨aT,λh=>by have:=cO.db _ h;omega⟩)
    MN ⟨.normal,n1,κ,eB,DA,DB,λb W=>⟨.inl ⟨b,W,rfl⟩,fm b W⟩,.inr (.inl rfl),.inr (.inr rfl),λh=>by have:=cO.db _ h;omega,λh=>by have:=cO.db _ h;omega,rfl,λ_=>⟨rfl,λR jP=>hm R jP⟩,λh=>by cases h⟩
  refine⟨w.heap.size+1,[oK w.heap.size],cp,{ target:=.fn (.func rh) c1,args:=#[.func (.yield (w.heap.size+1)) #[] #[]] },cp,rh,#[Value.func (.yield (w.heap.size+1)) #[] #[]]++c1,cp,DC,?_,λ_ _=>trivial,?_,λh=>(by cases h),callsIn_wide.2 (vH.mono λe eX ⟨v,pre,st,F',gE,he,gz,hinv,g1,ey,g3,g4,g5,g6,MP⟩=>?_)⟩
  · have e:a.eval (.const (.func (.yield (w.heap.size+1)) #[] #[]))=.func (.yield (w.heap.size+1)) #[] #[]:=rfl
    simp[resolve,hu,ah5,Deferred.ofValue,e]
  · have:=sx (#[Value.func (.yield (w.heap.size+1)) #[] #[]]++c1) cp
    simpa [invoke]using this
  have g7:dd cp eX:=⟨MP.1,MP.2.1,MP.2.2⟩
  subst he;obtain⟨e,D,κ',mB,E,U,ag,a6,bM,dn,fT,_,jh,p0⟩:=hinv;refine⟨sF e,_,run_endLoop E (by cases st<;>simp[fc]),?_⟩;have Hj:w.heap.size+1<eX.heap.size:=(Array.getElem?_eq_some_iff.1 E).1;generalize be:Obj.loop _=cb;have hJ:A.cy (k e (sh.st D)) O:=by
    cases st with
    | true=>grind
    | false=>
      obtain⟨rfl,fl⟩:=jh rfl;exact (fl [] (show S (pre++[]) by grind)).2 _ rfl
  have vy:∀ r,C.K0 r->r<w.heap.size:=λr h=>Nat.lt_of_lt_of_le (M.ht r h) M.size;have ui:∀ r,C.K0 r->(eX.putObj (w.heap.size+1) cb).heap[r]?=C.w0.heap[r]?:=λr h=>by
    have cc:=vy r h;rw[World.putObj_heap_other (by omega),g4 r (by omega) λaR=>?_,uk r cc]
    · exact M.eG r h
    · rcases aR with⟨b,W,rfl⟩ | rfl | rfl
      · exact (cO.al b W).2.2 h
      · omega
      · omega
  have xX:dd C.w0 (eX.putObj (w.heap.size+1) cb):=by
    have:=(M.ew.trans xW).trans g7;exact⟨this.os,this.tape,this.output⟩
  have Ag:C.jO ⟨eX.putObj (w.heap.size+1) cb,λr=>C.K0 r\/r=w.heap.size,[w.heap.size]⟩:=
    { sE := λB aT => by
        have:B=w.heap.size:=by grind
        subst this;exact⟨.inr rfl,(World.putObj_heap_other (by omega)).trans U⟩
      eA:=λB aT=>by
        have:B=w.heap.size:=by grind
        subst this;exact⟨λh=>by grind,M.size⟩
      mA:=by simp
      hl:=λ_ h=>.inl h
      eG:=ui
      size:=by have:=M.size;simp;omega
      ew:=xX }
  have nZ:cu (C.hk ⟨eX.putObj (w.heap.size+1) cb,λr=>C.K0 r\/r=w.heap.size,[w.heap.size]⟩) (sh.st D) { a with defers:=[oK w.heap.size]++a.defers } (eX.putObj (w.heap.size+1) cb):=by
    have MO:∀ r,F' r->C.F0 r\/¬(C.K0 r\/r=w.heap.size):=λr bc=>by
      rcases ey r bc with h | h | h
      · rcases cO.hg r h with dt | dt
        · exact .inl dt
        · exact .inr λan=>an.elim dt λe=>by have:=cO.db r h;omega
      · rcases h with⟨b,W,rfl⟩ | rfl | rfl
        · exact .inr λan=>an.elim (cO.al b W).2.2 λe=>fm b W (.inr e)
        · exact (dn bc).elim
        · exact (fT bc).elim
      grind
    refine⟨κ',F',mB.vG (r:=C.r) mB.dH (by show [oK w.heap.size]++a.defers=_;rw[M.dfr];rfl) mB.gq mB.bU (λdI kB e7 iZ im e=>by have e:(sh.st D).ay b6=.aW dI kB e7 iZ im:=e;grind)
      (λr h=>World.putObj_heap_other λe=>by
        grind) (by simp) MO (λr h=>g1 r (cO.hQ r h)) (λr h=>?_) (λ_ _=>rfl) (λb W h=>?_) (Nat.le_refl _) (dd.refl _)⟩
    · simp only[World.putObj_size]
      grind
    · rcases h with h | h
      · rcases (g5 _ (ag b W).1).1 with aR | aR
        · rcases aR with⟨bf,dc,e⟩ | e | e
          · exact (cO.al bf dc).2.2 (e ▸ h)
          · exact (ag b W).2 (.inl e)
          · exact (ag b W).2 (.inr e)
        grind
      grind
  have bt:=an _ Ag e _ _ _ nZ hJ;cases e with
  | normal=>exact bt
  | exit id=>exact wpIn_exit bt
  | ret=>exact wpIn_ret bt
end Go.Fer
namespace Go.Fer
open Go.RowKit
open A (V)
section
variable {F:Fence} {n:Nat} {P:Program} {Q:Exit->Act->World->Prop} {a:Act} {w:World}
theorem ah6{c:Code}{Hm β:Type}{body:Hm->A (V Hm β)}{O:β->Prop}(I:Hm->Act->World->Prop)
  (round:∀ D a w,I D a w->(body D).cm->(∀ r,(body D).bL (.done r)->O r)->c.wpIn F n P (Exit.then (λa' w'=>∃ iI,(body D).bL (.next iI)/\I iI a' w') Q) a w)
  {D:Hm} (aE:A.BR body D) (af:∀ r,A.y1 body D r->O r) (eB:I D a w):(Code.loop c).wpIn F n P Q a w:=by
 intro b k cs rp W M;have key:∀ D,A.BR body D->(∀ r,A.y1 body D r->O r)->∀ a w,I D a w->
   ∃ e a' w',Q e a' w'/\ArrivesIn (Machine.fenced P F) P (lone (b.atR a (.code c::.inLoop c::k)) cs w) b k cs e a' w':=by
  intro D aE;induction aE with
  | mk D h _ aK=>
   intro af a w eB;obtain⟨e,lZ,l0,bt,fa⟩:=round D a w eB h (λr M=>af r (.done _ _ M)) b (.inLoop c::k) cs rp W M;cases e with
   | normal=>
    obtain⟨iI,pt,ah7⟩:=bt;obtain⟨MQ,MR,MS,MT,MU⟩:=aK iI pt (λr M=>af r (.next _ _ _ pt M)) lZ l0 ah7;exact⟨MQ,MR,MS,MT,.of_steps (StepsIn.trans fa (.one (fenced_calm W M rfl) stepR_inLoop)) MU⟩
   | exit id=>exact⟨_,lZ,l0,bt,.pass (x:=.inLoop c) rfl (λ_ _=>.inl (by simp)) fa⟩
   | goto l=>exact⟨_,lZ,l0,bt,.pass (x:=.inLoop c) rfl (λ_ _=>.inl (by simp)) fa⟩
   | ret=>exact⟨_,lZ,l0,bt,.pass (x:=.inLoop c) rfl (λ_ _=>.inl (by simp)) fa⟩
   | panic MV=>exact⟨_,lZ,l0,bt,.pass (x:=.inLoop c) rfl (λ_ _=>.inl (by simp)) fa⟩
   | outgrown=>exact⟨_,lZ,l0,bt,.pass (x:=.inLoop c) rfl (λ_ _=>.inl (by simp)) fa⟩
 obtain⟨e,a',w',bt,fa⟩:=key D aE af a w eB;exact⟨e,a',w',bt,.of_steps (.one (fenced_calm W M rfl) stepR_loop) fa⟩
theorem ah8{p q:Prop}(bt:q)(h:q->p):p/\q:=⟨h bt,bt⟩
def Hn(F:Fence)(n:Nat)(P:Program)(c:Code)(Q:Exit->Act->World->Prop)(a:Act)(w:World):Prop:=
 ∀ (b:Frame) (k:List Item) (cs:List Frame),b.roundOf=F.round->F.fn b.fn->F.room (cs.length+1+n)->
  ∃ e a' w',Q e a' w'/\ArrivesIn (Machine.fenced P F) P (lone (b.atR a (.code c::.inLoop c::k)) cs w) b k cs e a' w'
theorem ah9{c:Code}(h:Hn F n P c Q a w):(Code.loop c).wpIn F n P Q a w:=λb k cs rp W M=>by
 obtain⟨e,a',w',bt,fa⟩:=h b k cs rp W M;exact⟨e,a',w',bt,.of_steps (.one (fenced_calm W M rfl) stepR_loop) fa⟩
theorem ah_{c:Code}(h:c.wpIn F n P (Exit.then (λa' w'=>Hn F n P c Q a' w') Q) a w):Hn F n P c Q a w:=λb k cs rp W M=>by
 obtain⟨e,lZ,l0,bt,fa⟩:=h b (.inLoop c::k) cs rp W M;cases e with
 | normal=>
  obtain⟨MQ,MR,MS,MT,MU⟩:=bt b k cs rp W M;exact⟨MQ,MR,MS,MT,.of_steps (StepsIn.trans fa (.one (fenced_calm W M rfl) stepR_inLoop)) MU⟩
 | exit id=>exact⟨_,lZ,l0,bt,.pass (x:=.inLoop c) rfl (λ_ _=>.inl (by simp)) fa⟩
 | goto l=>exact⟨_,lZ,l0,bt,.pass (x:=.inLoop c) rfl (λ_ _=>.inl (by simp)) fa⟩
 | ret=>exact⟨_,lZ,l0,bt,.pass (x:=.inLoop c) rfl (λ_ _=>.inl (by simp)) fa⟩
 | panic MV=>exact⟨_,lZ,l0,bt,.pass (x:=.inLoop c) rfl (λ_ _=>.inl (by simp)) fa⟩
 | outgrown=>exact⟨_,lZ,l0,bt,.pass (x:=.inLoop c) rfl (λ_ _=>.inl (by simp)) fa⟩
theorem Ah{b:Frame}{k:List Item}{cs:List Frame}{c:Code}:step P (lone (b.atR a (.code (.scope c)::k)) cs w)=.next (lone (b.atR a (.code c::.inScope c::k)) cs w):=
 step_lone_go (by rfl)
theorem ah'{b:Frame}{k:List Item}{cs:List Frame}{c:Code}:step P (lone (b.atR a (.inScope c::k)) cs w)=.next (lone (b.atR a k) cs w):=
 step_lone_go (by rfl)
theorem aia{c:Code}(h:c.wpIn F n P (Exit.noGoto Q) a w):(Code.scope c).wpIn F n P Q a w:=by
 intro b k cs rp W M;have aY:(lone (b.atR a (.code (.scope c)::k)) cs w).fenced P F:=fenced_calm W M rfl;obtain⟨e,lZ,l0,bt,fa⟩:=h b (.inScope c::k) cs rp W M;cases e with
 | normal=>exact⟨.normal,lZ,l0,bt,.head aY Ah (StepsIn.trans fa (.one (fenced_calm W M rfl) ah'))⟩
 | exit id=>
  have ah:exitTo id (.inScope c::k)=exitTo id k:=by rfl
  exact⟨.exit id,lZ,l0,bt,λk' an=>.head aY Ah (fa.1 k' (by grind)),λbc an=>let ⟨k₁,E,U⟩:=fa.2 bc (by grind);⟨k₁,E,.head aY Ah U⟩⟩
 | goto l=>exact bt.elim
 | ret=>exact⟨.ret,lZ,l0,bt,.of_steps (.one aY Ah) fa⟩
 | panic MV=>exact⟨.panic MV,lZ,l0,bt,.of_steps (.one aY Ah) fa⟩
 | outgrown=>exact⟨.outgrown,lZ,l0,bt,.of_steps (.one aY Ah) fa⟩
end
section
variable {T:Nat->ad} {bg:Nat->Option aL} {Ψ:Nat->Option e6}
def MW{D β:Type}(m:A (V D β))(O:β->Prop)(st:V D β):Prop:=
 match st with
 | .next s=>m.bL (.next s)
 | .done r=>O r
theorem aib{C:b'}{s s':aA}{i:Nat}{a:Act}{w:World}(h:LB s i=some s')(M:cu C s a w):cu C s' a w:=by
 obtain⟨κ,F,M⟩:=M;unfold LB at h;split at h
 ·rename_i b g n off aE;split at h
  ·rename_i e xs bT;split at h
   ·rename_i aC;cases h;have ae:=M.bU i;rw[aE]at ae;obtain⟨aQ,aS,bP⟩:=ae.2 aC (by rw[bT];rfl);rw[bT]at aQ bP;have aT:=M.bE b;unfold cG at aT;rw[bT]at aT;obtain⟨cs,T,bF,c2,c3,c4,c5⟩:=aT.2 aS;have aQ:n<xs.length:=aQ;obtain⟨bk,d1,d2⟩:=c5 n aQ;have d2:bJ C.P (.slice e) F w bk xs[n]:=d2;obtain⟨u,rfl,hu⟩:=BX (t:=.slice e) rfl d2;have tH:cs.getD ((κ b).off+n) Go.undef=u:=by
     have:=d1 0 (by simp);simp only[ad.size,Nat.mul_one,Nat.add_zero]at this;rw[Array.getD_eq_getD_getElem?,this];rfl
    have gw:fr s.aa κ (λq=>if q=b then (⟨g,.gp (.st (.slice e)) xs n (.val (.slice e) (xs.getD n []))⟩:bK) else s.aa q) κ:=
     qT aC (λh=>by cases h) (λ_=>by rw[bT];exact⟨rfl,rfl,rfl⟩) (λh=>by cases h) (λh=>by cases h)
    have cO:=M.o9 (b:=b) (x:=⟨g,.gp (.st (.slice e)) xs n (.val (.slice e) (xs.getD n []))⟩) (w':=w) (by rw[bT];simp[bR.b1,aS]) (by simp[bR.b1,aS]) gw (λh=>by cases h) (λh=>by cases h) (λ_ _=>rfl) rfl (dd.refl w) λH mU cc he=>
     ⟨aS,cs,T,bF,c2,c3,c4,⟨rfl,aQ⟩,λj aF _=>c5 j aF,by rw[tH,show xs.getD n []=xs[n] by simp[aQ]];exact (dV rfl).2 ⟨hu,d2⟩,by rw[tH];exact J1 (t:=.slice e) rfl d2⟩
    refine⟨κ,F,{ cO with bU:=λj=>?_,dH:=cO.dH,dfr:=cO.dfr,bE:=cO.bE,eL:=λl aM L m st a7=>?_ }⟩
    ·show bC _ _ _ _ _ (if j=i then _ else _) _;split
     ·rename_i aF;subst aF;refine⟨⟨by show g<=(if b=b then _ else _:bK).gen;simp,ae.1.2⟩,λ_ _=>?_⟩;show _<(if b=b then _ else _:bK).body.len/\_/\_=Value.pointer (some ⟨_,_+_*(if b=b then _ else _:bK).body.e3,_⟩);simp only[if_true];exact⟨aQ,aS,bP⟩
     ·exact cO.bU j
    ·have a7:(if b6=i then _ else _)=aH.aW l aM L m st:=a7;split at a7
     ·cases a7
     ·exact cO.eL l aM L m st a7
   ·cases h
  ·cases h
 ·cases h
theorem aic{C:b'}{s s':aA}{b:Nat}{a:Act}{w:World}(h:LC s b=some s')(M:cu C s a w):cu C s' a w:=by
 obtain⟨κ,F,M⟩:=M;unfold LC at h;split at h
 ·rename_i e xs n v bT;split at h
  ·rename_i y bV aR;split at h
   ·cases h
   ·rename_i p_;cases h;have p_:b ∉ bV:=by simpa using p_
    obtain⟨F',f1,bc,f2⟩:=bm.lj (mT aR) M;have zx:(s.cB bV).aa b=s.aa b:=by simp[aA.cB,p_]
    have aT:=M.bE b;have MX:=bc.bE b;unfold cG at aT MX;rw[zx,bT]at MX;rw[bT]at aT;obtain⟨aY,cs,T,bF,c2,c3,c4,c5,lQ,ov,xd⟩:=MX;obtain⟨_,di,hU,UB,_,_,_,_,_,aid,_⟩:=aT;rw[bF]at UB;cases UB;have vj:=mm M.bE f1 aR f2 aid;obtain⟨Hg,oL⟩:=(dV rfl).1 vj;have gw:fr (s.cB bV).aa κ (λq=>if q=b then (⟨(s.aa b).gen,.bj (.st (.slice e)) (xs.set n y)⟩:bK) else (s.cB bV).aa q) κ:=
     qT (by rw[zx]) (λh=>by cases h) (λ_=>by rw[zx,bT];exact⟨rfl,by simp[bR.len],rfl⟩) (λh=>by cases h) (λh=>by cases h)
    refine⟨κ,F',bc.o9 (b:=b) (w':=w) (by rw[zx,bT];simp[bR.b1,aY]) (by simp[bR.b1,aY]) gw (λh=>by cases h) (λh=>by cases h) (λ_ _=>rfl) rfl (dd.refl w) λH mU cc he=>⟨λaB=>(by rw[aY]at aB;cases aB),λ_=>⟨cs,T,bF,c2,by simpa using c3,c4,λj aF=>?_⟩⟩⟩;by_cases qS:j=n
    ·subst qS;refine⟨[cs.getD ((κ b).off+j) Go.undef],λq bt=>?_,?_⟩
     ·have bt:q=0:=by simpa using bt
      subst bt;have:(κ b).off+j<cs.size:=by
       have:=c5.2;simp only[ad.size,Nat.mul_one]at c2;omega
      simp[ad.size,this]
     ·rw[List.getElem_set_self];exact oL
    ·obtain⟨bk,d1,d2⟩:=lQ j (by simpa using aF) qS;exact⟨bk,d1,by rw[List.getElem_set_ne (Ne.symm qS)];exact d2⟩
  ·cases h
 ·cases h
theorem aie:∀ (ann:cD),(∀ (C:b') (_:C.P.follows .mixedOrders=true) (_:dU C.P T) (_:jn C.P bg) (_:lY C.P C.aN Ψ) (_:C.r=none\/ann.ek=true) {β:Type} (c:Code) (s:aA) (k:dj->aA->A β) (O:β->Prop) (Q:Exit->Act->World->Prop) (a:Act) (w:World),lu C.nt c=true->cu C s a w->A.cy (eI C.aN T bg Ψ ann c s k) O->(∀ u,C.jO u->∀ e s' a' w',cu (C.hk u) s' a' w'->A.cy (k e s') O->Q e.po a' w')->c.wpIn (dT C.r) 0 C.P Q a w)/\(ann.oE=true->∀ (C:b') (_:C.P.follows .mixedOrders=true) (_:dU C.P T) (_:jn C.P bg) (_:lY C.P C.aN Ψ) (_:C.r=none\/ann.ek=true) {β:Type} (c:Code) (s:aA) (k:dj->aA->A β) (O:β->Prop) (Q:Exit->Act->World->Prop) (a:Act) (w:World),lu C.nt c=true->cu C s a w->A.cy (eI C.aN T bg Ψ ann (.loop c) s k) O->(∀ u,C.jO u->∀ e s' a' w',cu (C.hk u) s' a' w'->A.cy (k e s') O->Q e.po a' w')->Hn (dT C.r) 0 C.P c Q a w):=by
 intro ann;induction ann with
 | eN=>
  refine⟨?_,λ_ C eo aV cC cZ fY β c s k O Q a w hc M hm an=>by unfold eI at hm;exact (gI hm).elim⟩;intro C eo aV cC cZ fY β c s k O Q a w hc M hm an;unfold eI at hm;split at hm
  ·rename_i id ops draw;cases draw with
   | true=>exact ahy eo aV (TP cC cZ) cZ (λo af=>List.all_eq_true.1 hc o af) (λs' a' w' bc fl=>an C.hF C.vF .normal s' a' w' bc fl) M hm
   | false=>
    refine wpIn_region ?_;have:=Mm (Q:=Q) (ops:=ops) aV cC cZ (λo af=>List.all_eq_true.1 hc o af) (k:=k .normal) (O:=O) (λs' a' w' bc fl=>an C.hF C.vF .normal s' a' w' bc fl) ops.toList 0 [] s a w (by simp) (λp ao=>by cases ao) M hm;rw[List.range_eq_range'];omega
  ·exact wpIn_skip (an C.hF C.vF .normal s a w M hm)
  ·exact wpIn_label (an C.hF C.vF .normal s a w M hm)
  ·exact wpIn_exit (an C.hF C.vF (.exit _) s a w M hm)
  ·exact wpIn_ret (an C.hF C.vF .ret s a w M hm)
  ·exact (gI hm).elim
 | seq x y hy ly=>
  have hy:=hy.1;have ly:=ly.1;refine⟨?_,λh=>by simp[cD.oE]at h⟩;intro C eo aV cC cZ fY β c s k O Q a w hc M hm an;have l1:C.r=none\/x.ek=true:=fY.imp id λh=>by simp only[cD.ek,Bool.and_eq_true]at h;grind
  have qp:C.r=none\/y.ek=true:=fY.imp id λh=>by simp only[cD.ek,Bool.and_eq_true]at h;grind
  unfold eI at hm;split at hm
  ·rename_i n2 Ai;simp only[lu,Bool.and_eq_true]at hc;refine wpIn_seq (hy C eo aV cC cZ l1 n2 s _ O _ a w hc.1 M hm λu hu e s' a' w' bc fl=>?_);cases e with
   | normal=>exact ly (C.hk u) eo aV cC cZ qp Ai s' k O Q a' w' hc.2 bc fl λv ae=>by rw[b'.Ad];exact an _ (hu.then ae)
   | exit id=>exact an u hu (.exit id) s' a' w' bc fl
   | ret=>exact an u hu .ret s' a' w' bc fl
  ·exact (gI hm).elim
 | join sh x y hy ly=>
  have hy:=hy.1;have ly:=ly.1;refine⟨?_,λh=>by simp[cD.oE]at h⟩;intro C eo aV cC cZ fY β c s k O Q a w hc M hm an;have l1:C.r=none\/x.ek=true:=fY.imp id λh=>by simp only[cD.ek,Bool.and_eq_true]at h;grind
  have qp:C.r=none\/y.ek=true:=fY.imp id λh=>by simp only[cD.ek,Bool.and_eq_true]at h;grind
  unfold eI at hm;split at hm
  ·rename_i n2 Ai;simp only[lu,Bool.and_eq_true]at hc;rw[A.gh]at hm;refine wpIn_seq (hy C eo aV cC cZ l1 n2 s _ _ _ a w hc.1 M hm λu hu e s' a' w' bc fl=>?_);cases e with
   | normal=>
    obtain⟨D,nY,U⟩:=uh fl;have ag:=A.eb.1 U;exact ly (C.hk u) eo aV cC cZ qp Ai _ k O Q a' w' hc.2 (dJ.xG nY bc) ag λv ae=>by rw[b'.Ad];exact an _ (hu.then ae)
   | exit id=>
    simp only[xE,A.gh,A.eb,V.bz]at fl;exact an u hu (.exit id) s' a' w' bc fl
   | ret=>
    simp only[xE,A.gh,A.eb,V.bz]at fl;exact an u hu .ret s' a' w' bc fl
  ·exact (gI hm).elim
 | cond x y hy ly=>
  have hy:=hy.1;have ly:=ly.1;refine⟨?_,λh=>by simp[cD.oE]at h⟩;intro C eo aV cC cZ fY β c s k O Q a w hc M hm an;have l1:C.r=none\/x.ek=true:=fY.imp id λh=>by simp only[cD.ek,Bool.and_eq_true]at h;grind
  have qp:C.r=none\/y.ek=true:=fY.imp id λh=>by simp only[cD.ek,Bool.and_eq_true]at h;grind
  unfold eI at hm;split at hm
  ·rename_i co n2 Ai;simp only[lu,Bool.and_eq_true]at hc;unfold S6 at hm;split at hm
   ·rename_i t hu;obtain⟨κ,F,eW⟩:=M;have ae:=j8 eW co;rw[hu]at ae;refine wpIn_cond_split (fg.1 ae) (λaI=>?_) (λaI=>?_)
    ·subst aI;exact hy C eo aV cC cZ l1 n2 s k O Q a w hc.1 ⟨κ,F,eW⟩ hm an
    ·subst aI;exact ly C eo aV cC cZ qp Ai s k O Q a w hc.2 ⟨κ,F,eW⟩ hm an
   ·rename_i g t hu;rw[A.kM]at hm;obtain⟨be,hm⟩:=hm;obtain⟨κ,F,eW⟩:=M;have ae:=j8 eW co;rw[hu]at ae;refine wpIn_cond_split (fg.1 (ae.1 be)) (λaI=>?_) (λaI=>?_)
    ·subst aI;exact hy C eo aV cC cZ l1 n2 s k O Q a w hc.1 ⟨κ,F,eW⟩ hm an
    ·subst aI;exact ly C eo aV cC cZ qp Ai s k O Q a w hc.2 ⟨κ,F,eW⟩ hm an
   ·exact (gI hm).elim
  ·exact (gI hm).elim
 | block x hy=>
  have hy:=hy.1;refine⟨?_,λh=>by simp[cD.oE]at h⟩;intro C eo aV cC cZ fY β c s k O Q a w hc M hm an;have l1:C.r=none\/x.ek=true:=fY;unfold eI at hm;split at hm
  ·rename_i id n2;refine wpIn_block (hy C eo aV cC cZ l1 n2 s _ O _ a w hc M hm λu hu e s' a' w' bc fl=>?_);cases e with
   | normal=>exact an u hu .normal s' a' w' bc fl
   | exit GB=>
    simp only[S5]at fl;simp only[dj.po,Exit.inBlock];split at fl
    ·rename_i e;rw[if_pos e];exact an u hu .normal s' a' w' bc fl
    ·rename_i e;rw[if_neg e];exact an u hu (.exit GB) s' a' w' bc fl
   | ret=>exact an u hu .ret s' a' w' bc fl
  ·exact (gI hm).elim
 | loop sh x hy=>
  have hy:=hy.1;refine⟨?_,λh=>by simp[cD.oE]at h⟩;intro C eo aV cC cZ fY β c s k O Q a w hc M hm an;have l1:C.r=none\/x.ek=true:=fY;unfold eI at hm;split at hm
  ·rename_i n2;obtain⟨D,nY,U⟩:=uh hm;refine ah6 (I:=λD a w=>∃ u,C.jO u/\cu (C.hk u) (sh.st D) a w) (O:=O) (λD a w ⟨v,ae,eB⟩ q5 Dj=>?_) U.1 U.2 ⟨C.hF,C.vF,dJ.xG nY M⟩;refine hy (C.hk v) eo aV cC cZ l1 n2 (sh.st D) _ (MW (eI C.aN T bg Ψ x n2 (sh.st D) (xE k λs'=>sh.nb s' λiI=>A.pure (V.next iI))) O) _ a w hc eB ⟨q5,λst gz=>?_⟩ λu hu e s' a' w' bc fl=>?_
   ·cases st with
    | next iI=>exact gz
    | done r=>exact Dj r gz
   ·cases e with
    | normal=>
     obtain⟨iI,MH,ag⟩:=uh fl;have a6:=A.eb.1 ag;exact⟨iI,a6,_,ae.then hu,by rw[<-b'.Ad];exact dJ.xG MH bc⟩
    | exit id=>
     simp only[xE,A.gh,A.eb,MW]at fl;exact an _ (ae.then hu) (.exit id) s' a' w' (by rw[<-b'.Ad];omega) fl
    | ret=>
     simp only[xE,A.gh,A.eb,MW]at fl;exact an _ (ae.then hu) .ret s' a' w' (by rw[<-b'.Ad];omega) fl
  ·exact (gI hm).elim
 | scope x hy=>
  have hy:=hy.1;refine⟨?_,λh=>by simp[cD.oE]at h⟩;intro C eo aV cC cZ fY β c s k O Q a w hc M hm an;have l1:C.r=none\/x.ek=true:=fY;unfold eI at hm;split at hm
  ·rename_i n2;refine aia (hy C eo aV cC cZ l1 n2 s _ O _ a w hc M hm λu hu e s' a' w' bc fl=>?_);have:=an u hu e s' a' w' bc fl;cases e<;>exact this
  ·exact (gI hm).elim
 | range sh rin rout x y hy ly=>
  have hy:=hy.1;have ly:=ly.1;refine⟨?_,λh=>by simp[cD.oE]at h⟩;intro C eo aV cC cZ fY β c s k O Q a w hc M hm an;unfold eI at hm;split at hm
  ·rename_i g ps assign body;simp only[lu,Bool.and_eq_true,List.all_eq_true,decide_eq_true_eq]at hc;obtain⟨ayo,UC,UD⟩:=hc;split at hm
   ·rename_i rh n eU aC;split at hm
    ·rename_i ic aif;split at hm
     ·rename_i ayp bV ah;split at hm
      ·rename_i ed;simp only[Bool.and_eq_true]at ed;obtain⟨ed,l1,qp⟩:=ed;obtain⟨D,nY,U⟩:=uh hm;rw[A.kM,A.gh]at U;simp only[S7]at U;have iM:C.r=none:=fY.resolve_right λh=>by cases h
       have MY:nX sh rout ic.aM ps.toList C.nt=true:=by
        simp only[nX,Bool.and_eq_true,List.all_eq_true,decide_eq_true_eq]at ed ⊢;grind
       refine ah1 iM M aC (cZ rh _ aif) ah MY nY U.1 U.2 (λl=>?_) an;intro C1 jr tK rq tV eH b9 cp qn ka kg;have h:=hy C1 (jr ▸ eo) (jr ▸ aV) (jr ▸ cC) (by grind) (.inr l1) assign eH (GC λdM=>eI C.aN T bg Ψ y body dM λe eJ=>rout.nb eJ λbn=>A.pure (e,bn)) qn
        (Exit.then (λa2 c8=>∃ u dM,C1.jO u/\cu (C1.hk u) dM a2 c8/\
         ∀ (hx:b'),hx.P=C.P->hx.aN=C.aN->hx.nt=C.nt->hx.r=some l->∀ (c8:World),cu hx dM a2 c8->
          body.wpIn (dT (some l)) 0 C.P (λe a3 eX=>∃ (a7:dj) (v:n0) (eJ:aA) (bn:rout.ai),e=a7.po/\hx.jO v/\cu (hx.hk v) eJ a3 eX/\rout.jb eJ=some bn/\qn (a7,bn)) a2 c8) (λ_ _ _=>False)) b9 cp (rq ▸ UC) ka (tK ▸ kg)
        λu hu e dM a2 c8 cO pr=>?_
       ·grind
       ·cases e with
        | normal=>
         refine⟨u,dM,hu,cO,λhx xY MZ M0 aih c8 mB=>?_⟩;have h:=ly hx (xY ▸ eo) (xY ▸ aV) (xY ▸ cC) (by grind) (.inr qp) body dM (λe eJ=>rout.nb eJ λbn=>A.pure (e,bn)) qn
          (λe a3 eX=>∃ (a7:dj) (v:n0) (eJ:aA) (bn:rout.ai),e=a7.po/\hx.jO v/\cu (hx.hk v) eJ a3 eX/\rout.jb eJ=some bn/\qn (a7,bn)) a2 c8 (M0 ▸ UD) mB (MZ ▸ pr) λv ae e eJ a3 eX oM Ho=>by
           obtain⟨bn,gj,bM⟩:=uh Ho;exact⟨e,v,eJ,bn,rfl,ae,oM,gj,A.eb.1 bM⟩
         grind
        | exit id=>exact (gI pr).elim
        | ret=>exact (gI pr).elim
      ·exact (gI hm).elim
     ·exact (gI hm).elim
    ·exact (gI hm).elim
   ·rename_i aM S aC;split at hm
    ·rename_i ed;simp only[Bool.and_eq_true]at ed;obtain⟨ed,l1,qp⟩:=ed;obtain⟨D,nY,U⟩:=uh hm;rw[A.gh]at U;have iM:C.r=none:=fY.resolve_right λh=>by cases h
     have MY:nX sh rout aM ps.toList C.nt=true:=by
      simp only[nX,Bool.and_eq_true,List.all_eq_true,decide_eq_true_eq]at ed ⊢;grind
     refine ah3 iM M aC MY nY U.1 (λL iL=>by have ag:=A.gh.1 (U.2 L iL);simp only[S7]at ag;exact ag) (λl=>?_) an;intro C1 jr tK rq tV eH b9 cp qn ka kg;have h:=hy C1 (jr ▸ eo) (jr ▸ aV) (jr ▸ cC) (by grind) (.inr l1) assign eH (GC λdM=>eI C.aN T bg Ψ y body dM λe eJ=>rout.nb eJ λbn=>A.pure (e,bn)) qn
      (Exit.then (λa2 c8=>∃ u dM,C1.jO u/\cu (C1.hk u) dM a2 c8/\
       ∀ (hx:b'),hx.P=C.P->hx.aN=C.aN->hx.nt=C.nt->hx.r=some l->∀ (c8:World),cu hx dM a2 c8->
        body.wpIn (dT (some l)) 0 C.P (λe a3 eX=>∃ (a7:dj) (v:n0) (eJ:aA) (bn:rout.ai),e=a7.po/\hx.jO v/\cu (hx.hk v) eJ a3 eX/\rout.jb eJ=some bn/\qn (a7,bn)) a2 c8) (λ_ _ _=>False)) b9 cp (rq ▸ UC) ka (tK ▸ kg)
      λu hu e dM a2 c8 cO pr=>?_
     ·grind
     ·cases e with
      | normal=>
       refine⟨u,dM,hu,cO,λhx xY MZ M0 aih c8 mB=>?_⟩;have h:=ly hx (xY ▸ eo) (xY ▸ aV) (xY ▸ cC) (by grind) (.inr qp) body dM (λe eJ=>rout.nb eJ λbn=>A.pure (e,bn)) qn
        (λe a3 eX=>∃ (a7:dj) (v:n0) (eJ:aA) (bn:rout.ai),e=a7.po/\hx.jO v/\cu (hx.hk v) eJ a3 eX/\rout.jb eJ=some bn/\qn (a7,bn)) a2 c8 (M0 ▸ UD) mB (MZ ▸ pr) λv ae e eJ a3 eX oM Ho=>by
         obtain⟨bn,gj,bM⟩:=uh Ho;exact⟨e,v,eJ,bn,rfl,ae,oM,gj,A.eb.1 bM⟩
       grind
      | exit id=>exact (gI pr).elim
      | ret=>exact (gI pr).elim
    ·exact (gI hm).elim
   ·exact (gI hm).elim
  ·exact (gI hm).elim
 | nW x y hy ly=>
  refine ah8 (λ_ C eo aV cC cZ fY β c s k O Q a w hc M hm an=>?_) λkey C eo aV cC cZ fY β c s k O Q a w hc M hm an=>?_
  ·have l1:C.r=none\/x.ek=true:=fY.imp id λh=>by simp only[cD.ek,Bool.and_eq_true]at h;grind
   have qp:C.r=none\/y.ek=true:=fY.imp id λh=>by simp only[cD.ek,Bool.and_eq_true]at h;grind
   unfold eI at hm;simp only at hm;split at hm
   ·rename_i hu;refine ah_ (hy.1 C eo aV cC cZ l1 c s _ O _ a w hc M hm λu xJ e s' a' w' bc fl=>?_);cases e with
    | normal=>exact ly.2 hu (C.hk u) eo aV cC cZ qp c s' k O Q a' w' hc bc fl λv ae=>by rw[b'.Ad];exact an _ (xJ.then ae)
    | exit id=>exact an u xJ (.exit id) s' a' w' bc fl
    | ret=>exact an u xJ .ret s' a' w' bc fl
   ·exact (gI hm).elim
  ·cases c with
   | loop n2=>exact ah9 (key rfl C eo aV cC cZ fY n2 s k O Q a w hc M hm an)
   | _=>unfold eI at hm;exact (gI hm).elim
 | GA=>
  refine⟨?_,λh=>by simp[cD.oE]at h⟩;intro C eo aV cC cZ fY β c s k O Q a w hc M hm an;unfold eI at hm;split at hm
  ·rename_i id ops draw;split at hm
   ·rename_i h;rw[Bool.and_eq_true]at h;obtain⟨rfl,h⟩:=h;exact ahE eo (fY.resolve_right (by simp[cD.ek])) h aV (TP cC cZ) cZ (λo af=>List.all_eq_true.1 hc o af) (λs' a' w' bc fl=>an C.hF C.vF .normal s' a' w' bc fl) M hm
   ·exact (gI hm).elim
  ·exact (gI hm).elim
 | nR i x aK=>
  have aK:=aK.1;refine⟨?_,λh=>by simp[cD.oE]at h⟩;intro C eo aV cC cZ fY β c s k O Q a w hc M hm an;unfold eI at hm;split at hm
  ·rename_i s' ae;exact aK C eo aV cC cZ fY c s' k O Q a w hc (aib ae M) hm an
  ·exact (gI hm).elim
 | Gz b x aK=>
  have aK:=aK.1;refine⟨?_,λh=>by simp[cD.oE]at h⟩;intro C eo aV cC cZ fY β c s k O Q a w hc M hm an;unfold eI at hm;split at hm
  ·rename_i s' ae;exact aK C eo aV cC cZ fY c s' k O Q a w hc (aic ae M) hm an
  ·exact (gI hm).elim
 | num i n x aK=>
  have aK:=aK.1;refine⟨?_,λh=>by simp[cD.oE]at h⟩;intro C eo aV cC cZ fY β c s k O Q a w hc M hm an;unfold eI at hm;split at hm
  ·rename_i v f ae;rw[A.kM]at hm;have h:=hm.2;rw[afh ae hm.1]at h;exact aK C eo aV cC cZ fY c s k O Q a w hc M h an
  ·exact (gI hm).elim
 | split i off n x aK=>
  have aK:=aK.1;refine⟨?_,λh=>by simp[cD.oE]at h⟩;intro C eo aV cC cZ fY β c s k O Q a w hc M hm an;unfold eI at hm;split at hm
  ·rename_i v f ae;rw[A.kM]at hm;have h:=S2 hm.2 hm.1.1 hm.1.2;rw[afg ae hm.1.1]at h;exact aK C eo aV cC cZ fY c s k O Q a w hc M h an
  ·exact (gI hm).elim
theorem UE(ann:cD):∀ (C:b') (_:C.P.follows .mixedOrders=true) (_:dU C.P T) (_:jn C.P bg) (_:lY C.P C.aN Ψ) (_:C.r=none\/ann.ek=true) {β:Type} (c:Code) (s:aA) (k:dj->aA->A β) (O:β->Prop) (Q:Exit->Act->World->Prop) (a:Act) (w:World),lu C.nt c=true->cu C s a w->A.cy (eI C.aN T bg Ψ ann c s k) O->(∀ u,C.jO u->∀ e s' a' w',cu (C.hk u) s' a' w'->A.cy (k e s') O->Q e.po a' w')->c.wpIn (dT C.r) 0 C.P Q a w:=(aie ann).1
end
end Go.Fer
namespace Go.Fer
open Go.RowKit
def DD(T:Nat->ad)(s:aA):List ResultVar->Option (List aH)
 | []=>some []
 | r::l=>match DD T s l with
  | none=>none
  | some aD=>match r with
   | .tmp t=>some (s.ay t::aD)
   | .cell a ty=>match (zc (T ty) (s.ay a)).run s.aa with
    | some v=>some (v::aD)
    | none=>none
def M1(t:ad)(n:Nat):Bool:=
 match t with
 | .az _ _=>n != 1
 | .cU=>n == 0
 | _=>n == 1
def vI(T:Nat->ad)(kA:List ResultVar)(aW:ad)(e:dj)(s:aA):A aW.ai:=
 match e with
 | .exit _=>A.fail
 | _=>match DD T s kA with
  | some avs=>match (iY aW avs).run s.aa with
   | some (y,_)=>A.pure y
   | none=>A.fail
  | none=>A.fail
def Aj(t:ad)(x:t.ai)(n:Nat):List (Nat×aH):=(List.range n).map λi=>(i,ku t x i)
def sH(t:ad):Nat:=if t=.cU then 0 else j6 t
def pv(t:ad)(x:t.ai):aA:=SP (Aj t x (sH t)) []
def DE(aP:dG)(T:Nat->ad)(bg:Nat->Option aL)(Ψ:Nat->Option e6)(fn:Func)(c:Code)(ann:cD)(ts aW:ad)(x:ts.ai):A aW.ai:=
 eI aP T bg Ψ ann c (pv ts x) (vI T fn.results.toList aW)
def Hp(av:aH):aH:=match av with | .val (.bI e) p=>.dW e (p.getD e.df) | v=>v
def DF(av:aH):Prop:=match av with | .val (.bI _) p=>p.isSome=true | _=>True
def Hq(n:Nat)(s:aA):aA:=⟨λi=>if i<n\/eR<i then s.ay i else Hp (s.ay i),s.aa⟩
def DG(n:Nat)(s:aA):Prop:=∀ i,¬(i<n\/eR<i)->DF (s.ay i)
def aii(aP:dG)(T:Nat->ad)(bg:Nat->Option aL)(Ψ:Nat->Option e6)(fn:Func)(c:Code)(ann:cD)(n:Nat)(ts aW:ad)(x:ts.ai):A aW.ai:=
 A.ab (DG n (pv ts x)) (eI aP T bg Ψ ann c (Hq n (pv ts x)) (vI T fn.results.toList aW))
def DH(fn:Func)(c:Code)(ts aW:ad):Bool:=
 lu fn.ntmps c && M1 aW fn.results.size && decide (sH ts <= fn.ntmps) && !(fn.name == "runtime.NumGoroutine") && decide (fn.ntmps <= eR)
def Ak:z9'->List aH->Option (List aH)
 | [],[]=>some []
 | none::g,v::aD=>match Ak g aD with
  | some l=>some (v::l)
  | none=>none
 | some n::g,v::aD=>match v,Ak g aD with
  | .agg m f,some l=>if m=n then some ((List.range n).map f++l) else none
  | _,_=>none
 | _,_=>none
def Hr(T:Nat->ad)(kA:List ResultVar)(kC:z9')(bL:dJ)(e:dj)(s:aA):A bL.ai:=
 match e with
 | .exit _=>A.fail
 | _=>match DD T s kA with
  | some avs=>match Ak kC avs with
   | some l=>match decide (l.length<=eR) with
    | true=>bL.nb (so s l) λbn=>A.pure bn
    | false=>A.fail
   | none=>A.fail
  | none=>A.fail
def M2(aP:dG)(T:Nat->ad)(bg:Nat->Option aL)(Ψ:Nat->Option e6)(fn:Func)(c:Code)(ann:cD)(cq bL:dJ)(kC:z9')(D:cq.ai):A bL.ai:=
 eI aP T bg Ψ ann c (cq.st D) (Hr T fn.results.toList kC bL)
def DI(fn:Func)(c:Code)(ke:Nat)(kC:z9'):Bool:=
 lu fn.ntmps c && decide (fn.results.size = kC.length) && decide (ke <= fn.ntmps) && !(fn.name == "runtime.NumGoroutine") && decide (fn.ntmps <= eR)
section
variable {C:b'} {T:Nat->ad} {bg:Nat->Option aL} {Ψ:Nat->Option e6}
def Al(tmps:Array Value)(r:ResultVar):Sem Value:=
 match r with
 | .tmp t=>pure (tmps.getD t undef)
 | .cell b t=>do loadVar t (<-asAddr (tmps.getD b undef))
theorem UF(fn:Func)(tmps:Array Value):results fn tmps=(fn.results.mapM (Al tmps) >>= λaD=>pure (if h:aD.size=1 then aD[0] else .tuple aD)):=by
 rfl
theorem UG(aV:dU C.P T){s:aA}{a:Act}{w:World}{κ:Nat->bD}{F:Nat->Prop}(M:bm C s a w κ F):∀ (kA:List ResultVar) {avs:List aH},DD T s kA=some avs->
  ∃ aD:List Value,(kA.mapM (Al a.tmps)).run C.P w=.ok aD w/\aD.length=kA.length/\avs.length=kA.length/\
   ∀ i (h:i<avs.length) (dt:i<aD.length),bC C.P s.aa κ F w avs[i] aD[i]:=by
 intro kA;induction kA with
 | nil=>intro avs h;cases h;simp
 | cons r kA aK=>
  intro avs h;simp only[DD]at h;split at h
  ·cases h
  ·rename_i l aj;obtain⟨aD,E,U,ag,a6⟩:=aK aj;have one:∃ av v,avs=av::l/\(Al a.tmps r).run C.P w=.ok v w/\bC C.P s.aa κ F w av v:=by
    split at h
    ·rename_i t;cases h;exact⟨_,_,rfl,rfl,M.bU t⟩
    ·rename_i b ty;split at h
     ·rename_i v ae;cases h;obtain⟨u,aQ,aS⟩:=RQ aV M ae (M.bU b);refine⟨v,u,rfl,?_,aS⟩;unfold Instr.loadAt at aQ;unfold Al;simp only;generalize a.tmps.getD b Go.undef=z at aQ ⊢;cases z with
      | pointer p=>
       cases p with
       | none=>simp[Instr.sureAddr]at aQ
       | some p=>simpa [Instr.sureAddr,asAddr]using aQ
      | _=>simp[Instr.sureAddr]at aQ
     grind
   obtain⟨av,v,rfl,aQ,aS⟩:=one;refine⟨v::aD,?_,by grind,by grind,λi G dL=>?_⟩
   ·simp_all
   grind
theorem aij(aV:dU C.P T){fn:Func}{aW:ad}(rr:M1 aW fn.results.size=true){e:dj}{s:aA}{a:Act}{w:World}{O:aW.ai->Prop}(M:cu C s a w)(hm:A.cy (vI T fn.results.toList aW e s) O) :
  (∀ id,e≠.exit id)/\∃ κ F v y,bm C s a w κ F/\(results fn a.tmps).run C.P w=.ok v w/\O y/\∃ F',(∀ r,F' r->C.F0 r\/¬C.K0 r)/\(∀ r,F' r->r<w.heap.size)/\tx C.P aW F' w v y:=by
 obtain⟨κ,F,M⟩:=M;unfold vI at hm;split at hm
 ·exact (gI hm).elim
 ·rename_i eO;refine⟨λid he=>eO id he,?_⟩;split at hm
  ·rename_i avs M3;split at hm
   ·rename_i y l aR;obtain⟨aD,E,U,ag,a6⟩:=UG aV M _ M3;obtain⟨F',f1,bc,f2⟩:=bm.lj (qc _ aR) M;have dY:=vn (F':=F') M.bE f1 aW aR f2 (by omega) a6;have c7:(results fn a.tmps).run C.P w=.ok (if h:aD.toArray.size=1 then aD.toArray[0] else .tuple aD.toArray) w:=by
     rw[UF,Sem.run_bind];have:(fn.results.mapM (Al a.tmps)).run C.P w=.ok aD.toArray w:=by
      rw[Array.mapM_eq_mapM_toList,map_eq_pure_bind,Sem.run_bind,E];rfl
     simp_all
    refine⟨κ,F,_,y,M,c7,A.eb.1 hm,F',bc.hg,bc.db,aD,?_,dY⟩;have cf:aD.length=fn.results.size:=by omega
    rw[<-cf]at rr;clear c7 dY E a6 U cf aR;have one:aD.length=1->aD=[if h:aD.toArray.size=1 then aD.toArray[0] else .tuple aD.toArray]:=by
     intro h;match aD,h with
     | [v],_=>rfl
    cases aW<;>simp only[M1,beq_iff_eq,bne_iff_ne,ne_eq]at rr<;>simp only[y3];case az=>rw[dif_neg (by simpa using rr)]
    case cU=>
     have:aD=[]:=List.length_eq_zero_iff.1 rr;subst this;exact⟨rfl,rfl⟩
    all_goals exact one rr
   ·exact (gI hm).elim
  ·exact (gI hm).elim
theorem UH{l:List (Nat×aH)}{i:Nat}:fs l i=.undef\/(i,fs l i)∈l:=by
 induction l with
 | nil=>exact .inl rfl
 | cons p l aK=>
  simp only[fs];grind
theorem um{P : Program}{k : FuncId}{fn : Func}{c : Code}(aq : P.funcs[k]? = some fn)(W : fn.body = some c)(aB : (fn.name == "runtime.NumGoroutine") = false)(args : Array Value)(w : World) :
  (callFunc k args).run P w=.ok (.enter k args) w:=by
 have aB : ¬ fn.name = "runtime.NumGoroutine" := by grind
 simp[callFunc,aq,W,aB]
def pw(w:World):List Nat->World
 | []=>w
 | B::ms=>pw (w.putObj B (.deferred none)) ms
theorem UI:∀ (ms:List Nat) (w:World),(pw w ms).heap.size=w.heap.size
 | [],_=>rfl
 | _::ms,_=>(UI ms _).trans World.putObj_size
theorem M4:∀ (ms:List Nat) (w:World) {r:Nat},r ∉ ms->(pw w ms).heap[r]?=w.heap[r]?
 | [],_,_,_=>rfl
 | B::ms,w,r,h=>by
  simp only[List.mem_cons,not_or]at h;exact (M4 ms _ h.2).trans (World.putObj_heap_other h.1)
theorem UJ:∀ (ms:List Nat) (w:World),dd w (pw w ms)
 | [],w=>dd.refl w
 | B::ms,w=>by
  have h:dd w (w.putObj B (.deferred none)):=⟨rfl,rfl,rfl⟩
  exact h.trans (UJ ms _)
theorem M5{P:Program}{fn:Func}{tmps:Array Value}{R:Ending->World->Prop}:∀ (ms:List Nat) (w:World),ms.Nodup->(∀ B∈ms,w.heap[B]?=some (.deferred (some [])))->
  (∃ v,(results fn tmps).run P (pw w ms)=.ok v (pw w ms)/\R (.returned v) (pw w ms))->LeavesInM Fence.wide 0 P fn tmps R (ms.map oK) .returning w
 | [],w,_,_,h=>h
 | B::ms,w,aB,aT,h=>by
  simp only[List.nodup_cons]at aB;refine⟨by simp,.inl ⟨B,_,rfl,run_takeDeferred (aT B (by simp)),?_⟩⟩;exact M5 ms _ aB.2 (λaik dt=>(World.putObj_heap_other λe=>aB.1 (by grind)).trans (aT aik (List.mem_cons_of_mem _ dt))) h
theorem cu.UK{u:n0}{s:aA}{a:Act}{w:World}(hu:C.jO u)(ail:∀ r,C.F0 r->r<C.w0.heap.size)(vy:∀ r,C.K0 r->r<C.w0.heap.size)(h:cu (C.hk u) s a w) :
  cu { C with dfr:=u.ms.map oK++C.dfr } s a (pw w u.ms)/\a.defers=u.ms.map oK++C.dfr/\∀ B∈u.ms,w.heap[B]?=some (.deferred (some [])):=by
 obtain⟨κ,F,h⟩:=h;have ayq:∀ B∈u.ms,¬F B:=λB aT aq=>by
  obtain⟨E,_⟩:=hu.sE B aT;rcases h.hg B aq with U | U
  ·have:=ail B U;have:=(hu.eA B aT).2;omega
  ·exact U E
 have cf:=UI u.ms w;have hc:=UJ u.ms w;refine⟨⟨κ,F,h.Hd (w0:=C.w0) (w':=pw w u.ms) (K0:=C.K0) (r:=C.r) (λr M=>hu.hl r M) (λr M=>M4 _ _ λhm=>?_) (Nat.le_of_eq cf.symm) hc vy (λr M=>?_) ?_ ?_⟩,h.dfr,λB aT=>?_⟩
 ·rcases M with M | M
  ·grind
  ·exact M (hu.sE r hm).1
 ·exact (M4 _ _ λhm=>(hu.eA r hm).1 M).trans ((h.eG r (hu.hl r M)).trans (hu.eG r M))
 ·rw[cf];exact Nat.le_trans hu.size h.size
 ·exact (hu.ew.trans h.ew).trans hc
 ·exact (h.eG B (hu.sE B aT).1).trans (hu.sE B aT).2
theorem UL{P:Program}{aP:dG}(eo:P.follows .mixedOrders=true){k:FuncId}{fn:Func}{c:Code}{ann:cD}{ts aW:ad}{sh:ts.ai->A aW.ai}(aV:dU P T)(h_:qR P aP)(cC:jn P bg)(cZ:lY P aP Ψ)(aq:P.funcs[k]?=some fn)(W:fn.body=some c)
    (cM:DH fn c ts aW=true) {s0:ts.ai->aA} {pre:ts.ai->Prop} (nf:∀ x C a w,cu C (pv ts x) a w->pre x->cu C (s0 x) a w)
    (nH:∀ x,A.le (A.ab (pre x) (eI aP T bg Ψ ann c (s0 x) (vI T fn.results.toList aW))) (sh x)):h2 P k ts aW sh:=by
  simp only[DH,Bool.and_eq_true,Bool.not_eq_true',decide_eq_true_eq]at cM;obtain⟨⟨⟨⟨DJ,rr⟩,aim⟩,M6⟩,ue⟩:=cM;refine⟨um aq W M6,λF w args x bp gu dY q5=>?_⟩;obtain⟨⟨gN,E⟩,U⟩:=nH x q5;have hlen:args.length=sH ts/\∀ i,i<sH ts->∀ (H:Nat->bK) (κ:Nat->bD),bC P H κ F w (ku ts x i) (args.getD i Go.undef):=by
    unfold sH;split
    · rename_i e
      subst e
      have:args=[]:=dY.1
      grind
    · rename_i e
      exact⟨(tO (H:=λ_=>⟨0,.fz⟩) (κ:=λ_=>⟨0,0,0,false⟩) ts dY e).1,λi G H κ=>(tO ts dY e).2 i G⟩
  let C:b':={ P:=P,w0:=w,F0:=F,K0:=λr=>r<w.heap.size,nt:=fn.ntmps,r:=none,dfr:=[],ib:=λ_=>none,cd:=⟨0,.cU,λ_=>False,λ_ _ _ _ _=>False⟩,aN:=aP }
  let a0:Act:={ tmps:=args.toArray++Array.replicate (fn.ntmps - args.toArray.size) undef,defers:=[] }
  let ain:Nat->bD:=λ_=>⟨0,0,0,false⟩
  have qk:∀ i,(pv ts x).ay i=.undef\/(i<sH ts/\(pv ts x).ay i=ku ts x i):=λi=>by
    rcases UH (l:=Aj ts x (sH ts)) (i:=i) with e | e
    · exact .inl e
    · refine .inr ?_
      generalize bl:fs (Aj ts x (sH ts)) i=z at e
      simp only[Aj,List.mem_map,List.mem_range,Prod.mk.injEq]at e
      obtain⟨j,aF,rfl,rfl⟩:=e
      exact⟨aF,bl⟩
  have M:cu C (pv ts x) a0 w:=by
    refine⟨ain, F, { dH := ?_, dfr := rfl, bU := λi => ?_, bE := λb => trivial, al := λb W => (by cases W), inj := λb bf W _ _ => (by cases W), db := bp, hg := λr M => .inl M, hQ := λr M => M, ht := λr M => M, eG := λr _ => rfl, size := Nat.le_refl _, ew := dd.refl w,gq:=ue,kp:=λb r h=>(by cases h),jD:=λb r h=>(by cases h),j4:=λb k h=>(by cases h),kq:=λb k h=>(by cases h),eL:=λl aM L n st e=>?_,jE:=h_,iA:=gu }⟩
    · grind
    · rcases qk i with e | ⟨G,e⟩
      · rw[e];simp only[bC]
      · rw[e]
        have:a0.tmps.getD i Go.undef=args.getD i Go.undef:=by
          have dL:i<args.length:=by omega
          simp[a0,Array.getD_eq_getD_getElem?,List.getD_eq_getElem?_getD,Array.getElem?_append,dL]
        grind
    · rcases qk b6 with h | ⟨h,_⟩
      · grind
      · unfold b6 eR at *;omega
  refine callsIn_wide.1 (callsIn_of_wp_marks (F:=Fence.wide) (n:=0) aq W trivial ?_);have hw:=UE ann C eo aV cC cZ (.inl rfl) (k:=vI T fn.results.toList aW) (O:=(eI aP T bg Ψ ann c (s0 x) (vI T fn.results.toList aW)).bL) (Q:=bodyPostM Fence.wide 0 P fn λe w'=>∃ v y,e=.returned v/\(sh x).bL y/\tx P aW (u7 F w w') w' v y/\Below w.heap.size w w') c (s0 x) a0 w DJ (nf x C a0 w M gN) ⟨E,λ_ h=>h⟩;refine hw λu hu e s' a' w' bc hm=>?_;obtain⟨cO,aw,aT⟩:=cu.UK hu bp (λ_ h=>h) bc;obtain⟨eO,κ,z_,v,y,eW,c7,aR,F',f1,f2,gv⟩:=aij (C:={ C with dfr:=u.ms.map oK++C.dfr }) aV rr cO hm;have tZ:LeavesInM Fence.wide 0 P fn a'.tmps (λe w'=>∃ v y,e=.returned v/\(sh x).bL y/\tx P aW (u7 F w w') w' v y/\Below w.heap.size w w') a'.defers .returning w':=by
    rw[aw];simp only[C,List.append_nil];refine M5 u.ms w' hu.mA aT ⟨v,c7,v,y,rfl,U y aR,?_,eW.ew.os,eW.ew.tape,eW.ew.output,eW.size,eW.eG⟩;obtain⟨aD,aQ,aS,bP⟩:=gv;refine⟨aD,aQ,aS,ff aW (λr M=>?_) (c6.refl _ _) bP⟩;rcases f1 r M with h | h
    · exact .inl h
    · exact .inr ⟨Nat.le_of_not_lt h,f2 r M⟩
  cases e with
  | normal=>exact tZ
  | exit id=>grind
  | ret=>exact tZ
theorem aio{P:Program}{aP:dG}(eo:P.follows .mixedOrders=true){k:FuncId}{fn:Func}{c:Code}{ann:cD}{ts aW:ad}{sh:ts.ai->A aW.ai}(aV:dU P T)(h_:qR P aP)(cC:jn P bg)(cZ:lY P aP Ψ)(aq:P.funcs[k]?=some fn)(W:fn.body=some c)
  (cM:DH fn c ts aW=true) (nH:∀ x,A.le (DE aP T bg Ψ fn c ann ts aW x) (sh x)):h2 P k ts aW sh:=
 UL eo aV h_ cC cZ aq W cM (ann:=ann) (s0:=pv ts) (pre:=λ_=>True) (λ_ _ _ _ h _=>h) λx aE=>⟨⟨trivial,(nH x aE).1⟩,(nH x aE).2⟩
theorem aip{C:b'}{s:aA}{a:Act}{w:World}{n:Nat}(h:cu C s a w)(hc:DG n s):cu C (Hq n s) a w:=by
 obtain⟨κ,F,M⟩:=h;refine⟨κ,F,{ M with bU:=λi=>?_,dH:=M.dH,dfr:=M.dfr,bE:=M.bE,eL:=λl aM L m st e=>?_ }⟩
 ·show bC C.P s.aa κ F w (if i<n\/eR<i then s.ay i else Hp (s.ay i)) _;split
  ·exact M.bU i
  ·rename_i G;have ae:=M.bU i;have ao:=hc i G;unfold Hp;unfold DF at ao;split
   ·rename_i e p he;rw[he]at ae ao;have ao:p.isSome=true:=ao;obtain⟨_,ae⟩:=(dV rfl).1 ae;simp only[bJ]at ae;rcases ae with⟨_,rfl⟩ | ⟨q,y,bk,bt,rfl,aQ,aS⟩
    ·cases ao
    ·exact⟨q,bk,(List.cons.inj bt).1,aQ,aS⟩
   omega
 ·have e:(if b6<n\/eR<b6 then s.ay b6 else Hp (s.ay b6))=.aW l aM L m st:=e;rw[if_pos (.inr (by decide))]at e;exact M.eL l aM L m st e
theorem aiq{P:Program}{aP:dG}(eo:P.follows .mixedOrders=true){k:FuncId}{fn:Func}{c:Code}{ann:cD}{n:Nat}{ts aW:ad}{sh:ts.ai->A aW.ai}(aV:dU P T)(h_:qR P aP)(cC:jn P bg)(cZ:lY P aP Ψ)(aq:P.funcs[k]?=some fn)(W:fn.body=some c)
  (cM:DH fn c ts aW=true) (nH:∀ x,A.le (aii aP T bg Ψ fn c ann n ts aW x) (sh x)):h2 P k ts aW sh:=
 UL eo aV h_ cC cZ aq W cM (ann:=ann) (s0:=λx=>Hq n (pv ts x)) (pre:=λx=>DG n (pv ts x)) (λ_ _ _ _ h ao=>aip h ao) nH
theorem M7{H:Nat->bK}{κ:Nat->bD}{F:Nat->Prop}{w:World}{P:Program}:∀ (g:z9') {avs l:List aH} {us:List Value},Ak g avs=some l->avs.length=us.length->(∀ i (h:i<avs.length) (dt:i<us.length),bC P H κ F w avs[i] us[i])->
  ∃ aD:List Value,C4 g us aD/\l.length=aD.length/\∀ i,i<aD.length->bC P H κ F w (l.getD i .undef) (aD.getD i undef)
 | [],[],l,us,h,aj,_=>by
  cases h;have:us=[]:=List.eq_nil_of_length_eq_zero aj.symm;subst this;exact⟨[],rfl,rfl,λi G=>by cases G⟩
 | [],_::_,_,_,h,_,_=>by cases h
 | none::_,[],_,_,h,_,_=>by cases h
 | some _::_,[],_,_,h,_,_=>by cases h
 | none::g,av::avs,l,[],_,aj,_=>by cases aj
 | some n::g,av::avs,l,[],_,aj,_=>by cases aj
 | none::g,av::avs,l,u::us,h,aj,ae=>by
  simp only[Ak]at h;split at h
  ·rename_i dI Hk;cases h;obtain⟨aD,E,U,ag⟩:=M7 g Hk (by grind) λi h dt=>ae (i+1) (Nat.succ_lt_succ h) (Nat.succ_lt_succ dt);refine⟨u::aD,⟨aD,rfl,E⟩,by grind,λi G=>?_⟩;cases i with
   | zero=>exact ae 0 (Nat.zero_lt_succ _) (Nat.zero_lt_succ _)
   | succ i=>grind
  grind
 | some n::g,av::avs,l,u::us,h,aj,ae=>by
  simp only[Ak]at h;split at h
  ·rename_i m f dI Hk;split at h
   ·rename_i St;cases h;subst St;obtain⟨aD,E,U,ag⟩:=M7 g Hk (by grind) λi h dt=>ae (i+1) (Nat.succ_lt_succ h) (Nat.succ_lt_succ dt);obtain⟨cs,aQ,aS,bP⟩:bC P H κ F w (.agg m f) u:=ae 0 (Nat.zero_lt_succ _) (Nat.zero_lt_succ _);refine⟨cs++aD,⟨cs.toArray,aD,aQ,by omega,λc hc=>?_,by simp,E⟩,by grind,λi G=>?_⟩
    ·obtain⟨j,aF,rfl⟩:=List.mem_iff_getElem.1 (by omega:c∈cs);grind
    grind
   grind
  grind
def air(P:Program)(aP:dG)(T:Nat->ad)(fn:Func)(c:Code)(ic:cL):Prop:=
 ∀ (C:b') (D:ic.cq.ai) (Q:Exit->Act->World->Prop) (a:Act) (w:World),C.P=P->C.aN=aP->C.nt=fn.ntmps->C.r=none->C.dfr=[]->lu C.nt c=true->cu C (ic.cq.st D) a w->(ic.sh D).cm->
  (∀ u,C.jO u->∀ e s' a' w',cu (C.hk u) s' a' w'->A.cy (Hr T fn.results.toList ic.kC ic.bL e s') (ic.sh D).bL->Q e.po a' w')->c.wpIn (dT C.r) 0 C.P Q a w
theorem ais{P:Program}{aP:dG}{k:FuncId}{fn:Func}{c:Code}{ic:cL}(aV:dU P T)(aq:P.funcs[k]?=some fn)(W:fn.body=some c)
  (cM:DI fn c ic.ke ic.kC=true) (ait:air P aP T fn c ic):cS P aP k ic:=by
 simp only[DI,Bool.and_eq_true,Bool.not_eq_true',decide_eq_true_eq]at cM;obtain⟨⟨⟨⟨DJ,rr⟩,aim⟩,M6⟩,ue⟩:=cM;refine⟨um aq W M6,λC a w κ F D jr Am iM rk sk h_ M q5=>?_⟩;subst jr;subst Am;subst h_;have ayr:a.tmps.size=ic.ke:=M.dH.trans sk;have eV:∀ i,(a.tmps++Array.replicate (fn.ntmps - a.tmps.size) undef).getD i undef=a.tmps.getD i undef:=λi=>by
  simp only[Array.getD_eq_getD_getElem?,Array.getElem?_append];grind
 have bc:bm { C with nt:=fn.ntmps,dfr:=[],r:=none } (ic.cq.st D) { tmps:=a.tmps++Array.replicate (fn.ntmps - a.tmps.size) undef,defers:=[] } C.w0 κ F:=
  { M with dH:=(by grind),dfr:=rfl,gq:=ue,bU:=λi=>(by rw[eV];exact M.bU i),bE:=M.bE }
 refine callsIn_wide.1 (callsIn_of_wp_marks (F:=Fence.wide) (n:=0) aq W trivial ?_);refine ait { C with nt:=fn.ntmps,dfr:=[],r:=none } D _ _ C.w0 rfl rfl rfl rfl rfl DJ ⟨κ,F,bc⟩ q5 λu hu e s' a' w' bc hm=>?_;obtain⟨⟨nd,en,cO⟩,aw,aT⟩:=cu.UK hu (λr h=>M.db r (M.hQ r h)) M.ht bc;have key:(∀ id,e≠.exit id)/\LeavesInM Fence.wide 0 C.P fn a'.tmps (λe w'=>∃ v bn aD κ' F',e=.returned v/\(ic.sh D).bL bn/\GJ ic.kC v aD/\bm { C with nt:=aD.length } (ic.bL.st bn) { tmps:=aD.toArray,defers:=[] } w' κ' F') a'.defers .returning w':=by
  unfold Hr at hm;split at hm
  ·exact (gI hm).elim
  ·rename_i eO;refine⟨λid he=>eO id he,?_⟩;split at hm
   ·rename_i avs M3;split at hm
    ·rename_i l aj;split at hm
     ·rename_i cc;have cc:l.length<=eR:=of_decide_eq_true cc;obtain⟨us,aQ,aS,bP,gy⟩:=UG (C:={ C with nt:=fn.ntmps,dfr:=u.ms.map oK++[],r:=none }) aV cO _ M3;obtain⟨aD,g1,ey,g3⟩:=M7 ic.kC aj (by omega) gy;obtain⟨bn,gj,bM⟩:=uh hm;have bb:=cO.args (avs:=l) (us:=aD) (by omega) ey g3;obtain⟨Hh,Uq,_,mB⟩:=dJ.zX gj bb;rw[aw];simp only[List.append_nil];have c7:(results fn a'.tmps).run C.P (pw w' u.ms)=.ok (if us.length=1 then us.getD 0 undef else .tuple us.toArray) (pw w' u.ms):=by
       rw[UF,Sem.run_bind];have:(fn.results.mapM (Al a'.tmps)).run C.P (pw w' u.ms)=.ok us.toArray (pw w' u.ms):=by
        rw[Array.mapM_eq_mapM_toList,map_eq_pure_bind,Sem.run_bind,aQ];rfl
       rw[this];simp only[Result.andThen_ok,Sem.run_pure,List.size_toArray];grind
      refine M5 u.ms w' hu.mA aT ⟨_,c7,_,bn,aD,Hh,Uq,rfl,A.eb.1 bM,⟨us,?_,rfl,g1⟩,?_⟩
      ·rw[aS];simpa using rr
      ·have e:({ C with nt:=aD.length }:b')={ C with nt:=aD.length,dfr:=[],r:=none }:=by
        cases C;simp only at iM rk;subst iM;subst rk;rfl
       rw[e];exact mB
     ·exact (gI hm).elim
    ·exact (gI hm).elim
   ·exact (gI hm).elim
 cases e with
 | normal=>exact key.2
 | exit id=>grind
 | ret=>exact key.2
theorem UM{P:Program}{aP:dG}(eo:P.follows .mixedOrders=true){k:FuncId}{fn:Func}{c:Code}{ann:cD}{ic:cL}(aV:dU P T)(cC:jn P bg)(cZ:lY P aP Ψ)(aq:P.funcs[k]?=some fn)(W:fn.body=some c)
  (cM:DI fn c ic.ke ic.kC=true) (nH:∀ D,A.le (M2 aP T bg Ψ fn c ann ic.cq ic.bL ic.kC D) (ic.sh D)):cS P aP k ic:=
 ais aV aq W cM λC D Q a w jr h_ _ iM _ DJ M q5 an=>by
  subst jr;subst h_;obtain⟨E,U⟩:=nH D q5;exact UE ann C eo aV cC cZ (.inl iM) c (ic.cq.st D) (Hr T fn.results.toList ic.kC ic.bL) (M2 C.aN T bg Ψ fn c ann ic.cq ic.bL ic.kC D).bL Q a w DJ M ⟨E,λ_ h=>h⟩ λu hu e s' a' w' bc hm=>an u hu e s' a' w' bc ⟨hm.1,λy aR=>U y (hm.2 y aR)⟩
end
def rs:List (Nat×ad)->Nat->ad
 | [],_=>.cU
 | p::l,i=>if i=p.1 then p.2 else rs l i
def UN(P:Program)(l:List (Nat×ad)):Bool:=l.all λp=>cH P p.2 (.inl p.1)
theorem aiu{P:Program}{l:List (Nat×ad)}(h:UN P l=true):dU P (rs l):=by
 intro id;induction l with
 | nil=>exact .inl rfl
 | cons p l aK=>
  simp only[UN,List.all_cons,Bool.and_eq_true]at h;simp only[rs];split
  ·rename_i e;subst e;exact .inr h.1
  ·exact aK h.2
end Go.Fer
namespace Go.Fer
open Go.RowKit
theorem UO{P:Program}{aP:dG}{k:FuncId}{c:cL}(h:cS P aP k c)(h_:qR P aP){ic:zO}(mk:ic.ts.ai->Nat->(List ic.aM.ai->Prop)->c.cq.ai)(aB:c.ke=j6 ic.ts+1)(hX:c.ke<=eR)(ud:ic.ts≠.cU)
    (fm:∀ x l L i,(c.cq.st (mk x l L)).ay i=.undef\/(i<j6 ic.ts/\(c.cq.st (mk x l L)).ay i=ku ic.ts x i)\/(i=j6 ic.ts/\(c.cq.st (mk x l L)).ay i=.hf l)\/(i=b6/\(c.cq.st (mk x l L)).ay i=.aW l ic.aM L [] false))
    (iE:c.cq.bE=[]) (pt:∀ bn,∃ n st l L,(c.bL.st bn).ay b6=.aW l ic.aM L n st)
    (sc:∀ x l,ic.pre x->(c.sh (mk x l (λT=>T=ic.seq x))).cm/\∀ bn,(c.sh (mk x l (λT=>T=ic.seq x))).bL bn->∀ dI e7 n,(c.bL.st bn).ay b6=.aW dI ic.aM e7 n false->n=ic.seq x):Da P k ic:=by
  refine⟨h.enter,λl I F Y w args x dY gN cM bp gu iF eB=>?_⟩;obtain⟨iB,Hf⟩:=tO (H:=λ_=>⟨0,.fz⟩) (κ:=λ_=>⟨0,0,0,false⟩) ic.ts dY ud;have uo:∀ b,(c.cq.st (mk x l (λT=>T=ic.seq x))).aa b=⟨0,.fz⟩:=λb=>by
    show eQ (hj c_ c.cq.bE (eD c_ c.cq.bU (mk x l (λT=>T=ic.seq x))).2) b=_;generalize (eD c_ c.cq.bU (mk x l (λT=>T=ic.seq x))).2=z;revert z;rw[iE];intro z;rfl
  have cf:(args++[Value.func (.yield l) #[] #[]]).length=c.ke:=by grind
  have M:bm { P:=P,w0:=w,F0:=F,K0:=λr=>r<w.heap.size/\¬Y r,nt:=c.ke,r:=none,dfr:=[],ib:=λ_=>none,cd:=⟨l,ic.aM,λT=>T=ic.seq x,I⟩,aN:=aP } (c.cq.st (mk x l (λT=>T=ic.seq x)))
      { tmps:=(args++[Value.func (.yield l) #[] #[]]).toArray,defers:=[] } w (λ_=>⟨0,0,0,false⟩) F:=
    { dH := by omega
      dfr:=rfl
      bU:=λi=>by
        rcases fm x l (λT=>T=ic.seq x) i with e | ⟨G,e⟩ | ⟨G,e⟩ | ⟨G,e⟩
        · rw[e];trivial
        · rw[e]
          have:=(tO (H:=(c.cq.st (mk x l (λT=>T=ic.seq x))).aa) (κ:=λ_=>⟨0,0,0,false⟩) ic.ts dY ud).2 i G
          have aO:(args++[Value.func (.yield l) #[] #[]]).toArray.getD i undef=args.getD i undef:=by
            rw[Array.getD_eq_getD_getElem?,List.getD_eq_getElem?_getD,List.getElem?_toArray,List.getElem?_append_left (by omega)]
          grind
        · rw[e]
          show (args++[Value.func (.yield l) #[] #[]]).toArray.getD i undef=_
          simp_all
        · rw[e];trivial
      bE:=λb=>by unfold cG;rw[uo b];trivial
      al:=λb W=>by rw[uo b]at W;cases W
      inj:=λb bf W _ _=>by rw[uo b]at W;cases W
      db:=bp
      hg:=λr M=>.inl M
      hQ:=λr M=>M
      ht:=λr M=>M.1
      eG:=λ_ _=>rfl
      size:=Nat.le_refl _
      ew:=dd.refl _
      gq:=hX
      kp:=λb r h=>by cases h
      jD:=λb r h=>by cases h
      j4:=λb k h=>by cases h
      kq:=λb k h=>by cases h
      eL:=λdI kB e7 n st e=>by
        rcases fm x l (λT=>T=ic.seq x) b6 with a7 | ⟨G,_⟩ | ⟨G,_⟩ | ⟨_,a7⟩
        · grind
        · unfold b6 eR at *;omega
        · grind
        · rw[a7]at e
          cases e
          exact⟨⟨I,rfl⟩,cM,Y,λr M=>⟨(iF r M).1,(iF r M).2,λk=>k.2 M⟩,λb W=>(by rw[uo b]at W;cases W),lN.y5.2 eB⟩
      jE:=h_,iA:=gu }
  obtain⟨aE,tZ⟩:=sc x l gN;refine (h.iV _ _ w _ F _ rfl rfl rfl rfl rfl rfl M aE).mono λe w' ⟨v,bn,aD,κ',F',he,gj,_,bc⟩=>?_;obtain⟨n,st,dI,e7,qk⟩:=pt bn;obtain⟨⟨aiv,M8⟩,_,gE,ag,a6,M9⟩:=bc.eL dI ic.aM e7 n st qk;refine⟨v,n,st,F',gE,he,λgz=>?_,lN.y5.1 M9,bc.hQ,λr cO=>?_,bc.db,λr E U=>bc.eG r ⟨E,U⟩,λr cO=>⟨?_,(ag r cO).1,(ag r cO).2.1⟩,bc.size,bc.ew⟩
  · grind
  · rcases bc.hg r cO with h | h
    · exact .inl h
    · by_cases aR:Y r
      · exact .inr (.inl aR)
      · exact .inr (.inr (Nat.le_of_not_lt λcc=>h ⟨cc,aR⟩))
  grind
theorem M_{P:Program}{aP:dG}{k:FuncId}{c:cL}(h:cS P aP k c)(h_:qR P aP){cs:List ad}{aM:ad}{S:(gn (cs.map .bI)).ai->List aM.ai->Prop}(mk:(gn (cs.map .bI)).ai->Nat->(List aM.ai->Prop)->c.cq.ai)
    (aB:c.ke=j6 (gn (cs.map .bI))+1) (hX:c.ke<=eR) (ud:gn (cs.map .bI)≠.cU)
    (fm:∀ x l L i,(∃ T,S x T)->(c.cq.st (mk x l L)).ay i=.undef\/(i<j6 (gn (cs.map .bI))+1/\0<i/\∃ e y,(c.cq.st (mk x l L)).ay i=.dW e y/\ku (gn (cs.map .bI)) x (i - 1)=.val (.bI e) (some y))\/(i=0/\(c.cq.st (mk x l L)).ay i=.hf l)\/(i=b6/\(c.cq.st (mk x l L)).ay i=.aW l aM L [] false))
    (iE:c.cq.bE=[]) (pt:∀ bn,∃ n st l L,(c.bL.st bn).ay b6=.aW l aM L n st)
    (sc:∀ x l,(∃ L,S x L)->(c.sh (mk x l (S x))).cm/\∀ bn,(c.sh (mk x l (S x))).bL bn->∀ dI e7 p,(c.bL.st bn).ay b6=.aW dI aM e7 p false->S x p):w1 P k ⟨cs,aM,S⟩:=by
  refine⟨h.enter,λF w args x bp gu dY eO l UP Y iF aiw aix=>?_⟩;have cM:=Uz aiw;obtain⟨iB,Hf⟩:=tO (H:=λ_=>⟨0,.fz⟩) (κ:=λ_=>⟨0,0,0,false⟩) (gn (cs.map .bI)) dY ud;have uo:∀ b,(c.cq.st (mk x l (S x))).aa b=⟨0,.fz⟩:=λb=>by
    show eQ (hj c_ c.cq.bE (eD c_ c.cq.bU (mk x l (S x))).2) b=_;generalize (eD c_ c.cq.bU (mk x l (S x))).2=z;revert z;rw[iE];intro z;rfl
  have cf:(Value.func (.yield l) #[] #[]::args).length=c.ke:=by grind
  have M:bm { P:=P,w0:=w,F0:=F,K0:=λr=>r<w.heap.size/\¬Y r,nt:=c.ke,r:=none,dfr:=[],ib:=λ_=>none,cd:=⟨l,aM,S x,UP⟩,aN:=aP } (c.cq.st (mk x l (S x)))
      { tmps:=(Value.func (.yield l) #[] #[]::args).toArray,defers:=[] } w (λ_=>⟨0,0,0,false⟩) F:=
    { dH := by omega
      dfr:=rfl
      bU:=λi=>by
        rcases fm x l (S x) i eO with e | ⟨G,oB,lK,y,e,aiy⟩ | ⟨G,e⟩ | ⟨G,e⟩
        · rw[e];trivial
        · rw[e]
          have:=(tO (H:=(c.cq.st (mk x l (S x))).aa) (κ:=λ_=>⟨0,0,0,false⟩) (gn (cs.map .bI)) dY ud).2 (i - 1) (by omega)
          have aO:(Value.func (.yield l) #[] #[]::args).toArray.getD i undef=args.getD (i - 1) undef:=by
            obtain⟨j,rfl⟩:∃ j,i=j+1:=⟨i - 1,by omega⟩
            simp
          rw[aO]
          rw[aiy]at this
          obtain⟨_,ae⟩:=(dV rfl).1 this
          simp only[bJ]at ae
          rcases ae with⟨_,aB⟩ | ⟨q,mX,bk,bt,Ct,aQ,aS⟩
          · cases aB
          · cases Ct
            exact⟨q,bk,(List.cons.inj bt).1,aQ,aS⟩
        · rw[e]
          subst G
          rfl
        · rw[e];trivial
      bE:=λb=>by unfold cG;rw[uo b];trivial
      al:=λb W=>by rw[uo b]at W;cases W
      inj:=λb bf W _ _=>by rw[uo b]at W;cases W
      db:=bp
      hg:=λr M=>.inl M
      hQ:=λr M=>M
      ht:=λr M=>M.1
      eG:=λ_ _=>rfl
      size:=Nat.le_refl _
      ew:=dd.refl _
      gq:=hX
      kp:=λb r h=>by cases h
      jD:=λb r h=>by cases h
      j4:=λb k h=>by cases h
      kq:=λb k h=>by cases h
      eL:=λdI kB e7 n st e=>by
        rcases fm x l (S x) b6 eO with a7 | ⟨G,_⟩ | ⟨G,_⟩ | ⟨_,a7⟩
        · grind
        · grind
        · grind
        · rw[a7]at e
          cases e
          exact⟨⟨UP,rfl⟩,cM,Y,λr M=>⟨(iF r M).1,(iF r M).2,λk=>k.2 M⟩,λb W=>(by rw[uo b]at W;cases W),lN.y5.2 aix⟩
      jE:=h_,iA:=gu }
  obtain⟨aE,tZ⟩:=sc x l eO;have fa:#[Value.func (.yield l) #[] #[]]++args.toArray=(Value.func (.yield l) #[] #[]::args).toArray:=by simp
  rw[fa];refine (h.iV _ _ w _ F _ rfl rfl rfl rfl rfl rfl M aE).mono λe w' ⟨v,bn,aD,κ',F',he,gj,_,bc⟩=>?_;obtain⟨n,st,dI,e7,qk⟩:=pt bn;obtain⟨⟨aiv,M8⟩,_,gE,ag,a6,M9⟩:=bc.eL dI aM e7 n st qk;refine⟨v,n,st,F',gE,he,λgz=>?_,lN.y5.1 M9,bc.hQ,λr cO=>?_,bc.db,λr E U=>bc.eG r ⟨E,U⟩,λr cO=>⟨?_,(ag r cO).1,(ag r cO).2.1⟩,bc.size,⟨bc.ew.os,bc.ew.tape,bc.ew.output⟩⟩
  · grind
  · rcases bc.hg r cO with h | h
    · exact .inl h
    · by_cases aR:Y r
      · exact .inr (.inl aR)
      · exact .inr (.inr (Nat.le_of_not_lt λcc=>h ⟨cc,aR⟩))
  grind
end Go.Fer
namespace Go.Fer
open Go.RowKit Go.ChangeShapes Go.WideShapes
def ad.hK:ad->Bool
 | .bool | .int _ | .str | .cU=>true
 | .st t=>t.hK
 | .az a b=>a.hK&&b.hK
 | .slice e=>e.hK
 | _=>false
def ad.hB:(t:ad)->t.ai->Prop
 | .int k,x=>fV k x
 | .str,x=>x.length<2 ^ 63
 | .st t,x=>t.hB x
 | .az a b,x=>a.hB x.1/\b.hB x.2
 | .slice e,xs=>xs.length<2 ^ 63/\∀ y∈xs,e.hB y
 | .array n e,xs=>xs.length=n/\∀ y∈xs,e.hB y
 | _,_=>True
theorem An{P:Program}{w:World}{F:Nat->Prop}:∀ (t:ad) {cs:List Value} {x:t.ai},bJ P t F w cs x->t.hB x
 | .bool,_,_,_=>trivial
 | .int _,_,_,h=>h.2
 | .str,_,_,h=>h.2
 | .cU,_,_,_=>trivial
 | .st t,_,_,h=>by simp only[bJ]at h;exact An t h
 | .az a b,_,_,h=>by
  simp only[bJ]at h;obtain⟨c,d,_,E,U⟩:=h;exact⟨An a E,An b U⟩
 | .slice e,_,xs,h=>by
  simp only[bJ]at h;obtain⟨a,cap,_,E,U,ag,a6⟩:=h;refine⟨by omega,λy aR=>?_⟩;obtain⟨i,G,rfl⟩:=List.mem_iff_getElem.1 aR;cases a with
  | none=>have:=ag rfl;omega
  | some p=>
   obtain⟨bk,_,k⟩:=(a6 p rfl (by omega)).2.2 i G;exact An e k
 | .array n e,_,xs,h=>by
  simp only[bJ]at h;obtain⟨fp,_,E,U,ag⟩:=h;refine⟨U,λy aR=>?_⟩;obtain⟨i,G,rfl⟩:=List.mem_iff_getElem.1 aR;exact An e (ag i G (by omega))
 | .bI _,_,_,_=>trivial
 | .map _ _,_,_,_=>trivial
 | .fn _ _,_,_,_=>trivial
 | .ct _,_,_,_=>trivial
 | .eu,_,_,_=>trivial
section
variable {H:Type} {enc:TypeId×Value->H} {P:Program} {w:World}
theorem b_.cells{t:ad}{id:TypeId}(h:b_ P t id):P.cellsOf id=t.size:=by
 obtain⟨i,z,E,U,_⟩:=kt h.ks;simp[Program.cellsOf,E,U]
theorem UQ{a:Addr}{n:Nat}{bk:List Value}(h:w.cells? 0 a n=some bk)(aB:0<n):a.spot=none/\a.block<w.heap.size/\bk.length=n/\∀ j (aF:j<bk.length),w.cell? ⟨a.block,a.off+j,none⟩=some bk[j]:=by
 have W:=World.cells?_block h aB;have n3:a.spot=none:=by
  unfold World.cells? at h;split at h
  ·obtain⟨m,rfl⟩:∃ m,n=m+1:=⟨n - 1,by omega⟩
   rw[List.range_succ_eq_map]at h;simp only[List.mapM_cons,Option.bind_eq_bind,Option.bind_eq_some_iff]at h;obtain⟨v,ae,_⟩:=h;cases aE:a.spot with
   | none=>rfl
   | some x=>simp[World.cell?,Addr.add,aE]at ae;split at ae<;>cases ae
  ·cases h
 unfold World.cells? at h;split at h
 ·have hlen:bk.length=n:=by
   have:∀ (l:List Nat) (r:List Value),l.mapM (λi=>w.cell? (a.add i))=some r->r.length=l.length:=by
    intro l;induction l with
    | nil=>intro r M;simp at M;subst M;rfl
    | cons x l aK=>
     intro r M;simp only[List.mapM_cons,Option.bind_eq_bind,Option.bind_eq_some_iff,Option.pure_def,Option.some.injEq]at M;obtain⟨v,_,p1,bc,rfl⟩:=M;simp[aK p1 bc]
   simpa using this _ _ h
  refine⟨n3,W,hlen,λj aF=>?_⟩;have:∀ (l:List Nat) (r:List Value),l.mapM (λi=>w.cell? (a.add i))=some r->∀ j (E:j<l.length) (U:j<r.length),w.cell? (a.add l[j])=some r[j]:=by
   intro l;induction l with
   | nil=>intro r _ j E;simp at E
   | cons x l aK=>
    intro r M j E U;simp only[List.mapM_cons,Option.bind_eq_bind,Option.bind_eq_some_iff,Option.pure_def,Option.some.injEq]at M;obtain⟨v,ae,p1,bc,rfl⟩:=M;cases j with
    | zero=>exact ae
    | succ j=>exact aK p1 bc j (by simpa using E) (by simpa using U)
  have E:=this _ _ h j (by simp;omega) aF;rw[<-E];have zg:a.add ((List.range n)[j]'(by simp;omega))=⟨a.block,a.off+j,none⟩:=by
   cases a;simp only at n3;subst n3;simp[Addr.add]
  rw[zg]
 ·cases h
def qq(w:World):Nat->Prop:=λr=>r<w.heap.size
def ad.oN(n:Nat):(t:ad)->t.ai->Prop
 | .st t,x=>t.oN n x
 | .az a b,x=>a.oN n x.1/\b.oN n x.2
 | .slice e,xs=>xs.length<=n/\∀ y∈xs,e.oN n y
 | _,_=>True
structure BP(b:DataW H->Nat):Prop where
 len:∀ e s,e.length<=b (.slice e s)
 BQ:∀ e s d,d∈e->b d<=b (.slice e s)
 Rh:∀ l d,d∈l->b d<=b (.agg l)
variable {b:DataW H->Nat} {N:Nat}
theorem aiz(W:BP b)(t:ad):(t.hK=true->∀ {id:TypeId} {ck:Nat} {cs:List Value} {x:DataW H×List MemPlace},b_ P t id->DataW.trod enc P w 0 (λ_=>true) true ck id cs=some x->b x.1<=N->∃ y,bJ P t (qq w) w cs y/\t.oN N y)/\
  (t.hK=true->∀ {l:List Field} {off n:Nat} {cs:List Value},cH P t (.inr (l,off))=true->(∀ f∈l,∃ x,DataW.trod enc P w 0 (λ_=>true) true n f.type ((cs.drop f.offset).take (P.cellsOf f.type))=some x/\b x.1<=N)->∃ y,bJ P t (qq w) w ((cs.drop off).take t.size) y/\t.oN N y):=by
 induction t with
 | bool=>
  refine⟨λ_ {id ck cs x} aI h _=>?_,λ_ {l off n cs} h=>by simp[cH]at h⟩;have hu:P.underlying id=some .bool:=by
   unfold b_ at aI;simp only[cH,Bool.and_eq_true]at aI;obtain⟨_,aI⟩:=aI;split at aI
   ·assumption
   ·cases aI
  obtain⟨b,rfl,_⟩:=DataW.trod_bool hu h;exact⟨_,rfl,trivial⟩
 | int k=>
  refine⟨λ_ {id ck cs x} aI h _=>?_,λ_ {l off n cs} h=>by simp[cH]at h⟩;obtain⟨n,rfl,_,hw⟩:=DataW.trod_int aI.int h;simp only[Lit.wf,Bool.and_eq_true,decide_eq_true_eq]at hw;exact⟨n,⟨rfl,hw⟩,trivial⟩
 | str=>
  refine⟨λ_ {id ck cs x} aI h _=>?_,λ_ {l off n cs} h=>by simp[cH]at h⟩;obtain⟨s,rfl,_,hw⟩:=DataW.trod_string aI.str h;refine⟨s.data.toList,⟨by simp,?_⟩,trivial⟩;have:s.data.toList.length=s.size:=by rw[Array.length_toList];rfl
  rw[this];have:maxLen<2 ^ 63:=by decide
  omega
 | cU=>exact⟨λ_ {id ck cs x} aI h _=>by simp[b_,cH]at aI,λ_ {l off n cs} h=>by simp[cH]at h⟩
 | st t aK=>
  refine⟨λaj {id ck cs x} aI h ng=>?_,λ_ {l off n cs} h=>by simp[cH]at h⟩;have aj:t.hK=true:=aj;have Hs:P.cellsOf id=t.size:=aI.cells;obtain⟨eU,hu⟩:=aI.st;obtain⟨xs,n,_,rfl,hlen,SA,aq⟩:=DataW.trod_struct hu h;unfold b_ at aI;simp only[cH,Bool.and_eq_true]at aI;obtain⟨_,aI⟩:=aI;rw[hu]at aI;have jk:∀ f∈eU.toList,∃ x,DataW.trod enc P w 0 (λ_=>true) true n f.type ((cs.drop f.offset).take (P.cellsOf f.type))=some x/\b x.1<=N:=by
   intro f aiA;obtain⟨i,G,rfl⟩:=List.mem_iff_getElem.1 aiA;have dL:i<eU.size:=by simpa using G
   refine⟨xs[i]'(by omega),?_,Nat.le_trans (W.Rh _ _ (List.mem_map_of_mem (List.getElem_mem _))) ng⟩;rw[aq i _ (by simp[dL])];exact List.getElem?_eq_getElem _
  simp only at aI;split at aI
  ·have aI:=of_decide_eq_true aI;subst aI;have:cs=[]:=by
    have:=hlen.trans Hs;simpa [ad.size]using this
   subst this;exact⟨(),rfl,trivial⟩
  ·rename_i f fY;simp only[Bool.and_eq_true,beq_iff_eq,bne_iff_ne]at aI;obtain⟨⟨⟨aY,E⟩,_⟩,_⟩:=aI;obtain⟨x,ah,aiB⟩:=jk f (by rw[fY];simp);have hc:P.cellsOf f.type=t.size:=b_.cells E;rw[aY,hc,List.drop_zero,List.take_of_length_le (by omega)]at ah;exact aK.1 aj E ah aiB
  ·obtain⟨y,aR⟩:=aK.2 aj aI jk;rw[List.drop_zero,List.take_of_length_le (by omega)]at aR;exact⟨y,aR⟩
 | az a b fy eK=>
  refine⟨λ_ {id ck cs x} aI h _=>by simp[b_,cH]at aI,λaj {l off n cs} aI h=>?_⟩;simp only[ad.hK,Bool.and_eq_true]at aj;have join:∀ {y:a.ai} {z:b.ai},bJ P a (qq w) w ((cs.drop off).take a.size) y/\a.oN N y->bJ P b (qq w) w ((cs.drop (off+a.size)).take b.size) z/\b.oN N z->∃ y,bJ P (.az a b) (qq w) w ((cs.drop off).take (ad.az a b).size) y/\(ad.az a b).oN N y:=by
   intro y z aR bl;refine⟨(y,z),⟨_,_,?_,aR.1,bl.1⟩,aR.2,bl.2⟩;simp only[ad.size];rw[List.take_add,List.drop_drop]
  match l,aI with
  | f::g::[],aI=>
   simp only[cH,Bool.and_eq_true,beq_iff_eq,bne_iff_ne]at aI;obtain⟨⟨⟨⟨aY,E⟩,_⟩,_⟩,⟨⟨⟨hl,aQ⟩,_⟩,_⟩⟩:=aI;obtain⟨x,ah,aB⟩:=h f (by simp);obtain⟨dK,nO,CE⟩:=h g (by simp);rw[aY,b_.cells E]at ah;rw[hl,b_.cells aQ]at nO;obtain⟨y,aR⟩:=fy.1 aj.1 E ah aB;obtain⟨z,bl⟩:=eK.1 aj.2 aQ nO CE;exact join aR bl
  | f::g::e::eU,aI=>
   simp only[cH,Bool.and_eq_true,beq_iff_eq,bne_iff_ne]at aI;obtain⟨⟨⟨⟨aY,E⟩,_⟩,_⟩,aQ⟩:=aI;obtain⟨x,ah,aB⟩:=h f (by simp);rw[aY,b_.cells E]at ah;obtain⟨y,aR⟩:=fy.1 aj.1 E ah aB;obtain⟨z,bl⟩:=eK.2 aj.2 aQ λiD rm=>h iD (List.mem_cons_of_mem _ rm);exact join aR bl
 | slice e aK=>
  refine⟨λaj {id ck cs x} aI h ng=>?_,λ_ {l off n cs} h=>by simp[cH]at h⟩;have aj:e.hK=true:=aj;obtain⟨i,hu,he,cf⟩:=aI.sl;have Hs:=he.cells;rcases DataW.trod_slice hu h with⟨rfl,_⟩ | ⟨a,len,cap,elems,cn,n,rfl,rfl,ah,_,UR,xh,kc,eV,US,_⟩
  ·exact⟨[],⟨none,0,rfl,Nat.le_refl _,by decide,λ_=>rfl,λp ao=>by cases ao⟩,Nat.zero_le _,λy aR=>by cases aR⟩
  ·rw[ah]at ng;have ll:0<P.cellsOf i:=by rw[Hs];omega
   have key:∀ j,j<len->∃ bk y,w.cells? 0 (a.add (j*P.cellsOf i)) (P.cellsOf i)=some bk/\bJ P e (qq w) w bk y/\e.oN N y:=by
    intro j aF;have:=eV j aF;rw[List.getElem?_eq_getElem (by omega)]at this;obtain⟨bk,E,U⟩:=Option.bind_eq_some_iff.1 this;obtain⟨y,aR⟩:=aK.1 aj he U (Nat.le_trans (W.BQ _ _ _ (List.mem_map_of_mem (List.getElem_mem _))) ng);exact⟨bk,y,E,aR⟩
   have aiC:0<cap->a.spot=none/\a.block<w.heap.size:=by
    intro hc;have:∃ bk,w.cells? 0 (a.add (0*P.cellsOf i)) (P.cellsOf i)=some bk:=by
     by_cases Ky:0<len
     ·obtain⟨bk,_,E,_⟩:=key 0 Ky;exact⟨bk,E⟩
     ·obtain⟨m1,m2⟩:=US rfl;have bl:len=0:=by omega
      subst bl;have:=m2 0 (by omega);rw[List.getElem?_eq_getElem (by omega)]at this;obtain⟨bk,E,_⟩:=Option.bind_eq_some_iff.1 this;exact⟨bk,E⟩
    obtain⟨bk,E⟩:=this;have ax:a.add (0*P.cellsOf i)=a:=by unfold Addr.add;simp
    rw[ax]at E;obtain⟨aQ,aS,_⟩:=UQ E ll;exact⟨aQ,aS⟩
   have:∃ ys:List e.ai,ys.length=len/\∀ j (aF:j<ys.length),∃ bk,w.cells? 0 (a.add (j*P.cellsOf i)) (P.cellsOf i)=some bk/\bJ P e (qq w) w bk ys[j]/\e.oN N ys[j]:=by
    clear eV kc h UR US ng;induction len with
    | zero=>exact⟨[],rfl,λj aF=>by simp at aF⟩
    | succ m aiD=>
     obtain⟨ys,j9,cW⟩:=aiD λj aF=>key j (by omega);obtain⟨bk,y,E,U⟩:=key m (by omega);refine⟨ys++[y],by simp[j9],λj aF=>?_⟩;by_cases xk:j<ys.length
     ·rw[List.getElem_append_left xk];exact cW j xk
     ·have:j=m:=by simp at aF;omega
      subst this;refine⟨bk,E,?_⟩;rw[List.getElem_append_right (by omega)];simpa [j9]using U
   have aiE:len<=N:=by have:=W.len (elems.map (·.1)) (cn.map (·.1));rw[List.length_map,kc]at this;exact Nat.le_trans this ng
   obtain⟨ys,rfl,j9⟩:=this;have zu:maxLen<2 ^ 63:=by decide
   refine⟨ys,⟨some a,cap,rfl,UR,by omega,(by simp),λp ao u'=>?_⟩,aiE,λy aR=>by
    obtain⟨j,aF,rfl⟩:=List.mem_iff_getElem.1 aR;obtain⟨bk,_,E,U⟩:=j9 j aF;exact U⟩
   cases ao;obtain⟨aQ,aS⟩:=aiC u';refine⟨aS,aQ,λj aF=>?_⟩;obtain⟨bk,d1,d2,_⟩:=j9 j aF;obtain⟨m1,m2,m3,m4⟩:=UQ d1 ll;refine⟨bk,⟨aS,rfl,λq bt=>?_⟩,d2⟩;have:=m4 q bt;have ax:a.add (j*P.cellsOf i)=⟨a.block,a.off+j*e.size,none⟩:=by
    rw[Hs];cases a;simp only at aQ;subst aQ;unfold Addr.add;split
    ·rename_i aY;simp[aY]
    ·rfl
   rw[ax]at this;exact this
 | array n e aK=>exact⟨λh=>by simp[ad.hK]at h,λh=>by simp[ad.hK]at h⟩
 | bI e aK=>exact⟨λh=>by simp[ad.hK]at h,λh=>by simp[ad.hK]at h⟩
 | map k v wX wY=>exact⟨λh=>by simp[ad.hK]at h,λh=>by simp[ad.hK]at h⟩
 | fn a b fy eK=>exact⟨λh=>by simp[ad.hK]at h,λh=>by simp[ad.hK]at h⟩
 | ct a aK=>exact⟨λh=>by simp[ad.hK]at h,λh=>by simp[ad.hK]at h⟩
 | eu=>exact⟨λh=>by simp[ad.hK]at h,λh=>by simp[ad.hK]at h⟩
theorem UT(W:BP b){t:ad}(aj:t.hK=true){id:TypeId}(aI:b_ P t id){base:Nat}{v:Value}{d:DataW H}{ps:List MemPlace}(cM:Value.okWide P w .any base id v)
  (h:DataW.Trod enc P w 0 (λ_=>true) true id v d ps) (ng:b d<=N):∃ y,ev P t (qq w) w v y/\t.oN N y:=by
 obtain⟨n,aB⟩:=h;obtain⟨y,aR,aq⟩:=(aiz W t).1 aj aI aB ng;refine⟨y,⟨?_,aR⟩,aq⟩;cases t with
 | bool=>
  simp only[bJ]at aR;have hu:P.underlying id=some .bool:=by
   unfold b_ at aI;simp only[cH,Bool.and_eq_true]at aI;obtain⟨_,aI⟩:=aI;split at aI
   ·assumption
   ·cases aI
  simp only[Value.okWide,hu,Cell.okWide,Cell.ok]at cM;cases v<;>first | rfl | exact cM.elim
 | int k=>
  simp only[Value.okWide,aI.int,Cell.okWide,Cell.ok]at cM;cases v<;>first | rfl | exact cM.elim
 | str=>
  simp only[Value.okWide,aI.str,Cell.okWide,Cell.ok]at cM;cases v<;>first | rfl | exact cM.elim
 | cU=>simp[b_,cH]at aI
 | st t=>
  obtain⟨eU,hu⟩:=aI.st;simp only[Value.okWide,hu]at cM;obtain⟨cs,rfl,hc,_⟩:=cM;exact⟨cs,rfl,hc.trans aI.cells⟩
 | az a b=>simp[b_,cH]at aI
 | slice e=>
  obtain⟨i,hu,_⟩:=aI.sl;simp only[Value.okWide,hu,Cell.okWide,Cell.ok]at cM;cases v<;>first | rfl | exact cM.elim
 | array n e=>simp[ad.hK]at aj
 | bI e=>simp[ad.hK]at aj
 | map k v=>simp[ad.hK]at aj
 | fn a b=>simp[ad.hK]at aj
 | ct a=>simp[ad.hK]at aj
 | eu=>simp[ad.hK]at aj
def xZ(P:Program):List TypeId->ad->Bool
 | [id],t=>cH P t (.inl id)&&t.hK
 | id::ids,.az a b=>cH P a (.inl id)&&a.hK&&xZ P ids b
 | _,_=>false
theorem UU(W:BP b):∀ (ids:List TypeId) (ts:ad) {base:Nat} {aD:List Value} {bk:List (DataW H)} {ps:List MemPlace},xZ P ids ts=true->DataW.TrodAll enc P w 0 (λ_=>true) true ids aD bk ps->
  (∀ (j:Nat) t v,ids[j]?=some t->aD[j]?=some v->Value.okWide P w .any base t v)->(∀ d∈bk,b d<=N)->∃ x,fq P ts (qq w) w aD x/\ts.oN N x
 | [],ts,_,aD,bk,ps,h,_,_,_=>by simp[xZ]at h
 | [id],t,_,aD,bk,ps,h,ik,cM,ng=>by
  simp only[xZ,Bool.and_eq_true]at h;obtain⟨v0,M',d0,Na,FV,Ci,rfl,rfl,rfl,aY,sI⟩:=trodAll_cons ik;obtain⟨rfl,rfl,rfl⟩:=trodAll_nil sI;obtain⟨y,⟨xN,sz⟩,aq⟩:=UT W h.2 h.1 (cM 0 id v0 rfl rfl) aY (ng _ (List.mem_cons_self ..));refine⟨y,⟨?_,by simpa [ek]using sz⟩,aq⟩;cases t<;>first | exact⟨v0,rfl,xN⟩ | (simp[cH]at h;done)
 | id::aiF::ids,ts,base,aD,bk,ps,h,ik,cM,ng=>by
  cases ts with
  | az a b=>
   simp only[xZ,Bool.and_eq_true]at h;obtain⟨v0,M',d0,Na,FV,Ci,rfl,rfl,rfl,aY,sI⟩:=trodAll_cons ik;obtain⟨y,⟨xN,sz⟩,aq⟩:=UT W h.1.2 h.1.1 (cM 0 id v0 rfl rfl) aY (ng _ (List.mem_cons_self ..));obtain⟨z,⟨aiG,aiH⟩,aC⟩:=UU W (aiF::ids) b h.2 sI (λj t v E U=>cM (j+1) t v (by simpa using E) (by simpa using U)) λd aw=>ng d (List.mem_cons_of_mem _ aw);exact⟨(y,z),⟨⟨xN,aiG⟩,_,_,JZ _ _,sz,aiH⟩,aq,aC⟩
  | _=>simp[xZ]at h
theorem UW(aj:laidOutB P=true){w':World}{UX:Nat->Bool}:∀ (ids:List TypeId) {aD:List Value} {bk:List (DataW H)} {ps:List MemPlace},(ids.all λt=>P.readableRec t&&decide (t<P.types.size))=true->
  DataW.TrodAll enc P w 0 (λ_=>true) true ids aD bk ps->(∀ p∈ps,w.sameAt w' p)->(∀ p∈ps,UX p.block=true)->DataW.TrodAll enc P w' 0 UX true ids aD bk ps
 | [],_,_,_,_,h,_,_=>by
  obtain⟨rfl,rfl,rfl⟩:=trodAll_nil h;rfl
 | id::ids,aD,bk,ps,M,h,E,U=>by
  simp only[List.all_cons,Bool.and_eq_true,decide_eq_true_eq]at M;obtain⟨v0,M',d0,Na,FV,Ci,rfl,rfl,rfl,aY,sI⟩:=trodAll_cons h;exact trodAll_cons_mk (Go.WideElems.Trod_stays aj M.1.1 M.1.2 aY (λp ao=>E p (List.mem_append_left _ ao)) (λp ao=>U p (List.mem_append_left _ ao)))
   (UW aj ids M.2 sI (λp ao=>E p (List.mem_append_right _ ao)) (λp ao=>U p (List.mem_append_right _ ao)))
theorem acL(W:BP b){k:FuncId}{fn:Func}{ts:ad}{sh:ts.ai->A (ad.bool).ai}{spec:ChangeSpec}{rt:TypeId}(aiI:laidOutB P=true)(xl:h2 P k ts .bool sh)(aiJ:∀ x,ts.hB x->ts.oN N x->A.cy (sh x) λy=>y=true)
  (dY:xZ P fn.params.toList ts=true) (aiK:(fn.params.toList.all λt=>P.readableRec t&&decide (t<P.types.size))=true) (gv:fn.resultTypes=#[rt]) (aiL:P.underlying rt=some .bool)
  (ae:spec.vars=[]) (tu:∀ (H:Type) (bk:List (DataW H)),bk.length=fn.params.size->spec.fn H bk={ results:=[.lit (.bool true)],args:=bk })
  {base:Nat} {args:Array Value} {bk gs:List (DataW H)} {before:List MemPlace} (x0:∀ (j:Nat) t v,fn.params[j]?=some t->args[j]?=some v->Value.okWide P w .any base t v)
  (wT:DataW.Whole enc P fn.params.toList spec.vars false w args.toList bk gs before) (ng:∀ d∈bk,b d<=N) (gu:nJ P (qq w) w:=by exact λb W=>absurd (show b<0 from W) (Nat.not_lt_zero b)) :
  Calls P k args w λe qo=>∃ v,e=.returned v/\spec.post enc P fn false true false false w args v qo:=by
 have cc:=wT.lt;have UY:=wT;obtain⟨p,q,ik,Nb,rfl,tJ,_⟩:=wT;have bt:gs=[]/\q=[]:=by
  rw[ae]at Nb;cases gs with
  | nil=>exact⟨rfl,Nb⟩
  | cons _ _=>exact Nb.elim
 obtain⟨rfl,rfl⟩:=bt;simp only[List.append_nil]at UY cc tJ;obtain⟨x,ah,aq⟩:=UU W fn.params.toList ts dY ik (λj t v E U=>x0 j t v (by simpa using E) (by simpa using U)) ng;obtain⟨aE,af⟩:=aiJ x (An ts ah.2) aq;have vk:bk.length=fn.params.size:=by
  have:∀ (ids:List TypeId) {aD:List Value} {bk:List (DataW H)} {ps:List MemPlace},DataW.TrodAll enc P w 0 (λ_=>true) true ids aD bk ps->bk.length=ids.length:=by
   intro ids;induction ids with
   | nil=>intro aD bk ps h;obtain⟨rfl,rfl,rfl⟩:=trodAll_nil h;rfl
   | cons id ids aK=>intro aD bk ps h;obtain⟨v0,M',d0,Na,FV,Ci,rfl,rfl,rfl,aY,sI⟩:=trodAll_cons h;simp[aK sI]
  simpa using this _ ik
 have hc:=xl.iV (qq w) w args.toList x (λ_ h=>h) gu ah aE;refine hc.mono λe qo ⟨v,y,he,aR,M,W⟩=>?_;have aR:=af y aR;subst aR;obtain⟨aD,b5,cw⟩:=M;have aiM:v=.bool true:=by
  simp only[y3]at b5;subst b5;obtain⟨⟨u,hu,nH⟩,nP⟩:=cw;simp only[List.cons.injEq,and_true]at hu;subst hu;simp only[kN]at nH;simp only[JZ,nH,acQ,bJ]at nP;simpa using nP
 subst aiM;have q7:∀ p'∈p,w.sameAt qo p':=by
  intro p' ao;have E:=W.block _ (cc p' ao);cases p' with
  | cell b off=>simp only[World.sameAt,World.cell?];simp only[MemPlace.block]at E;rw[E]
  | map b=>exact E
 refine⟨_,he,bk,[],p,[],p,[],UY,?_,?_,?_,?_,λh=>by cases h⟩
 ·rw[List.append_nil,tu H bk vk,gv];exact trodAll_cons_mk (shut_bool aiL true) trodAll_mk0
 ·rw[List.append_nil,tu H bk vk];exact UW aiI _ aiK ik q7 λp' ao=>by simpa using cc p' ao
 ·rw[ae,List.append_nil,tu H bk vk];rfl
 ·refine⟨W.os,W.output,λi G=>?_⟩;have E:=W.block i G;rw[E];exact (World.keptBut_refl w λHt=>Ht∈p/\(Ht∈[]\/Ht∈p\/Ht∈[])).2.2 i G
end
end Go.Fer
namespace Go.Fer.oi
open Go.Proofs
abbrev t2:ad:=.int .i64
abbrev t3:ad:=.int .i64
abbrev t4:ad:=.bool
abbrev t5:ad:=.int .u8
abbrev aiN:ad:=.int .u8
abbrev aiO:ad:=.st (.az t2 (.az t3 (.az t4 aiN)))
abbrev t9:ad:=.str
abbrev aiP:ad:=.str
abbrev aiQ:ad:=.str
abbrev t21:ad:=.int .i32
abbrev x1:ad:=.st (.az t3 t3)
abbrev Ao:ad:=.st (.az t3 (.az t3 x1))
abbrev t22:ad:=.slice Ao
abbrev eY:ad:=.slice t3
abbrev Ap:ad:=.st (.az t3 (.az eY x1))
abbrev Hu:ad:=.slice Ap
abbrev vJ:ad:=.st Hu
abbrev DK:ad:=.slice vJ
abbrev tt:ad:=.st (.az t3 (.az t3 (.az t3 t3)))
abbrev Hv:ad:=.slice tt
abbrev n5:ad:=.st (.az t22 (.az DK (.az t3 Hv)))
abbrev x2:ad:=.st (.az t3 (.az t3 (.az t3 (.az t3 eY))))
abbrev t28:ad:=.slice x2
abbrev vK:ad:=.st (.az eY (.az x1 (.az t3 (.az t3 t3))))
abbrev Hw:ad:=.slice vK
abbrev ru:ad:=.st (.az t3 (.az t3 t3))
abbrev Aq:ad:=.slice ru
abbrev mf:ad:=.st (.az n5 (.az eY (.az t28 (.az Hw (.az Aq t3)))))
abbrev qt:ad:=.slice x1
abbrev jc:ad:=.st (.az t3 (.az t3 (.az t3 (.az t3 (.az t3 t3)))))
abbrev n6:ad:=.slice jc
abbrev Nc:ad:=.st (.az t3 (.az t3 (.az t3 (.az t3 (.az t3 (.az t3 t3))))))
abbrev tr:ad:=.st (.az qt (.az n6 (.az eY (.az qt Nc))))
abbrev wU:ad:=.st (.az mf tr)
abbrev aiR:ad:=.int .i64
abbrev UZ:ad:=.slice t9
abbrev aiS:ad:=.st (.az t3 (.az t3 (.az t3 t3)))
abbrev aiT:ad:=.st (.az t3 (.az t3 (.az t3 (.az t3 (.az t3 (.az t3 (.az t3 t3)))))))
abbrev qu:ad:=.st wU
abbrev t105:ad:=.bI qu
abbrev U0:ad:=.eu
abbrev Nd:ad:=.st (.az t3 (.az t4 U0))
abbrev Nf:ad:=.map t9 Nd
abbrev DL:ad:=.slice eY
abbrev x3:ad:=.st (.az n5 DL)
abbrev U1:ad:=.bI x3
abbrev Ng:ad:=.fn t3 t3
abbrev qv:ad:=.st (.az jc t3)
abbrev Nh:ad:=.slice qv
abbrev Ni:ad:=.array 10 Nh
abbrev DM:ad:=.st (.az eY Ni)
abbrev px:ad:=.bI DM
abbrev Nj:ad:=.slice px
abbrev rv:ad:=.st (.az tr (.az n6 Nj))
abbrev vL:ad:=.bI rv
abbrev U2:ad:=.fn t3 t4
abbrev aiU:ad:=.fn vL t4
abbrev aiV:ad:=.fn (.az jc t3) t4
abbrev t138:ad:=.ct (.az jc t3)
abbrev U3:ad:=.fn px (.az t3 t4)
abbrev Hx:ad:=.map t3 t3
abbrev Nk:ad:=.ct t3
abbrev aiW:ad:=.ct t3
abbrev U4:ad:=.st (.az t3 t3)
abbrev U5:ad:=.slice U4
abbrev U6:ad:=.st (.az t3 (.az t3 t3))
abbrev U7:ad:=.map U6 t3
abbrev t222:ad:=.st (.az mf (.az U5 U7))
abbrev oO:ad:=.bI t222
abbrev aiX:ad:=.fn eY t4
abbrev t164:ad:=.ct eY
abbrev U8:ad:=.st (.az t3 (.az t3 t3))
abbrev aiY:ad:=.slice U8
abbrev t171:ad:=.slice t5
abbrev U9:ad:=.fn vK t4
abbrev U_:ad:=.fn tt t4
abbrev Nl:ad:=.fn jc t4
abbrev t228:ad:=.int .u64
abbrev aiZ:ad:=.slice t3
abbrev ai0:ad:=.bI n5
abbrev ai1:ad:=.bI vJ
abbrev ai2:ad:=.array 4 t9
abbrev U':ad:=.st (.az t3 (.az t3 t3))
abbrev ai3:ad:=.map U' t3
abbrev Hy:ad:=.map t3 jc
abbrev ai4:ad:=.int .u32
abbrev Va:ad:=.int .u64
abbrev Vb:ad:=.fn x2 t4
abbrev Vc:ad:=.fn ru t4
abbrev Vd:ad:=.fn Ap t4
abbrev Ve:ad:=.slice n6
abbrev Vf:ad:=.fn Ao t4
abbrev Vg:ad:=.fn vJ t4
abbrev DN:ad:=.fn (.az qv qv) t3
abbrev ai5:ad:=.int .i64
abbrev ai6:ad:=.slice DL
abbrev ai7:ad:=.int .i64
abbrev Vh:ad:=.int .u64
abbrev ai8:ad:=.bI t3
abbrev Vi:ad:=.st (.az jc t3)
abbrev ai9:ad:=.slice Vi
abbrev Vj:ad:=.st (.az t3 eY)
abbrev ai_:ad:=.slice Vj
abbrev ai':ad:=.bI t5
abbrev aja:ad:=.array 24 t5
abbrev ajb:ad:=.bI Vh
abbrev ajc:ad:=.slice Aq
abbrev ajd:ad:=.array 256 t5
abbrev Vk:ad:=.st (.az t5 t5)
abbrev aje:ad:=.array 16 Vk
abbrev Vl:ad:=.st t9
abbrev ajf:ad:=.bI Vl
abbrev ajg:ad:=.array 20 Va
abbrev ajh:ad:=.array 65 t5
abbrev aji:ad:=.array 32 t5
abbrev ajj:ad:=.array 64 t5
abbrev ajk:ad:=.int .u8
def vM:List (Nat×ad):=[(2,t2),(3,t3),(4,t4),(5,t5),(8,aiO),(9,t9),(10,aiP),(11,aiQ),(21,t21),(22,t22),(23,DK),(24,Hv),(26,n5),(27,eY),(28,t28),(29,Hw),(30,Aq),(32,mf),(33,qt),(34,n6),(36,Nc),(38,tr),(40,wU),(42,tt),(44,aiR),(48,UZ),(58,x1),(63,aiS),(74,aiT),(87,vK),(91,ru),(93,x2),(105,t105),(107,Nf),(111,qu),(115,U1),(121,DL),(123,x3),(125,jc),(128,Ng),(130,vL),(133,U2),(134,aiU),(137,px),(138,t138),(140,U3),(141,Nh),(142,Ni),(144,qv),(148,Hx),(149,Nj),(151,rv),(153,Nk),(154,aiW),(157,oO),(162,aiX),(164,t164),(165,aiY),(171,t171),(177,U9),(188,U0),(190,Nd),(196,Ao),(197,Hu),(199,vJ),(201,Ap),(203,U_),(209,Nl),(215,aiV),(217,DM),(219,U7),(220,U5),(222,t222),(224,U6),(227,U4),(228,t228),(235,U8),(237,aiZ),(249,ai0),(253,ai1),(261,ai2),(269,ai3),(271,U'),(273,Hy),(282,ai4),(285,Va),(289,Vb),(290,Vc),(297,Vd),(298,Ve),(304,Vf),(306,Vg),(311,DN),(313,ai5),(336,ai6),(351,ai7),(359,Vh),(363,ai8),(368,ai9),(372,Vi),(374,ai_),(380,ai'),(386,aja),(398,ajb),(402,Vj),(403,ajc),(408,ajd),(410,Vk),(411,aje),(414,ajf),(416,Vl),(418,ajg),(419,ajh),(423,aji),(424,ajj),(432,ajk)]
theorem l2:dU Tryz.prog (rs vM):=aiu (by kernel_rfl)
theorem Hz:Tryz.prog.follows .mixedOrders=true:=by kernel_rfl
def x4(_:Nat):Option aL:=none
theorem HA:jn Tryz.prog x4:=λk c h=>by cases h
def dE:dG:={ tz:=λ_=>none,tA:=λ_=>none }
theorem mC:qR Tryz.prog dE where
 tz:=λk v h=>by cases h
 tA:=λk v h=>by cases h
end Go.Fer.oi
namespace Go.Fer
open Go.RowKit
def hH.kD(c:hH):aL:=⟨c.ts,.az c.aW .cU,λx=>(c.sh x).cm,λx=>((c.sh x).val c.aW.df,())⟩
end Go.Fer
namespace Go.Fer
theorem A.ajl{ak:Type}{p:Prop}{m n:A ak}(h:n.cm->p)(k:A.le m n):A.le (A.ab p m) n:=λaE=>⟨⟨h aE,(k aE).1⟩,(k aE).2⟩
theorem ry{ak:Type}{o:Option ak}{x:ak}(h:o=some x):o.isSome=true:=by rw[h];rfl
def Nn(ts:ad)(x:ts.ai)(n:Nat):Nat->Prop
 | 0=>True
 | k+1=>Nn ts x n k/\DF (ku ts x (n+k))
theorem Vm{ts:ad}{x:ts.ai}{n:Nat}:∀ {k:Nat},Nn ts x n k->∀ i,i<k->DF (ku ts x (n+i))
 | 0,_,i,h=>by omega
 | k+1,hc,i,h=>by
  by_cases e:i=k
  ·rw[e];exact hc.2
  ·exact Vm hc.1 i (by omega)
theorem Vn(ts:ad)(x:ts.ai):∀ (l:List Nat) (i:Nat),fs (l.map λi=>(i,ku ts x i)) i=if i∈l then ku ts x i else .undef
 | [],i=>by simp[fs]
 | j::l,i=>by
  simp only[List.map_cons,fs];by_cases e:i=j
  ·subst e;simp
  ·rw[if_neg e,Vn ts x l i];simp[e]
theorem sJ{ts:ad}{x:ts.ai}{n:Nat}(h:Nn ts x n (sH ts - n)):DG n (pv ts x):=λi G=>by
 show DF (fs (Aj ts x (sH ts)) i);unfold Aj;rw[Vn];split
 ·rename_i hm;rw[List.mem_range]at hm;have aB:¬i<n:=λh=>G (.inl h);have:=Vm h (i - n) (by omega);rwa [show n+(i - n)=i by omega]at this
 ·trivial
end Go.Fer
namespace Go.Fer
open A (V)
theorem bA{n:Int}(E:-9223372036854775808<=n)(U:n<9223372036854775808):IntKind.i64.wrap n=n:=by
 show (if (true&&decide (n % 2 ^ 64>=(2 ^ (64 - 1):Int)))=true then n % 2 ^ 64 - 2 ^ 64 else n % 2 ^ 64)=n;grind
theorem cj(a b:Int):Add.add a b=a+b:=rfl
theorem hY(a b:Nat):Add.add a b=a+b:=rfl
theorem No{ak:Type}(a b:List ak):Append.append a b=a++b:=rfl
theorem bW(n:Nat):Int.ofNat n=(n:Int):=rfl
theorem qw{x c d:Bool}:(x||!(if (!x)=true then c else d))=(x||!c):=by grind
theorem Vo{x c d:Bool}:(x||(if (!x)=true then c else d))=(x||c):=by grind
theorem vN{x c d:Bool}:(x&&(if x=true then c else d))=(x&&c):=by grind
namespace A
variable {ak β gD D aJ:Type}
theorem br{m:A ak}{p:Prop}{v:ak}(h:p->m=pure v):le m (dS p v):=λao=>by
 rw[h ao];exact⟨trivial,λ_ aR=>aR⟩
theorem sK{m:A ak}{p:Prop}{v:ak}(h:p->cy m λy=>y=v):le m (dS p v):=λao=>h ao
theorem gA{p:Prop}{v d:ak}:(dS p v).val d=v:=by
 unfold val;have h:∃ x,(dS p v).bL x:=⟨v,rfl⟩
 rw[dif_pos h];exact h.choose_spec
theorem fC{v d:ak}:(pure v).val d=v:=gA (p:=True)
theorem mD{p:Prop}{v:ak}:(dS p v).cm=p:=rfl
theorem vO{p:Prop}{v:ak}:(dS p v).CP:=λ_ _ h k=>h.trans k.symm
theorem jd{g:Bool}{p:Prop}{v d:ak}:cr g (dS p v) d=dS (g=true->p) (if g=true then v else d):=by
 cases g
 ·exact (bS (by simp) _).symm
 ·simp[cr]
theorem kF{g:Bool}{v d:ak}:cr g (pure v) d=pure (if g=true then v else d):=by cases g<;>rfl
theorem bZ{f:D->A β}{x:D}:V.bz f (.next x:V D β)=f x:=rfl
theorem py{f:D->A β}{r:β}:V.bz f (.done r:V D β)=pure r:=rfl
end A
def eZ{ak β aJ:Type}(f:ak->β->V β aJ)(fin:β->aJ):List ak->β->aJ
 | [],b=>fin b
 | x::l,b=>match f x b with
  | .next bf=>eZ f fin l bf
  | .done r=>r
def V.hn{D β aJ:Type}(g:β->D):V β aJ->V D aJ
 | .next b=>.next (g b)
 | .done r=>.done r
theorem A.f'{ak β D aJ:Type}{body:D->A (V D aJ)}{s0:D}(l:List ak)(mk:Nat->β->D)(f:ak->β->V β aJ)(fin:β->aJ)(I:Nat->β->Prop)(b:β)(nf:s0=mk 0 b)(aY:I 0 b)
  (aE:∀ i (h:i<l.length) b,I i b->body (mk i b)=A.pure (V.hn (mk (i+1)) (f l[i] b))/\∀ bf,f l[i] b=.next bf->I (i+1) bf)
  (aq:∀ b,I l.length b->body (mk l.length b)=A.pure (.done (fin b))):A.loop body s0=A.pure (eZ f fin l b):=by
 subst nf;have key:∀ (k:Nat) (r:List ak) (b:β),k<=l.length->r=l.drop k->I k b->A.loop body (mk k b)=A.pure (eZ f fin r b):=by
  intro k r;induction r generalizing k with
  | nil=>
   intro b an M eB;have:k=l.length:=by have:=congrArg List.length M;grind
   subst this;exact A.r3 (aq b eB)
  | cons x r aK=>
   intro b an M eB;have cc:k<l.length:=by
    grind
   rw[List.drop_eq_getElem_cons cc]at M;injection M with ah M
   obtain⟨E,U⟩:=aE k cc b eB;rw[<-ah]at E U;simp only[eZ];cases rm:f x b with
   | next bf=>
    rw[rm]at E;rw[A.y2 E];grind
   | done p1=>
    rw[rm]at E;exact A.r3 E
 grind
theorem A.du{ak β D aJ:Type}{body:D->A (V D aJ)}{s0:D}(l:List ak)(mk:Nat->β->D)(f:ak->β->V β aJ)(fin:β->aJ)(b:β)(nf:s0=mk 0 b)
  (aE:∀ i (h:i<l.length) b,body (mk i b)=A.pure (V.hn (mk (i+1)) (f l[i] b)))
  (aq:∀ b,body (mk l.length b)=A.pure (.done (fin b))):A.loop body s0=A.pure (eZ f fin l b):=
 A.f' l mk f fin (λ_ _=>True) b nf trivial (λi h b _=>⟨aE i h b,λ_ _=>trivial⟩) λb _=>aq b
section
variable {ak β aJ:Type}
theorem rz{p:ak->Bool}{r:aJ}{fin:β->aJ}:∀ (l:List ak) (b:β),eZ (λx b=>if p x=true then .done r else .next b) fin l b=if l.any p=true then r else fin b
 | [],b=>by rfl
 | x::l,b=>by
  simp only[eZ,List.any_cons,Bool.or_eq_true];by_cases h:p x=true
  ·simp[h]
  ·have h:p x=false:=by grind
   simp only[h,Bool.false_eq_true,if_false,false_or];exact rz l b
theorem HB{p:ak->Bool}{r:aJ}{fin:β->aJ}:∀ (l:List ak) (b:β),eZ (λx b=>if p x=true then .next b else .done r) fin l b=if l.all p=true then fin b else r
 | [],b=>by rfl
 | x::l,b=>by
  simp only[eZ,List.all_cons,Bool.and_eq_true];by_cases h:p x=true
  ·simp only[h,if_true,true_and];exact HB l b
  grind
theorem dQ{h:β->ak->β}{fin:β->aJ}:∀ (l:List ak) (b:β),eZ (λx b=>.next (h b x)) fin l b=fin (l.foldl h b)
 | [],b=>rfl
 | x::l,b=>by simp only[eZ,List.foldl_cons];exact dQ l (h b x)
theorem Np{p:ak->Bool}:∀ (l:List ak) (b:List ak),l.foldl (λb x=>if p x=true then b++[x] else b) b=b++l.filter p
 | [],b=>by simp
 | x::l,b=>by
  simp only[List.foldl_cons,List.filter_cons];rw[Np l];grind
theorem uq{gD:Type}{g:ak->gD}:∀ (l:List ak) (b:List gD),l.foldl (λb x=>b++[g x]) b=b++l.map g
 | [],b=>by simp
 | x::l,b=>by simp only[List.foldl_cons,List.map_cons];rw[uq l];simp
end
theorem Vp{ak:Type}{p q:ak->Bool}(h:∀ x,p x=!q x)(l:List ak):l.any p=!l.all q:=by
 grind
theorem kh{ak β aJ:Type}{p q:ak->Bool}{r:aJ}{fin:β->aJ}(l:List ak)(b:β)(h:∀ x,p x=!q x):eZ (λx b=>if p x=true then .done r else .next b) fin l b=if l.all q=true then fin b else r:=by
 rw[rz,Vp h];grind
theorem l3{D β aJ:Type}{c:Bool}{mk:β->D}{b:β}{r:aJ}:(if c=true then A.pure (V.done r) else A.pure (V.next (mk b)))=A.pure (V.hn mk (if c=true then .done r else .next b)):=by cases c<;>rfl
theorem Vq{D β aJ:Type}{c:Bool}{mk:β->D}{b:β}{r:aJ}:(if c=true then A.pure (V.done r) else A.pure (V.next (mk b)))=A.pure (V.hn mk (if c=true then .done r else .next b)):=by cases c<;>rfl
theorem cV{l:Nat}{i:Nat}(h:i<l):decide ((i:Int)<(l:Int))=true:=by grind
theorem cN{l:Nat}{i:Nat}(h:i<l):((0:Int)<=(i:Int)/\(i:Int)<(l:Int))=True:=by grind
theorem dh{ak:Type}{l:List ak}{i:Nat}{d:ak}(h:i<l.length):l.getD (Int.toNat (i:Int)) d=l[i]:=by
 grind
theorem x5{ak:Type}{l:List ak}{i:Int}{d:ak}(aY:0<=i)(h:i<(l.length:Int)):l.getD i.toNat d∈l:=by
 grind
def ei(a b:Int):z1':=(List.range (b - a+1).toNat).map λ(i:Nat)=>a+(i:Int)
theorem sL(a b:Int):(ei a b).length=(b - a+1).toNat:=by simp[ei]
theorem Ar{a b:Int}{i:Nat}(h:i<(ei a b).length):(ei a b)[i]=a+i:=by simp[ei]
theorem sM{a b n:Int}:n∈ei a b<->a<=n/\n<=b:=by
 simp only[ei,List.mem_map,List.mem_range];constructor
 ·omega
 ·rintro⟨E,U⟩;exact⟨(n - a).toNat,by omega,by omega⟩
end Go.Fer
namespace Go.Fer.oi
open Go.Proofs
abbrev oP:Type:=List (Nat×hH)
def oQ{ak:Type}:List (Nat×ak)->Nat->Option ak
 | [],_=>none
 | p::l,k=>if k=p.1 then some p.2 else oQ l k
theorem DO{ak:Type}{k:Nat}{c:ak}:∀ {l:List (Nat×ak)},oQ l k=some c->(k,c)∈l
 | [],h=>by cases h
 | p::l,h=>by
  unfold oQ at h;split at h
  ·rename_i e;cases h;subst e;simp
  ·exact List.mem_cons_of_mem _ (DO h)
def sN(T:oP):List (Nat×e6)->Nat->Option e6
 | [],k=>match oQ T k with
  | some c=>some (.dw c)
  | none=>none
 | p::l,k=>if k=p.1 then some p.2 else sN T l k
def Vr(k:Nat)(c:hH):Prop:=h2 Tryz.prog k c.ts c.aW c.sh/\(c.dS=true->∀ x,(c.sh x).CP)
structure kW(T:oP):Type where
 ok:∀ p∈T,Vr p.1 p.2
abbrev ajm{T:oP}(_:kW T):oP:=T
def ajn:kW []:=⟨λp h=>by cases h⟩
def kW.cons{T:oP}(h:kW T){n:Nat}{c:hH}(k:Vr n c):kW ((n,c)::T):=⟨λp ao=>by
 rcases List.mem_cons.1 ao with rfl | ao
 ·exact k
 ·exact h.ok p ao⟩
def DP(aP:dG):List (Nat×e6)->Prop
 | []=>True
 | p::l=>p.2.hB Tryz.prog aP p.1/\DP aP l
theorem kW.HC{aP:dG}{T:oP}(h:kW T):∀ {sp:List (Nat×e6)},DP aP sp->lY Tryz.prog aP (sN T sp)
 | [],_,k,c,e=>by
  unfold sN at e;split at e
  ·rename_i c' hc;cases e;exact h.ok (k,c') (DO hc)
  ·cases e
 | p::l,aE,k,c,e=>by
  unfold sN at e;split at e
  ·rename_i an;cases e;subst an;exact aE.1
  ·exact kW.HC h (sp:=l) aE.2 k c e
def As:ad->List ad
 | .cU=>[]
 | .az a b=>a::As b
 | t=>[t]
def Vs:ad->ad
 | .bI t=>t
 | t=>t
def Vt{ts Vu:ad}(e:Vu=ts){aW:ad}(sh:ts.ai->A aW.ai):Vu.ai->A aW.ai:=e ▸ sh
def Nq(pz:Nat)(c:hH):Option Fu:=
 if h:((As c.ts).take pz).all ad.gF=true/\gn ((As c.ts).take pz++(((As c.ts).drop pz).map Vs).map .bI)=c.ts then some ⟨(As c.ts).take pz,((As c.ts).drop pz).map Vs,c.aW,Vt h.2 c.sh⟩ else none
def Vv:z8'->Nat->Option Nat
 | [],_=>none
 | p::l,k=>if k=p.1 then some p.2 else Vv l k
def Au(T:oP)(cl:z8')(HD:List (Nat×wZ)):dG where
 tz:=λk=>match oQ T k with
  | some c=>some ⟨c.ts,c.aW,c.sh⟩
  | none=>none
 tA:=λk=>match Vv cl k with
  | some pz=>match oQ T k with
   | some c=>Nq pz c
   | none=>none
  | none=>none
 w2:=oQ HD
def DQ:List (Nat×wZ)->Prop
 | []=>True
 | p::l=>w1 Tryz.prog p.1 p.2/\DQ l
theorem DQ.mem:∀ {l:List (Nat×wZ)},DQ l->∀ p∈l,w1 Tryz.prog p.1 p.2
 | [],_,p,h=>by cases h
 | q::l,h,p,ao=>by
  rcases List.mem_cons.1 ao with rfl | ao
  ·exact h.1
  ·exact DQ.mem h.2 p ao
theorem ajo{k pz:Nat}{c:hH}{v:Fu}(h:h2 Tryz.prog k c.ts c.aW c.sh)(e:Nq pz c=some v):v.as.all ad.gF=true/\h2 Tryz.prog k (gn (v.as++v.cs.map .bI)) v.aW v.sh:=by
 unfold Nq at e;split at e
 ·rename_i cW;cases e;refine⟨cW.1,?_⟩;have key:∀ (ts:ad) (e:ts=c.ts),h2 Tryz.prog k ts c.aW (Vt e c.sh):=by rintro _ rfl;exact h
  exact key _ cW.2
 ·cases e
theorem kW.u{T:oP}(h:kW T)(cl:z8')(HD:List (Nat×wZ))(G:DQ HD):qR Tryz.prog (Au T cl HD) where
 tz:=λk v e=>by
  simp only[Au]at e;split at e
  ·rename_i c hc;cases e;exact (h.ok (k,c) (DO hc)).1
  ·cases e
 tA:=λk v e=>by
  simp only[Au]at e;split at e
  ·split at e
   ·rename_i c hc;exact ajo (h.ok (k,c) (DO hc)).1 e
   ·cases e
  ·cases e
 w2:=λk v e=>G.mem (k,v) (DO e)
abbrev rA(fn:Func):Code:=fn.body.getD .skip
theorem HE{fn:Func}(h:fn.body.isSome=true):fn.body=some (rA fn):=by
 unfold rA;cases e:fn.body with
 | none=>rw[e]at h;cases h
 | some b=>rfl
abbrev DR(fn:Func)(ts aW:ad):Bool:=fn.body.isSome&&DH fn (rA fn) ts aW
theorem HF{T:oP}(aV:kW T){aP:dG}(h_:qR Tryz.prog aP){sp:List (Nat×e6)}(n3:DP aP sp){n:Nat}{fn:Func}(aq:Tryz.prog.funcs[n]?=some fn){ts aW:ad}{sh:ts.ai->A aW.ai}{ann:cD}{S:ts.ai->A aW.ai}(aE:∀ x,A.le (S x) (sh x))(cM:DR fn ts aW=true)(aj:∀ x,DE aP (rs vM) x4 (sN T sp) fn (rA fn) ann ts aW x=S x):h2 Tryz.prog n ts aW sh:=
 have cM:=Bool.and_eq_true _ _ ▸ cM
 aio Hz l2 h_ HA (aV.HC n3) aq (HE cM.1) cM.2 λx=>A.le_trans (A.le_of_eq (aj x)) (aE x)
def mk{T:oP}(aV:kW T){n:Nat}{fn:Func}(aq:Tryz.prog.funcs[n]?=some fn)(c:aL)(ann:cD){S:c.ts.ai->A c.aW.ai}(aE:∀ x,A.le (S x) (c.sh x))(cM:DR fn c.ts c.aW=true:=by kernel_rfl)(aj:∀ x,DE dE (rs vM) x4 (sN T []) fn (rA fn) ann c.ts c.aW x=S x:=by intro x;kernel_rfl):kW ((n,c.dw)::T):=
 aV.cons ⟨HF aV mC (sp:=[]) trivial aq aE cM aj,λ_ _=>A.vO⟩
def l4{T:oP}(aV:kW T)(cl:z8'){n:Nat}{fn:Func}(aq:Tryz.prog.funcs[n]?=some fn)(c:aL)(ann:cD){S:c.ts.ai->A c.aW.ai}(aE:∀ x,A.le (S x) (c.sh x))(cM:DR fn c.ts c.aW=true:=by kernel_rfl)(aj:∀ x,DE (Au T cl []) (rs vM) x4 (sN T []) fn (rA fn) ann c.ts c.aW x=S x:=by intro x;kernel_rfl):kW ((n,c.dw)::T):=
 aV.cons ⟨HF aV (aV.u cl [] trivial) (sp:=[]) trivial aq aE cM aj,λ_ _=>A.vO⟩
def pA{T:oP}(aV:kW T){aP:dG}(h_:qR Tryz.prog aP)(sp:List (Nat×e6))(n3:DP aP sp){n:Nat}{fn:Func}(aq:Tryz.prog.funcs[n]?=some fn)(c:aL)(ann:cD){S:c.ts.ai->A c.aW.ai}(aE:∀ x,A.le (S x) (c.sh x))(cM:DR fn c.ts c.aW=true:=by kernel_rfl)(aj:∀ x,DE aP (rs vM) x4 (sN T sp) fn (rA fn) ann c.ts c.aW x=S x:=by intro x;kernel_rfl):kW ((n,c.dw)::T):=
 aV.cons ⟨HF aV h_ n3 aq aE cM aj,λ_ _=>A.vO⟩
def jQ{T:oP}(aV:kW T)(cl:z8'){n:Nat}{fn:Func}(aq:Tryz.prog.funcs[n]?=some fn)(c:aL)(pz:Nat)(ann:cD){S:c.ts.ai->A c.aW.ai}(aE:∀ x,A.le (S x) (c.sh x))(hc:∀ x,c.pre x->DG pz (pv c.ts x):=by intro x h;obtain⟨f,aq,_⟩:=h;exact sJ ⟨trivial,ry aq⟩)(cM:DR fn c.ts c.aW=true:=by kernel_rfl)
  (aj:∀ x,eI (Au T cl []) (rs vM) x4 (sN T []) ann (rA fn) (Hq pz (pv c.ts x)) (vI (rs vM) fn.results.toList c.aW)=S x:=by intro x;kernel_rfl):kW ((n,c.dw)::T):=
 have cM:=Bool.and_eq_true _ _ ▸ cM
 aV.cons ⟨aiq (n:=pz) Hz l2 (aV.u cl [] trivial) HA (aV.HC (sp:=[]) trivial) aq (HE cM.1) cM.2 λx=>A.ajl (hc x) (A.le_trans (A.le_of_eq (aj x)) (aE x)),λ_ _=>A.vO⟩
theorem d'{T:oP}(aV:kW T){aP:dG}(sp:List (Nat×e6))(n3:DP aP sp){n:Nat}{fn:Func}(aq:Tryz.prog.funcs[n]?=some fn){c:cL}(ann:cD){S:c.cq.ai->A c.bL.ai}(aE:∀ x,A.le (S x) (c.sh x))(cM:(fn.body.isSome&&DI fn (rA fn) c.ke c.kC)=true:=by kernel_rfl)(aj:∀ x,M2 aP (rs vM) x4 (sN T sp) fn (rA fn) ann c.cq c.bL c.kC x=S x:=by intro x;kernel_rfl):cS Tryz.prog aP n c:=
 have cM:=Bool.and_eq_true _ _ ▸ cM
 UM Hz l2 HA (aV.HC n3) aq (HE cM.1) cM.2 λx=>A.le_trans (A.le_of_eq (aj x)) (aE x)
theorem Nr{aP:dG}{n:Nat}{fn:Func}(aq:Tryz.prog.funcs[n]?=some fn){c:cL}(aE:∀ x,¬(c.sh x).cm)(cM:(fn.body.isSome&&DI fn (rA fn) c.ke c.kC)=true:=by kernel_rfl):cS Tryz.prog aP n c:=
 have cM:=Bool.and_eq_true _ _ ▸ cM
 UM Hz l2 HA (Ψ:=λ_=>none) (λk c h=>by cases h) (ann:=.eN) aq (HE cM.1) cM.2 λx h=>absurd h (aE x)
end Go.Fer.oi
namespace Go.Fer
open Go.RowKit
theorem ajp{P:Program}{aP:dG}{k:FuncId}{ts e:ad}(ud:ts≠.cU){c:cL}(h:cS P aP k c)(h_:qR P aP){sh:ts.ai->A (ad.slice e).ai}{b0:Nat}(mk:ts.ai->c.cq.ai)
    (ajq:∀ x,c.cq.st (mk x)=⟨fs ((List.range (j6 ts)).map λi=>(i,ku ts x i)),λ_=>⟨0,.fz⟩⟩) (aB:c.ke=j6 ts) (hX:c.ke<=eR) (ajr:c.kC=[none]) (val:c.bL.ai->List e.ai)
    (pt:∀ bn,(c.bL.st bn).ay 0=.al b0 0/\(c.bL.st bn).aa b0=⟨0,.bj e (val bn)⟩)
    (sc:∀ x,(sh x).cm->(c.sh (mk x)).cm/\∀ bn,(c.sh (mk x)).bL bn->val bn=(sh x).val (ad.slice e).df):nM (hH.kD ⟨ts,.slice e,sh,true⟩).aW=true/\Cy P k (hH.kD ⟨ts,.slice e,sh,true⟩):=by
  refine⟨rfl,h.enter,?_⟩;intro (x:ts.ai) (aE:(sh x).cm) y aR F w args bp gu (dY:fq P ts F w args x);cases aR;obtain⟨iB,Hf⟩:=tO (H:=λ_=>⟨0,.fz⟩) (κ:=λ_=>⟨0,0,0,false⟩) ts dY ud;let C:b':={ P:=P,w0:=w,F0:=F,K0:=λr=>r<w.heap.size,nt:=c.ke,r:=none,dfr:=[],ib:=λ_=>none,cd:=⟨0,.cU,λ_=>False,λ_ _ _ _ _=>False⟩,aN:=aP }
  have C9:∀ i,fs ((List.range (j6 ts)).map λi=>(i,ku ts x i)) i=.undef\/(i<j6 ts/\fs ((List.range (j6 ts)).map λi=>(i,ku ts x i)) i=ku ts x i):=λi=>by
    rcases UH (l:=(List.range (j6 ts)).map λi=>(i,ku ts x i)) (i:=i) with e | e
    · exact .inl e
    · refine .inr ?_
      generalize bl:fs ((List.range (j6 ts)).map λi=>(i,ku ts x i)) i=z at e
      simp only[List.mem_map,List.mem_range,Prod.mk.injEq]at e
      obtain⟨j,aF,rfl,rfl⟩:=e
      exact⟨aF,rfl⟩
  have M:bm C (c.cq.st (mk x)) { tmps:=args.toArray,defers:=[] } w (λ_=>⟨0,0,0,false⟩) F:=by
    rw[ajq];refine { dH := ?_, dfr := rfl, bU := λi => ?_, bE := λb => trivial, al := λb W => (by cases W), inj := λb bf W _ _ => (by cases W), db := bp, hg := λr M => .inl M, hQ := λr M => M, ht := λr M => M, eG := λr _ => rfl, size := Nat.le_refl _, ew := dd.refl w,gq:=hX,kp:=λb r h=>(by cases h),jD:=λb r h=>(by cases h),j4:=λb k h=>(by cases h),kq:=λb k h=>(by cases h),eL:=λl aM L n st e=>?_,jE:=h_,iA:=gu }
    · grind
    · rcases C9 i with e | ⟨G,e⟩
      · show bC _ _ _ _ _ (fs _ i) _
        rw[e];trivial
      · show bC _ _ _ _ _ (fs _ i) _
        rw[e]
        have:=Hf i G
        simpa [Array.getD_eq_getD_getElem?,List.getD_eq_getElem?_getD]using this
    · rcases C9 b6 with h | ⟨h,_⟩
      · grind
      · unfold b6 at h;unfold eR at hX;omega
  obtain⟨Ma,tW⟩:=sc x aE;refine (h.iV C _ w _ F (mk x) rfl rfl rfl rfl rfl rfl M Ma).mono λa7 w' ⟨v,bn,aD,κ',F',BV,gj,GS,bc⟩=>?_;obtain⟨ajs,xQ⟩:=pt bn;rw[ajr]at GS;obtain⟨us,fB,L3,Ns⟩:=GS;obtain⟨u,rfl⟩:∃ u,us=[u]:=by
    match us,fB with
    | [u],_=>simp
  have Nt:aD=[u]:=by
    obtain⟨_,Nt,U⟩:=Ns;rw[Nt,U]
  have ae:v=u:=by simpa using L3
  have fm:=bc.bU 0;rw[ajs,Nt]at fm;have Vw:u=(κ' b0).slice ((c.bL.st bn).aa b0).body.len:=by
    have:=fm.2 (by rw[xQ]) (by rw[xQ];rfl);simp_all
  rw[xQ]at Vw;have aT:=bc.bE b0;unfold cG at aT;rw[xQ]at aT;obtain⟨E,U⟩:=aT;have x0:val bn=(sh x).val (ad.slice e).df:=tW bn gj;refine⟨κ' b0,F',by rw[BV,ae,Vw];simp only[bR.len];rw[x0];rfl,bc.hQ,λr Vx=>?_,λaB=>?_,λaB=>?_,bc.ew.os,bc.ew.tape,bc.ew.output,bc.size,bc.eG⟩
  · rcases bc.hg r Vx with cW | cW
    · exact .inl cW
    · exact .inr ⟨Nat.le_of_not_lt cW,bc.db r Vx⟩
  · have:=E aB
    rw[x0]at this
    exact this
  · have af:=bc.al b0 (by rw[xQ];simp[bR.b1,aB])
    obtain⟨cs,T,bF,c2,c3,c4,c5⟩:=U aB
    rw[x0]at c3 c5
    exact⟨⟨Nat.le_of_not_lt af.2.2,af.1,af.2.1⟩,cs,T,bF,c2,c3,c4,c5⟩
end Go.Fer
namespace Go.Fer
open A (V)
abbrev a_:Type:=z2'×List (List (Int×z1'×Int×Int))×Int×z2'
abbrev qx:Type:=a_×List (z1')
abbrev fe(l:z4')(a b:Int):z4':=lP (k:=.int .i64) (v:=.int .i64) l a b
abbrev vP(l:z5')(a:Int×Int×Int)(b:Int):z5':=lP (k:=.st (.az (.int .i64) (.az (.int .i64) (.int .i64)))) (v:=.int .i64) l a b
def Nu(x:z2'×List (List (Int×z1'×Int×Int))×Int×z2'):A a_:=
 A.ab (bQ (Add.add 0 (List.length x.1))) (A.ab (bQ (Add.add 0 (List.length x.2.2.2))) (A.bind (A.loop (λ(D:Int×a_×Int×Int×z2'×z2'×List (List (Int×z1'×Int×Int))×Unit)=>letI f:=D.1<Int.ofNat (List.length D.2.1.2.1);letI e:=List.getD D.2.1.2.1 (Int.toNat D.1) [];letI d:=D.2.2.2;if decide f=true then A.bind (A.ab (0<=D.1/\f) (A.ab (bQ (Add.add 0 (List.length e))) (A.bind (A.loop (λ(D:Int×Int×a_×Int×Int×z2'×z2'×List (Int×z1'×Int×Int)×List (List (Int×z1'×Int×Int))×Unit)=>letI i:=D.2.1;letI h:=D.2.2.2;letI b:=h.2.2;letI c:=i<Int.ofNat (List.length b.2.2.1);letI a:=List.getD b.2.2.1 (Int.toNat i) (0,[],0,0);if decide c=true then A.ab (0<=i/\c) (A.ab (bQ (Add.add 0 (List.length a.2.1))) (A.ab (0<=i/\c) (A.pure (V.next (D.1,IntKind.wrap .i64 (Add.add i 1),D.2.2.1,h.1,h.2.1,b.1,b.2.1,List.set b.2.2.1 (Int.toNat i) (a.1,[]++a.2.1,a.2.2),b.2.2.2.1,()))))) else A.bind (A.pure (V.next (D.1,D.2.2.1,h.1,h.2.1,b.1,b.2.1,b.2.2.1,b.2.2.2.1,()))) λr=>A.pure (V.done r)) (D.1,0,D.2.1,D.2.2.1,d.1,d.2.1,d.2.2.1,[]++e,d.2.2.2.1,())) (V.bz (λ(D:Int×a_×Int×Int×z2'×z2'×List (Int×z1'×Int×Int)×List (List (Int×z1'×Int×Int))×Unit)=>letI g:=D.2.2.2.2;A.ab (bQ (Add.add (List.length g.2.2.2.1) (Add.add 0 1))) (A.pure (V.next (D.1,D.2.1,D.2.2.1,D.2.2.2.1,g.1,g.2.1,g.2.2.2.1++[g.2.2.1],())))))))) (V.bz (λ(D:Int×a_×Int×Int×z2'×z2'×List (List (Int×z1'×Int×Int))×Unit)=>letI j:=D.2.2.2;A.pure (V.next (IntKind.wrap .i64 (Add.add D.1 1),D.2.1,D.2.2.1,j.1,j.2.1,j.2.2.1,j.2.2.2.1,())))) else A.bind (A.pure (V.next (D.2.2.1,d.1,d.2.1,d.2.2.1,d.2.2.2.1,()))) λr=>A.pure (V.done r)) (0,x,0,x.2.2.1,[]++x.1,[]++x.2.2.2,[],())) (V.bz (λ(D:Int×Int×z2'×z2'×List (List (Int×z1'×Int×Int))×Unit)=>A.pure (D.2.2.1,D.2.2.2.2.1,D.2.1,D.2.2.2.1)))))
def Nv(x:z1'×Int):A Bool:=
 A.bind (A.loop (λ(D:z1'×Int×Int×Unit)=>letI b:=D.2.2.1;letI a:=b<Int.ofNat (List.length D.1);if decide a=true then A.ab (0<=b/\a) (if decide (List.getD D.1 (Int.toNat b) 0=D.2.1)=true then A.bind (A.bind (A.pure true) (λr=>A.pure (V.done r))) λr=>A.pure (V.done r) else A.pure (V.next (D.1,D.2.1,IntKind.wrap .i64 (Add.add b 1),()))) else A.bind (A.pure (V.next ())) λr=>A.pure (V.done r)) (x.1,x.2,0,())) (V.bz (λ(D:Unit)=>A.pure false))
def Nw(ki:Int×Int×Int->A Bool)(x:a_×Int):A Bool:=
 A.bind (ki (x.2,0,IntKind.wrap .i64 (Int.ofNat (List.length x.1.1)-1))) λy=>A.pure y
def HG(ki:Int×Int×Int->A Bool)(ajt:a_×Int->A Bool)(x:a_×Int×Int):A Bool:=
 A.bind (ajt (x.1,x.2.1)) λy=>A.ab (y=true->(y=true/\y=true)/\(0<=x.2.1/\x.2.1<Int.ofNat (List.length x.1.2.1))/\True) (A.bind (cr y (ki (x.2.2,0,IntKind.wrap .i64 (Int.ofNat (List.length (List.getD x.1.2.1 (Int.toNat x.2.1) []))-1))) false) (λb3=>A.pure (y&&b3)))
def Nx(aju:z2'×List (List (Int×z1'×Int×Int))×Int×z2'->A Bool)(x:z2'×List (List (Int×z1'×Int×Int))×Int×z2'):A Int:=
 A.bind (aju x) λy=>if (!y)=true then A.pure 70 else A.bind (A.loop (λ(D:Int×a_×Unit)=>if decide (D.1<Int.ofNat (List.length D.2.1.2.2.2))=true then A.bind (A.loop (λ(D:Int×Int×a_×Unit)=>letI d:=D.2.2.1.2.2.2;letI c:=Int.ofNat (List.length d);letI b:=List.getD d (Int.toNat D.1) (0,0,0,0);letI a:=List.getD d (Int.toNat D.2.1) (0,0,0,0);if decide (D.2.1<D.1)=true then A.ab (0<=D.2.1/\D.2.1<c) (A.ab (0<=D.1/\D.1<c) (if (decide (a.1=b.1)&&decide (a.2.1=b.2.1)&&decide (a.2.2.1=b.2.2.1)&&decide (a.2.2.2≠b.2.2.2))=true then A.bind (A.bind (A.bind (A.bind (A.pure 71) (λr=>A.pure (V.done r))) (λr=>A.pure (V.done r))) (λr=>A.pure (V.done r))) λr=>A.pure (V.done r) else A.pure (V.next (D.1,IntKind.wrap .i64 (Add.add D.2.1 1),D.2.2.1,())))) else A.bind (A.pure (V.next (D.1,D.2.2.1,()))) λr=>A.pure (V.done r)) (D.1,0,D.2.1,())) (V.bz (λ(D:Int×a_×Unit)=>A.pure (V.next (IntKind.wrap .i64 (Add.add D.1 1),D.2.1,())))) else A.bind (A.pure (V.next ())) λr=>A.pure (V.done r)) (0,x,())) (V.bz (λ(D:Unit)=>A.pure 0))
def Ny(Vy:a_×Int×Int×Int×Int->A Bool)(ki:Int×Int×Int->A Bool)(x:a_×Int×Int):A Bool:=
 A.bind (A.loop (λ(D:Int×Int×Int×a_×Unit)=>letI i:=D.2.2.1;letI f:=D.2.2.2.1;letI e:=i<Int.ofNat (List.length f.2.2.2);letI b:=List.getD f.2.2.2 (Int.toNat i) (0,0,0,0);letI h:=(f,D.1,D.2.1,b.2.1,b.2.2.1);letI a:=decide (b.1=D.1)=true;letI g:=a->a/\True/\True;if decide e=true then A.ab (0<=i/\e) (A.ab g (A.ab g (A.ab (a->(a/\a/\a/\a/\a/\True)/\(Vy h).cm/\True) (A.ab g (A.ab (a->(a/\True)/\True/\True) (A.ab (a->(a/\a)/\True/\True) (A.ab (True/\(a->a)) (if (decide (b.1=D.1)&&!(decide (A.val (Vy h) false=decide (b.2.2.2=1))))=true then A.bind (A.bind (A.pure false) (λr=>A.pure (V.done r))) λr=>A.pure (V.done r) else A.pure (V.next (D.1,D.2.1,IntKind.wrap .i64 (Add.add i 1),f,())))))))))) else A.bind (A.pure (V.next (D.1,D.2.1,f,()))) λr=>A.pure (V.done r)) (x.2.1,x.2.2,0,x.1,())) (V.bz (λ(D:Int×Int×a_×Unit)=>letI d:=0<=D.1/\D.1<Int.ofNat (List.length D.2.2.1.1);letI c:=(D.2.1,(List.getD D.2.2.1.1 (Int.toNat D.1) (0,0,0,0)).2.2);A.ab d (A.ab d (A.ab (ki c).cm (A.pure (A.val (ki c) false))))))
def Nz(ajv:z1'×Int->A Bool)(ki:Int×Int×Int->A Bool)(x:a_×Int×Int×Int×Int):A Bool:=
 letI e:=x.2.2.2;letI c:=List.getD x.1.2.1 (Int.toNat e.1) [];letI b:=List.getD x.1.1 (Int.toNat x.2.1) (0,0,0,0);letI a:=List.getD c (Int.toNat e.2) (0,[],0,0);letI d:=decide (b.1=a.1);A.ab (0<=x.2.1/\x.2.1<Int.ofNat (List.length x.1.1)) (A.ab (0<=e.1/\e.1<Int.ofNat (List.length x.1.2.1)) (A.ab (0<=e.2/\e.2<Int.ofNat (List.length c)) (A.bind (cr d (ajv (a.2.1,b.2.1)) false) (λy=>A.bind (cr (d&&y) (ki (x.2.2.1,a.2.2.1,IntKind.wrap .i64 (Add.add a.2.2.2 x.1.2.2.1))) false) λb3=>A.pure (d&&y&&b3)))))
def NA(x:z1'):A Bool:=
 A.bind (A.loop (λ(D:z1'×Int×Unit)=>letI c:=D.2.1;letI b:=IntKind.wrap .i64 (c-1);letI a:=Int.ofNat (List.length D.1);if decide (c<a)=true then A.ab (0<=c/\c<a) (A.ab (0<=b/\b<a) (if decide (List.getD D.1 (Int.toNat c) 0<=List.getD D.1 (Int.toNat b) 0)=true then A.bind (A.bind (A.pure false) (λr=>A.pure (V.done r))) λr=>A.pure (V.done r) else A.pure (V.next (D.1,IntKind.wrap .i64 (Add.add c 1),())))) else A.bind (A.pure (V.next ())) λr=>A.pure (V.done r)) (x,1,())) (V.bz (λ(D:Unit)=>A.pure true))
def Vz(ajw:a_×Bool->A Int)(x:z2'×List (List (Int×z1'×Int×Int))×Int×z2'):A Int:=
 A.bind (ajw (x,true)) λy=>A.pure y
def ajx(x:Int×Int×Int):A Bool:=
 A.pure (decide (x.1>=x.2.1)&&decide (x.1<=x.2.2))
def NB(ki:Int×Int×Int->A Bool)(x:a_×Int):A Bool:=
 A.bind (ki (x.2,0,IntKind.wrap .i64 (Int.ofNat (List.length x.1.2.1)-1))) λy=>A.pure y
def NC(ajy:a_×Int->A Bool)(ajz:a_×Int×Int->A Bool)(ki:Int×Int×Int->A Bool)(ND:Int×Int->A Bool)(ajA:Int×z1'×Int×Int->A Bool)(x:z2'×List (List (Int×z1'×Int×Int))×Int×z2'):A Bool:=
 letI c:=decide (Int.ofNat (List.length x.1) > 10)||decide (Int.ofNat (List.length x.2.1) > 6);A.bind (cr (!c) (ki (x.2.2.1,0,99)) false) λy=>if (c||!y||decide (Int.ofNat (List.length x.2.2.2) > 30))=true then A.pure false else A.bind (A.loop (λ(D:Int×a_×Unit)=>letI h:=D.1<Int.ofNat (List.length D.2.1.1);letI b:=List.getD D.2.1.1 (Int.toNat D.1) (0,0,0,0);if decide h=true then A.ab (0<=D.1/\h) (A.bind (ki (b.1,0,9)) (λy=>A.bind (cr (!(!y)) (ki (b.2.1,0,9)) false) λb3=>A.bind (cr (!(!y||!b3)) (ND b.2.2) false) λdF=>if (!y||!b3||!dF)=true then A.bind (A.bind (A.pure false) (λr=>A.pure (V.done r))) λr=>A.pure (V.done r) else A.pure (V.next (IntKind.wrap .i64 (Add.add D.1 1),D.2.1,())))) else A.bind (A.pure (V.next (D.2.1,()))) λr=>A.pure (V.done r)) (0,x,())) (V.bz (λ(D:a_×Unit)=>A.bind (A.loop (λ(D:Int×a_×Unit)=>letI g:=D.1<Int.ofNat (List.length D.2.1.2.1);if decide g=true then A.bind (A.ab (0<=D.1/\g) (if decide (Int.ofNat (List.length (List.getD D.2.1.2.1 (Int.toNat D.1) [])) > 4)=true then A.bind (A.bind (A.bind (A.pure false) (λr=>A.pure (V.done r))) (λr=>A.pure (V.done r))) λr=>A.pure (V.done r) else A.loop (λ(D:Int×Int×a_×Unit)=>letI j:=D.2.2.1;letI e:=0<=D.1/\D.1<Int.ofNat (List.length j.2.1);letI d:=List.getD j.2.1 (Int.toNat D.1) [];letI i:=D.2.1<Int.ofNat (List.length d);A.ab e (if decide i=true then A.ab e (A.ab (0<=D.2.1/\i) (A.bind (ajA (List.getD d (Int.toNat D.2.1) (0,[],0,0))) (λy=>if (!y)=true then A.bind (A.bind (A.bind (A.bind (A.pure false) (λr=>A.pure (V.done r))) (λr=>A.pure (V.done r))) (λr=>A.pure (V.done r))) λr=>A.pure (V.done r) else A.pure (V.next (D.1,IntKind.wrap .i64 (Add.add D.2.1 1),j,()))))) else A.bind (A.pure (V.next (D.1,j,()))) λr=>A.pure (V.done r))) (D.1,0,D.2.1,()))) (V.bz (λ(D:Int×a_×Unit)=>A.pure (V.next (IntKind.wrap .i64 (Add.add D.1 1),D.2.1,())))) else A.bind (A.pure (V.next (D.2.1,()))) λr=>A.pure (V.done r)) (0,D.1,())) (V.bz (λ(D:a_×Unit)=>A.bind (A.loop (λ(D:Int×a_×Unit)=>letI f:=D.1<Int.ofNat (List.length D.2.1.2.2.2);letI a:=List.getD D.2.1.2.2.2 (Int.toNat D.1) (0,0,0,0);if decide f=true then A.ab (0<=D.1/\f) (A.bind (ajy (D.2.1,a.1)) (λy=>A.bind (cr (!(!y)) (ajz (D.2.1,a.2.1,a.2.2.1)) false) λb3=>A.bind (cr (!(!y||!b3)) (ki (a.2.2.2,0,1)) false) λdF=>if (!y||!b3||!dF)=true then A.bind (A.bind (A.pure false) (λr=>A.pure (V.done r))) λr=>A.pure (V.done r) else A.pure (V.next (IntKind.wrap .i64 (Add.add D.1 1),D.2.1,())))) else A.bind (A.pure (V.next ())) λr=>A.pure (V.done r)) (0,D.1,())) (V.bz (λ(D:Unit)=>A.pure true))))))
def NF(DS:z2'×List (List (Int×z1'×Int×Int))×Int×z2'->A Int)(ajB:a_×Int->A (z1'))(x:a_×Bool):A Int:=
 A.bind (DS x.1) λy=>if decide (y≠0)=true then A.pure y else if (!x.2)=true then A.pure 1 else A.bind (A.loop (λ(D:Int×a_×Unit)=>if decide (D.1<Int.ofNat (List.length D.2.1.1))=true then A.bind (ajB (D.2.1,D.1)) λy=>if decide (Int.ofNat (List.length y)=0)=true then A.bind (A.bind (A.pure 3) (λr=>A.pure (V.done r))) λr=>A.pure (V.done r) else A.pure (V.next (IntKind.wrap .i64 (Add.add D.1 1),D.2.1,())) else A.bind (A.pure (V.next ())) λr=>A.pure (V.done r)) (0,x.1,())) (V.bz (λ(D:Unit)=>A.pure 0))
def NG(ajC:a_×Int×Int->A Bool)(x:a_×Int):A (z1'):=
 A.bind (A.ab (0<=x.2/\x.2<Int.ofNat (List.length x.1.1)) (A.loop (λ(D:Int×Int×a_×z1'×Unit)=>letI a:=D.2.2;A.ab (0<=D.1/\D.1<Int.ofNat (List.length a.1.1)) (if decide (D.2.1<=(List.getD a.1.1 (Int.toNat D.1) (0,0,0,0)).2.2.2)=true then A.bind (A.bind (ajC (a.1,D.1,D.2.1)) (λy=>if y=true then A.ab (bQ (Add.add (List.length a.2.1) (Add.add 0 1))) (A.pure (V.next (D.1,D.2.1,a.1,a.2.1++[D.2.1],()))) else A.pure (V.next (D.1,D.2.1,a.1,a.2.1,())))) (V.bz (λ(D:Int×Int×a_×z1'×Unit)=>A.pure (V.next (D.1,IntKind.wrap .i64 (Add.add D.2.1 1),D.2.2.1,D.2.2.2.1,())))) else A.bind (A.pure (V.next (a.2.1,()))) λr=>A.pure (V.done r))) (x.2,(List.getD x.1.1 (Int.toNat x.2) (0,0,0,0)).2.2.1,x.1,[],()))) (V.bz (λ(D:z1'×Unit)=>A.pure D.1))
def NH(ki:Int×Int×Int->A Bool)(x:Int×Int):A Bool:=
 A.bind (ki (x.1,0,x.2)) λy=>A.pure (y&&decide (x.2<=999))
def NI(ajD:z1'->A Bool)(ki:Int×Int×Int->A Bool)(ND:Int×Int->A Bool)(x:Int×z1'×Int×Int):A Bool:=
 A.bind (A.loop (λ(D:Int×(Int×z1'×Int×Int)×Unit)=>letI b:=D.1<Int.ofNat (List.length D.2.1.2.1);if decide b=true then A.ab (0<=D.1/\b) (A.bind (ki (List.getD D.2.1.2.1 (Int.toNat D.1) 0,0,9)) (λy=>if (!y)=true then A.bind (A.bind (A.pure false) (λr=>A.pure (V.done r))) λr=>A.pure (V.done r) else A.pure (V.next (IntKind.wrap .i64 (Add.add D.1 1),D.2.1,())))) else A.bind (A.pure (V.next (D.2.1,()))) λr=>A.pure (V.done r)) (0,x,())) (V.bz (λ(D:(Int×z1'×Int×Int)×Unit)=>A.bind (ki (D.1.1,0,9)) λy=>letI a:=y&&decide (Int.ofNat (List.length D.1.2.1)<=4);A.bind (cr a (ajD D.1.2.1) false) λb3=>A.bind (cr (a&&b3) (ND D.1.2.2) false) λdF=>A.pure (a&&b3&&dF)))
def VA(ays:Int×Int->A (Int×Int))(ajE:Int×Int->A (Int×Int))(x:Int×Int):A (Int×Int):=
 A.bind (ajE x) λy=>A.pure y
def VB(ajF:z1'×Int->A Int)(x:z1'×Int):A Bool:=
 A.bind (ajF x) λy=>A.pure (decide (y>=0))
def VC(x:Int×Int):A (Int×Int):=
 A.ab ((0:Int)<=32) (A.ab ((0:Int)<=32) (A.ab ((0:Int)<=32) (A.ab ((0:Int)<=32) (A.ab ((0:Int)<=32) (A.pure (IntKind.wrap .u64 (Add.add (IntKind.wrap .u64 (Add.add (IntKind.wrap .u64 (jj .u64 x.1 32*jj .u64 x.2 32)) (jj .u64 (IntKind.wrap .u64 (Add.add (IntKind.wrap .u64 (jj .u64 x.1 32*lO .u64 x.2 4294967295)) (jj .u64 (IntKind.wrap .u64 (lO .u64 x.1 4294967295*lO .u64 x.2 4294967295)) 32))) 32))) (jj .u64 (IntKind.wrap .u64 (Add.add (lO .u64 (IntKind.wrap .u64 (Add.add (IntKind.wrap .u64 (jj .u64 x.1 32*lO .u64 x.2 4294967295)) (jj .u64 (IntKind.wrap .u64 (lO .u64 x.1 4294967295*lO .u64 x.2 4294967295)) 32))) 4294967295) (IntKind.wrap .u64 (lO .u64 x.1 4294967295*jj .u64 x.2 32)))) 32)),IntKind.wrap .u64 (x.1*x.2)))))))
def NJ(x:z1'×Int):A Int:=
 A.bind (A.loop (λ(D:z1'×Int×Int×Int×Unit)=>letI a:=D.2.2.2.1;if decide (a<D.2.2.1)=true then A.ab (0<=a/\a<Int.ofNat (List.length D.1)) (if decide (D.2.1=List.getD D.1 (Int.toNat a) 0)=true then A.bind (A.bind (A.pure a) (λr=>A.pure (V.done r))) λr=>A.pure (V.done r) else A.pure (V.next (D.1,D.2.1,D.2.2.1,IntKind.wrap .i64 (Add.add a 1),()))) else A.bind (A.pure (V.next ())) λr=>A.pure (V.done r)) (x.1,x.2,Int.ofNat (List.length x.1),0,())) (V.bz (λ(D:Unit)=>A.pure (-1)))
def NK(ajG:z2'×List (List (Int×z1'×Int×Int))×Int×z2'->A Bool)(x:z2'×List (List (Int×z1'×Int×Int))×Int×z2'):A Int:=
 A.bind (ajG x) λy=>if (!y)=true then A.pure 70 else A.bind (A.loop (λ(D:z2'×Int×Int×z5'×Unit)=>letI c:=D.2.2.1;letI a:=List.getD D.1 (Int.toNat c) (0,0,0,0);letI b:=Option.map (λx=>x.2) (List.find? (λp=>decide (a.1=p.1.1)&&(decide (a.2.1=p.1.2.1)&&decide (a.2.2.1=p.1.2.2))) D.2.2.2.1);if decide (c<D.2.1)=true then A.ab (0<=c/\c<Int.ofNat (List.length D.1)) (if (Option.isSome b&&decide (Option.getD b 0≠a.2.2.2))=true then A.bind (A.bind (A.pure 71) (λr=>A.pure (V.done r))) λr=>A.pure (V.done r) else A.pure (V.next (D.1,D.2.1,IntKind.wrap .i64 (Add.add c 1),vP D.2.2.2.1 (a.1,a.2.1,a.2.2.1) a.2.2.2,()))) else A.bind (A.pure (V.next ())) λr=>A.pure (V.done r)) (x.2.2.2,Int.ofNat (List.length x.2.2.2),0,[],())) (V.bz (λ(D:Unit)=>A.pure 0))
def NL(mE:a_×Bool->A (Option qx×Int))(iq:a_×Int->A Bool)(x:a_×Int):A ((Int×Int)×Int):=
 letI a:=Int.toNat x.2;A.ab (iq x).cm (A.ab (mE (x.1,A.val (iq x) false)).cm (if decide ((A.val (mE (x.1,A.val (iq x) false)) (none,0)).2≠0)=true then A.pure ((0,0),(A.val (mE (x.1,A.val (iq x) false)) (none,0)).2) else A.ab (Option.isSome (A.val (mE (x.1,A.val (iq x) false)) (none,0)).1=true) (A.ab (0<=x.2/\x.2<Int.ofNat (List.length (Option.getD (A.val (mE (x.1,A.val (iq x) false)) (none,0)).1 (([],[],0,[]),[])).2)) (A.ab ((0:Int)<=0/\0<Int.ofNat (List.length (List.getD (Option.getD (A.val (mE (x.1,A.val (iq x) false)) (none,0)).1 (([],[],0,[]),[])).2 a []))) (A.ab (0<=IntKind.wrap .i64 (Int.ofNat (List.length (List.getD (Option.getD (A.val (mE (x.1,A.val (iq x) false)) (none,0)).1 (([],[],0,[]),[])).2 a []))-1)/\IntKind.wrap .i64 (Int.ofNat (List.length (List.getD (Option.getD (A.val (mE (x.1,A.val (iq x) false)) (none,0)).1 (([],[],0,[]),[])).2 a []))-1)<Int.ofNat (List.length (List.getD (Option.getD (A.val (mE (x.1,A.val (iq x) false)) (none,0)).1 (([],[],0,[]),[])).2 a []))) (A.pure ((List.getD (List.getD (Option.getD (A.val (mE (x.1,A.val (iq x) false)) (none,0)).1 (([],[],0,[]),[])).2 a []) (Int.toNat 0) 0,List.getD (List.getD (Option.getD (A.val (mE (x.1,A.val (iq x) false)) (none,0)).1 (([],[],0,[]),[])).2 a []) (Int.toNat (IntKind.wrap .i64 (Int.ofNat (List.length (List.getD (Option.getD (A.val (mE (x.1,A.val (iq x) false)) (none,0)).1 (([],[],0,[]),[])).2 a []))-1))) 0),0)))))))
def NM(mE:a_×Bool->A (Option qx×Int))(iq:a_×Int->A Bool)(x6:a_×Int×Int->A Bool)(ajH:Option qx×Int×Int×Int->A Int)(x:a_×Int×Int×Int):A (Int×Int):=
 letI b:=(x.1,x.2.2);letI a:=(x.1,x.2.1);A.ab (iq a).cm (A.ab (A.val (iq a) false=true->(A.val (iq a) false=true/\A.val (iq a) false=true/\A.val (iq a) false=true/\True)/\(x6 b).cm/\True) (A.ab (True/\(A.val (iq a) false=true->A.val (iq a) false=true)) (A.ab (mE (x.1,A.val (iq a) false&&A.val (x6 b) false)).cm (if decide ((A.val (mE (x.1,A.val (iq a) false&&A.val (x6 b) false)) (none,0)).2≠0)=true then A.pure (0,(A.val (mE (x.1,A.val (iq a) false&&A.val (x6 b) false)) (none,0)).2) else A.bind (ajH ((A.val (mE (x.1,A.val (iq a) false&&A.val (x6 b) false)) (none,0)).1,x.2)) λy=>A.pure (y,0)))))
def VD(oR:Int×Int×Int->A Bool)(ajI:z2'×(Int×Int×Int×Int->A Bool)->A Bool)(ajJ:List (List (Int×z1'×Int×Int))×(List (Int×z1'×Int×Int)->A Bool)->A Bool)(NN:z2'×(Int×Int×Int×Int->A Bool)->A Bool)(ajK:List (Int×z1'×Int×Int)×Option (Int×z1'×Int×Int->A Bool)->A Bool)(ajL:(Int×Int×Int×Int)×Option a_->A Bool)(ajM:Int×Int×Int×Int->A Bool)(ajN:Int×z1'×Int×Int->A Bool)(x:z2'×List (List (Int×z1'×Int×Int))×Int×z2'):A Bool:=
 letI c:=decide (Int.ofNat (List.length x.1)<=10);A.bind (cr c (ajI (x.1,ajM)) false) λy=>letI a:=c&&y&&decide (Int.ofNat (List.length x.2.1)<=6);A.bind (cr a (ajJ (x.2.1,λx=>ajK (x,some ajN))) false) λb3=>A.bind (cr (a&&b3) (oR (x.2.2.1,0,99)) false) λdF=>letI b:=a&&b3&&dF&&decide (Int.ofNat (List.length x.2.2.2)<=30);A.bind (cr b (NN (x.2.2.2,λhz=>ajL (hz,some x))) false) λgB=>A.pure (b&&gB)
def NO(DT:z2'×List (List (Int×z1'×Int×Int))×Int×z2'->A Int)(NN:z2'×(Int×Int×Int×Int->A Bool)->A Bool)(ajO:(Int×Int×Int×Int)×Option Int×Option a_×Option Int->A Bool)(x:a_×Bool):A (Option qx×Int):=
 A.bind (DT x.1) λy=>if decide (y≠0)=true then A.pure (none,y) else if (!x.2)=true then A.pure (none,1) else A.bind (A.loop (λ(D:z2'×Int×Int×a_×z2'×List (List (Int×z1'×Int×Int))×Int×z2'×List (z1')×Unit)=>letI i:=D.2.2.1;letI g:=List.getD D.1 (Int.toNat i) (0,0,0,0);letI c:=D.2.2.2.2;if decide (i<D.2.1)=true then A.bind (A.ab (0<=i/\i<Int.ofNat (List.length D.1)) (A.bind (A.loop (λ(D:z2'×Int×Int×a_×Int×(Int×Int×Int×Int)×z1'×Int×z2'×List (List (Int×z1'×Int×Int))×Int×z2'×List (z1')×Unit)=>letI d:=D.2.2.2;letI a:=d.2.2.2;letI j:=a.2.2;letI e:=j.2.2;if decide (a.2.1<=d.2.2.1.2.2.2)=true then A.bind (A.bind (NN (d.1.2.2.2,λx=>ajO (x,some d.2.1,some d.1,some a.2.1))) (λy=>if y=true then A.ab (bQ (Add.add (List.length a.1) (Add.add 0 1))) (A.pure (V.next (D.1,D.2.1,D.2.2.1,d.1,d.2.1,d.2.2.1,a.1++[a.2.1],a.2.1,j.1,j.2.1,e.1,e.2.1,e.2.2.1,()))) else A.pure (V.next (D.1,D.2.1,D.2.2.1,d.1,d.2.1,d.2.2.1,a.1,a.2.1,j.1,j.2.1,e.1,e.2.1,e.2.2.1,())))) (V.bz (λ(D:z2'×Int×Int×a_×Int×(Int×Int×Int×Int)×z1'×Int×z2'×List (List (Int×z1'×Int×Int))×Int×z2'×List (z1')×Unit)=>letI k:=D.2.2.2;letI b:=k.2.2.2;A.pure (V.next (D.1,D.2.1,D.2.2.1,k.1,k.2.1,k.2.2.1,b.1,IntKind.wrap .i64 (Add.add b.2.1 1),b.2.2.1,b.2.2.2.1,b.2.2.2.2.1,b.2.2.2.2.2.1,b.2.2.2.2.2.2.1,())))) else A.bind (A.pure (V.next (D.1,D.2.1,D.2.2.1,d.1,a.1,j.1,j.2.1,e.1,e.2.1,e.2.2.1,()))) λr=>A.pure (V.done r)) (D.1,D.2.1,i,D.2.2.2.1,i,g,[],g.2.2.1,c.1,c.2.1,c.2.2.1,c.2.2.2.1,c.2.2.2.2.1,())) (V.bz (λ(D:z2'×Int×Int×a_×z1'×z2'×List (List (Int×z1'×Int×Int))×Int×z2'×List (z1')×Unit)=>letI f:=D.2.2.2.2;if decide (Int.ofNat (List.length f.1)=0)=true then A.bind (A.bind (A.bind (A.pure (none,3)) (λr=>A.pure (V.done r))) (λr=>A.pure (V.done r))) λr=>A.pure (V.done r) else A.ab True (A.ab (bQ (Add.add (List.length f.2.2.2.2.2.1) (Add.add 0 1))) (A.ab True (A.pure (V.next (D.1,D.2.1,D.2.2.1,D.2.2.2.1,f.2.1,f.2.2.1,f.2.2.2.1,f.2.2.2.2.1,f.2.2.2.2.2.1++[f.1],()))))))))) (V.bz (λ(D:z2'×Int×Int×a_×z2'×List (List (Int×z1'×Int×Int))×Int×z2'×List (z1')×Unit)=>letI h:=D.2.2.2.2;A.pure (V.next (D.1,D.2.1,IntKind.wrap .i64 (Add.add D.2.2.1 1),D.2.2.2.1,h.1,h.2.1,h.2.2.1,h.2.2.2.1,h.2.2.2.2.1,())))) else A.bind (A.pure (V.next (c.1,c.2.1,c.2.2.1,c.2.2.2.1,c.2.2.2.2.1,()))) λr=>A.pure (V.done r)) (x.1.1,Int.ofNat (List.length x.1.1),0,x.1,x.1.1,x.1.2.1,x.1.2.2.1,x.1.2.2.2,[],())) (V.bz (λ(D:z2'×List (List (Int×z1'×Int×Int))×Int×z2'×List (z1')×Unit)=>A.pure (some ((D.1,D.2.1,D.2.2.1,D.2.2.2.1),D.2.2.2.2.1),0)))
def ajP(oR:Int×Int×Int->A Bool)(x:a_×Int):A Bool:=
 A.bind (oR (x.2,0,IntKind.wrap .i64 (Int.ofNat (List.length x.1.1)-1))) λy=>A.pure y
def VE(oR:Int×Int×Int->A Bool)(x:a_×Int×Int):A Bool:=
 letI a:=Int.ofNat (List.length x.1.2.1);A.bind (oR (x.2.1,0,IntKind.wrap .i64 (a-1))) λy=>A.ab (y=true->(y=true/\y=true)/\(0<=x.2.1/\x.2.1<a)/\True) (A.bind (cr y (oR (x.2.2,0,IntKind.wrap .i64 (Int.ofNat (List.length (List.getD x.1.2.1 (Int.toNat x.2.1) []))-1))) false) (λb3=>A.pure (y&&b3)))
def NP(HH:a_×Int×Int×Int×Int->A Bool)(ajQ:Int×Int->A Int)(x:Option qx×Int×Int×Int):A Int:=
 letI b:=(Option.getD x.1 (([],[],0,[]),[])).2;letI e:=List.getD b (Int.toNat x.2.1) [];A.bind (A.ab (Option.isSome x.1=true) (A.ab (0<=x.2.1/\x.2.1<Int.ofNat (List.length b)) (A.loop (λ(D:Option qx×Int×Int×Int×Int×z1'×Int×Int×Unit)=>letI c:=D.2.2.2;letI a:=c.2.2;letI f:=a.2.2.1;if decide (f<a.2.1)=true then A.bind (A.ab (0<=f/\f<Int.ofNat (List.length a.1)) (A.ab (Option.isSome D.1=true) (A.bind (HH ((Option.getD D.1 (([],[],0,[]),[])).1,D.2.1,List.getD a.1 (Int.toNat f) 0,D.2.2.1,c.1)) (λy=>if y=true then A.pure (V.next (D.1,D.2.1,D.2.2.1,c.1,IntKind.wrap .i64 (Add.add c.2.1 1),a.1,a.2.1,f,())) else A.pure (V.next (D.1,D.2.1,D.2.2.1,c.1,c.2.1,a.1,a.2.1,f,())))))) (V.bz (λ(D:Option qx×Int×Int×Int×Int×z1'×Int×Int×Unit)=>letI g:=D.2.2.2;A.pure (V.next (D.1,D.2.1,D.2.2.1,g.1,g.2.1,g.2.2.1,g.2.2.2.1,IntKind.wrap .i64 (Add.add g.2.2.2.2.1 1),())))) else A.bind (A.pure (V.next (D.1,D.2.1,c.2.1,()))) λr=>A.pure (V.done r)) (x.1,x.2.1,x.2.2.1,x.2.2.2,0,e,Int.ofNat (List.length e),0,())))) (V.bz (λ(D:Option qx×Int×Int×Unit)=>letI d:=(Option.getD D.1 (([],[],0,[]),[])).2;A.ab (Option.isSome D.1=true) (A.ab (0<=D.2.1/\D.2.1<Int.ofNat (List.length d)) (A.bind (ajQ (D.2.2.1,Int.ofNat (List.length (List.getD d (Int.toNat D.2.1) [])))) (λy=>A.pure y)))))
def ajR(x:z1'):A Bool:=
 A.bind (A.loop (λ(D:z1'×Int×Unit)=>letI c:=D.2.1;letI b:=IntKind.wrap .i64 (c-1);letI a:=Int.ofNat (List.length D.1);if decide (c<a)=true then A.ab (0<=c/\c<a) (A.ab (0<=b/\b<a) (if decide (List.getD D.1 (Int.toNat c) 0<=List.getD D.1 (Int.toNat b) 0)=true then A.bind (A.bind (A.pure false) (λr=>A.pure (V.done r))) λr=>A.pure (V.done r) else A.pure (V.next (D.1,IntKind.wrap .i64 (Add.add c 1),())))) else A.bind (A.pure (V.next ())) λr=>A.pure (V.done r)) (x,1,())) (V.bz (λ(D:Unit)=>A.pure true))
def ajS(x:Int×Int×Int):A Bool:=
 A.pure (decide (x.2.1<=x.1)&&decide (x.1<=x.2.2))
def VF(DU:Int->A Bool)(NQ:Int×Int->A Bool)(x:Int×Int×Int×Int):A Bool:=
 A.bind (DU x.1) λy=>A.bind (cr y (DU x.2.1) false) λb3=>A.bind (cr (y&&b3) (NQ x.2.2) false) λdF=>A.pure (y&&b3&&dF)
def VG(oR:Int×Int×Int->A Bool)(x:Int):A Bool:=
 A.bind (oR (x,0,9)) λy=>A.pure y
def ajT(oR:Int×Int×Int->A Bool)(x:Int×Int):A Bool:=
 A.bind (oR (x.1,0,x.2)) λy=>A.pure (y&&decide (x.2<=999))
def VH(ajU:z1'->A Bool)(ajV:z1'×(Int->A Bool)->A Bool)(DU:Int->A Bool)(NQ:Int×Int->A Bool)(x:Int×z1'×Int×Int):A Bool:=
 A.bind (DU x.1) λy=>letI a:=y&&decide (Int.ofNat (List.length x.2.1)<=4);A.bind (cr a (ajV (x.2.1,DU)) false) λb3=>A.bind (cr (a&&b3) (ajU x.2.1) false) λdF=>A.bind (cr (a&&b3&&dF) (NQ x.2.2) false) λgB=>A.pure (a&&b3&&dF&&gB)
def VI(ajW:List (Int×z1'×Int×Int)×(Int×z1'×Int×Int->A Bool)->A Bool)(x:List (Int×z1'×Int×Int)×Option (Int×z1'×Int×Int->A Bool)):A Bool:=
 letI a:=decide (Int.ofNat (List.length x.1)<=4);A.bind (cr a (ajW (x.1,Option.getD x.2 λx=>{ cm:=False,bL:=λx=>False })) false) λy=>A.pure (a&&y)
def VJ(iq:a_×Int->A Bool)(x6:a_×Int×Int->A Bool)(oR:Int×Int×Int->A Bool)(x:(Int×Int×Int×Int)×Option a_):A Bool:=
 letI a:=Option.getD x.2 ([],[],0,[]);A.bind (iq (a,x.1.1)) λy=>A.bind (cr y (x6 (a,x.1.2.1,x.1.2.2.1)) false) λb3=>A.bind (cr (y&&b3) (oR (x.1.2.2.2,0,1)) false) λdF=>A.pure (y&&b3&&dF)
def VK(HH:a_×Int×Int×Int×Int->A Bool)(x:(Int×Int×Int×Int)×Option Int×Option a_×Option Int):A Bool:=
 letI e:=Option.getD x.2.1 0;letI c:=decide (x.1.1≠e);letI b:=(Option.getD x.2.2.1 ([],[],0,[]),e,Option.getD x.2.2.2 0,x.1.2.1,x.1.2.2.1);letI a:=(!c)=true;letI d:=a->a/\True/\True;A.ab d (A.ab d (A.ab (a->(a/\a/\a/\a/\a/\True)/\(HH b).cm/\True) (A.ab d (A.ab (a->(a/\True)/\True/\True) (A.ab (a->(a/\a)/\True/\True) (A.ab (True/\(c=false->a)) (A.pure (c||decide (A.val (HH b) false=decide (x.1.2.2.2=1))))))))))
def VL(oR:Int×Int×Int->A Bool)(hL:z1'×Int->A Bool)(x:a_×Int×Int×Int×Int):A Bool:=
 letI e:=x.2.2.2;letI c:=List.getD x.1.2.1 (Int.toNat e.1) [];letI b:=List.getD x.1.1 (Int.toNat x.2.1) (0,0,0,0);letI a:=List.getD c (Int.toNat e.2) (0,[],0,0);letI d:=decide (b.1=a.1);A.ab (0<=x.2.1/\x.2.1<Int.ofNat (List.length x.1.1)) (A.ab (0<=e.1/\e.1<Int.ofNat (List.length x.1.2.1)) (A.ab (0<=e.2/\e.2<Int.ofNat (List.length c)) (A.bind (cr d (hL (a.2.1,b.2.1)) false) (λy=>A.bind (cr (d&&y) (oR (x.2.2.1,a.2.2.1,IntKind.wrap .i64 (Add.add a.2.2.2 x.1.2.2.1))) false) λb3=>A.pure (d&&y&&b3)))))
def VM(x:Int×Int):A Int:=
 if decide (x.1=x.2)=true then A.pure 1 else if decide (x.1=0)=true then A.pure 2 else A.pure 3
def NR(DS:z2'×List (List (Int×z1'×Int×Int))×Int×z2'->A Int)(x:z2'×List (List (Int×z1'×Int×Int))×Int×z2'):A Bool:=
 if (decide (Int.ofNat (List.length x.1) > 40)||decide (Int.ofNat (List.length x.2.1) > 40)||decide (Int.ofNat (List.length x.2.2.2) > 60))=true then A.pure true else A.bind (A.loop (λ(D:Int×a_×Unit)=>letI e:=D.1<Int.ofNat (List.length D.2.1.2.1);if decide e=true then A.bind (A.ab (0<=D.1/\e) (if decide (Int.ofNat (List.length (List.getD D.2.1.2.1 (Int.toNat D.1) [])) > 20)=true then A.bind (A.bind (A.bind (A.pure true) (λr=>A.pure (V.done r))) (λr=>A.pure (V.done r))) λr=>A.pure (V.done r) else A.loop (λ(D:Int×Int×a_×Unit)=>letI g:=D.2.2.1;letI c:=0<=D.1/\D.1<Int.ofNat (List.length g.2.1);letI a:=List.getD g.2.1 (Int.toNat D.1) [];letI f:=D.2.1<Int.ofNat (List.length a);A.ab c (if decide f=true then A.ab c (A.ab (0<=D.2.1/\f) (if decide (Int.ofNat (List.length (List.getD a (Int.toNat D.2.1) (0,[],0,0)).2.1) > 20)=true then A.bind (A.bind (A.bind (A.bind (A.pure true) (λr=>A.pure (V.done r))) (λr=>A.pure (V.done r))) (λr=>A.pure (V.done r))) λr=>A.pure (V.done r) else A.pure (V.next (D.1,IntKind.wrap .i64 (Add.add D.2.1 1),g,())))) else A.bind (A.pure (V.next (D.1,g,()))) λr=>A.pure (V.done r))) (D.1,0,D.2.1,()))) (V.bz (λ(D:Int×a_×Unit)=>A.pure (V.next (IntKind.wrap .i64 (Add.add D.1 1),D.2.1,())))) else A.bind (A.pure (V.next (D.2.1,()))) λr=>A.pure (V.done r)) (0,x,())) (V.bz (λ(D:a_×Unit)=>A.bind (DS D.1) λy=>if decide (y≠0)=true then A.pure false else A.bind (A.loop (λ(D:Int×a_×Unit)=>letI d:=(List.getD D.2.1.1 (Int.toNat D.1) (0,0,0,0)).2.2;letI b:=D.1<Int.ofNat (List.length D.2.1.1);if decide b=true then A.ab (0<=D.1/\b) (A.ab (0<=D.1/\b) (if decide (IntKind.wrap .i64 (d.2-d.1)>=50)=true then A.bind (A.bind (A.pure true) (λr=>A.pure (V.done r))) λr=>A.pure (V.done r) else A.pure (V.next (IntKind.wrap .i64 (Add.add D.1 1),D.2.1,())))) else A.bind (A.pure (V.next (D.2.1,()))) λr=>A.pure (V.done r)) (0,D.1,())) (V.bz (λ(D:a_×Unit)=>A.pure (decide (Int.ofNat (List.length D.1.1) > 6)||decide (Int.ofNat (List.length D.1.2.1) > 4)||decide (Int.ofNat (List.length D.1.2.2.2) > 10))))))
def ajX(x:Unit):A a_:=
 A.pure ([(1,2,300,310),(1,3,305,305),(2,1,50,60),(1,2,320,330)],[[(1,[2,3],300,306),(2,[1],40,58)],[(1,[2],310,326)]],5,[(0,1,0,0)])
abbrev dk:Type:=Int×Int×Int×Int×z1'
abbrev dB:Type:=z1'×(Int×Int)×Int×Int×Int
abbrev DV:Type:=Int×Int×Int
abbrev bG:Type:=a_×z1'×List dk×List dB×List DV×Int
abbrev dx:Type:=bG×z4'×z5'
def VN(ajY:z2'×List (List (Int×z1'×Int×Int))×Int×z2'->A a_)(x:bG):A (bG):=
 letI p:=x.2.2.2;A.bind (ajY x.1) λy=>A.ab (bQ (Add.add 0 (List.length x.2.1))) (A.ab (bQ (Add.add 0 (List.length x.2.2.1))) (A.ab (bQ (Add.add 0 (List.length p.1))) (A.ab (bQ (Add.add 0 (List.length p.2.1))) (A.bind (A.loop (λ(D:Int×(a_×z1'×List (Int×Int×Int×Int×z1')×List dB×z3'×Int)×Int×Int×z2'×List (List (Int×z1'×Int×Int))×Int×z2'×Int×z1'×List dk×List dB×z3'×Unit)=>letI m:=Int.toNat D.1;letI e:=(List.getD D.2.1.2.2.1 m (0,0,0,0,[])).2.2.2.2;letI d:=D.2.2.2.2;letI a:=d.2.2.2.2;letI o:=a.2.2;letI k:=D.1<Int.ofNat (List.length o.1);letI c:=List.getD o.1 m (0,0,0,0,[]);if decide k=true then A.ab (0<=D.1/\D.1<Int.ofNat (List.length D.2.1.2.2.1)) (A.ab (bQ (Add.add 0 (List.length e))) (A.ab (0<=D.1/\k) (A.pure (V.next (IntKind.wrap .i64 (Add.add D.1 1),D.2.1,D.2.2.1,D.2.2.2.1,d.1,d.2.1,d.2.2.1,d.2.2.2.1,a.1,a.2.1,List.set o.1 m (c.1,c.2.1,c.2.2.1,c.2.2.2.1,[]++e),o.2.1,o.2.2.1,()))))) else A.bind (A.pure (V.next (D.2.1,D.2.2.1,D.2.2.2.1,d.1,d.2.1,d.2.2.1,d.2.2.2.1,a.1,a.2.1,o.1,o.2.1,o.2.2.1,()))) λr=>A.pure (V.done r)) (0,x,0,0,y.1,y.2.1,y.2.2.1,y.2.2.2,p.2.2,[]++x.2.1,[]++x.2.2.1,[]++p.1,[]++p.2.1,())) (V.bz (λ(D:(a_×z1'×List dk×List (z1'×(Int×Int)×Int×Int×Int)×z3'×Int)×Int×Int×z2'×List (List (Int×z1'×Int×Int))×Int×z2'×Int×z1'×List dk×List dB×z3'×Unit)=>letI g:=D.2.2.2.2.2;A.bind (A.loop (λ(D:Int×(a_×z1'×List dk×List (z1'×(Int×Int)×Int×Int×Int)×z3'×Int)×Int×Int×z2'×List (List (Int×z1'×Int×Int))×Int×z2'×Int×z1'×List dk×List dB×z3'×Unit)=>letI n:=Int.toNat D.1;letI i:=D.2.2.2.2;letI f:=(List.getD D.2.1.2.2.2.1 n ([],(0,0),0,0,0)).1;letI b:=i.2.2.2;letI j:=b.2.2.2.2;letI l:=D.1<Int.ofNat (List.length j.1);if decide l=true then A.ab (0<=D.1/\D.1<Int.ofNat (List.length D.2.1.2.2.2.1)) (A.ab (bQ (Add.add 0 (List.length f))) (A.ab (0<=D.1/\l) (A.pure (V.next (IntKind.wrap .i64 (Add.add D.1 1),D.2.1,D.2.2.1,D.2.2.2.1,i.1,i.2.1,i.2.2.1,b.1,b.2.1,b.2.2.1,b.2.2.2.1,List.set j.1 n ([]++f,(List.getD j.1 n ([],(0,0),0,0,0)).2),j.2.1,()))))) else A.bind (A.pure (V.next (D.2.2.1,D.2.2.2.1,i.1,i.2.1,i.2.2.1,b.1,b.2.1,b.2.2.1,b.2.2.2.1,j.1,j.2.1,()))) λr=>A.pure (V.done r)) (0,D.1,D.2.1,D.2.2.1,D.2.2.2.1,D.2.2.2.2.1,g.1,g.2.1,g.2.2.1,g.2.2.2.1,g.2.2.2.2.1,g.2.2.2.2.2.1,g.2.2.2.2.2.2.1,())) (V.bz (λ(D:Int×Int×z2'×List (List (Int×z1'×Int×Int))×Int×z2'×Int×z1'×List dk×List dB×z3'×Unit)=>letI h:=D.2.2.2.2.2;A.pure ((D.2.2.1,D.2.2.2.1,D.2.2.2.2.1,h.1),h.2.2.1,h.2.2.2.1,h.2.2.2.2.1,h.2.2.2.2.2.1,h.2.1)))))))))
def VO(ajZ:bG×Bool->A (Int×Int))(x:bG):A (Int×Int):=
 A.bind (ajZ (x,true)) λy=>A.pure y
def VP(oS:bG×Bool->A (Option dx×Int))(aj0:Option dx->Prop)(aj1:Option dx->List (z1'))(NS:Option dx×z1'->A (z3'×Bool))(aj2:Option dx×z3'->A Bool)(NT:Option dx×z3'->A Int)(x:bG):A (Int×Int):=
 A.bind (oS (x,true)) λy=>if decide (y.2≠0)=true then A.pure (0,y.2) else A.ab (aj0 y.1) (A.bind (jM (λ(D:Option (bG×z4'×z5')×Int×Unit) (y:z1')=>A.bind (A.bind (NS (D.1,y)) (λb3=>A.bind (cr (!(!b3.2)) (aj2 (D.1,b3.1)) false) λdF=>if (!b3.2||!dF)=true then A.pure (dj.normal,D.1,D.2.1,()) else A.bind (NT (D.1,b3.1)) λgB=>if (decide (D.2.1=-1)||decide (gB<D.2.1))=true then A.pure (dj.normal,D.1,gB,()) else A.pure (dj.normal,D.1,D.2.1,()))) λp=>A.pure (p.1,p.2.1,p.2.2.1,())) (aj1 y.1) (y.1,-1,())) (λp=>letI a:=decide (p.2.2.1=-1)=true;sv (if a then A.pure (0,3) else A.pure (p.2.2.1,0)) (λid=>if id=0 then if a then A.pure (0,3) else A.pure (p.2.2.1,0) else A.fail) A.fail p.1))
def VQ(oS:bG×Bool->A (Option dx×Int))(DW:bG×Int->A Bool)(NU:z1'×Int×Unit->A (z1'×Unit))(Av:Option dx×z1'->A Bool)(x:bG×Int):A (z1'×Int):=
 A.ab (DW x).cm (A.ab (oS (x.1,A.val (DW x) false)).cm (if decide ((A.val (oS (x.1,A.val (DW x) false)) (none,0)).2≠0)=true then A.pure ([],(A.val (oS (x.1,A.val (DW x) false)) (none,0)).2) else A.bind (NU ([-1],Int.ofNat (List.length x.1.2.2.2.1),())) λy=>A.bind (A.loop (λ(D:Int×Option ((a_×z1'×List dk×List dB×z3'×Int)×z4'×z5')×Int×Int×z1'×z1'×Unit)=>letI b:=D.2.2.2;letI a:=List.set b.2.2.1 (Int.toNat D.1) b.1;if decide (b.1<D.2.2.1)=true then A.bind (A.ab (0<=D.1/\D.1<Int.ofNat (List.length b.2.2.1)) (A.bind (Av (D.2.1,a)) (λy=>if y=true then A.ab (bQ (Add.add (List.length b.2.1) (Add.add 0 1))) (A.pure (V.next (D.1,D.2.1,D.2.2.1,b.1,b.2.1++[b.1],a,()))) else A.pure (V.next (D.1,D.2.1,D.2.2.1,b.1,b.2.1,a,()))))) (V.bz (λ(D:Int×Option ((a_×z1'×List dk×List (z1'×(Int×Int)×Int×Int×Int)×z3'×Int)×z4'×z5')×Int×Int×z1'×z1'×Unit)=>A.pure (V.next (D.1,D.2.1,D.2.2.1,IntKind.wrap .i64 (Add.add D.2.2.2.1 1),D.2.2.2.2.1,D.2.2.2.2.2.1,())))) else A.bind (A.pure (V.next (b.2.1,()))) λr=>A.pure (V.done r)) (x.2,(A.val (oS (x.1,A.val (DW x) false)) (none,0)).1,Int.ofNat (List.length x.1.2.2.1),0,[],y.1,())) (V.bz (λ(D:z1'×Unit)=>A.pure (D.1,0)))))
def VR(DT:z2'×List (List (Int×z1'×Int×Int))×Int×z2'->A Int)(aj3:bG->A Bool)(x:bG):A Int:=
 A.bind (DT x.1) λy=>if decide (y≠0)=true then A.pure y else A.bind (aj3 x) λy=>if (!y)=true then A.pure 80 else A.pure 0
def VS(DS:z2'×List (List (Int×z1'×Int×Int))×Int×z2'->A Int)(n7:Int×Int×Int->A Bool)(VT:bG×Int×Int×Int×Int×z1'->A Bool)(aj4:z1'×(Int×Int)×Int×Int×Int->A Bool)(x:bG):A Int:=
 letI a:=decide (Int.ofNat (List.length x.2.1)≠Int.ofNat (List.length x.1.1))||decide (Int.ofNat (List.length x.2.2.1) > 8)||decide (Int.ofNat (List.length x.2.2.2.1) > 6)||decide (Int.ofNat (List.length x.2.2.2.2.1) > 8);A.bind (DS x.1) λy=>if decide (y≠0)=true then A.pure y else A.bind (cr (!a) (n7 (x.2.2.2.2.2,0,99)) false) λy=>if (a||!y)=true then A.pure 80 else A.bind (A.loop (λ(D:Int×(a_×z1'×List (Int×Int×Int×Int×z1')×List dB×z3'×Int)×Unit)=>letI g:=D.1<Int.ofNat (List.length D.2.1.2.1);if decide g=true then A.ab (0<=D.1/\g) (A.bind (n7 (List.getD D.2.1.2.1 (Int.toNat D.1) 0,0,10)) (λy=>if (!y)=true then A.bind (A.bind (A.pure 80) (λr=>A.pure (V.done r))) λr=>A.pure (V.done r) else A.pure (V.next (IntKind.wrap .i64 (Add.add D.1 1),D.2.1,())))) else A.bind (A.pure (V.next (D.2.1,()))) λr=>A.pure (V.done r)) (0,x,())) (V.bz (λ(D:(a_×z1'×List dk×List dB×z3'×Int)×Unit)=>A.bind (A.loop (λ(D:Int×(a_×z1'×List dk×List dB×z3'×Int)×Unit)=>letI f:=D.1<Int.ofNat (List.length D.2.1.2.2.1);letI c:=(D.2.1,List.getD D.2.1.2.2.1 (Int.toNat D.1) (0,0,0,0,[]));if decide f=true then A.ab (0<=D.1/\f) (A.ab (VT c).cm (if (!(A.val (VT c) false))=true then A.bind (A.bind (A.pure 80) (λr=>A.pure (V.done r))) λr=>A.pure (V.done r) else A.pure (V.next (IntKind.wrap .i64 (Add.add D.1 1),D.2.1,())))) else A.bind (A.pure (V.next (D.2.1,()))) λr=>A.pure (V.done r)) (0,D.1,())) (V.bz (λ(D:(a_×z1'×List dk×List (z1'×(Int×Int)×Int×Int×Int)×z3'×Int)×Unit)=>A.bind (A.loop (λ(D:Int×(a_×z1'×List dk×List (z1'×(Int×Int)×Int×Int×Int)×z3'×Int)×Unit)=>letI e:=D.1<Int.ofNat (List.length D.2.1.2.2.2.1);if decide e=true then A.ab (0<=D.1/\e) (A.bind (aj4 (List.getD D.2.1.2.2.2.1 (Int.toNat D.1) ([],(0,0),0,0,0))) (λy=>if (!y)=true then A.bind (A.bind (A.pure 80) (λr=>A.pure (V.done r))) λr=>A.pure (V.done r) else A.pure (V.next (IntKind.wrap .i64 (Add.add D.1 1),D.2.1,())))) else A.bind (A.pure (V.next (D.2.1,()))) λr=>A.pure (V.done r)) (0,D.1,())) (V.bz (λ(D:(bG)×Unit)=>A.bind (A.loop (λ(D:Int×(a_×z1'×List dk×List dB×z3'×Int)×Unit)=>letI d:=D.1<Int.ofNat (List.length D.2.1.2.2.2.2.1);letI b:=List.getD D.2.1.2.2.2.2.1 (Int.toNat D.1) (0,0,0);if decide d=true then A.ab (0<=D.1/\d) (A.bind (n7 (b.1,0,99)) (λy=>A.bind (cr (!(!y)) (n7 (b.2.1,0,IntKind.wrap .i64 (Int.ofNat (List.length D.2.1.1.1)-1))) false) λb3=>A.bind (cr (!(!y||!b3)) (n7 (b.2.2,1,10)) false) λdF=>if (!y||!b3||!dF)=true then A.bind (A.bind (A.pure 80) (λr=>A.pure (V.done r))) λr=>A.pure (V.done r) else A.pure (V.next (IntKind.wrap .i64 (Add.add D.1 1),D.2.1,())))) else A.bind (A.pure (V.next ())) λr=>A.pure (V.done r)) (0,D.1,())) (V.bz (λ(D:Unit)=>A.pure 0))))))))
def VU(oS:bG×Bool->A (Option dx×Int))(Av:Option dx×z1'->A Bool)(Aw:bG×z1'->A Bool)(l5:Option dx×z1'->A Int)(x:bG×z1'):A (Int×Int):=
 A.ab (Aw x).cm (A.ab (oS (x.1,A.val (Aw x) false)).cm (if decide ((A.val (oS (x.1,A.val (Aw x) false)) (none,0)).2≠0)=true then A.pure (0,(A.val (oS (x.1,A.val (Aw x) false)) (none,0)).2) else A.bind (Av ((A.val (oS (x.1,A.val (Aw x) false)) (none,0)).1,x.2)) λy=>if (!y)=true then A.pure (0,3) else A.bind (l5 ((A.val (oS (x.1,A.val (Aw x) false)) (none,0)).1,x.2)) λy=>A.pure (y,0)))
def VV(oS:bG×Bool->A (Option dx×Int))(aj5:Option dx->A (z1'))(l5:Option dx×z1'->A Int)(x:bG×Bool):A (Int×Int):=
 A.bind (oS x) λy=>if decide (y.2≠0)=true then A.pure (0,y.2) else A.bind (aj5 y.1) λb3=>A.bind (l5 (y.1,b3)) λy=>A.pure (y,0)
def NV(DX:bG->A Int)(x7:a_×Int->A ((Int×Int)×Int))(rB:a_×Int×Int×Int->A (Int×Int))(Ax:z4'×Int->A (z4'))(x:bG×Bool):A (Option dx×Int):=
 letI e2:=x.1.1.2;letI f1:=x.1.2.2;A.bind (DX x.1) λy=>if decide (y≠0)=true then A.pure (none,y) else if (!x.2)=true then A.pure (none,1) else A.bind (if decide (Int.ofNat (List.length x.1.2.1) > 0)=true then A.bind (x7 (x.1.1,0)) λy=>if decide (y.2≠0)=true then A.bind (A.pure (none,y.2)) λr=>A.pure (V.done r) else A.pure (V.next (x.1,[],x.1.1.1,e2.1,e2.2.1,e2.2.2,x.1.2.1,f1.1,f1.2.1,f1.2.2.1,f1.2.2.2,())) else A.pure (V.next (x.1,[],x.1.1.1,e2.1,e2.2.1,e2.2.2,x.1.2.1,f1.1,f1.2.1,f1.2.2.1,f1.2.2.2,()))) (V.bz (λ(D:(a_×z1'×List dk×List (z1'×(Int×Int)×Int×Int×Int)×z3'×Int)×z5'×z2'×List (List (Int×z1'×Int×Int))×Int×z2'×z1'×List dk×List (z1'×(Int×Int)×Int×Int×Int)×z3'×Int×Unit)=>letI t:=D.2.2.2.2.2;A.bind (A.loop (λ(D:Int×Int×(a_×z1'×List dk×List dB×z3'×Int)×z5'×z2'×List (List (Int×z1'×Int×Int))×Int×z2'×z1'×List dk×List (z1'×(Int×Int)×Int×Int×Int)×z3'×Int×Unit)=>letI bF:=D.2.2;letI h:=bF.2.2.2.2;letI g1:=h.2.2.2;if decide (D.2.1<D.1)=true then A.bind (A.loop (λ(D:Int×Int×Int×List (List (Int×z1'×Int×Int))×Int×Int×(a_×z1'×List dk×List (z1'×(Int×Int)×Int×Int×Int)×z3'×Int)×z5'×z2'×List (List (Int×z1'×Int×Int))×Int×z2'×z1'×List dk×List dB×z3'×Int×Unit)=>letI i1:=D.2.2.2;letI j:=i1.2.2;letI c:=j.2.2.2;letI o:=c.2.2.2.2;if decide (j.1<i1.2.1)=true then A.bind (A.ab (0<=j.1/\j.1<Int.ofNat (List.length i1.1)) (A.loop (λ(D:Int×Int×Int×Int×List (List (Int×z1'×Int×Int))×Int×Int×Int×Int×(a_×z1'×List dk×List dB×z3'×Int)×z5'×z2'×List (List (Int×z1'×Int×Int))×Int×z2'×z1'×List (Int×Int×Int×Int×z1')×List dB×z3'×Int×Unit)=>letI m1:=D.2.2;letI k:=m1.2.2;letI hR:=k.2.2;letI a:=hR.2.2;letI w:=a.2.2.2;letI f:=w.2.2.2;letI d1:=f.2.2.2;if decide (a.1<hR.2.1)=true then A.bind (A.bind (rB (a.2.1.1,D.1,D.2.1,a.1)) (λy=>if decide (y.1=1)=true then A.ab True (A.ab (True/\True/\True) (A.ab True (A.pure (V.next (D.1,D.2.1,m1.1,m1.2.1,k.1,k.2.1,hR.1,hR.2.1,a.1,a.2.1,vP a.2.2.1 (D.1,D.2.1,a.1) (IntKind.wrap .i64 (Add.add (Option.getD (Option.map (λx=>x.2) (List.find? (λp=>decide (D.1=p.1.1)&&(decide (D.2.1=p.1.2.1)&&decide (a.1=p.1.2.2))) a.2.2.1)) 0) 1)),w.1,w.2.1,w.2.2.1,f.1,f.2.1,f.2.2.1,d1.1,d1.2.1,d1.2.2.1,()))))) else A.pure (V.next (D.1,D.2.1,m1.1,m1.2.1,k.1,k.2.1,hR.1,hR.2.1,a.1,a.2.1,a.2.2.1,w.1,w.2.1,w.2.2.1,f.1,f.2.1,f.2.2.1,d1.1,d1.2.1,d1.2.2.1,())))) (V.bz (λ(D:Int×Int×Int×Int×List (List (Int×z1'×Int×Int))×Int×Int×Int×Int×bG×z5'×z2'×List (List (Int×z1'×Int×Int))×Int×z2'×z1'×List dk×List dB×z3'×Int×Unit)=>letI ax:=D.2.2.2.2.2;letI g:=ax.2.2.2.2;letI z:=g.2.2.2.2.2;A.pure (V.next (D.1,D.2.1,D.2.2.1,D.2.2.2.1,D.2.2.2.2.1,ax.1,ax.2.1,ax.2.2.1,IntKind.wrap .i64 (Add.add ax.2.2.2.1 1),g.1,g.2.1,g.2.2.1,g.2.2.2.1,g.2.2.2.2.1,z.1,z.2.1,z.2.2.1,z.2.2.2.1,z.2.2.2.2.1,z.2.2.2.2.2.1,())))) else A.bind (A.pure (V.next (D.1,m1.1,m1.2.1,k.1,k.2.1,hR.1,a.2.1,a.2.2.1,w.1,w.2.1,w.2.2.1,f.1,f.2.1,f.2.2.1,d1.1,d1.2.1,d1.2.2.1,()))) λr=>A.pure (V.done r)) (D.1,j.1,D.2.1,D.2.2.1,i1.1,i1.2.1,j.1,Int.ofNat (List.length (List.getD i1.1 (Int.toNat j.1) [])),0,j.2.1,j.2.2.1,c.1,c.2.1,c.2.2.1,c.2.2.2.1,o.1,o.2.1,o.2.2.1,o.2.2.2.1,o.2.2.2.2.1,()))) (V.bz (λ(D:Int×Int×Int×List (List (Int×z1'×Int×Int))×Int×Int×(a_×z1'×List dk×List dB×z3'×Int)×z5'×z2'×List (List (Int×z1'×Int×Int))×Int×z2'×z1'×List dk×List (z1'×(Int×Int)×Int×Int×Int)×z3'×Int×Unit)=>letI E:=D.2.2.2.2;letI i:=E.2.2.2.2;letI aQ:=i.2.2.2.2;A.pure (V.next (D.1,D.2.1,D.2.2.1,D.2.2.2.1,E.1,IntKind.wrap .i64 (Add.add E.2.1 1),E.2.2.1,E.2.2.2.1,i.1,i.2.1,i.2.2.1,i.2.2.2.1,aQ.1,aQ.2.1,aQ.2.2.1,aQ.2.2.2.1,aQ.2.2.2.2.1,())))) else A.bind (A.pure (V.next (D.2.1,D.2.2.1,j.2.1,j.2.2.1,c.1,c.2.1,c.2.2.1,c.2.2.2.1,o.1,o.2.1,o.2.2.1,o.2.2.2.1,o.2.2.2.2.1,()))) λr=>A.pure (V.done r)) (D.2.1,D.1,D.2.1,bF.1.1.2.1,Int.ofNat (List.length bF.1.1.2.1),0,bF.1,bF.2.1,bF.2.2.1,bF.2.2.2.1,h.1,h.2.1,h.2.2.1,g1.1,g1.2.1,g1.2.2.1,g1.2.2.2.1,())) (V.bz (λ(D:Int×Int×(a_×z1'×List dk×List (z1'×(Int×Int)×Int×Int×Int)×z3'×Int)×z5'×z2'×List (List (Int×z1'×Int×Int))×Int×z2'×z1'×List dk×List (z1'×(Int×Int)×Int×Int×Int)×z3'×Int×Unit)=>letI jI:=D.2.2.2;letI m:=jI.2.2.2;A.pure (V.next (D.1,IntKind.wrap .i64 (Add.add D.2.1 1),D.2.2.1,jI.1,jI.2.1,jI.2.2.1,m.1,m.2.1,m.2.2.1,m.2.2.2.1,m.2.2.2.2.1,m.2.2.2.2.2.1,m.2.2.2.2.2.2.1,())))) else A.bind (A.pure (V.next (bF.1,bF.2.1,bF.2.2.1,bF.2.2.2.1,h.1,h.2.1,h.2.2.1,g1.1,g1.2.1,g1.2.2.1,g1.2.2.2.1,()))) λr=>A.pure (V.done r)) (Int.ofNat (List.length D.1.2.1),0,D.1,D.2.1,D.2.2.1,D.2.2.2.1,D.2.2.2.2.1,t.1,t.2.1,t.2.2.1,t.2.2.2.1,t.2.2.2.2.1,t.2.2.2.2.2.1,())) (V.bz (λ(D:(a_×z1'×List (Int×Int×Int×Int×z1')×List dB×z3'×Int)×z5'×z2'×List (List (Int×z1'×Int×Int))×Int×z2'×z1'×List (Int×Int×Int×Int×z1')×List dB×z3'×Int×Unit)=>letI u:=D.2.2.2.2.2;A.bind (A.loop (λ(D:z1'×Int×Int×(a_×z1'×List dk×List dB×z3'×Int)×z5'×z2'×List (List (Int×z1'×Int×Int))×Int×z2'×z1'×List (Int×Int×Int×Int×z1')×List dB×z3'×Int×z4'×Unit)=>letI l:=D.2.2;letI x8:=l.2.2.2;letI n:=List.getD D.1 (Int.toNat l.1) 0;letI d:=x8.2.2.2;letI b9:=d.2.2.2.2;if decide (l.1<D.2.1)=true then A.ab (0<=l.1/\l.1<Int.ofNat (List.length D.1)) (A.ab True (A.ab (Ax ([(l.1,0)],n)).cm (A.ab (bQ (Add.add (List.length b9.2.2.1) (List.length (A.val (Ax ([(l.1,0)],n)) [])))) (A.ab True (A.pure (V.next (D.1,D.2.1,IntKind.wrap .i64 (Add.add l.1 1),l.2.1,l.2.2.1,x8.1,x8.2.1,x8.2.2.1,d.1,d.2.1,d.2.2.1,d.2.2.2.1,b9.1,b9.2.1,b9.2.2.1++A.val (Ax ([(l.1,0)],n)) [],()))))))) else A.bind (A.pure (V.next (l.2.1,l.2.2.1,x8.1,x8.2.1,x8.2.2.1,d.1,d.2.1,d.2.2.1,d.2.2.2.1,b9.1,b9.2.1,b9.2.2.1,()))) λr=>A.pure (V.done r)) (D.1.2.1,Int.ofNat (List.length D.1.2.1),0,D.1,D.2.1,D.2.2.1,D.2.2.2.1,D.2.2.2.2.1,u.1,u.2.1,u.2.2.1,u.2.2.2.1,u.2.2.2.2.1,u.2.2.2.2.2.1,[],())) (V.bz (λ(D:(a_×z1'×List dk×List (z1'×(Int×Int)×Int×Int×Int)×z3'×Int)×z5'×z2'×List (List (Int×z1'×Int×Int))×Int×z2'×z1'×List dk×List dB×z3'×Int×z4'×Unit)=>letI q:=D.2.2.2.2.2;A.bind (A.loop (λ(D:z3'×Int×Int×z5'×z2'×List (List (Int×z1'×Int×Int))×Int×z2'×z1'×List (Int×Int×Int×Int×z1')×List dB×z3'×Int×z4'×Unit)=>letI s:=D.2.2;letI ec:=s.2.2.2;letI e:=ec.2.2;letI dO:=e.2.2.2.2;letI b:=List.getD D.1 (Int.toNat s.1) (0,0,0);letI dz:=(b.2.1,b.1);if decide (s.1<D.2.1)=true then A.ab (0<=s.1/\s.1<Int.ofNat (List.length D.1)) (A.ab True (A.ab (Ax ([dz],b.2.2)).cm (A.ab (bQ (Add.add (List.length dO.2.2.1) (List.length (A.val (Ax ([dz],b.2.2)) [])))) (A.ab True (A.pure (V.next (D.1,D.2.1,IntKind.wrap .i64 (Add.add s.1 1),s.2.1,s.2.2.1,ec.1,ec.2.1,e.1,e.2.1,e.2.2.1,e.2.2.2.1,dO.1,dO.2.1,dO.2.2.1++A.val (Ax ([dz],b.2.2)) [],()))))))) else A.bind (A.pure (V.next (s.2.1,s.2.2.1,ec.1,ec.2.1,e.1,e.2.1,e.2.2.1,e.2.2.2.1,dO.1,dO.2.1,dO.2.2.1,()))) λr=>A.pure (V.done r)) (D.1.2.2.2.2.1,Int.ofNat (List.length D.1.2.2.2.2.1),0,D.2.1,D.2.2.1,D.2.2.2.1,D.2.2.2.2.1,q.1,q.2.1,q.2.2.1,q.2.2.2.1,q.2.2.2.2.1,q.2.2.2.2.2.1,q.2.2.2.2.2.2.1,())) (V.bz (λ(D:z5'×z2'×List (List (Int×z1'×Int×Int))×Int×z2'×z1'×List (Int×Int×Int×Int×z1')×List dB×z3'×Int×z4'×Unit)=>letI v:=D.2.2.2.2.2;A.pure (some (((D.2.1,D.2.2.1,D.2.2.2.1,D.2.2.2.2.1),v.1,v.2.1,v.2.2.1,v.2.2.2.1,v.2.2.2.2.1),v.2.2.2.2.2.1,D.1),0)))))))))
def NW(HI:(z1'×(Int×Int)×Int×Int×Int)×Int×Int×Int×Int×z1'->A Int)(x:Option dx×z1'):A (z3'×Bool):=
 A.bind (A.loop (λ(D:Option ((a_×z1'×List dk×List dB×z3'×Int)×z4'×z5')×z1'×Int×Int×z3'×Unit)=>letI l:=D.2;letI g:=Option.isSome D.1=true;letI e:=l.2.2;letI j:=Int.toNat e.1;letI b:=List.getD l.1 j 0;letI a:=(Option.getD D.1 ((([],[],0,[]),[],[],[],[],0),[],[])).1.2.2;letI f:=List.getD a.1 (Int.toNat b) (0,0,0,0,[]);letI d:=List.getD a.2.1 j ([],(0,0),0,0,0);if decide (e.1<l.2.1)=true then A.bind (A.ab (0<=e.1/\e.1<Int.ofNat (List.length l.1)) (if decide (List.getD l.1 j (0:Int)<0)=true then A.pure (V.next (D.1,l.1,l.2.1,e.1,e.2.1,())) else A.ab g (A.ab (0<=e.1/\e.1<Int.ofNat (List.length a.2.1)) (A.ab g (A.ab (0<=b/\b<Int.ofNat (List.length a.1)) (A.bind (A.bind (HI (d,f)) (λy=>if decide (y=0)=true then A.bind (A.bind (A.bind (A.bind (A.pure ([],false)) (λr=>A.pure (V.done r))) (λr=>A.pure (V.done r))) (λr=>A.pure (V.done r))) λr=>A.pure (V.done r) else if decide (y=2)=true then A.ab g (A.pure (V.next (D.1,IntKind.wrap .i64 (d.2.2.2.1-a.2.2.2),l.1,l.2.1,e.1,e.2.1,f,()))) else A.pure (V.next (D.1,d.2.2.2.1,l.1,l.2.1,e.1,e.2.1,f,())))) (V.bz (λ(D:Option ((a_×z1'×List dk×List (z1'×(Int×Int)×Int×Int×Int)×z3'×Int)×z4'×z5')×Int×z1'×Int×Int×z3'×(Int×Int×Int×Int×z1')×Unit)=>letI h:=D.2.2.2.2;if decide (D.2.1<0)=true then A.bind (A.bind (A.bind (A.pure ([],false)) (λr=>A.pure (V.done r))) (λr=>A.pure (V.done r))) λr=>A.pure (V.done r) else A.loop (λ(D:Option ((a_×z1'×List dk×List dB×z3'×Int)×z4'×z5')×Int×z1'×Int×Int×z1'×Int×Int×z3'×(Int×Int×Int×Int×z1')×Unit)=>letI k:=D.2.2.2;letI c:=k.2.2;letI i:=c.2.2;if decide (i.1<c.2.1)=true then A.ab (0<=i.1/\i.1<Int.ofNat (List.length c.1)) (A.ab (bQ (Add.add (List.length i.2.1) (Add.add 0 1))) (A.pure (V.next (D.1,D.2.1,D.2.2.1,k.1,k.2.1,c.1,c.2.1,IntKind.wrap .i64 (Add.add i.1 1),i.2.1++[(i.2.2.1.2.2.2.1,List.getD c.1 (Int.toNat i.1) 0,D.2.1)],i.2.2.1,())))) else A.bind (A.pure (V.next (D.1,D.2.2.1,k.1,k.2.1,i.2.1,()))) λr=>A.pure (V.done r)) (D.1,D.2.1,D.2.2.1,D.2.2.2.1,h.1,h.2.2.1.2.2.2.2,Int.ofNat (List.length h.2.2.1.2.2.2.2),0,h.2.1,h.2.2.1,()))))))))) (V.bz (λ(D:Option (bG×z4'×z5')×z1'×Int×Int×z3'×Unit)=>A.pure (V.next (D.1,D.2.1,D.2.2.1,IntKind.wrap .i64 (Add.add D.2.2.2.1 1),D.2.2.2.2.1,())))) else A.bind (A.pure (V.next (e.2.1,()))) λr=>A.pure (V.done r)) (x.1,x.2,Int.ofNat (List.length x.2),0,[],())) (V.bz (λ(D:z3'×Unit)=>A.pure (D.1,true)))
def NX(HJ:Option dx×(Int×Int)×Int×Int×Int->A Bool)(x:Option dx×z3'):A Bool:=
 A.bind (A.loop (λ(D:Option ((a_×z1'×List dk×List dB×z3'×Int)×z4'×z5')×z3'×Int×Int×Unit)=>letI b:=D.2.2.2.1;if decide (b<D.2.2.1)=true then A.bind (A.ab (0<=b/\b<Int.ofNat (List.length D.2.1)) (A.bind (A.ab (Option.isSome D.1=true) (A.loop (λ(D:Option ((bG)×z4'×z5')×Bool×z3'×Int×Int×Int×Int×(Int×Int×Int)×Unit)=>letI a:=D.2.2.2.2;if decide (a.2.2.1<a.2.1)=true then A.bind (cr (!D.2.1) (HJ (D.1,(a.2.2.1,0),a.2.2.2.1)) false) λy=>A.pure (V.next (D.1,D.2.1||y,D.2.2.1,D.2.2.2.1,a.1,a.2.1,IntKind.wrap .i64 (Add.add a.2.2.1 1),a.2.2.2.1,())) else A.bind (A.pure (V.next (D.1,D.2.1,D.2.2.1,D.2.2.2.1,a.1,()))) λr=>A.pure (V.done r)) (D.1,false,D.2.1,D.2.2.1,b,Int.ofNat (List.length (Option.getD D.1 ((([],[],0,[]),[],[],[],[],0),[],[])).1.2.1),0,List.getD D.2.1 (Int.toNat b) (0,0,0),()))) (V.bz (λ(D:Option ((a_×z1'×List dk×List (z1'×(Int×Int)×Int×Int×Int)×z3'×Int)×z4'×z5')×Bool×z3'×Int×Int×Unit)=>if (!D.2.1)=true then A.bind (A.bind (A.bind (A.pure false) (λr=>A.pure (V.done r))) (λr=>A.pure (V.done r))) λr=>A.pure (V.done r) else A.pure (V.next (D.1,D.2.2.1,D.2.2.2.1,D.2.2.2.2.1,())))))) (V.bz (λ(D:Option ((a_×z1'×List (Int×Int×Int×Int×z1')×List dB×z3'×Int)×z4'×z5')×z3'×Int×Int×Unit)=>A.pure (V.next (D.1,D.2.1,D.2.2.1,IntKind.wrap .i64 (Add.add D.2.2.2.1 1),())))) else A.bind (A.pure (V.next ())) λr=>A.pure (V.done r)) (x.1,x.2,Int.ofNat (List.length x.2),0,())) (V.bz (λ(D:Unit)=>A.pure true))
def NY(NU:z1'×Int×Unit->A (z1'×Unit))(NZ:Option dx×z3'×Int×z4'×z1'×Unit->A (Bool×z4'×z1'×Unit))(x:Option dx×z3'):A Int:=
 A.ab (Option.isSome x.1=true) (A.bind (NU ([-1],Int.ofNat (List.length (Option.getD x.1 ((([],[],0,[]),[],[],[],[],0),[],[])).2.1),())) (λy=>A.bind (A.loop (λ(D:Option ((a_×z1'×List dk×List (z1'×(Int×Int)×Int×Int×Int)×z3'×Int)×z4'×z5')×z3'×Int×Int×Int×z1'×Unit)=>letI a:=D.2.2.2;if decide (a.2.1<a.1)=true then A.bind (A.bind (NZ (D.1,D.2.1,a.2.1,[],a.2.2.1,())) (λy=>if (!y.1)=true then A.pure (V.next (D.1,D.2.1,IntKind.wrap .i64 (Add.add D.2.2.1 1),a.1,a.2.1,y.2.2.1,())) else A.pure (V.next (D.1,D.2.1,D.2.2.1,a.1,a.2.1,y.2.2.1,())))) (V.bz (λ(D:Option ((a_×z1'×List (Int×Int×Int×Int×z1')×List dB×z3'×Int)×z4'×z5')×z3'×Int×Int×Int×z1'×Unit)=>A.pure (V.next (D.1,D.2.1,D.2.2.1,D.2.2.2.1,IntKind.wrap .i64 (Add.add D.2.2.2.2.1 1),D.2.2.2.2.2.1,())))) else A.bind (A.pure (V.next (D.2.2.1,()))) λr=>A.pure (V.done r)) (x.1,x.2,0,Int.ofNat (List.length x.2),0,y.1,())) (V.bz (λ(D:Int×Unit)=>A.pure D.1))))
def VW(kG:Int×Int×Int->A Bool)(x:bG×Int):A Bool:=
 A.bind (kG (x.2,0,IntKind.wrap .i64 (Int.ofNat (List.length x.1.2.2.2.1)-1))) λy=>A.pure y
def aj6(x9:Int×Int->A (Int×Int))(x:z1'×Int):A (z1'):=
 A.bind (if decide (x.2<0)=true then A.ab False (A.ab False (A.pure (V.next (x.1,x.2,())))) else A.pure (V.next (x.1,x.2,()))) (V.bz (λ(D:z1'×Int×Unit)=>A.bind (x9 (IntKind.wrap .u64 (Int.ofNat (List.length D.1)),IntKind.wrap .u64 D.2.1)) λy=>A.bind (if (decide (y.1 > 0)||decide (y.2 > 9223372036854775807))=true then A.ab False (A.ab False (A.pure (V.next (D.1,y.2,())))) else A.pure (V.next (D.1,y.2,()))) (V.bz (λ(D:z1'×Int×Unit)=>letI b:=IntKind.wrap .i64 D.2.1;letI f:=Int.toNat b;letI e:=List.take (List.length (List.replicate f (0:Int))-0) D.1;A.ab (0<=b/\b=b/\bQ f) (A.ab True (A.bind (A.loop (λ(D:Int×z1'×Unit)=>letI g:=Int.toNat D.1;letI c:=List.take g D.2.1;letI a:=Int.ofNat (List.length D.2.1);letI d:=Int.toNat a-g;if decide (D.1<a)=true then A.ab (0<=D.1/\D.1<=a/\a<=a) (A.ab ((0:Int)<=0/\0<=D.1/\D.1<=a) (A.ab True (A.pure (V.next (IntKind.wrap .i64 (Add.add D.1 (Int.ofNat (if d<=List.length c then d else List.length c))),c++List.take d c++List.drop (Add.add g (List.length (List.take d c))) D.2.1,()))))) else A.bind (A.pure (V.next (D.2.1,()))) λr=>A.pure (V.done r)) (Int.ofNat (if List.length (List.replicate f (0:Int))-0<=List.length D.1 then List.length (List.replicate f (0:Int))-0 else List.length D.1),[]++e++List.drop (Add.add 0 (List.length e)) (List.replicate f (0:Int)),())) (V.bz (λ(D:z1'×Unit)=>A.pure D.1))))))))
def VX(NS:Option dx×z1'->A (z3'×Bool))(NT:Option dx×z3'->A Int)(x:Option dx×z1'):A Bool:=
 A.bind (NS x) λy=>A.bind (cr y.2 (NT (x.1,y.1)) 0) λb3=>A.pure (y.2&&decide (b3=0))
def VY(DY:Int->A Bool)(N0:z1'×(Int->A Bool)->A Bool)(aj7:List dk×(Int×Int×Int×Int×z1'->A Bool)->A Bool)(aj8:List dB×(z1'×(Int×Int)×Int×Int×Int->A Bool)->A Bool)(aj9:z3'×(Int×Int×Int->A Bool)->A Bool)(aj_:(Int×Int×Int×Int×z1')×Option a_->A Bool)(aj':(Int×Int×Int)×Option a_->A Bool)(aka:z1'×(Int×Int)×Int×Int×Int->A Bool)(akb:Int->A Bool)(x:bG):A Bool:=
 letI e:=x.2.2.2;letI b:=decide (Int.ofNat (List.length x.2.1)=Int.ofNat (List.length x.1.1));A.bind (cr b (N0 (x.2.1,akb)) false) λy=>letI d:=b&&!y&&decide (Int.ofNat (List.length x.2.2.1)<=8);A.bind (cr d (aj7 (x.2.2.1,λhz=>aj_ (hz,some x.1))) false) λb3=>letI a:=d&&!b3&&decide (Int.ofNat (List.length e.1)<=6);A.bind (cr a (aj8 (e.1,aka)) false) λdF=>letI c:=a&&!dF&&decide (Int.ofNat (List.length e.2.1)<=8);A.bind (cr c (aj9 (e.2.1,λhz=>aj' (hz,some x.1))) false) λgB=>A.bind (cr (c&&!gB) (DY e.2.2) false) λlz=>A.pure (c&&!gB&&lz)
def akc(x:Int×Int×Int):A Bool:=
 A.pure (decide (x.2.1<=x.1)&&decide (x.1<=x.2.2))
def VZ(n7:Int×Int×Int->A Bool)(HK:z1'×Int->A Bool)(x:bG×Int×Int×Int×Int×z1'):A Bool:=
 letI c:=x.2.2.2.2;letI b:=Int.ofNat (List.length x.1.1.2.1);letI a:=(c.2,IntKind.wrap .i64 (Int.ofNat (List.length (List.getD x.1.1.2.1 (Int.toNat c.1) []))-1));A.bind (n7 (x.2.1,0,99)) λy=>A.bind (cr (!(!y)) (n7 (x.2.2.1,0,99)) false) λb3=>A.bind (cr (!(!y||!b3)) (n7 (x.2.2.2.1,0,99)) false) λdF=>A.bind (cr (!(!y||!b3||!dF)) (n7 (c.1,0,IntKind.wrap .i64 (b-1))) false) λgB=>if (!y||!b3||!dF||!gB)=true then A.pure false else A.ab (0<=c.1/\c.1<b) (A.ab (HK a).cm (A.pure (A.val (HK a) false)))
def V0(n7:Int×Int×Int->A Bool)(HK:z1'×Int->A Bool)(x:z1'×(Int×Int)×Int×Int×Int):A Bool:=
 A.bind (n7 (Int.ofNat (List.length x.1),1,8)) λy=>A.bind (cr y (HK (x.1,99)) false) λb3=>letI a:=y&&b3&&decide (0<=x.2.1.1)&&decide (x.2.1.1<=x.2.1.2)&&decide (x.2.1.2<=99);A.bind (cr a (n7 (x.2.2.1,0,99)) false) λdF=>A.bind (cr (a&&dF) (n7 (x.2.2.2.1,0,99)) false) λgB=>A.bind (cr (a&&dF&&gB) (n7 (x.2.2.2.2,0,100000)) false) λlz=>A.pure (a&&dF&&gB&&lz)
def V1(kG:Int×Int×Int->A Bool)(x:bG×Int):A Bool:=
 A.bind (kG (x.2,0,IntKind.wrap .i64 (Int.ofNat (List.length x.1.2.2.1)-1))) λy=>A.pure y
def V2(kG:Int×Int×Int->A Bool)(hL:z1'×Int->A Bool)(x:(z1'×(Int×Int)×Int×Int×Int)×Int×Int×Int×Int×z1'):A Int:=
 A.bind (hL (x.1.1,x.2.1)) λy=>A.bind (cr (!(!y)) (kG (x.2.2.1,x.1.2.1)) false) λb3=>if (!y||!b3)=true then A.pure 0 else if decide (x.2.2.2.1=x.1.2.2.1)=true then A.pure 1 else if decide (x.2.2.2.1=0)=true then A.pure 2 else A.pure 0
def N1(akd:z1'×Int->A (z1'))(Av:Option dx×z1'->A Bool)(l5:Option dx×z1'->A Int)(ake:Option dx->Prop)(akf:Option dx->List (z1'))(x:Option dx):A (z1'):=
 A.ab (Option.isSome x=true) (A.bind (akd ([-1],Int.ofNat (List.length (Option.getD x ((([],[],0,[]),[],[],[],[],0),[],[])).1.2.2.2.1))) (λy=>A.ab (ake x) (A.bind (jM (λ(D:Option ((a_×z1'×List dk×List (z1'×(Int×Int)×Int×Int×Int)×z3'×Int)×z4'×z5')×z1'×Unit) (y:z1')=>letI b:=(D.1,y);letI a:=(D.1,D.2.1);A.bind (A.ab (l5 b).cm (A.ab (l5 a).cm (A.ab (decide (A.val (l5 b) 0 > A.val (l5 a) 0)=true->(decide (A.val (l5 b) 0 > A.val (l5 a) 0)=true/\decide (A.val (l5 b) 0 > A.val (l5 a) 0)=true/\True)/\(Av b).cm/\True) (A.ab (True/\(decide (A.val (l5 b) 0 > A.val (l5 a) 0)=true->decide (A.val (l5 b) 0 > A.val (l5 a) 0)=true)) (if (decide (A.val (l5 b) 0 > A.val (l5 a) 0)&&A.val (Av b) false)=true then A.pure (dj.normal,D.1,y,()) else A.pure (dj.normal,D.1,D.2.1,())))))) λp=>A.pure (p.1,p.2.1,p.2.2.1,())) (akf x) (x,y,())) (λp=>sv (A.pure p.2.2.1) (λid=>if id=0 then A.pure p.2.2.1 else A.fail) A.fail p.1))))
def V3(akg:bG×Int->A Bool)(hL:z1'×Int->A Bool)(x:bG×z1'):A Bool:=
 A.bind (A.loop (λ(D:z1'×z1'×Int×Int×(a_×z1'×List dk×List (z1'×(Int×Int)×Int×Int×Int)×z3'×Int)×Unit)=>letI e:=D.2.2;letI b:=e.2.1;letI c:=Int.toNat b;letI f:=List.getD D.2.1 c 0;letI a:=decide (List.getD D.2.1 c (0:Int)≠-1);if decide (b<e.1)=true then A.ab (0<=b/\b<Int.ofNat (List.length D.2.1)) (A.bind (cr a (akg (e.2.2.1,f)) false) (λy=>letI d:=(a&&!(!y))=true;A.ab (d->(d/\True/\d)/\((0:Int)<=0/\0<=b/\b<=Int.ofNat (List.length D.1))/\True) (A.bind (cr (a&&!(!y)) (hL (List.take c D.1,f)) false) (λb3=>if (a&&(!y||b3))=true then A.bind (A.bind (A.pure false) (λr=>A.pure (V.done r))) λr=>A.pure (V.done r) else A.pure (V.next (D.1,D.2.1,e.1,IntKind.wrap .i64 (Add.add b 1),e.2.2.1,())))))) else A.bind (A.pure (V.next (D.1,e.2.2.1,()))) λr=>A.pure (V.done r)) (x.2,x.2,Int.ofNat (List.length x.2),0,x.1,())) (V.bz (λ(D:z1'×(a_×z1'×List dk×List dB×z3'×Int)×Unit)=>A.pure (decide (Int.ofNat (List.length D.1)=Int.ofNat (List.length D.2.1.2.2.2.1)))))
def N2(x:Option dx×z1'):A Int:=
 A.bind (A.loop (λ(D:Option ((a_×z1'×List dk×List dB×z3'×Int)×z4'×z5')×Int×z1'×Int×Int×Unit)=>letI c:=D.2.2;letI b:=(Option.getD D.1 ((([],[],0,[]),[],[],[],[],0),[],[])).1.2.2.2.1;letI a:=c.2.2.1;if decide (a<c.2.1)=true then A.bind (A.ab (0<=a/\a<Int.ofNat (List.length c.1)) (if decide (List.getD c.1 (Int.toNat a) (0:Int)≠-1)=true then A.ab (Option.isSome D.1=true) (A.ab (0<=a/\a<Int.ofNat (List.length b)) (A.pure (V.next (D.1,IntKind.wrap .i64 (Add.add D.2.1 (List.getD b (Int.toNat a) ([],(0,0),0,0,0)).2.2.2.2),c.1,c.2.1,a,())))) else A.pure (V.next (D.1,D.2.1,c.1,c.2.1,a,())))) (V.bz (λ(D:Option ((a_×z1'×List (Int×Int×Int×Int×z1')×List dB×z3'×Int)×z4'×z5')×Int×z1'×Int×Int×Unit)=>A.pure (V.next (D.1,D.2.1,D.2.2.1,D.2.2.2.1,IntKind.wrap .i64 (Add.add D.2.2.2.2.1 1),())))) else A.bind (A.pure (V.next (D.2.1,()))) λr=>A.pure (V.done r)) (x.1,0,x.2,Int.ofNat (List.length x.2),0,())) (V.bz (λ(D:Int×Unit)=>A.pure D.1))
def akh(x9:Int×Int->A (Int×Int))(x:z4'×Int):A (z4'):=
 A.bind (if decide (x.2<0)=true then A.ab False (A.ab False (A.pure (V.next (x.1,x.2,())))) else A.pure (V.next (x.1,x.2,()))) (V.bz (λ(D:z4'×Int×Unit)=>A.bind (x9 (IntKind.wrap .u64 (Int.ofNat (List.length D.1)),IntKind.wrap .u64 D.2.1)) λy=>A.bind (if (decide (y.1 > 0)||decide (y.2 > 9223372036854775807))=true then A.ab False (A.ab False (A.pure (V.next (D.1,y.2,())))) else A.pure (V.next (D.1,y.2,()))) (V.bz (λ(D:z4'×Int×Unit)=>letI b:=IntKind.wrap .i64 D.2.1;letI f:=Int.toNat b;letI d:=List.take (List.length (List.replicate f ((0:Int),(0:Int)))-0) D.1;A.ab (0<=b/\b=b/\bQ f) (A.ab True (A.bind (A.loop (λ(D:Int×z4'×Unit)=>letI g:=Int.toNat D.1;letI c:=List.take g D.2.1;letI a:=Int.ofNat (List.length D.2.1);letI e:=Int.toNat a-g;if decide (D.1<a)=true then A.ab (0<=D.1/\D.1<=a/\a<=a) (A.ab ((0:Int)<=0/\0<=D.1/\D.1<=a) (A.ab True (A.pure (V.next (IntKind.wrap .i64 (Add.add D.1 (Int.ofNat (if e<=List.length c then e else List.length c))),c++List.take e c++List.drop (Add.add g (List.length (List.take e c))) D.2.1,()))))) else A.bind (A.pure (V.next (D.2.1,()))) λr=>A.pure (V.done r)) (Int.ofNat (if List.length (List.replicate f ((0:Int),(0:Int)))-0<=List.length D.1 then List.length (List.replicate f ((0:Int),(0:Int)))-0 else List.length D.1),[]++d++List.drop (Add.add 0 (List.length d)) (List.replicate f ((0:Int),(0:Int))),())) (V.bz (λ(D:z4'×Unit)=>A.pure D.1))))))))
def V4(x:Option dx×(Int×Int)×Int×Int×Int):A Bool:=
 letI c:=decide (x.2.1.2<=x.2.2.2.2);letI a:=c=true;letI b:=a->a/\True/\True;A.ab (a->a/\Option.isSome x.1=true/\True) (A.ab b (A.ab b (A.ab b (A.ab b (A.ab b (A.ab (a->(a/\a/\a/\True)/\True/\True) (A.ab (a->(a/\a)/\True/\True) (A.ab (a->(a/\True)/\True/\True) (A.ab (True/\(a->a)) (A.pure (c&&decide (Option.getD (Option.map (λx=>x.2) (List.find? (λp=>decide (x.2.1.1=p.1.1)&&(decide (x.2.2.1=p.1.2.1)&&decide (x.2.2.2.1=p.1.2.2))) (Option.getD x.1 ((([],[],0,[]),[],[],[],[],0),[],[])).2.2)) (0:Int) > 0))))))))))))
def aki(x:Int×Int×Int):A Bool:=
 A.pure (decide (x.2.1<=x.1)&&decide (x.1<=x.2.2))
def V5(kG:Int×Int×Int->A Bool)(vQ:Int->A Bool)(N3:z1'×(Int->A Bool)->A Bool)(akj:Int×Option a_×Option (Int×Int×Int×Int×z1')->A Bool)(x:(Int×Int×Int×Int×z1')×Option a_):A Bool:=
 letI b:=Option.getD x.2 ([],[],0,[]);A.bind (vQ x.1.1) λy=>A.bind (cr (!(!y)) (vQ x.1.2.1) false) λb3=>A.bind (cr (!(!y||!b3)) (vQ x.1.2.2.1) false) λdF=>letI a:=!y||!b3||!dF;A.bind (cr (!a) (kG (x.1.2.2.2.1,0,IntKind.wrap .i64 (Int.ofNat (List.length b.2.1)-1))) false) λgB=>A.bind (cr (!(a||!gB)) (N3 (x.1.2.2.2.2,λhz=>akj (hz,some b,some x.1))) false) λlz=>A.pure (a||!gB||!lz)
def V6(kG:Int×Int×Int->A Bool)(x:Int):A Bool:=
 A.bind (kG (x,0,99)) λy=>A.pure y
def V7(x:z1'×(Int->A Bool)):A Bool:=
 A.bind (A.loop (λ(D:z1'×(Int->A Bool)×z1'×Int×Int×Unit)=>letI e:=D.2.2;letI a:=e.2.2.1;letI d:=List.getD e.1 (Int.toNat a) 0;letI c:=IntKind.wrap .i64 (a-1);if decide (a<e.2.1)=true then A.ab (0<=a/\a<Int.ofNat (List.length e.1)) (A.bind (D.2.1 d) (λy=>letI b:=(!(!y)&&decide (a > 0))=true;A.ab (b->(b/\b)/\(0<=c/\c<Int.ofNat (List.length D.1))/\True) (if (!y||decide (a > 0)&&decide (d<=List.getD D.1 (Int.toNat c) 0))=true then A.bind (A.bind (A.pure false) (λr=>A.pure (V.done r))) λr=>A.pure (V.done r) else A.pure (V.next (D.1,D.2.1,e.1,e.2.1,IntKind.wrap .i64 (Add.add a 1),()))))) else A.bind (A.pure (V.next ())) λr=>A.pure (V.done r)) (x.1,x.2,x.1,Int.ofNat (List.length x.1),0,())) (V.bz (λ(D:Unit)=>A.pure true))
def V8(kG:Int×Int×Int->A Bool)(x:Int×Option a_×Option (Int×Int×Int×Int×z1')):A Bool:=
 letI b:=(Option.getD x.2.1 ([],[],0,[])).2.1;letI a:=(Option.getD x.2.2 (0,0,0,0,[])).2.2.2.1;A.ab (0<=a/\a<Int.ofNat (List.length b)) (A.bind (kG (x.1,0,IntKind.wrap .i64 (Int.ofNat (List.length (List.getD b (Int.toNat a) []))-1))) (λy=>A.pure y))
def V9(kG:Int×Int×Int->A Bool)(vQ:Int->A Bool)(N3:z1'×(Int->A Bool)->A Bool)(DY:Int->A Bool)(x:z1'×(Int×Int)×Int×Int×Int):A Bool:=
 A.bind (kG (Int.ofNat (List.length x.1),1,8)) λy=>A.bind (cr (!(!y)) (N3 (x.1,vQ)) false) λb3=>A.bind (cr (!(!y||!b3)) (vQ x.2.1.1) false) λdF=>A.bind (cr (!(!y||!b3||!dF)) (vQ x.2.1.2) false) λgB=>letI a:=!y||!b3||!dF||!gB||decide (x.2.1.1 > x.2.1.2);A.bind (cr (!a) (vQ x.2.2.1) false) λlz=>A.bind (cr (!(a||!lz)) (DY x.2.2.2.1) false) λvR=>A.bind (cr (!(a||!lz||!vR)) (kG (x.2.2.2.2,0,100000)) false) λAy=>A.pure (a||!lz||!vR||!Ay)
def V_(kG:Int×Int×Int->A Bool)(x:Int):A Bool:=
 A.bind (kG (x,0,99)) λy=>A.pure y
def V'(kG:Int×Int×Int->A Bool)(DY:Int->A Bool)(x:(Int×Int×Int)×Option a_):A Bool:=
 A.bind (DY x.1.1) λy=>A.bind (cr (!(!y)) (kG (x.1.2.1,0,IntKind.wrap .i64 (Int.ofNat (List.length (Option.getD x.2 ([],[],0,[])).1)-1))) false) λb3=>A.bind (cr (!(!y||!b3)) (kG (x.1.2.2,1,10)) false) λdF=>A.pure (!y||!b3||!dF)
def Wa(kG:Int×Int×Int->A Bool)(x:Int):A Bool:=
 A.bind (kG (x,0,10)) λy=>A.pure (!y)
def Wb(x:z1'×Int):A Bool:=
 A.bind (A.loop (λ(D:z1'×Int×Int×Unit)=>letI e:=D.2.2.1;letI j:=decide (e > 0);letI i:=List.getD D.1 (Int.toNat e) 0;letI h:=IntKind.wrap .i64 (e-1);letI d:=Int.ofNat (List.length D.1);letI k:=0<=e/\e<d;letI b:=decide (List.getD D.1 (Int.toNat e) (0:Int)<0);letI f:=(!b)=true;letI a:=b||decide (i > D.2.1);letI g:=(!a)=true;letI c:=(!a&&j)=true;letI l:=c->c/\True/\True;if decide (e<d)=true then A.ab k (A.ab (f->(f/\f)/\k/\True) (A.ab (f->f/\True/\True) (A.ab (f->(f/\f)/\True/\True) (A.ab (True/\(b=false->f)) (A.ab (g->(g/\True)/\True/\True) (A.ab (g->True/\True/\g) (A.ab (c->(c/\c)/\k/\True) (A.ab l (A.ab (c->(c/\True)/\True/\True) (A.ab (c->(c/\c)/\(0<=h/\h<d)/\True) (A.ab l (A.ab (c->(c/\c)/\True/\True) (A.ab (g->(g/\(j=true->c))/\True/\True) (A.ab (True/\(a=false->g)) (if (a||j&&decide (i<=List.getD D.1 (Int.toNat h) 0))=true then A.bind (A.bind (A.pure false) (λr=>A.pure (V.done r))) λr=>A.pure (V.done r) else A.pure (V.next (D.1,D.2.1,IntKind.wrap .i64 (Add.add e 1),()))))))))))))))))) else A.bind (A.pure (V.next ())) λr=>A.pure (V.done r)) (x.1,x.2,0,())) (V.bz (λ(D:Unit)=>A.pure true))
def HL(x_:Option dx×z1'×Int×Nat×(Nat×(List (z1')->Prop)×List (z1')×Bool)×Unit->A (Bool×(Nat×(List (z1')->Prop)×List (z1')×Bool)×Unit))(x:Option dx×Nat×(Nat×(List (z1')->Prop)×List (z1')×Bool)×Unit):A ((Nat×(List (z1')->Prop)×List (z1')×Bool)×Unit):=
 A.bind (x_ (x.1,[],1,x.2.1,x.2.2.1,())) λy=>A.pure (y.2.1,())
def HM(x_:Option dx×z1'×Int×Nat×(Nat×(List (z1')->Prop)×List (z1')×Bool)×Unit->A (Bool×(Nat×(List (z1')->Prop)×List (z1')×Bool)×Unit))(x:Option dx×Nat×(Nat×(List (z1')->Prop)×List (z1')×Bool)×Unit):A ((Nat×(List (z1')->Prop)×List (z1')×Bool)×Unit):=
 A.bind (x_ (x.1,[],0,x.2.1,x.2.2.1,())) λy=>A.pure (y.2.1,())
def N4(HJ:Option dx×(Int×Int)×Int×Int×Int->A Bool)(NZ:Option dx×z3'×Int×z4'×z1'×Unit->A (Bool×z4'×z1'×Unit))(x:Option dx×z3'×Int×z4'×z1'×Unit):A (Bool×z4'×z1'×Unit):=
 letI k:=(Option.getD x.1 ((([],[],0,[]),[],[],[],[],0),[],[])).2.1;A.bind (A.ab (Option.isSome x.1=true) (A.loop (λ(D:Option ((a_×z1'×List dk×List (z1'×(Int×Int)×Int×Int×Int)×z3'×Int)×z4'×z5')×z3'×Int×z4'×Int×Int×z4'×z1'×Unit)=>letI o:=D.2.1;letI i:=D.2.2;letI c:=i.2.2.2;letI m:=c.2.2.1;letI l:=Int.toNat c.1;letI j:=Option.map (λx=>x.2) (List.find? (λp=>decide (c.1=p.1)) c.2.1);letI g:=0<=c.1/\c.1<Int.ofNat (List.length m);letI f:=(D.1,List.getD i.2.1 l (0,0),List.getD o (Int.toNat i.1) (0,0,0));letI d:=fe c.2.1 c.1 (IntKind.wrap .i64 (Add.add (Option.getD j 0) 1));letI b:=decide (List.getD m l (0:Int)=-1);letI h:=(!b)=true;letI a:=decide (Option.getD j (0:Int) > 0);letI e:=(!a)=true;letI q:=e->e/\True/\True;if decide (c.1<i.2.2.1)=true then A.bind (A.ab (0<=c.1/\c.1<Int.ofNat (List.length i.2.1)) (A.ab (e->(e/\e)/\(0<=i.1/\i.1<Int.ofNat (List.length o))/\True) (A.ab q (A.ab (e->(e/\e/\e/\True)/\(HJ f).cm/\True) (A.ab q (A.ab (True/\(a=false->e)) (if (a||!(A.val (HJ f) false))=true then A.pure (V.next (D.1,o,i.1,i.2.1,i.2.2.1,c.1,c.2.1,m,())) else A.ab g (A.ab (h->(h/\h)/\g/\True) (if h then A.ab (h/\h/\h/\h/\h/\True) (A.bind (NZ (D.1,o,List.getD m l 0,d,m,())) (λy=>if (b||y.1)=true then A.ab (0<=c.1/\c.1<Int.ofNat (List.length y.2.2.1)) (A.bind (A.bind (A.bind (A.pure (true,y.2.1,List.set y.2.2.1 l i.1,())) (λr=>A.pure (V.done r))) (λr=>A.pure (V.done r))) (λr=>A.pure (V.done r))) else A.pure (V.next (D.1,o,i.1,i.2.1,i.2.2.1,c.1,y.2.1,y.2.2.1,())))) else A.ab (True/\(b=false->false=true)) (if (b||false)=true then A.ab g (A.bind (A.bind (A.bind (A.pure (true,d,List.set m l i.1,())) (λr=>A.pure (V.done r))) (λr=>A.pure (V.done r))) (λr=>A.pure (V.done r))) else A.pure (V.next (D.1,o,i.1,i.2.1,i.2.2.1,c.1,d,m,())))))))))))) (V.bz (λ(D:Option ((a_×z1'×List dk×List dB×z3'×Int)×z4'×z5')×z3'×Int×z4'×Int×Int×z4'×z1'×Unit)=>letI n:=D.2.2.2;A.pure (V.next (D.1,D.2.1,D.2.2.1,n.1,n.2.1,IntKind.wrap .i64 (Add.add n.2.2.1 1),n.2.2.2.1,n.2.2.2.2.1,())))) else A.bind (A.pure (V.next (c.2.1,m,()))) λr=>A.pure (V.done r)) (x.1,x.2.1,x.2.2.1,k,Int.ofNat (List.length k),0,x.2.2.2.1,x.2.2.2.2.1,()))) (V.bz (λ(D:z4'×z1'×Unit)=>A.pure (false,D.1,D.2.1,())))
def N5(HI:(z1'×(Int×Int)×Int×Int×Int)×Int×Int×Int×Int×z1'->A Int)(x_:Option dx×z1'×Int×Nat×(Nat×(List (z1')->Prop)×List (z1')×Bool)×Unit->A (Bool×(Nat×(List (z1')->Prop)×List (z1')×Bool)×Unit))(hL:z1'×Int->A Bool)(x:Option dx×z1'×Int×Nat×(Nat×(List (z1')->Prop)×List (z1')×Bool)×Unit):A (Bool×(Nat×(List (z1')->Prop)×List (z1')×Bool)×Unit):=
 letI p:=Option.isSome x.1=true;letI o:=Int.ofNat (List.length x.2.1);letI i:=x.2.2.2.2.1;letI e:=(Option.getD x.1 ((([],[],0,[]),[],[],[],[],0),[],[])).1.2.2;A.ab p (if decide (o=Int.ofNat (List.length e.2.1))=true then A.bind (A.ab (x.2.2.2.1=i.1/\i.2.2.2=false/\(∃ (T:List (z1')),i.2.1 (i.2.2.1++x.2.1::T))) (A.any (λx=>True))) λy=>A.pure (y,(i.1,i.2.1,i.2.2.1++[x.2.1],!y),()) else A.bind (A.ab p (A.loop (λ(D:Option dx×z1'×Int×Nat×Int×List dk×Int×Int×(Nat×(List (z1')->Prop)×List (z1')×Bool)×Unit)=>letI q:=D.2.1;letI l:=D.2.2;letI j:=(Option.getD D.1 ((([],[],0,[]),[],[],[],[],0),[],[])).1.2.2.2.1;letI c:=l.2.2;letI m:=List.take (Int.toNat c.1) q;letI k:=c.2.2.2;letI d:=(List.getD j (Int.toNat c.1) ([],(0,0),0,0,0),List.getD c.2.1 (Int.toNat k.1) (0,0,0,0,[]));letI a:=(q,k.1);if decide (k.1<c.2.2.1)=true then A.bind (A.ab (0<=k.1/\k.1<Int.ofNat (List.length c.2.1)) (A.ab (hL a).cm (A.ab ((!(A.val (hL a) false))=true->(!(A.val (hL a) false))=true/\Option.isSome D.1=true/\True) (A.ab ((!(A.val (hL a) false))=true->(!(A.val (hL a) false))=true/\True/\True) (A.ab ((!(A.val (hL a) false))=true->(!(A.val (hL a) false))=true/\True/\True) (A.ab ((!(A.val (hL a) false))=true->(!(A.val (hL a) false))=true/\True/\True) (A.ab ((!(A.val (hL a) false))=true->((!(A.val (hL a) false))=true/\(!(A.val (hL a) false))=true)/\(0<=c.1/\c.1<Int.ofNat (List.length j))/\True) (A.ab ((!(A.val (hL a) false))=true->(!(A.val (hL a) false))=true/\True/\True) (A.ab ((!(A.val (hL a) false))=true->((!(A.val (hL a) false))=true/\(!(A.val (hL a) false))=true/\True)/\(HI d).cm/\True) (A.ab ((!(A.val (hL a) false))=true->((!(A.val (hL a) false))=true/\True)/\True/\True) (A.ab (True/\(A.val (hL a) false=false->(!(A.val (hL a) false))=true)) (if (A.val (hL a) false||decide (A.val (HI d) (0:Int)=0))=true then A.pure (V.next (D.1,q,l.1,l.2.1,c.1,c.2.1,c.2.2.1,k.1,k.2.1,())) else A.ab ((0:Int)<=0/\0<=c.1/\c.1=c.1/\c.1<=Int.ofNat (List.length q)) (A.ab (0<Add.add 0 1/\bQ (Add.add (List.length m) (Add.add 0 1))) (A.bind (x_ (D.1,m++[k.1],l.1,l.2.1,k.2.1,())) (λy=>if (!y.1)=true then A.bind (A.bind (A.bind (A.pure (false,y.2.1,())) (λr=>A.pure (V.done r))) (λr=>A.pure (V.done r))) λr=>A.pure (V.done r) else A.pure (V.next (D.1,q,l.1,l.2.1,c.1,c.2.1,c.2.2.1,k.1,y.2.1,()))))))))))))))))) (V.bz (λ(D:Option dx×z1'×Int×Nat×Int×List dk×Int×Int×(Nat×(List (z1')->Prop)×List (z1')×Bool)×Unit)=>letI n:=D.2.2.2.2;A.pure (V.next (D.1,D.2.1,D.2.2.1,D.2.2.2.1,n.1,n.2.1,n.2.2.1,IntKind.wrap .i64 (Add.add n.2.2.2.1 1),n.2.2.2.2.1,())))) else A.bind (A.pure (V.next (D.1,q,l.1,l.2.1,c.1,k.2.1,()))) λr=>A.pure (V.done r)) (x.1,x.2.1,x.2.2.1,x.2.2.2.1,o,e.1,Int.ofNat (List.length e.1),0,i,()))) (V.bz (λ(D:Option dx×z1'×Int×Nat×Int×(Nat×(List (z1')->Prop)×List (z1')×Bool)×Unit)=>letI s:=D.2.2;letI h:=s.2.2;letI g:=List.take (Int.toNat h.1) D.2.1;letI f:=decide (s.1=0);letI b:=(!f)=true;A.ab (b->(b/\True/\b/\b)/\((0:Int)<=0/\0<=h.1/\h.1=h.1/\h.1<=Int.ofNat (List.length D.2.1))/\True) (if b then A.ab (b/\b) (A.ab (0<Add.add 0 1/\bQ (Add.add (List.length g) (Add.add 0 1))) (if b then A.ab (b/\b/\b/\True) (A.bind (x_ (D.1,g++[-1],s.1,s.2.1,h.2.1,())) (λy=>A.pure (f||y.1,y.2.1,()))) else A.ab (True/\(f=false->false=true)) (A.pure (f||false,h.2.1,())))) else if b then A.ab (b/\false=true/\b/\b/\True) (A.bind (x_ (D.1,g++[-1],s.1,s.2.1,h.2.1,())) (λy=>A.pure (f||y.1,y.2.1,()))) else A.ab (True/\(f=false->false=true)) (A.pure (f||false,h.2.1,()))))))
def akk(x9:Int×Int->A (Int×Int))(x:z1'×Int×Unit):A (z1'×Unit):=
 A.bind (if decide (x.2.1<0)=true then A.ab False (A.ab False (A.pure (V.next (x.1,x.2.1,())))) else A.pure (V.next (x.1,x.2.1,()))) (V.bz (λ(D:z1'×Int×Unit)=>A.bind (x9 (IntKind.wrap .u64 (Int.ofNat (List.length D.1)),IntKind.wrap .u64 D.2.1)) λy=>A.bind (if (decide (y.1 > 0)||decide (y.2 > 9223372036854775807))=true then A.ab False (A.ab False (A.pure (V.next (D.1,y.2,())))) else A.pure (V.next (D.1,y.2,()))) (V.bz (λ(D:z1'×Int×Unit)=>letI b:=IntKind.wrap .i64 D.2.1;letI f:=Int.toNat b;letI e:=List.take (List.length (List.replicate f (0:Int))-0) D.1;A.ab (0<=b/\b=b/\bQ f) (A.ab True (A.bind (A.loop (λ(D:Int×z1'×Unit)=>letI g:=Int.toNat D.1;letI c:=List.take g D.2.1;letI a:=Int.ofNat (List.length D.2.1);letI d:=Int.toNat a-g;if decide (D.1<a)=true then A.ab (0<=D.1/\D.1<=a/\a<=a) (A.ab ((0:Int)<=0/\0<=D.1/\D.1<=a) (A.ab True (A.pure (V.next (IntKind.wrap .i64 (Add.add D.1 (Int.ofNat (if d<=List.length c then d else List.length c))),c++List.take d c++List.drop (Add.add g (List.length (List.take d c))) D.2.1,()))))) else A.bind (A.pure (V.next (D.2.1,()))) λr=>A.pure (V.done r)) (Int.ofNat (if List.length (List.replicate f (0:Int))-0<=List.length D.1 then List.length (List.replicate f (0:Int))-0 else List.length D.1),[]++e++List.drop (Add.add 0 (List.length e)) (List.replicate f (0:Int)),())) (V.bz (λ(D:z1'×Unit)=>A.pure (D.1,())))))))))
end Go.Fer
