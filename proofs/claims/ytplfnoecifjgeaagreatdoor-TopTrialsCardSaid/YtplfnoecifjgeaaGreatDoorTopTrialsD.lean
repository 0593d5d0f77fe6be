/- Part 4 of the proof of TopTrials: shallow programs of Go functions, and what they compute. No condition. -/
import Derived.Test.YtplfnoecifjgeaaGreatDoorTopTrialsC
import Derived.RangeFuncBound
import Derived.Scope
import Derived.RangeFuncLeaves
import Derived.OpenShut
import Derived.WideKeyArgs
import Derived.ChangeSame
import Derived.Test.YtplfnoecifjgeaaGreatDoorProg
import Derived.KernelRfl
noncomputable section
set_option linter.unusedVariables false
set_option linter.unusedSimpArgs false
namespace Go.Fer
open Go.RowKit
theorem ahX{C:b_}(iL:C.r=none){β:Type}{s:az}{a:Act}{w:World}(M:ct C s a w){g:Operand}{ps:Array Tmp}{assign body:Code}{ra n:Nat}{eT:Nat->aG}(aB:a7 C.aM s.ax g=.r2 ra n eT){ic:zK}(Uw:C8 C.P ra ic)
    {x:ic.ts.ai} {bU:List Nat} (ah:(iX ic.ts ((List.range n).map eT)).run s.aa=some (x,bU)) {sh rin rout:dI} (ec:nU sh rout ic.aL ps.toList C.nt=true) {nY:sh.ai} (nV:sh.ja (s.cA bU)=some nY) (gM:ic.pre x)
    {run:az->A (di×rout.ai)} {k:di->az->A β} {O:β->Prop} (hm:A.cx (jL (λD y=>tX sh rin rout ic.aL ps.toList D y run) (ic.seq x) nY) λp=>A.cx (k p.1 (sh.st p.2)) O)
    (Dt:∀ l,Ha C.P C.aM C.nt assign body l run) {Q:Exit->Act->World->Prop}
    (al:∀ u,C.jN u->∀ e s' a' w',ct (C.hj u) s' a' w'->A.cx (k e s') O->Q e.pj a' w'):(Code.rangeFunc g ps assign body).wpIn (dS C.r) 0 C.P Q a w:=by
  obtain⟨κ,F,M⟩:=M;obtain⟨z1,f1,gN,f2⟩:=bl.lg (p_ _ ah) M;obtain⟨κ,ek,f3,cN⟩:=dI.zT nV gN;have ae:=j7 M g;rw[aB]at ae;obtain⟨aC,p2,ie,ayj⟩:=ae;have ahY:fp C.P ic.ts z1 w aC x:=vj M.bD f1 ic.ts ah f2 (by grind) λi G dK=>by
    grind
  have pc:∀ D:sh.ai,(sh.st D).ax b5=.undef:=λD=>by
    simp only[nU,Bool.and_eq_true,Bool.not_eq_true']at ec;exact xH sh.bT c8 D b5 ec.1.1.1.2
  rw[iL];refine wpIn_rangeFunc λfn _=>?_;have aS:w.heap.size<((w.alloc (.deferred (some []))).alloc (.loop (fb fn a.tmps ps assign body w.heap.size .ready .normal))).heap.size:=by simp;omega
  have aj:w.heap.size+1<((w.alloc (.deferred (some []))).alloc (.loop (fb fn a.tmps ps assign body w.heap.size .ready .normal))).heap.size:=by simp
  have Dw:((w.alloc (.deferred (some []))).alloc (.loop (fb fn a.tmps ps assign body w.heap.size .ready .normal))).heap[w.heap.size+1]?=some (.loop (fb fn a.tmps ps assign body w.heap.size .ready .normal)):=by
    have:=p1 (w.alloc (.deferred (some []))) (.loop (fb fn a.tmps ps assign body w.heap.size .ready .normal));simp_all
  have Dx:((w.alloc (.deferred (some []))).alloc (.loop (fb fn a.tmps ps assign body w.heap.size .ready .normal))).heap[w.heap.size]?=some (.deferred (some [])):=
    (o5 _ _ (by simp)).trans (p1 w _)
  have ug:∀ r,r<w.heap.size->((w.alloc (.deferred (some []))).alloc (.loop (fb fn a.tmps ps assign body w.heap.size .ready .normal))).heap[r]?=w.heap[r]?:=λr h=>Up h;have Dy:(Instr.enterLoop fn a.tmps ps assign body none).run C.P w=.ok (w.heap.size+1,[oH w.heap.size]) ((w.alloc (.deferred (some []))).alloc (.loop (fb fn a.tmps ps assign body w.heap.size .ready .normal))):=run_enterLoop_outer fn a.tmps ps assign body;have xS:dc w ((w.alloc (.deferred (some []))).alloc (.loop (fb fn a.tmps ps assign body w.heap.size .ready .normal))):=⟨rfl,rfl,rfl⟩
  have MI:((w.alloc (.deferred (some []))).alloc (.loop (fb fn a.tmps ps assign body w.heap.size .ready .normal))).heap.size=w.heap.size+2:=by simp
  generalize (w.alloc (.deferred (some []))).alloc (.loop (fb fn a.tmps ps assign body w.heap.size .ready .normal))=cn at aS aj Dw Dx ug Dy xS MI;have qg:c1 ek w cn:=⟨by omega,λr h=>ug r (cN.da r h)⟩
  have dX:fp C.P ic.ts ek cn aC x:=(ahY.mono f3 (c1.refl _ _)).mono (λ_ h=>h) qg;have eA:bl { C with w0:=cn,F0:=ek,K0:=λ_=>False } (sh.st nY) a cn κ ek:=
    cN.vA cN.dG cN.dfr cN.gp cN.bT (λdH kA e6 iY il e=>by have e:(sh.st nY).ax b5=.aV dH kA e6 iY il:=e;grind)
      (λr h=>ug r (by
        rcases h with h | ⟨b,W,rfl⟩
        · exact cN.da r h
        · exact (cN.own b W).1)) (by omega) (λ_ h=>.inl h) (λ_ h=>h) (λ_ h=>h.elim) (λ_ h=>h.elim) (λ_ _ h=>h) (Nat.le_refl _) (dc.refl _)
  have MJ:=Uv (Uq (S:=λT=>T=ic.seq x) (C:=C) (CI:={ C with w0:=cn,F0:=ek,K0:=λ_=>False }) (sh:=sh) (rin:=rin) (rout:=rout) (ps:=ps) (assign:=assign) (body:=body) (a:=a) (fn:=fn) (l:=w.heap.size+1) (B:=w.heap.size) (run:=run) (k:=k) (O:=O)
    rfl (by omega) (by rw[M.dG];omega) (by rw[M.dG];grind))
  have fl:∀ b,((sh.st nY).aa b).body.bZ (κ b)=true->¬((κ b).aa=w.heap.size+1\/(κ b).aa=w.heap.size):=λb W h=>by
    have:=(cN.own b W).1;omega
  have vC:=Uw.iU (w.heap.size+1) _ ek (λr=>(∃ b,((sh.st nY).aa b).body.bZ (κ b)=true/\(κ b).aa=r)\/r=w.heap.size+1\/r=w.heap.size) cn aC x dX gM MJ (λr h=>eA.da r h) eA.iz
    (λr h=>by
      rcases h with⟨b,W,rfl⟩ | rfl | rfl
      · exact⟨(eA.own b W).1,(eA.own b W).2.1⟩
      · exact⟨aj,λh=>by have:=cN.da _ h;omega⟩
      · exact⟨aS,λh=>by have:=cN.da _ h;omega⟩)
    ⟨.normal,nY,κ,eA,Dw,Dx,λb W=>⟨.inl ⟨b,W,rfl⟩,fl b W⟩,.inr (.inl rfl),.inr (.inr rfl),λh=>by have:=cN.da _ h;omega,λh=>by have:=cN.da _ h;omega,rfl,λ_=>⟨rfl,λR jO=>by grind⟩,λh=>by cases h⟩
  refine⟨w.heap.size+1,[oH w.heap.size],cn,{ target:=.fn (.func ra) #[],args:=aC.toArray++#[.func (.yield (w.heap.size+1)) #[] #[]] },cn,ra,(aC++[Value.func (.yield (w.heap.size+1)) #[] #[]]).toArray,cn,Dy,?_,λ_ _=>trivial,?_,λh=>(by cases h),callsIn_wide.2 (vC.mono λe eW ⟨v,iY,st,F',gD,he,gy,hinv,g1,ew,g3,g4,g5,g6,g7⟩=>?_)⟩
  · have e:a.eval (.const (.func (.yield (w.heap.size+1)) #[] #[]))=.func (.yield (w.heap.size+1)) #[] #[]:=rfl
    simp[resolve,p2,Deferred.ofValue,e]
  · have:=Uw.enter (aC++[Value.func (.yield (w.heap.size+1)) #[] #[]]).toArray cn
    simpa [invoke]using this
  subst he;obtain⟨e,D,κ',my,E,U,ag,a1,bL,dm,fS,_,jg,pX⟩:=hinv;refine⟨sB e,_,run_endLoop E (by cases st<;>simp[fb]),?_⟩;have Hf:w.heap.size+1<eW.heap.size:=(Array.getElem?_eq_some_iff.1 E).1;generalize bd:Obj.loop _=ca;have hI:A.cx (k e (sh.st D)) O:=by
    cases st with
    | true=>grind
    | false=>
      obtain⟨rfl,fk⟩:=jg rfl;exact (fk [] (show iY++[]=ic.seq x by grind)).2 _ rfl
  have vu:∀ r,C.K0 r->r<w.heap.size:=λr h=>Nat.lt_of_lt_of_le (M.hs r h) M.size;have ue:∀ r,C.K0 r->(eW.putObj (w.heap.size+1) ca).heap[r]?=C.w0.heap[r]?:=λr h=>by
    have cb:=vu r h;rw[World.putObj_heap_other (by omega),g4 r (by omega) λaQ=>?_,ug r cb]
    · exact M.eF r h
    · rcases aQ with⟨b,W,rfl⟩ | rfl | rfl
      · exact (cN.own b W).2.2 h
      · omega
      · omega
  have xT:dc C.w0 (eW.putObj (w.heap.size+1) ca):=by
    have:=(M.ev.trans xS).trans g7;exact⟨this.os,this.tape,this.output⟩
  have Ac:C.jN ⟨eW.putObj (w.heap.size+1) ca,λr=>C.K0 r\/r=w.heap.size,[w.heap.size]⟩:=
    { sA := λB aS => by
        have:B=w.heap.size:=by grind
        subst this;exact⟨.inr rfl,(World.putObj_heap_other (by omega)).trans U⟩
      ez:=λB aS=>by
        have:B=w.heap.size:=by grind
        subst this;exact⟨λh=>by grind,M.size⟩
      mx:=by simp
      hk:=λ_ h=>.inl h
      eF:=ue
      size:=by have:=M.size;simp;omega
      ev:=xT }
  have nW:ct (C.hj ⟨eW.putObj (w.heap.size+1) ca,λr=>C.K0 r\/r=w.heap.size,[w.heap.size]⟩) (sh.st D) { a with defers:=[oH w.heap.size]++a.defers } (eW.putObj (w.heap.size+1) ca):=by
    have MK:∀ r,F' r->C.F0 r\/¬(C.K0 r\/r=w.heap.size):=λr bb=>by
      rcases ew r bb with h | h | h
      · rcases cN.hf r h with ds | ds
        · exact .inl ds
        · exact .inr λal=>al.elim ds λe=>by have:=cN.da r h;omega
      · rcases h with⟨b,W,rfl⟩ | rfl | rfl
        · exact .inr λal=>al.elim (cN.own b W).2.2 λe=>fl b W (.inr e)
        · exact (dm bb).elim
        · exact (fS bb).elim
      grind
    refine⟨κ',F',my.vA (r:=C.r) my.dG (by show [oH w.heap.size]++a.defers=_;rw[M.dfr];rfl) my.gp my.bT (λdH kA e6 iY il e=>by have e:(sh.st D).ax b5=.aV dH kA e6 iY il:=e;grind)
      (λr h=>World.putObj_heap_other λe=>by
        grind) (by simp) MK (λr h=>g1 r (cN.hP r h)) (λr h=>?_) (λ_ _=>rfl) (λb W h=>?_) (Nat.le_refl _) (dc.refl _)⟩
    · simp only[World.putObj_size]
      grind
    · rcases h with h | h
      · rcases (g5 _ (ag b W).1).1 with aQ | aQ
        · rcases aQ with⟨be,db,e⟩ | e | e
          · exact (cN.own be db).2.2 (e ▸ h)
          · exact (ag b W).2 (.inl e)
          · exact (ag b W).2 (.inr e)
        grind
      grind
  have br:=al _ Ac e _ _ _ nW hI;cases e with
  | normal=>exact br
  | exit id=>exact wpIn_exit br
  | ret=>exact wpIn_ret br
theorem ahZ{C:b_}(iL:C.r=none){β:Type}{s:az}{a:Act}{w:World}(M:ct C s a w){g:Operand}{ps:Array Tmp}{assign body:Code}{aL:ad}{S:List aL.ai->Prop}(aB:a7 C.aM s.ax g=.val (.cr aL) S)
    {sh rin rout:dI} (ec:nU sh rout aL ps.toList C.nt=true) {nY:sh.ai} (nV:sh.ja s=some nY) (eN:∃ L,S L)
    {run:az->A (di×rout.ai)} {k:di->az->A β} {O:β->Prop} (hm:∀ L,S L->A.cx (jL (λD y=>tX sh rin rout aL ps.toList D y run) L nY) λp=>A.cx (k p.1 (sh.st p.2)) O)
    (Dt:∀ l,Ha C.P C.aM C.nt assign body l run) {Q:Exit->Act->World->Prop}
    (al:∀ u,C.jN u->∀ e s' a' w',ct (C.hj u) s' a' w'->A.cx (k e s') O->Q e.pj a' w'):(Code.rangeFunc g ps assign body).wpIn (dS C.r) 0 C.P Q a w:=by
  obtain⟨κ,F,M⟩:=M;obtain⟨κ,ek,f3,cN⟩:=dI.zT nV M;have ae:=j7 M g;rw[aB]at ae;have p2:=fe _ f3 (c1.refl _ _) ((dU rfl).1 ae).2;simp only[bI]at p2;obtain⟨u,hu,_,ah0⟩:=p2;have hu:=(List.cons.inj hu).1;have pc:∀ D:sh.ai,(sh.st D).ax b5=.undef:=λD=>by
    simp only[nU,Bool.and_eq_true,Bool.not_eq_true']at ec;exact xH sh.bT c8 D b5 ec.1.1.1.2
  rw[iL];refine wpIn_rangeFunc λfn _=>?_;have aS:w.heap.size<((w.alloc (.deferred (some []))).alloc (.loop (fb fn a.tmps ps assign body w.heap.size .ready .normal))).heap.size:=by simp;omega
  have aj:w.heap.size+1<((w.alloc (.deferred (some []))).alloc (.loop (fb fn a.tmps ps assign body w.heap.size .ready .normal))).heap.size:=by simp
  have Dw:((w.alloc (.deferred (some []))).alloc (.loop (fb fn a.tmps ps assign body w.heap.size .ready .normal))).heap[w.heap.size+1]?=some (.loop (fb fn a.tmps ps assign body w.heap.size .ready .normal)):=by
    have:=p1 (w.alloc (.deferred (some []))) (.loop (fb fn a.tmps ps assign body w.heap.size .ready .normal));simp_all
  have Dx:((w.alloc (.deferred (some []))).alloc (.loop (fb fn a.tmps ps assign body w.heap.size .ready .normal))).heap[w.heap.size]?=some (.deferred (some [])):=
    (o5 _ _ (by simp)).trans (p1 w _)
  have ug:∀ r,r<w.heap.size->((w.alloc (.deferred (some []))).alloc (.loop (fb fn a.tmps ps assign body w.heap.size .ready .normal))).heap[r]?=w.heap[r]?:=λr h=>Up h;have Dy:(Instr.enterLoop fn a.tmps ps assign body none).run C.P w=.ok (w.heap.size+1,[oH w.heap.size]) ((w.alloc (.deferred (some []))).alloc (.loop (fb fn a.tmps ps assign body w.heap.size .ready .normal))):=run_enterLoop_outer fn a.tmps ps assign body;have xS:dc w ((w.alloc (.deferred (some []))).alloc (.loop (fb fn a.tmps ps assign body w.heap.size .ready .normal))):=⟨rfl,rfl,rfl⟩
  have MI:((w.alloc (.deferred (some []))).alloc (.loop (fb fn a.tmps ps assign body w.heap.size .ready .normal))).heap.size=w.heap.size+2:=by simp
  generalize (w.alloc (.deferred (some []))).alloc (.loop (fb fn a.tmps ps assign body w.heap.size .ready .normal))=cn at aS aj Dw Dx ug Dy xS MI;have qg:c1 ek w cn:=⟨by omega,λr h=>ug r (cN.da r h)⟩
  have eA:bl { C with w0:=cn,F0:=ek,K0:=λ_=>False } (sh.st nY) a cn κ ek:=
    cN.vA cN.dG cN.dfr cN.gp cN.bT (λdH kA e6 iY il e=>by have e:(sh.st nY).ax b5=.aV dH kA e6 iY il:=e;grind)
      (λr h=>ug r (by
        rcases h with h | ⟨b,W,rfl⟩
        · exact cN.da r h
        · exact (cN.own b W).1)) (by omega) (λ_ h=>.inl h) (λ_ h=>h) (λ_ h=>h.elim) (λ_ h=>h.elim) (λ_ _ h=>h) (Nat.le_refl _) (dc.refl _)
  have MJ:=Uq (S:=S) (C:=C) (CI:={ C with w0:=cn,F0:=ek,K0:=λ_=>False }) (sh:=sh) (rin:=rin) (rout:=rout) (ps:=ps) (assign:=assign) (body:=body) (a:=a) (fn:=fn) (l:=w.heap.size+1) (B:=w.heap.size) (run:=run) (k:=k) (O:=O)
    rfl (by omega) (by rw[M.dG];omega) (by rw[M.dG];grind)
  have fl:∀ b,((sh.st nY).aa b).body.bZ (κ b)=true->¬((κ b).aa=w.heap.size+1\/(κ b).aa=w.heap.size):=λb W h=>by
    have:=(cN.own b W).1;omega
  obtain⟨ra,cZ,ah1,ss,LP⟩:=ah0 ek cn (λ_ h=>h) qg (λr h=>eA.da r h) eA.iz eN;have vC:=LP (w.heap.size+1) _ (λr=>(∃ b,((sh.st nY).aa b).body.bZ (κ b)=true/\(κ b).aa=r)\/r=w.heap.size+1\/r=w.heap.size)
    (λr h=>by
      rcases h with⟨b,W,rfl⟩ | rfl | rfl
      · exact⟨(eA.own b W).1,(eA.own b W).2.1⟩
      · exact⟨aj,λh=>by have:=cN.da _ h;omega⟩
      · exact⟨aS,λh=>by have:=cN.da _ h;omega⟩)
    MJ ⟨.normal,nY,κ,eA,Dw,Dx,λb W=>⟨.inl ⟨b,W,rfl⟩,fl b W⟩,.inr (.inl rfl),.inr (.inr rfl),λh=>by have:=cN.da _ h;omega,λh=>by have:=cN.da _ h;omega,rfl,λ_=>⟨rfl,λR jO=>hm R jO⟩,λh=>by cases h⟩
  refine⟨w.heap.size+1,[oH w.heap.size],cn,{ target:=.fn (.func ra) cZ,args:=#[.func (.yield (w.heap.size+1)) #[] #[]] },cn,ra,#[Value.func (.yield (w.heap.size+1)) #[] #[]]++cZ,cn,Dy,?_,λ_ _=>trivial,?_,λh=>(by cases h),callsIn_wide.2 (vC.mono λe eW ⟨v,pre,st,F',gD,he,gy,hinv,g1,ew,g3,g4,g5,g6,ML⟩=>?_)⟩
  · have e:a.eval (.const (.func (.yield (w.heap.size+1)) #[] #[]))=.func (.yield (w.heap.size+1)) #[] #[]:=rfl
    simp[resolve,hu,ah1,Deferred.ofValue,e]
  · have:=ss (#[Value.func (.yield (w.heap.size+1)) #[] #[]]++cZ) cn
    simpa [invoke]using this
  have g7:dc cn eW:=⟨ML.1,ML.2.1,ML.2.2⟩
  subst he;obtain⟨e,D,κ',my,E,U,ag,a1,bL,dm,fS,_,jg,pX⟩:=hinv;refine⟨sB e,_,run_endLoop E (by cases st<;>simp[fb]),?_⟩;have Hf:w.heap.size+1<eW.heap.size:=(Array.getElem?_eq_some_iff.1 E).1;generalize bd:Obj.loop _=ca;have hI:A.cx (k e (sh.st D)) O:=by
    cases st with
    | true=>grind
    | false=>
      obtain⟨rfl,fk⟩:=jg rfl;exact (fk [] (show S (pre++[]) by grind)).2 _ rfl
  have vu:∀ r,C.K0 r->r<w.heap.size:=λr h=>Nat.lt_of_lt_of_le (M.hs r h) M.size;have ue:∀ r,C.K0 r->(eW.putObj (w.heap.size+1) ca).heap[r]?=C.w0.heap[r]?:=λr h=>by
    have cb:=vu r h;rw[World.putObj_heap_other (by omega),g4 r (by omega) λaQ=>?_,ug r cb]
    · exact M.eF r h
    · rcases aQ with⟨b,W,rfl⟩ | rfl | rfl
      · exact (cN.own b W).2.2 h
      · omega
      · omega
  have xT:dc C.w0 (eW.putObj (w.heap.size+1) ca):=by
    have:=(M.ev.trans xS).trans g7;exact⟨this.os,this.tape,this.output⟩
  have Ac:C.jN ⟨eW.putObj (w.heap.size+1) ca,λr=>C.K0 r\/r=w.heap.size,[w.heap.size]⟩:=
    { sA := λB aS => by
        have:B=w.heap.size:=by grind
        subst this;exact⟨.inr rfl,(World.putObj_heap_other (by omega)).trans U⟩
      ez:=λB aS=>by
        have:B=w.heap.size:=by grind
        subst this;exact⟨λh=>by grind,M.size⟩
      mx:=by simp
      hk:=λ_ h=>.inl h
      eF:=ue
      size:=by have:=M.size;simp;omega
      ev:=xT }
  have nW:ct (C.hj ⟨eW.putObj (w.heap.size+1) ca,λr=>C.K0 r\/r=w.heap.size,[w.heap.size]⟩) (sh.st D) { a with defers:=[oH w.heap.size]++a.defers } (eW.putObj (w.heap.size+1) ca):=by
    have MK:∀ r,F' r->C.F0 r\/¬(C.K0 r\/r=w.heap.size):=λr bb=>by
      rcases ew r bb with h | h | h
      · rcases cN.hf r h with ds | ds
        · exact .inl ds
        · exact .inr λal=>al.elim ds λe=>by have:=cN.da r h;omega
      · rcases h with⟨b,W,rfl⟩ | rfl | rfl
        · exact .inr λal=>al.elim (cN.own b W).2.2 λe=>fl b W (.inr e)
        · exact (dm bb).elim
        · exact (fS bb).elim
      grind
    refine⟨κ',F',my.vA (r:=C.r) my.dG (by show [oH w.heap.size]++a.defers=_;rw[M.dfr];rfl) my.gp my.bT (λdH kA e6 iY il e=>by have e:(sh.st D).ax b5=.aV dH kA e6 iY il:=e;grind)
      (λr h=>World.putObj_heap_other λe=>by
        grind) (by simp) MK (λr h=>g1 r (cN.hP r h)) (λr h=>?_) (λ_ _=>rfl) (λb W h=>?_) (Nat.le_refl _) (dc.refl _)⟩
    · simp only[World.putObj_size]
      grind
    · rcases h with h | h
      · rcases (g5 _ (ag b W).1).1 with aQ | aQ
        · rcases aQ with⟨be,db,e⟩ | e | e
          · exact (cN.own be db).2.2 (e ▸ h)
          · exact (ag b W).2 (.inl e)
          · exact (ag b W).2 (.inr e)
        grind
      grind
  have br:=al _ Ac e _ _ _ nW hI;cases e with
  | normal=>exact br
  | exit id=>exact wpIn_exit br
  | ret=>exact wpIn_ret br
end Go.Fer
namespace Go.Fer
open Go.RowKit
open A (V)
section
variable {F:Fence} {n:Nat} {P:Program} {Q:Exit->Act->World->Prop} {a:Act} {w:World}
theorem ah2{c:Code}{Hi β:Type}{body:Hi->A (V Hi β)}{O:β->Prop}(I:Hi->Act->World->Prop)
  (round:∀ D a w,I D a w->(body D).ck->(∀ r,(body D).bK (.done r)->O r)->c.wpIn F n P (Exit.then (λa' w'=>∃ iH,(body D).bK (.next iH)/\I iH a' w') Q) a w)
  {D:Hi} (aD:A.BN body D) (af:∀ r,A.yX body D r->O r) (eA:I D a w):(Code.loop c).wpIn F n P Q a w:=by
 intro b k cs rk W M;have key:∀ D,A.BN body D->(∀ r,A.yX body D r->O r)->∀ a w,I D a w->
   ∃ e a' w',Q e a' w'/\ArrivesIn (Machine.fenced P F) P (lone (b.atR a (.code c::.inLoop c::k)) cs w) b k cs e a' w':=by
  intro D aD;induction aD with
  | mk D h _ aJ=>
   intro af a w eA;obtain⟨e,lX,lY,br,e'⟩:=round D a w eA h (λr M=>af r (.done _ _ M)) b (.inLoop c::k) cs rk W M;cases e with
   | normal=>
    obtain⟨iH,po,ah3⟩:=br;obtain⟨MM,MN,MO,MP,MQ⟩:=aJ iH po (λr M=>af r (.next _ _ _ po M)) lX lY ah3;exact⟨MM,MN,MO,MP,.of_steps (StepsIn.trans e' (.one (fenced_calm W M rfl) stepR_inLoop)) MQ⟩
   | exit id=>exact⟨_,lX,lY,br,.pass (x:=.inLoop c) rfl (λ_ _=>.inl (by simp)) e'⟩
   | goto l=>exact⟨_,lX,lY,br,.pass (x:=.inLoop c) rfl (λ_ _=>.inl (by simp)) e'⟩
   | ret=>exact⟨_,lX,lY,br,.pass (x:=.inLoop c) rfl (λ_ _=>.inl (by simp)) e'⟩
   | panic MR=>exact⟨_,lX,lY,br,.pass (x:=.inLoop c) rfl (λ_ _=>.inl (by simp)) e'⟩
   | outgrown=>exact⟨_,lX,lY,br,.pass (x:=.inLoop c) rfl (λ_ _=>.inl (by simp)) e'⟩
 obtain⟨e,a',w',br,e'⟩:=key D aD af a w eA;exact⟨e,a',w',br,.of_steps (.one (fenced_calm W M rfl) stepR_loop) e'⟩
theorem ah4{p q:Prop}(br:q)(h:q->p):p/\q:=⟨h br,br⟩
def Hj(F:Fence)(n:Nat)(P:Program)(c:Code)(Q:Exit->Act->World->Prop)(a:Act)(w:World):Prop:=
 ∀ (b:Frame) (k:List Item) (cs:List Frame),b.roundOf=F.round->F.fn b.fn->F.room (cs.length+1+n)->
  ∃ e a' w',Q e a' w'/\ArrivesIn (Machine.fenced P F) P (lone (b.atR a (.code c::.inLoop c::k)) cs w) b k cs e a' w'
theorem ah5{c:Code}(h:Hj F n P c Q a w):(Code.loop c).wpIn F n P Q a w:=λb k cs rk W M=>by
 obtain⟨e,a',w',br,e'⟩:=h b k cs rk W M;exact⟨e,a',w',br,.of_steps (.one (fenced_calm W M rfl) stepR_loop) e'⟩
theorem ah6{c:Code}(h:c.wpIn F n P (Exit.then (λa' w'=>Hj F n P c Q a' w') Q) a w):Hj F n P c Q a w:=λb k cs rk W M=>by
 obtain⟨e,lX,lY,br,e'⟩:=h b (.inLoop c::k) cs rk W M;cases e with
 | normal=>
  obtain⟨MM,MN,MO,MP,MQ⟩:=br b k cs rk W M;exact⟨MM,MN,MO,MP,.of_steps (StepsIn.trans e' (.one (fenced_calm W M rfl) stepR_inLoop)) MQ⟩
 | exit id=>exact⟨_,lX,lY,br,.pass (x:=.inLoop c) rfl (λ_ _=>.inl (by simp)) e'⟩
 | goto l=>exact⟨_,lX,lY,br,.pass (x:=.inLoop c) rfl (λ_ _=>.inl (by simp)) e'⟩
 | ret=>exact⟨_,lX,lY,br,.pass (x:=.inLoop c) rfl (λ_ _=>.inl (by simp)) e'⟩
 | panic MR=>exact⟨_,lX,lY,br,.pass (x:=.inLoop c) rfl (λ_ _=>.inl (by simp)) e'⟩
 | outgrown=>exact⟨_,lX,lY,br,.pass (x:=.inLoop c) rfl (λ_ _=>.inl (by simp)) e'⟩
theorem Ad{b:Frame}{k:List Item}{cs:List Frame}{c:Code}:step P (lone (b.atR a (.code (.scope c)::k)) cs w)=.next (lone (b.atR a (.code c::.inScope c::k)) cs w):=
 step_lone_go (by rfl)
theorem ah7{b:Frame}{k:List Item}{cs:List Frame}{c:Code}:step P (lone (b.atR a (.inScope c::k)) cs w)=.next (lone (b.atR a k) cs w):=
 step_lone_go (by rfl)
theorem ah8{c:Code}(h:c.wpIn F n P (Exit.noGoto Q) a w):(Code.scope c).wpIn F n P Q a w:=by
 intro b k cs rk W M;have aX:(lone (b.atR a (.code (.scope c)::k)) cs w).fenced P F:=fenced_calm W M rfl;obtain⟨e,lX,lY,br,e'⟩:=h b (.inScope c::k) cs rk W M;cases e with
 | normal=>exact⟨.normal,lX,lY,br,.head aX Ad (StepsIn.trans e' (.one (fenced_calm W M rfl) ah7))⟩
 | exit id=>
  have ah:exitTo id (.inScope c::k)=exitTo id k:=by rfl
  exact⟨.exit id,lX,lY,br,λk' al=>.head aX Ad (e'.1 k' (by grind)),λbb al=>let ⟨k₁,E,U⟩:=e'.2 bb (by grind);⟨k₁,E,.head aX Ad U⟩⟩
 | goto l=>exact br.elim
 | ret=>exact⟨.ret,lX,lY,br,.of_steps (.one aX Ad) e'⟩
 | panic MR=>exact⟨.panic MR,lX,lY,br,.of_steps (.one aX Ad) e'⟩
 | outgrown=>exact⟨.outgrown,lX,lY,br,.of_steps (.one aX Ad) e'⟩
end
section
variable {T:Nat->ad} {bf:Nat->Option aK} {Ψ:Nat->Option e5}
def MS{D β:Type}(m:A (V D β))(O:β->Prop)(st:V D β):Prop:=
 match st with
 | .next s=>m.bK (.next s)
 | .done r=>O r
theorem ah9{C:b_}{s s':az}{i:Nat}{a:Act}{w:World}(h:Lx s i=some s')(M:ct C s a w):ct C s' a w:=by
 obtain⟨κ,F,M⟩:=M;unfold Lx at h;split at h
 ·rename_i b g n off aD;split at h
  ·rename_i e xs bS;split at h
   ·rename_i aB;cases h;have ae:=M.bT i;rw[aD]at ae;obtain⟨aP,aR,bO⟩:=ae.2 aB (by rw[bS];rfl);rw[bS]at aP bO;have aS:=M.bD b;unfold cF at aS;rw[bS]at aS;obtain⟨cs,T,bE,c2,c3,c4,c5⟩:=aS.2 aR;have aP:n<xs.length:=aP;obtain⟨bj,d1,d2⟩:=c5 n aP;have d2:bI C.P (.slice e) F w bj xs[n]:=d2;obtain⟨u,rfl,hu⟩:=BT (t:=.slice e) rfl d2;have tD:cs.getD ((κ b).off+n) Go.undef=u:=by
     have:=d1 0 (by simp);simp only[ad.size,Nat.mul_one,Nat.add_zero]at this;rw[Array.getD_eq_getD_getElem?,this];rfl
    have gv:fq s.aa κ (λq=>if q=b then (⟨g,.gn (.st (.slice e)) xs n (.val (.slice e) (xs.getD n []))⟩:bJ) else s.aa q) κ:=
     qP aB (λh=>by cases h) (λ_=>by rw[bS];exact⟨rfl,rfl,rfl⟩) (λh=>by cases h) (λh=>by cases h)
    have cN:=M.o6 (b:=b) (x:=⟨g,.gn (.st (.slice e)) xs n (.val (.slice e) (xs.getD n []))⟩) (w':=w) (by rw[bS];simp[bQ.bZ,aR]) (by simp[bQ.bZ,aR]) gv (λh=>by cases h) (λh=>by cases h) (λ_ _=>rfl) rfl (dc.refl w) λH mR cb he=>
     ⟨aR,cs,T,bE,c2,c3,c4,⟨rfl,aP⟩,λj aE _=>c5 j aE,by rw[tD,show xs.getD n []=xs[n] by simp[aP]];exact (dU rfl).2 ⟨hu,d2⟩,by rw[tD];exact JX (t:=.slice e) rfl d2⟩
    refine⟨κ,F,{ cN with bT:=λj=>?_,dG:=cN.dG,dfr:=cN.dfr,bD:=cN.bD,eK:=λl aL L m st a6=>?_ }⟩
    ·show bB _ _ _ _ _ (if j=i then _ else _) _;split
     ·rename_i aE;subst aE;refine⟨⟨by show g<=(if b=b then _ else _:bJ).gen;simp,ae.1.2⟩,λ_ _=>?_⟩;show _<(if b=b then _ else _:bJ).body.len/\_/\_=Value.pointer (some ⟨_,_+_*(if b=b then _ else _:bJ).body.e2,_⟩);simp only[if_true];exact⟨aP,aR,bO⟩
     ·exact cN.bT j
    ·have a6:(if b5=i then _ else _)=aG.aV l aL L m st:=a6;split at a6
     ·cases a6
     ·exact cN.eK l aL L m st a6
   ·cases h
  ·cases h
 ·cases h
theorem ah_{C:b_}{s s':az}{b:Nat}{a:Act}{w:World}(h:Ly s b=some s')(M:ct C s a w):ct C s' a w:=by
 obtain⟨κ,F,M⟩:=M;unfold Ly at h;split at h
 ·rename_i e xs n v bS;split at h
  ·rename_i y bU aQ;split at h
   ·cases h
   ·rename_i p7;cases h;have p7:b ∉ bU:=by simpa using p7
    obtain⟨F',f1,bb,f2⟩:=bl.lg (mQ aQ) M;have zt:(s.cA bU).aa b=s.aa b:=by simp[az.cA,p7]
    have aS:=M.bD b;have MT:=bb.bD b;unfold cF at aS MT;rw[zt,bS]at MT;rw[bS]at aS;obtain⟨aX,cs,T,bE,c2,c3,c4,c5,lO,oq,w_⟩:=MT;obtain⟨_,dh,hT,Ux,_,_,_,_,_,ah',_⟩:=aS;rw[bE]at Ux;cases Ux;have vf:=mi M.bD f1 aQ f2 ah';obtain⟨Hc,oI⟩:=(dU rfl).1 vf;have gv:fq (s.cA bU).aa κ (λq=>if q=b then (⟨(s.aa b).gen,.bh (.st (.slice e)) (xs.set n y)⟩:bJ) else (s.cA bU).aa q) κ:=
     qP (by rw[zt]) (λh=>by cases h) (λ_=>by rw[zt,bS];exact⟨rfl,by simp[bQ.len],rfl⟩) (λh=>by cases h) (λh=>by cases h)
    refine⟨κ,F',bb.o6 (b:=b) (w':=w) (by rw[zt,bS];simp[bQ.bZ,aX]) (by simp[bQ.bZ,aX]) gv (λh=>by cases h) (λh=>by cases h) (λ_ _=>rfl) rfl (dc.refl w) λH mR cb he=>⟨λaA=>(by rw[aX]at aA;cases aA),λ_=>⟨cs,T,bE,c2,by simpa using c3,c4,λj aE=>?_⟩⟩⟩;by_cases qO:j=n
    ·subst qO;refine⟨[cs.getD ((κ b).off+j) Go.undef],λq br=>?_,?_⟩
     ·have br:q=0:=by simpa using br
      subst br;have:(κ b).off+j<cs.size:=by
       have:=c5.2;simp only[ad.size,Nat.mul_one]at c2;omega
      simp[ad.size,this]
     ·rw[List.getElem_set_self];exact oI
    ·obtain⟨bj,d1,d2⟩:=lO j (by simpa using aE) qO;exact⟨bj,d1,by rw[List.getElem_set_ne (Ne.symm qO)];exact d2⟩
  ·cases h
 ·cases h
theorem aia:∀ (ann:cC),(∀ (C:b_) (_:C.P.follows .mixedOrders=true) (_:dT C.P T) (_:jm C.P bf) (_:lW C.P C.aM Ψ) (_:C.r=none\/ann.ej=true) {β:Type} (c:Code) (s:az) (k:di->az->A β) (O:β->Prop) (Q:Exit->Act->World->Prop) (a:Act) (w:World),lr C.nt c=true->ct C s a w->A.cx (eH C.aM T bf Ψ ann c s k) O->(∀ u,C.jN u->∀ e s' a' w',ct (C.hj u) s' a' w'->A.cx (k e s') O->Q e.pj a' w')->c.wpIn (dS C.r) 0 C.P Q a w)/\(ann.oB=true->∀ (C:b_) (_:C.P.follows .mixedOrders=true) (_:dT C.P T) (_:jm C.P bf) (_:lW C.P C.aM Ψ) (_:C.r=none\/ann.ej=true) {β:Type} (c:Code) (s:az) (k:di->az->A β) (O:β->Prop) (Q:Exit->Act->World->Prop) (a:Act) (w:World),lr C.nt c=true->ct C s a w->A.cx (eH C.aM T bf Ψ ann (.loop c) s k) O->(∀ u,C.jN u->∀ e s' a' w',ct (C.hj u) s' a' w'->A.cx (k e s') O->Q e.pj a' w')->Hj (dS C.r) 0 C.P c Q a w):=by
 intro ann;induction ann with
 | eM=>
  refine⟨?_,λ_ C en aU cB cY fX β c s k O Q a w hc M hm al=>by unfold eH at hm;exact (gH hm).elim⟩;intro C en aU cB cY fX β c s k O Q a w hc M hm al;unfold eH at hm;split at hm
  ·rename_i id ops draw;cases draw with
   | true=>exact ahu en aU (TL cB cY) cY (λo af=>List.all_eq_true.1 hc o af) (λs' a' w' bb fk=>al C.hE C.vz .normal s' a' w' bb fk) M hm
   | false=>
    refine wpIn_region ?_;have:=Mi (Q:=Q) (ops:=ops) aU cB cY (λo af=>List.all_eq_true.1 hc o af) (k:=k .normal) (O:=O) (λs' a' w' bb fk=>al C.hE C.vz .normal s' a' w' bb fk) ops.toList 0 [] s a w (by simp) (λp an=>by cases an) M hm;rw[List.range_eq_range'];omega
  ·exact wpIn_skip (al C.hE C.vz .normal s a w M hm)
  ·exact wpIn_label (al C.hE C.vz .normal s a w M hm)
  ·exact wpIn_exit (al C.hE C.vz (.exit _) s a w M hm)
  ·exact wpIn_ret (al C.hE C.vz .ret s a w M hm)
  ·exact (gH hm).elim
 | seq x y hx lv=>
  have hx:=hx.1;have lv:=lv.1;refine⟨?_,λh=>by simp[cC.oB]at h⟩;intro C en aU cB cY fX β c s k O Q a w hc M hm al;have lZ:C.r=none\/x.ej=true:=fX.imp id λh=>by simp only[cC.ej,Bool.and_eq_true]at h;grind
  have qm:C.r=none\/y.ej=true:=fX.imp id λh=>by simp only[cC.ej,Bool.and_eq_true]at h;grind
  unfold eH at hm;split at hm
  ·rename_i nZ Ae;simp only[lr,Bool.and_eq_true]at hc;refine wpIn_seq (hx C en aU cB cY lZ nZ s _ O _ a w hc.1 M hm λu hu e s' a' w' bb fk=>?_);cases e with
   | normal=>exact lv (C.hj u) en aU cB cY qm Ae s' k O Q a' w' hc.2 bb fk λv ae=>by rw[b_.z'];exact al _ (hu.then ae)
   | exit id=>exact al u hu (.exit id) s' a' w' bb fk
   | ret=>exact al u hu .ret s' a' w' bb fk
  ·exact (gH hm).elim
 | join sh x y hx lv=>
  have hx:=hx.1;have lv:=lv.1;refine⟨?_,λh=>by simp[cC.oB]at h⟩;intro C en aU cB cY fX β c s k O Q a w hc M hm al;have lZ:C.r=none\/x.ej=true:=fX.imp id λh=>by simp only[cC.ej,Bool.and_eq_true]at h;grind
  have qm:C.r=none\/y.ej=true:=fX.imp id λh=>by simp only[cC.ej,Bool.and_eq_true]at h;grind
  unfold eH at hm;split at hm
  ·rename_i nZ Ae;simp only[lr,Bool.and_eq_true]at hc;rw[A.gg]at hm;refine wpIn_seq (hx C en aU cB cY lZ nZ s _ _ _ a w hc.1 M hm λu hu e s' a' w' bb fk=>?_);cases e with
   | normal=>
    obtain⟨D,nV,U⟩:=ud fk;have ag:=A.ea.1 U;exact lv (C.hj u) en aU cB cY qm Ae _ k O Q a' w' hc.2 (dI.xC nV bb) ag λv ae=>by rw[b_.z'];exact al _ (hu.then ae)
   | exit id=>
    simp only[xA,A.gg,A.ea,V.bx]at fk;exact al u hu (.exit id) s' a' w' bb fk
   | ret=>
    simp only[xA,A.gg,A.ea,V.bx]at fk;exact al u hu .ret s' a' w' bb fk
  ·exact (gH hm).elim
 | cond x y hx lv=>
  have hx:=hx.1;have lv:=lv.1;refine⟨?_,λh=>by simp[cC.oB]at h⟩;intro C en aU cB cY fX β c s k O Q a w hc M hm al;have lZ:C.r=none\/x.ej=true:=fX.imp id λh=>by simp only[cC.ej,Bool.and_eq_true]at h;grind
  have qm:C.r=none\/y.ej=true:=fX.imp id λh=>by simp only[cC.ej,Bool.and_eq_true]at h;grind
  unfold eH at hm;split at hm
  ·rename_i co nZ Ae;simp only[lr,Bool.and_eq_true]at hc;unfold S2 at hm;split at hm
   ·rename_i t hu;obtain⟨κ,F,eV⟩:=M;have ae:=j7 eV co;rw[hu]at ae;refine wpIn_cond_split (ff.1 ae) (λaH=>?_) (λaH=>?_)
    ·subst aH;exact hx C en aU cB cY lZ nZ s k O Q a w hc.1 ⟨κ,F,eV⟩ hm al
    ·subst aH;exact lv C en aU cB cY qm Ae s k O Q a w hc.2 ⟨κ,F,eV⟩ hm al
   ·rename_i g t hu;rw[A.kL]at hm;obtain⟨bd,hm⟩:=hm;obtain⟨κ,F,eV⟩:=M;have ae:=j7 eV co;rw[hu]at ae;refine wpIn_cond_split (ff.1 (ae.1 bd)) (λaH=>?_) (λaH=>?_)
    ·subst aH;exact hx C en aU cB cY lZ nZ s k O Q a w hc.1 ⟨κ,F,eV⟩ hm al
    ·subst aH;exact lv C en aU cB cY qm Ae s k O Q a w hc.2 ⟨κ,F,eV⟩ hm al
   ·exact (gH hm).elim
  ·exact (gH hm).elim
 | block x hx=>
  have hx:=hx.1;refine⟨?_,λh=>by simp[cC.oB]at h⟩;intro C en aU cB cY fX β c s k O Q a w hc M hm al;have lZ:C.r=none\/x.ej=true:=fX;unfold eH at hm;split at hm
  ·rename_i id nZ;refine wpIn_block (hx C en aU cB cY lZ nZ s _ O _ a w hc M hm λu hu e s' a' w' bb fk=>?_);cases e with
   | normal=>exact al u hu .normal s' a' w' bb fk
   | exit Gx=>
    simp only[S1]at fk;simp only[di.pj,Exit.inBlock];split at fk
    ·rename_i e;rw[if_pos e];exact al u hu .normal s' a' w' bb fk
    ·rename_i e;rw[if_neg e];exact al u hu (.exit Gx) s' a' w' bb fk
   | ret=>exact al u hu .ret s' a' w' bb fk
  ·exact (gH hm).elim
 | loop sh x hx=>
  have hx:=hx.1;refine⟨?_,λh=>by simp[cC.oB]at h⟩;intro C en aU cB cY fX β c s k O Q a w hc M hm al;have lZ:C.r=none\/x.ej=true:=fX;unfold eH at hm;split at hm
  ·rename_i nZ;obtain⟨D,nV,U⟩:=ud hm;refine ah2 (I:=λD a w=>∃ u,C.jN u/\ct (C.hj u) (sh.st D) a w) (O:=O) (λD a w ⟨v,ae,eA⟩ q1 Df=>?_) U.1 U.2 ⟨C.hE,C.vz,dI.xC nV M⟩;refine hx (C.hj v) en aU cB cY lZ nZ (sh.st D) _ (MS (eH C.aM T bf Ψ x nZ (sh.st D) (xA k λs'=>sh.m_ s' λiH=>A.pure (V.next iH))) O) _ a w hc eA ⟨q1,λst gy=>?_⟩ λu hu e s' a' w' bb fk=>?_
   ·cases st with
    | next iH=>exact gy
    | done r=>exact Df r gy
   ·cases e with
    | normal=>
     obtain⟨iH,MD,ag⟩:=ud fk;have a1:=A.ea.1 ag;exact⟨iH,a1,_,ae.then hu,by rw[<-b_.z'];exact dI.xC MD bb⟩
    | exit id=>
     simp only[xA,A.gg,A.ea,MS]at fk;exact al _ (ae.then hu) (.exit id) s' a' w' (by rw[<-b_.z'];omega) fk
    | ret=>
     simp only[xA,A.gg,A.ea,MS]at fk;exact al _ (ae.then hu) .ret s' a' w' (by rw[<-b_.z'];omega) fk
  ·exact (gH hm).elim
 | scope x hx=>
  have hx:=hx.1;refine⟨?_,λh=>by simp[cC.oB]at h⟩;intro C en aU cB cY fX β c s k O Q a w hc M hm al;have lZ:C.r=none\/x.ej=true:=fX;unfold eH at hm;split at hm
  ·rename_i nZ;refine ah8 (hx C en aU cB cY lZ nZ s _ O _ a w hc M hm λu hu e s' a' w' bb fk=>?_);have:=al u hu e s' a' w' bb fk;cases e<;>exact this
  ·exact (gH hm).elim
 | range sh rin rout x y hx lv=>
  have hx:=hx.1;have lv:=lv.1;refine⟨?_,λh=>by simp[cC.oB]at h⟩;intro C en aU cB cY fX β c s k O Q a w hc M hm al;unfold eH at hm;split at hm
  ·rename_i g ps assign body;simp only[lr,Bool.and_eq_true,List.all_eq_true,decide_eq_true_eq]at hc;obtain⟨ayk,Uy,Uz⟩:=hc;split at hm
   ·rename_i ra n eT aB;split at hm
    ·rename_i ic aib;split at hm
     ·rename_i ayl bU ah;split at hm
      ·rename_i ec;simp only[Bool.and_eq_true]at ec;obtain⟨ec,lZ,qm⟩:=ec;obtain⟨D,nV,U⟩:=ud hm;rw[A.kL,A.gg]at U;simp only[S3]at U;have iL:C.r=none:=fX.resolve_right λh=>by cases h
       have MU:nU sh rout ic.aL ps.toList C.nt=true:=by
        simp only[nU,Bool.and_eq_true,List.all_eq_true,decide_eq_true_eq]at ec ⊢;grind
       refine ahX iL M aB (cY ra _ aib) ah MU nV U.1 U.2 (λl=>?_) al;intro C1 jq tG rl tR eG b8 cn qk j' kf;have h:=hx C1 (jq ▸ en) (jq ▸ aU) (jq ▸ cB) (by grind) (.inr lZ) assign eG (Gy λdL=>eH C.aM T bf Ψ y body dL λe eI=>rout.m_ eI λbm=>A.pure (e,bm)) qk
        (Exit.then (λa2 c7=>∃ u dL,C1.jN u/\ct (C1.hj u) dL a2 c7/\
         ∀ (hv:b_),hv.P=C.P->hv.aM=C.aM->hv.nt=C.nt->hv.r=some l->∀ (c7:World),ct hv dL a2 c7->
          body.wpIn (dS (some l)) 0 C.P (λe a3 eW=>∃ (a6:di) (v:nX) (eI:az) (bm:rout.ai),e=a6.pj/\hv.jN v/\ct (hv.hj v) eI a3 eW/\rout.ja eI=some bm/\qk (a6,bm)) a2 c7) (λ_ _ _=>False)) b8 cn (rl ▸ Uy) j' (tG ▸ kf)
        λu hu e dL a2 c7 cN pn=>?_
       ·grind
       ·cases e with
        | normal=>
         refine⟨u,dL,hu,cN,λhv xU MV MW aic c7 my=>?_⟩;have h:=lv hv (xU ▸ en) (xU ▸ aU) (xU ▸ cB) (by grind) (.inr qm) body dL (λe eI=>rout.m_ eI λbm=>A.pure (e,bm)) qk
          (λe a3 eW=>∃ (a6:di) (v:nX) (eI:az) (bm:rout.ai),e=a6.pj/\hv.jN v/\ct (hv.hj v) eI a3 eW/\rout.ja eI=some bm/\qk (a6,bm)) a2 c7 (MW ▸ Uz) my (MV ▸ pn) λv ae e eI a3 eW oJ Hk=>by
           obtain⟨bm,gi,bL⟩:=ud Hk;exact⟨e,v,eI,bm,rfl,ae,oJ,gi,A.ea.1 bL⟩
         grind
        | exit id=>exact (gH pn).elim
        | ret=>exact (gH pn).elim
      ·exact (gH hm).elim
     ·exact (gH hm).elim
    ·exact (gH hm).elim
   ·rename_i aL S aB;split at hm
    ·rename_i ec;simp only[Bool.and_eq_true]at ec;obtain⟨ec,lZ,qm⟩:=ec;obtain⟨D,nV,U⟩:=ud hm;rw[A.gg]at U;have iL:C.r=none:=fX.resolve_right λh=>by cases h
     have MU:nU sh rout aL ps.toList C.nt=true:=by
      simp only[nU,Bool.and_eq_true,List.all_eq_true,decide_eq_true_eq]at ec ⊢;grind
     refine ahZ iL M aB MU nV U.1 (λL iK=>by have ag:=A.gg.1 (U.2 L iK);simp only[S3]at ag;exact ag) (λl=>?_) al;intro C1 jq tG rl tR eG b8 cn qk j' kf;have h:=hx C1 (jq ▸ en) (jq ▸ aU) (jq ▸ cB) (by grind) (.inr lZ) assign eG (Gy λdL=>eH C.aM T bf Ψ y body dL λe eI=>rout.m_ eI λbm=>A.pure (e,bm)) qk
      (Exit.then (λa2 c7=>∃ u dL,C1.jN u/\ct (C1.hj u) dL a2 c7/\
       ∀ (hv:b_),hv.P=C.P->hv.aM=C.aM->hv.nt=C.nt->hv.r=some l->∀ (c7:World),ct hv dL a2 c7->
        body.wpIn (dS (some l)) 0 C.P (λe a3 eW=>∃ (a6:di) (v:nX) (eI:az) (bm:rout.ai),e=a6.pj/\hv.jN v/\ct (hv.hj v) eI a3 eW/\rout.ja eI=some bm/\qk (a6,bm)) a2 c7) (λ_ _ _=>False)) b8 cn (rl ▸ Uy) j' (tG ▸ kf)
      λu hu e dL a2 c7 cN pn=>?_
     ·grind
     ·cases e with
      | normal=>
       refine⟨u,dL,hu,cN,λhv xU MV MW aic c7 my=>?_⟩;have h:=lv hv (xU ▸ en) (xU ▸ aU) (xU ▸ cB) (by grind) (.inr qm) body dL (λe eI=>rout.m_ eI λbm=>A.pure (e,bm)) qk
        (λe a3 eW=>∃ (a6:di) (v:nX) (eI:az) (bm:rout.ai),e=a6.pj/\hv.jN v/\ct (hv.hj v) eI a3 eW/\rout.ja eI=some bm/\qk (a6,bm)) a2 c7 (MW ▸ Uz) my (MV ▸ pn) λv ae e eI a3 eW oJ Hk=>by
         obtain⟨bm,gi,bL⟩:=ud Hk;exact⟨e,v,eI,bm,rfl,ae,oJ,gi,A.ea.1 bL⟩
       grind
      | exit id=>exact (gH pn).elim
      | ret=>exact (gH pn).elim
    ·exact (gH hm).elim
   ·exact (gH hm).elim
  ·exact (gH hm).elim
 | nT x y hx lv=>
  refine ah4 (λ_ C en aU cB cY fX β c s k O Q a w hc M hm al=>?_) λkey C en aU cB cY fX β c s k O Q a w hc M hm al=>?_
  ·have lZ:C.r=none\/x.ej=true:=fX.imp id λh=>by simp only[cC.ej,Bool.and_eq_true]at h;grind
   have qm:C.r=none\/y.ej=true:=fX.imp id λh=>by simp only[cC.ej,Bool.and_eq_true]at h;grind
   unfold eH at hm;simp only at hm;split at hm
   ·rename_i hu;refine ah6 (hx.1 C en aU cB cY lZ c s _ O _ a w hc M hm λu xF e s' a' w' bb fk=>?_);cases e with
    | normal=>exact lv.2 hu (C.hj u) en aU cB cY qm c s' k O Q a' w' hc bb fk λv ae=>by rw[b_.z'];exact al _ (xF.then ae)
    | exit id=>exact al u xF (.exit id) s' a' w' bb fk
    | ret=>exact al u xF .ret s' a' w' bb fk
   ·exact (gH hm).elim
  ·cases c with
   | loop nZ=>exact ah5 (key rfl C en aU cB cY fX nZ s k O Q a w hc M hm al)
   | _=>unfold eH at hm;exact (gH hm).elim
 | Gw=>
  refine⟨?_,λh=>by simp[cC.oB]at h⟩;intro C en aU cB cY fX β c s k O Q a w hc M hm al;unfold eH at hm;split at hm
  ·rename_i id ops draw;split at hm
   ·rename_i h;rw[Bool.and_eq_true]at h;obtain⟨rfl,h⟩:=h;exact ahA en (fX.resolve_right (by simp[cC.ej])) h aU (TL cB cY) cY (λo af=>List.all_eq_true.1 hc o af) (λs' a' w' bb fk=>al C.hE C.vz .normal s' a' w' bb fk) M hm
   ·exact (gH hm).elim
  ·exact (gH hm).elim
 | nO i x aJ=>
  have aJ:=aJ.1;refine⟨?_,λh=>by simp[cC.oB]at h⟩;intro C en aU cB cY fX β c s k O Q a w hc M hm al;unfold eH at hm;split at hm
  ·rename_i s' ae;exact aJ C en aU cB cY fX c s' k O Q a w hc (ah9 ae M) hm al
  ·exact (gH hm).elim
 | Gv b x aJ=>
  have aJ:=aJ.1;refine⟨?_,λh=>by simp[cC.oB]at h⟩;intro C en aU cB cY fX β c s k O Q a w hc M hm al;unfold eH at hm;split at hm
  ·rename_i s' ae;exact aJ C en aU cB cY fX c s' k O Q a w hc (ah_ ae M) hm al
  ·exact (gH hm).elim
 | num i n x aJ=>
  have aJ:=aJ.1;refine⟨?_,λh=>by simp[cC.oB]at h⟩;intro C en aU cB cY fX β c s k O Q a w hc M hm al;unfold eH at hm;split at hm
  ·rename_i v f ae;rw[A.kL]at hm;have h:=hm.2;rw[afd ae hm.1]at h;exact aJ C en aU cB cY fX c s k O Q a w hc M h al
  ·exact (gH hm).elim
 | split i off n x aJ=>
  have aJ:=aJ.1;refine⟨?_,λh=>by simp[cC.oB]at h⟩;intro C en aU cB cY fX β c s k O Q a w hc M hm al;unfold eH at hm;split at hm
  ·rename_i v f ae;rw[A.kL]at hm;have h:=SY hm.2 hm.1.1 hm.1.2;rw[afc ae hm.1.1]at h;exact aJ C en aU cB cY fX c s k O Q a w hc M h al
  ·exact (gH hm).elim
theorem UA(ann:cC):∀ (C:b_) (_:C.P.follows .mixedOrders=true) (_:dT C.P T) (_:jm C.P bf) (_:lW C.P C.aM Ψ) (_:C.r=none\/ann.ej=true) {β:Type} (c:Code) (s:az) (k:di->az->A β) (O:β->Prop) (Q:Exit->Act->World->Prop) (a:Act) (w:World),lr C.nt c=true->ct C s a w->A.cx (eH C.aM T bf Ψ ann c s k) O->(∀ u,C.jN u->∀ e s' a' w',ct (C.hj u) s' a' w'->A.cx (k e s') O->Q e.pj a' w')->c.wpIn (dS C.r) 0 C.P Q a w:=(aia ann).1
end
end Go.Fer
namespace Go.Fer
open Go.RowKit
def Dz(T:Nat->ad)(s:az):List ResultVar->Option (List aG)
 | []=>some []
 | r::l=>match Dz T s l with
  | none=>none
  | some aC=>match r with
   | .tmp t=>some (s.ax t::aC)
   | .cell a ty=>match (y_ (T ty) (s.ax a)).run s.aa with
    | some v=>some (v::aC)
    | none=>none
def MX(t:ad)(n:Nat):Bool:=
 match t with
 | .ay _ _=>n != 1
 | .cT=>n == 0
 | _=>n == 1
def vD(T:Nat->ad)(kz:List ResultVar)(aV:ad)(e:di)(s:az):A aV.ai:=
 match e with
 | .exit _=>A.fail
 | _=>match Dz T s kz with
  | some avs=>match (iX aV avs).run s.aa with
   | some (y,_)=>A.pure y
   | none=>A.fail
  | none=>A.fail
def Af(t:ad)(x:t.ai)(n:Nat):List (Nat×aG):=(List.range n).map λi=>(i,kt t x i)
def sD(t:ad):Nat:=if t=.cT then 0 else j5 t
def pq(t:ad)(x:t.ai):az:=SL (Af t x (sD t)) []
def DA(aO:dF)(T:Nat->ad)(bf:Nat->Option aK)(Ψ:Nat->Option e5)(fn:Func)(c:Code)(ann:cC)(ts aV:ad)(x:ts.ai):A aV.ai:=
 eH aO T bf Ψ ann c (pq ts x) (vD T fn.results.toList aV)
def Hl(av:aG):aG:=match av with | .val (.bH e) p=>.dV e (p.getD e.de) | v=>v
def DB(av:aG):Prop:=match av with | .val (.bH _) p=>p.isSome=true | _=>True
def Hm(n:Nat)(s:az):az:=⟨λi=>if i<n\/eQ<i then s.ax i else Hl (s.ax i),s.aa⟩
def DC(n:Nat)(s:az):Prop:=∀ i,¬(i<n\/eQ<i)->DB (s.ax i)
def aid(aO:dF)(T:Nat->ad)(bf:Nat->Option aK)(Ψ:Nat->Option e5)(fn:Func)(c:Code)(ann:cC)(n:Nat)(ts aV:ad)(x:ts.ai):A aV.ai:=
 A.ab (DC n (pq ts x)) (eH aO T bf Ψ ann c (Hm n (pq ts x)) (vD T fn.results.toList aV))
def DD(fn:Func)(c:Code)(ts aV:ad):Bool:=
 lr fn.ntmps c && MX aV fn.results.size && decide (sD ts <= fn.ntmps) && !(fn.name == "runtime.NumGoroutine") && decide (fn.ntmps <= eQ)
def Ag:z9'->List aG->Option (List aG)
 | [],[]=>some []
 | none::g,v::aC=>match Ag g aC with
  | some l=>some (v::l)
  | none=>none
 | some n::g,v::aC=>match v,Ag g aC with
  | .agg m f,some l=>if m=n then some ((List.range n).map f++l) else none
  | _,_=>none
 | _,_=>none
def Hn(T:Nat->ad)(kz:List ResultVar)(kB:z9')(bK:dI)(e:di)(s:az):A bK.ai:=
 match e with
 | .exit _=>A.fail
 | _=>match Dz T s kz with
  | some avs=>match Ag kB avs with
   | some l=>match decide (l.length<=eQ) with
    | true=>bK.m_ (si s l) λbm=>A.pure bm
    | false=>A.fail
   | none=>A.fail
  | none=>A.fail
def MY(aO:dF)(T:Nat->ad)(bf:Nat->Option aK)(Ψ:Nat->Option e5)(fn:Func)(c:Code)(ann:cC)(cp bK:dI)(kB:z9')(D:cp.ai):A bK.ai:=
 eH aO T bf Ψ ann c (cp.st D) (Hn T fn.results.toList kB bK)
def DE(fn:Func)(c:Code)(kd:Nat)(kB:z9'):Bool:=
 lr fn.ntmps c && decide (fn.results.size = kB.length) && decide (kd <= fn.ntmps) && !(fn.name == "runtime.NumGoroutine") && decide (fn.ntmps <= eQ)
section
variable {C:b_} {T:Nat->ad} {bf:Nat->Option aK} {Ψ:Nat->Option e5}
def Ah(tmps:Array Value)(r:ResultVar):Sem Value:=
 match r with
 | .tmp t=>pure (tmps.getD t undef)
 | .cell b t=>do loadVar t (<-asAddr (tmps.getD b undef))
theorem UB(fn:Func)(tmps:Array Value):results fn tmps=(fn.results.mapM (Ah tmps) >>= λaC=>pure (if h:aC.size=1 then aC[0] else .tuple aC)):=by
 rfl
theorem UC(aU:dT C.P T){s:az}{a:Act}{w:World}{κ:Nat->bC}{F:Nat->Prop}(M:bl C s a w κ F):∀ (kz:List ResultVar) {avs:List aG},Dz T s kz=some avs->
  ∃ aC:List Value,(kz.mapM (Ah a.tmps)).run C.P w=.ok aC w/\aC.length=kz.length/\avs.length=kz.length/\
   ∀ i (h:i<avs.length) (ds:i<aC.length),bB C.P s.aa κ F w avs[i] aC[i]:=by
 intro kz;induction kz with
 | nil=>intro avs h;cases h;simp
 | cons r kz aJ=>
  intro avs h;simp only[Dz]at h;split at h
  ·cases h
  ·rename_i l aj;obtain⟨aC,E,U,ag,a1⟩:=aJ aj;have one:∃ av v,avs=av::l/\(Ah a.tmps r).run C.P w=.ok v w/\bB C.P s.aa κ F w av v:=by
    split at h
    ·rename_i t;cases h;exact⟨_,_,rfl,rfl,M.bT t⟩
    ·rename_i b ty;split at h
     ·rename_i v ae;cases h;obtain⟨u,aP,aR⟩:=RM aU M ae (M.bT b);refine⟨v,u,rfl,?_,aR⟩;unfold Instr.loadAt at aP;unfold Ah;simp only;generalize a.tmps.getD b Go.undef=z at aP ⊢;cases z with
      | pointer p=>
       cases p with
       | none=>simp[Instr.sureAddr]at aP
       | some p=>simpa [Instr.sureAddr,asAddr]using aP
      | _=>simp[Instr.sureAddr]at aP
     grind
   obtain⟨av,v,rfl,aP,aR⟩:=one;refine⟨v::aC,?_,by grind,by grind,λi G dK=>?_⟩
   ·simp_all
   grind
theorem aie(aU:dT C.P T){fn:Func}{aV:ad}(rm:MX aV fn.results.size=true){e:di}{s:az}{a:Act}{w:World}{O:aV.ai->Prop}(M:ct C s a w)(hm:A.cx (vD T fn.results.toList aV e s) O) :
  (∀ id,e≠.exit id)/\∃ κ F v y,bl C s a w κ F/\(results fn a.tmps).run C.P w=.ok v w/\O y/\∃ F',(∀ r,F' r->C.F0 r\/¬C.K0 r)/\(∀ r,F' r->r<w.heap.size)/\tt C.P aV F' w v y:=by
 obtain⟨κ,F,M⟩:=M;unfold vD at hm;split at hm
 ·exact (gH hm).elim
 ·rename_i eN;refine⟨λid he=>eN id he,?_⟩;split at hm
  ·rename_i avs MZ;split at hm
   ·rename_i y l aQ;obtain⟨aC,E,U,ag,a1⟩:=UC aU M _ MZ;obtain⟨F',f1,bb,f2⟩:=bl.lg (p_ _ aQ) M;have dX:=vj (F':=F') M.bD f1 aV aQ f2 (by omega) a1;have c6:(results fn a.tmps).run C.P w=.ok (if h:aC.toArray.size=1 then aC.toArray[0] else .tuple aC.toArray) w:=by
     rw[UB,Sem.run_bind];have:(fn.results.mapM (Ah a.tmps)).run C.P w=.ok aC.toArray w:=by
      rw[Array.mapM_eq_mapM_toList,map_eq_pure_bind,Sem.run_bind,E];rfl
     simp_all
    refine⟨κ,F,_,y,M,c6,A.ea.1 hm,F',bb.hf,bb.da,aC,?_,dX⟩;have cd:aC.length=fn.results.size:=by omega
    rw[<-cd]at rm;clear c6 dX E a1 U cd aQ;have one:aC.length=1->aC=[if h:aC.toArray.size=1 then aC.toArray[0] else .tuple aC.toArray]:=by
     intro h;match aC,h with
     | [v],_=>rfl
    cases aV<;>simp only[MX,beq_iff_eq,bne_iff_ne,ne_eq]at rm<;>simp only[yZ];case ay=>rw[dif_neg (by simpa using rm)]
    case cT=>
     have:aC=[]:=List.length_eq_zero_iff.1 rm;subst this;exact⟨rfl,rfl⟩
    all_goals exact one rm
   ·exact (gH hm).elim
  ·exact (gH hm).elim
theorem UD{l:List (Nat×aG)}{i:Nat}:fr l i=.undef\/(i,fr l i)∈l:=by
 induction l with
 | nil=>exact .inl rfl
 | cons p l aJ=>
  simp only[fr];grind
theorem uh{P : Program}{k : FuncId}{fn : Func}{c : Code}(ao : P.funcs[k]? = some fn)(W : fn.body = some c)(aA : (fn.name == "runtime.NumGoroutine") = false)(args : Array Value)(w : World) :
  (callFunc k args).run P w=.ok (.enter k args) w:=by
 have aA : ¬ fn.name = "runtime.NumGoroutine" := by grind
 simp[callFunc,ao,W,aA]
def pr(w:World):List Nat->World
 | []=>w
 | B::ms=>pr (w.putObj B (.deferred none)) ms
theorem UE:∀ (ms:List Nat) (w:World),(pr w ms).heap.size=w.heap.size
 | [],_=>rfl
 | _::ms,_=>(UE ms _).trans World.putObj_size
theorem M0:∀ (ms:List Nat) (w:World) {r:Nat},r ∉ ms->(pr w ms).heap[r]?=w.heap[r]?
 | [],_,_,_=>rfl
 | B::ms,w,r,h=>by
  simp only[List.mem_cons,not_or]at h;exact (M0 ms _ h.2).trans (World.putObj_heap_other h.1)
theorem UF:∀ (ms:List Nat) (w:World),dc w (pr w ms)
 | [],w=>dc.refl w
 | B::ms,w=>by
  have h:dc w (w.putObj B (.deferred none)):=⟨rfl,rfl,rfl⟩
  exact h.trans (UF ms _)
theorem M1{P:Program}{fn:Func}{tmps:Array Value}{R:Ending->World->Prop}:∀ (ms:List Nat) (w:World),ms.Nodup->(∀ B∈ms,w.heap[B]?=some (.deferred (some [])))->
  (∃ v,(results fn tmps).run P (pr w ms)=.ok v (pr w ms)/\R (.returned v) (pr w ms))->LeavesInM Fence.wide 0 P fn tmps R (ms.map oH) .returning w
 | [],w,_,_,h=>h
 | B::ms,w,aA,aS,h=>by
  simp only[List.nodup_cons]at aA;refine⟨by simp,.inl ⟨B,_,rfl,run_takeDeferred (aS B (by simp)),?_⟩⟩;exact M1 ms _ aA.2 (λaif ds=>(World.putObj_heap_other λe=>aA.1 (by grind)).trans (aS aif (List.mem_cons_of_mem _ ds))) h
theorem ct.UG{u:nX}{s:az}{a:Act}{w:World}(hu:C.jN u)(aih:∀ r,C.F0 r->r<C.w0.heap.size)(vu:∀ r,C.K0 r->r<C.w0.heap.size)(h:ct (C.hj u) s a w) :
  ct { C with dfr:=u.ms.map oH++C.dfr } s a (pr w u.ms)/\a.defers=u.ms.map oH++C.dfr/\∀ B∈u.ms,w.heap[B]?=some (.deferred (some [])):=by
 obtain⟨κ,F,h⟩:=h;have aym:∀ B∈u.ms,¬F B:=λB aS ao=>by
  obtain⟨E,_⟩:=hu.sA B aS;rcases h.hf B ao with U | U
  ·have:=aih B U;have:=(hu.ez B aS).2;omega
  ·exact U E
 have cd:=UE u.ms w;have hc:=UF u.ms w;refine⟨⟨κ,F,h.G' (w0:=C.w0) (w':=pr w u.ms) (K0:=C.K0) (r:=C.r) (λr M=>hu.hk r M) (λr M=>M0 _ _ λhm=>?_) (Nat.le_of_eq cd.symm) hc vu (λr M=>?_) ?_ ?_⟩,h.dfr,λB aS=>?_⟩
 ·rcases M with M | M
  ·grind
  ·exact M (hu.sA r hm).1
 ·exact (M0 _ _ λhm=>(hu.ez r hm).1 M).trans ((h.eF r (hu.hk r M)).trans (hu.eF r M))
 ·rw[cd];exact Nat.le_trans hu.size h.size
 ·exact (hu.ev.trans h.ev).trans hc
 ·exact (h.eF B (hu.sA B aS).1).trans (hu.sA B aS).2
theorem UH{P:Program}{aO:dF}(en:P.follows .mixedOrders=true){k:FuncId}{fn:Func}{c:Code}{ann:cC}{ts aV:ad}{sh:ts.ai->A aV.ai}(aU:dT P T)(h9:qN P aO)(cB:jm P bf)(cY:lW P aO Ψ)(ao:P.funcs[k]?=some fn)(W:fn.body=some c)
    (cL:DD fn c ts aV=true) {s0:ts.ai->az} {pre:ts.ai->Prop} (nb:∀ x C a w,ct C (pq ts x) a w->pre x->ct C (s0 x) a w)
    (nE:∀ x,A.le (A.ab (pre x) (eH aO T bf Ψ ann c (s0 x) (vD T fn.results.toList aV))) (sh x)):h1 P k ts aV sh:=by
  simp only[DD,Bool.and_eq_true,Bool.not_eq_true',decide_eq_true_eq]at cL;obtain⟨⟨⟨⟨DF,rm⟩,aii⟩,M2⟩,ua⟩:=cL;refine⟨uh ao W M2,λF w args x bo gr dX q1=>?_⟩;obtain⟨⟨gM,E⟩,U⟩:=nE x q1;have hlen:args.length=sD ts/\∀ i,i<sD ts->∀ (H:Nat->bJ) (κ:Nat->bC),bB P H κ F w (kt ts x i) (args.getD i Go.undef):=by
    unfold sD;split
    · rename_i e
      subst e
      have:args=[]:=dX.1
      grind
    · rename_i e
      exact⟨(tK (H:=λ_=>⟨0,.fy⟩) (κ:=λ_=>⟨0,0,0,false⟩) ts dX e).1,λi G H κ=>(tK ts dX e).2 i G⟩
  let C:b_:={ P:=P,w0:=w,F0:=F,K0:=λr=>r<w.heap.size,nt:=fn.ntmps,r:=none,dfr:=[],ia:=λ_=>none,cc:=⟨0,.cT,λ_=>False,λ_ _ _ _ _=>False⟩,aM:=aO }
  let a0:Act:={ tmps:=args.toArray++Array.replicate (fn.ntmps - args.toArray.size) undef,defers:=[] }
  let aij:Nat->bC:=λ_=>⟨0,0,0,false⟩
  have qh:∀ i,(pq ts x).ax i=.undef\/(i<sD ts/\(pq ts x).ax i=kt ts x i):=λi=>by
    rcases UD (l:=Af ts x (sD ts)) (i:=i) with e | e
    · exact .inl e
    · refine .inr ?_
      generalize bk:fr (Af ts x (sD ts)) i=z at e
      simp only[Af,List.mem_map,List.mem_range,Prod.mk.injEq]at e
      obtain⟨j,aE,rfl,rfl⟩:=e
      exact⟨aE,bk⟩
  have M:ct C (pq ts x) a0 w:=by
    refine⟨aij, F, { dG := ?_, dfr := rfl, bT := λi => ?_, bD := λb => trivial, own := λb W => (by cases W), inj := λb be W _ _ => (by cases W), da := bo, hf := λr M => .inl M, hP := λr M => M, hs := λr M => M, eF := λr _ => rfl, size := Nat.le_refl _, ev := dc.refl w,gp:=ua,ko:=λb r h=>(by cases h),jC:=λb r h=>(by cases h),j3:=λb k h=>(by cases h),kp:=λb k h=>(by cases h),eK:=λl aL L n st e=>?_,jD:=h9,iz:=gr }⟩
    · grind
    · rcases qh i with e | ⟨G,e⟩
      · rw[e];simp only[bB]
      · rw[e]
        have:a0.tmps.getD i Go.undef=args.getD i Go.undef:=by
          have dK:i<args.length:=by omega
          simp[a0,Array.getD_eq_getD_getElem?,List.getD_eq_getElem?_getD,Array.getElem?_append,dK]
        grind
    · rcases qh b5 with h | ⟨h,_⟩
      · grind
      · unfold b5 eQ at *;omega
  refine callsIn_wide.1 (callsIn_of_wp_marks (F:=Fence.wide) (n:=0) ao W trivial ?_);have hw:=UA ann C en aU cB cY (.inl rfl) (k:=vD T fn.results.toList aV) (O:=(eH aO T bf Ψ ann c (s0 x) (vD T fn.results.toList aV)).bK) (Q:=bodyPostM Fence.wide 0 P fn λe w'=>∃ v y,e=.returned v/\(sh x).bK y/\tt P aV (u3 F w w') w' v y/\Below w.heap.size w w') c (s0 x) a0 w DF (nb x C a0 w M gM) ⟨E,λ_ h=>h⟩;refine hw λu hu e s' a' w' bb hm=>?_;obtain⟨cN,au,aS⟩:=ct.UG hu bo (λ_ h=>h) bb;obtain⟨eN,κ,z1,v,y,eV,c6,aQ,F',f1,f2,gu⟩:=aie (C:={ C with dfr:=u.ms.map oH++C.dfr }) aU rm cN hm;have tV:LeavesInM Fence.wide 0 P fn a'.tmps (λe w'=>∃ v y,e=.returned v/\(sh x).bK y/\tt P aV (u3 F w w') w' v y/\Below w.heap.size w w') a'.defers .returning w':=by
    rw[au];simp only[C,List.append_nil];refine M1 u.ms w' hu.mx aS ⟨v,c6,v,y,rfl,U y aQ,?_,eV.ev.os,eV.ev.tape,eV.ev.output,eV.size,eV.eF⟩;obtain⟨aC,aP,aR,bO⟩:=gu;refine⟨aC,aP,aR,fe aV (λr M=>?_) (c1.refl _ _) bO⟩;rcases f1 r M with h | h
    · exact .inl h
    · exact .inr ⟨Nat.le_of_not_lt h,f2 r M⟩
  cases e with
  | normal=>exact tV
  | exit id=>grind
  | ret=>exact tV
theorem aik{P:Program}{aO:dF}(en:P.follows .mixedOrders=true){k:FuncId}{fn:Func}{c:Code}{ann:cC}{ts aV:ad}{sh:ts.ai->A aV.ai}(aU:dT P T)(h9:qN P aO)(cB:jm P bf)(cY:lW P aO Ψ)(ao:P.funcs[k]?=some fn)(W:fn.body=some c)
  (cL:DD fn c ts aV=true) (nE:∀ x,A.le (DA aO T bf Ψ fn c ann ts aV x) (sh x)):h1 P k ts aV sh:=
 UH en aU h9 cB cY ao W cL (ann:=ann) (s0:=pq ts) (pre:=λ_=>True) (λ_ _ _ _ h _=>h) λx aD=>⟨⟨trivial,(nE x aD).1⟩,(nE x aD).2⟩
theorem ail{C:b_}{s:az}{a:Act}{w:World}{n:Nat}(h:ct C s a w)(hc:DC n s):ct C (Hm n s) a w:=by
 obtain⟨κ,F,M⟩:=h;refine⟨κ,F,{ M with bT:=λi=>?_,dG:=M.dG,dfr:=M.dfr,bD:=M.bD,eK:=λl aL L m st e=>?_ }⟩
 ·show bB C.P s.aa κ F w (if i<n\/eQ<i then s.ax i else Hl (s.ax i)) _;split
  ·exact M.bT i
  ·rename_i G;have ae:=M.bT i;have an:=hc i G;unfold Hl;unfold DB at an;split
   ·rename_i e p he;rw[he]at ae an;have an:p.isSome=true:=an;obtain⟨_,ae⟩:=(dU rfl).1 ae;simp only[bI]at ae;rcases ae with⟨_,rfl⟩ | ⟨q,y,bj,br,rfl,aP,aR⟩
    ·cases an
    ·exact⟨q,bj,(List.cons.inj br).1,aP,aR⟩
   omega
 ·have e:(if b5<n\/eQ<b5 then s.ax b5 else Hl (s.ax b5))=.aV l aL L m st:=e;rw[if_pos (.inr (by decide))]at e;exact M.eK l aL L m st e
theorem aim{P:Program}{aO:dF}(en:P.follows .mixedOrders=true){k:FuncId}{fn:Func}{c:Code}{ann:cC}{n:Nat}{ts aV:ad}{sh:ts.ai->A aV.ai}(aU:dT P T)(h9:qN P aO)(cB:jm P bf)(cY:lW P aO Ψ)(ao:P.funcs[k]?=some fn)(W:fn.body=some c)
  (cL:DD fn c ts aV=true) (nE:∀ x,A.le (aid aO T bf Ψ fn c ann n ts aV x) (sh x)):h1 P k ts aV sh:=
 UH en aU h9 cB cY ao W cL (ann:=ann) (s0:=λx=>Hm n (pq ts x)) (pre:=λx=>DC n (pq ts x)) (λ_ _ _ _ h an=>ail h an) nE
theorem M3{H:Nat->bJ}{κ:Nat->bC}{F:Nat->Prop}{w:World}{P:Program}:∀ (g:z9') {avs l:List aG} {us:List Value},Ag g avs=some l->avs.length=us.length->(∀ i (h:i<avs.length) (ds:i<us.length),bB P H κ F w avs[i] us[i])->
  ∃ aC:List Value,CZ g us aC/\l.length=aC.length/\∀ i,i<aC.length->bB P H κ F w (l.getD i .undef) (aC.getD i undef)
 | [],[],l,us,h,aj,_=>by
  cases h;have:us=[]:=List.eq_nil_of_length_eq_zero aj.symm;subst this;exact⟨[],rfl,rfl,λi G=>by cases G⟩
 | [],_::_,_,_,h,_,_=>by cases h
 | none::_,[],_,_,h,_,_=>by cases h
 | some _::_,[],_,_,h,_,_=>by cases h
 | none::g,av::avs,l,[],_,aj,_=>by cases aj
 | some n::g,av::avs,l,[],_,aj,_=>by cases aj
 | none::g,av::avs,l,u::us,h,aj,ae=>by
  simp only[Ag]at h;split at h
  ·rename_i dH Hg;cases h;obtain⟨aC,E,U,ag⟩:=M3 g Hg (by grind) λi h ds=>ae (i+1) (Nat.succ_lt_succ h) (Nat.succ_lt_succ ds);refine⟨u::aC,⟨aC,rfl,E⟩,by grind,λi G=>?_⟩;cases i with
   | zero=>exact ae 0 (Nat.zero_lt_succ _) (Nat.zero_lt_succ _)
   | succ i=>grind
  grind
 | some n::g,av::avs,l,u::us,h,aj,ae=>by
  simp only[Ag]at h;split at h
  ·rename_i m f dH Hg;split at h
   ·rename_i Sp;cases h;subst Sp;obtain⟨aC,E,U,ag⟩:=M3 g Hg (by grind) λi h ds=>ae (i+1) (Nat.succ_lt_succ h) (Nat.succ_lt_succ ds);obtain⟨cs,aP,aR,bO⟩:bB P H κ F w (.agg m f) u:=ae 0 (Nat.zero_lt_succ _) (Nat.zero_lt_succ _);refine⟨cs++aC,⟨cs.toArray,aC,aP,by omega,λc hc=>?_,by simp,E⟩,by grind,λi G=>?_⟩
    ·obtain⟨j,aE,rfl⟩:=List.mem_iff_getElem.1 (by omega:c∈cs);grind
    grind
   grind
  grind
def ain(P:Program)(aO:dF)(T:Nat->ad)(fn:Func)(c:Code)(ic:cK):Prop:=
 ∀ (C:b_) (D:ic.cp.ai) (Q:Exit->Act->World->Prop) (a:Act) (w:World),C.P=P->C.aM=aO->C.nt=fn.ntmps->C.r=none->C.dfr=[]->lr C.nt c=true->ct C (ic.cp.st D) a w->(ic.sh D).ck->
  (∀ u,C.jN u->∀ e s' a' w',ct (C.hj u) s' a' w'->A.cx (Hn T fn.results.toList ic.kB ic.bK e s') (ic.sh D).bK->Q e.pj a' w')->c.wpIn (dS C.r) 0 C.P Q a w
theorem aio{P:Program}{aO:dF}{k:FuncId}{fn:Func}{c:Code}{ic:cK}(aU:dT P T)(ao:P.funcs[k]?=some fn)(W:fn.body=some c)
  (cL:DE fn c ic.kd ic.kB=true) (aip:ain P aO T fn c ic):cR P aO k ic:=by
 simp only[DE,Bool.and_eq_true,Bool.not_eq_true',decide_eq_true_eq]at cL;obtain⟨⟨⟨⟨DF,rm⟩,aii⟩,M2⟩,ua⟩:=cL;refine⟨uh ao W M2,λC a w κ F D jq Ai iL rf sf h9 M q1=>?_⟩;subst jq;subst Ai;subst h9;have ayn:a.tmps.size=ic.kd:=M.dG.trans sf;have eU:∀ i,(a.tmps++Array.replicate (fn.ntmps - a.tmps.size) undef).getD i undef=a.tmps.getD i undef:=λi=>by
  simp only[Array.getD_eq_getD_getElem?,Array.getElem?_append];grind
 have bb:bl { C with nt:=fn.ntmps,dfr:=[],r:=none } (ic.cp.st D) { tmps:=a.tmps++Array.replicate (fn.ntmps - a.tmps.size) undef,defers:=[] } C.w0 κ F:=
  { M with dG:=(by grind),dfr:=rfl,gp:=ua,bT:=λi=>(by rw[eU];exact M.bT i),bD:=M.bD }
 refine callsIn_wide.1 (callsIn_of_wp_marks (F:=Fence.wide) (n:=0) ao W trivial ?_);refine aip { C with nt:=fn.ntmps,dfr:=[],r:=none } D _ _ C.w0 rfl rfl rfl rfl rfl DF ⟨κ,F,bb⟩ q1 λu hu e s' a' w' bb hm=>?_;obtain⟨⟨na,ek,cN⟩,au,aS⟩:=ct.UG hu (λr h=>M.da r (M.hP r h)) M.hs bb;have key:(∀ id,e≠.exit id)/\LeavesInM Fence.wide 0 C.P fn a'.tmps (λe w'=>∃ v bm aC κ' F',e=.returned v/\(ic.sh D).bK bm/\GF ic.kB v aC/\bl { C with nt:=aC.length } (ic.bK.st bm) { tmps:=aC.toArray,defers:=[] } w' κ' F') a'.defers .returning w':=by
  unfold Hn at hm;split at hm
  ·exact (gH hm).elim
  ·rename_i eN;refine⟨λid he=>eN id he,?_⟩;split at hm
   ·rename_i avs MZ;split at hm
    ·rename_i l aj;split at hm
     ·rename_i cb;have cb:l.length<=eQ:=of_decide_eq_true cb;obtain⟨us,aP,aR,bO,gx⟩:=UC (C:={ C with nt:=fn.ntmps,dfr:=u.ms.map oH++[],r:=none }) aU cN _ MZ;obtain⟨aC,g1,ew,g3⟩:=M3 ic.kB aj (by omega) gx;obtain⟨bm,gi,bL⟩:=ud hm;have ba:=cN.args (avs:=l) (us:=aC) (by omega) ew g3;obtain⟨Hd,Um,_,my⟩:=dI.zT gi ba;rw[au];simp only[List.append_nil];have c6:(results fn a'.tmps).run C.P (pr w' u.ms)=.ok (if us.length=1 then us.getD 0 undef else .tuple us.toArray) (pr w' u.ms):=by
       rw[UB,Sem.run_bind];have:(fn.results.mapM (Ah a'.tmps)).run C.P (pr w' u.ms)=.ok us.toArray (pr w' u.ms):=by
        rw[Array.mapM_eq_mapM_toList,map_eq_pure_bind,Sem.run_bind,aP];rfl
       rw[this];simp only[Result.andThen_ok,Sem.run_pure,List.size_toArray];grind
      refine M1 u.ms w' hu.mx aS ⟨_,c6,_,bm,aC,Hd,Um,rfl,A.ea.1 bL,⟨us,?_,rfl,g1⟩,?_⟩
      ·rw[aR];simpa using rm
      ·have e:({ C with nt:=aC.length }:b_)={ C with nt:=aC.length,dfr:=[],r:=none }:=by
        cases C;simp only at iL rf;subst iL;subst rf;rfl
       rw[e];exact my
     ·exact (gH hm).elim
    ·exact (gH hm).elim
   ·exact (gH hm).elim
 cases e with
 | normal=>exact key.2
 | exit id=>grind
 | ret=>exact key.2
theorem UI{P:Program}{aO:dF}(en:P.follows .mixedOrders=true){k:FuncId}{fn:Func}{c:Code}{ann:cC}{ic:cK}(aU:dT P T)(cB:jm P bf)(cY:lW P aO Ψ)(ao:P.funcs[k]?=some fn)(W:fn.body=some c)
  (cL:DE fn c ic.kd ic.kB=true) (nE:∀ D,A.le (MY aO T bf Ψ fn c ann ic.cp ic.bK ic.kB D) (ic.sh D)):cR P aO k ic:=
 aio aU ao W cL λC D Q a w jq h9 _ iL _ DF M q1 al=>by
  subst jq;subst h9;obtain⟨E,U⟩:=nE D q1;exact UA ann C en aU cB cY (.inl iL) c (ic.cp.st D) (Hn T fn.results.toList ic.kB ic.bK) (MY C.aM T bf Ψ fn c ann ic.cp ic.bK ic.kB D).bK Q a w DF M ⟨E,λ_ h=>h⟩ λu hu e s' a' w' bb hm=>al u hu e s' a' w' bb ⟨hm.1,λy aQ=>U y (hm.2 y aQ)⟩
end
def rn:List (Nat×ad)->Nat->ad
 | [],_=>.cT
 | p::l,i=>if i=p.1 then p.2 else rn l i
def UJ(P:Program)(l:List (Nat×ad)):Bool:=l.all λp=>cG P p.2 (.inl p.1)
theorem aiq{P:Program}{l:List (Nat×ad)}(h:UJ P l=true):dT P (rn l):=by
 intro id;induction l with
 | nil=>exact .inl rfl
 | cons p l aJ=>
  simp only[UJ,List.all_cons,Bool.and_eq_true]at h;simp only[rn];split
  ·rename_i e;subst e;exact .inr h.1
  ·exact aJ h.2
end Go.Fer
namespace Go.Fer
open Go.RowKit
theorem UK{P:Program}{aO:dF}{k:FuncId}{c:cK}(h:cR P aO k c)(h9:qN P aO){ic:zK}(mk:ic.ts.ai->Nat->(List ic.aL.ai->Prop)->c.cp.ai)(aA:c.kd=j5 ic.ts+1)(hW:c.kd<=eQ)(t':ic.ts≠.cT)
    (fl:∀ x l L i,(c.cp.st (mk x l L)).ax i=.undef\/(i<j5 ic.ts/\(c.cp.st (mk x l L)).ax i=kt ic.ts x i)\/(i=j5 ic.ts/\(c.cp.st (mk x l L)).ax i=.hd l)\/(i=b5/\(c.cp.st (mk x l L)).ax i=.aV l ic.aL L [] false))
    (iD:c.cp.bD=[]) (po:∀ bm,∃ n st l L,(c.bK.st bm).ax b5=.aV l ic.aL L n st)
    (r_:∀ x l,ic.pre x->(c.sh (mk x l (λT=>T=ic.seq x))).ck/\∀ bm,(c.sh (mk x l (λT=>T=ic.seq x))).bK bm->∀ dH e6 n,(c.bK.st bm).ax b5=.aV dH ic.aL e6 n false->n=ic.seq x):C8 P k ic:=by
  refine⟨h.enter,λl I F Y w args x dX gM cL bo gr iE eA=>?_⟩;obtain⟨iA,Hb⟩:=tK (H:=λ_=>⟨0,.fy⟩) (κ:=λ_=>⟨0,0,0,false⟩) ic.ts dX t';have ui:∀ b,(c.cp.st (mk x l (λT=>T=ic.seq x))).aa b=⟨0,.fy⟩:=λb=>by
    show eP (hi c8 c.cp.bD (eC c8 c.cp.bT (mk x l (λT=>T=ic.seq x))).2) b=_;generalize (eC c8 c.cp.bT (mk x l (λT=>T=ic.seq x))).2=z;revert z;rw[iD];intro z;rfl
  have cd:(args++[Value.func (.yield l) #[] #[]]).length=c.kd:=by grind
  have M:bl { P:=P,w0:=w,F0:=F,K0:=λr=>r<w.heap.size/\¬Y r,nt:=c.kd,r:=none,dfr:=[],ia:=λ_=>none,cc:=⟨l,ic.aL,λT=>T=ic.seq x,I⟩,aM:=aO } (c.cp.st (mk x l (λT=>T=ic.seq x)))
      { tmps:=(args++[Value.func (.yield l) #[] #[]]).toArray,defers:=[] } w (λ_=>⟨0,0,0,false⟩) F:=
    { dG := by omega
      dfr:=rfl
      bT:=λi=>by
        rcases fl x l (λT=>T=ic.seq x) i with e | ⟨G,e⟩ | ⟨G,e⟩ | ⟨G,e⟩
        · rw[e];trivial
        · rw[e]
          have:=(tK (H:=(c.cp.st (mk x l (λT=>T=ic.seq x))).aa) (κ:=λ_=>⟨0,0,0,false⟩) ic.ts dX t').2 i G
          have aN:(args++[Value.func (.yield l) #[] #[]]).toArray.getD i undef=args.getD i undef:=by
            rw[Array.getD_eq_getD_getElem?,List.getD_eq_getElem?_getD,List.getElem?_toArray,List.getElem?_append_left (by omega)]
          grind
        · rw[e]
          show (args++[Value.func (.yield l) #[] #[]]).toArray.getD i undef=_
          simp_all
        · rw[e];trivial
      bD:=λb=>by unfold cF;rw[ui b];trivial
      own:=λb W=>by rw[ui b]at W;cases W
      inj:=λb be W _ _=>by rw[ui b]at W;cases W
      da:=bo
      hf:=λr M=>.inl M
      hP:=λr M=>M
      hs:=λr M=>M.1
      eF:=λ_ _=>rfl
      size:=Nat.le_refl _
      ev:=dc.refl _
      gp:=hW
      ko:=λb r h=>by cases h
      jC:=λb r h=>by cases h
      j3:=λb k h=>by cases h
      kp:=λb k h=>by cases h
      eK:=λdH kA e6 n st e=>by
        rcases fl x l (λT=>T=ic.seq x) b5 with a6 | ⟨G,_⟩ | ⟨G,_⟩ | ⟨_,a6⟩
        · grind
        · unfold b5 eQ at *;omega
        · grind
        · rw[a6]at e
          cases e
          exact⟨⟨I,rfl⟩,cL,Y,λr M=>⟨(iE r M).1,(iE r M).2,λk=>k.2 M⟩,λb W=>(by rw[ui b]at W;cases W),lL.y1.2 eA⟩
      jD:=h9,iz:=gr }
  obtain⟨aD,tV⟩:=r_ x l gM;refine (h.iU _ _ w _ F _ rfl rfl rfl rfl rfl rfl M aD).mono λe w' ⟨v,bm,aC,κ',F',he,gi,_,bb⟩=>?_;obtain⟨n,st,dH,e6,qh⟩:=po bm;obtain⟨⟨air,M4⟩,_,gD,ag,a1,M5⟩:=bb.eK dH ic.aL e6 n st qh;refine⟨v,n,st,F',gD,he,λgy=>?_,lL.y1.1 M5,bb.hP,λr cN=>?_,bb.da,λr E U=>bb.eF r ⟨E,U⟩,λr cN=>⟨?_,(ag r cN).1,(ag r cN).2.1⟩,bb.size,bb.ev⟩
  · grind
  · rcases bb.hf r cN with h | h
    · exact .inl h
    · by_cases aQ:Y r
      · exact .inr (.inl aQ)
      · exact .inr (.inr (Nat.le_of_not_lt λcb=>h ⟨cb,aQ⟩))
  grind
theorem M6{P:Program}{aO:dF}{k:FuncId}{c:cK}(h:cR P aO k c)(h9:qN P aO){cs:List ad}{aL:ad}{S:(gm (cs.map .bH)).ai->List aL.ai->Prop}(mk:(gm (cs.map .bH)).ai->Nat->(List aL.ai->Prop)->c.cp.ai)
    (aA:c.kd=j5 (gm (cs.map .bH))+1) (hW:c.kd<=eQ) (t':gm (cs.map .bH)≠.cT)
    (fl:∀ x l L i,(∃ T,S x T)->(c.cp.st (mk x l L)).ax i=.undef\/(i<j5 (gm (cs.map .bH))+1/\0<i/\∃ e y,(c.cp.st (mk x l L)).ax i=.dV e y/\kt (gm (cs.map .bH)) x (i - 1)=.val (.bH e) (some y))\/(i=0/\(c.cp.st (mk x l L)).ax i=.hd l)\/(i=b5/\(c.cp.st (mk x l L)).ax i=.aV l aL L [] false))
    (iD:c.cp.bD=[]) (po:∀ bm,∃ n st l L,(c.bK.st bm).ax b5=.aV l aL L n st)
    (r_:∀ x l,(∃ L,S x L)->(c.sh (mk x l (S x))).ck/\∀ bm,(c.sh (mk x l (S x))).bK bm->∀ dH e6 p,(c.bK.st bm).ax b5=.aV dH aL e6 p false->S x p):wW P k ⟨cs,aL,S⟩:=by
  refine⟨h.enter,λF w args x bo gr dX eN l UL Y iE ais ait=>?_⟩;have cL:=Uv ais;obtain⟨iA,Hb⟩:=tK (H:=λ_=>⟨0,.fy⟩) (κ:=λ_=>⟨0,0,0,false⟩) (gm (cs.map .bH)) dX t';have ui:∀ b,(c.cp.st (mk x l (S x))).aa b=⟨0,.fy⟩:=λb=>by
    show eP (hi c8 c.cp.bD (eC c8 c.cp.bT (mk x l (S x))).2) b=_;generalize (eC c8 c.cp.bT (mk x l (S x))).2=z;revert z;rw[iD];intro z;rfl
  have cd:(Value.func (.yield l) #[] #[]::args).length=c.kd:=by grind
  have M:bl { P:=P,w0:=w,F0:=F,K0:=λr=>r<w.heap.size/\¬Y r,nt:=c.kd,r:=none,dfr:=[],ia:=λ_=>none,cc:=⟨l,aL,S x,UL⟩,aM:=aO } (c.cp.st (mk x l (S x)))
      { tmps:=(Value.func (.yield l) #[] #[]::args).toArray,defers:=[] } w (λ_=>⟨0,0,0,false⟩) F:=
    { dG := by omega
      dfr:=rfl
      bT:=λi=>by
        rcases fl x l (S x) i eN with e | ⟨G,oy,lI,y,e,aiu⟩ | ⟨G,e⟩ | ⟨G,e⟩
        · rw[e];trivial
        · rw[e]
          have:=(tK (H:=(c.cp.st (mk x l (S x))).aa) (κ:=λ_=>⟨0,0,0,false⟩) (gm (cs.map .bH)) dX t').2 (i - 1) (by omega)
          have aN:(Value.func (.yield l) #[] #[]::args).toArray.getD i undef=args.getD (i - 1) undef:=by
            obtain⟨j,rfl⟩:∃ j,i=j+1:=⟨i - 1,by omega⟩
            simp
          rw[aN]
          rw[aiu]at this
          obtain⟨_,ae⟩:=(dU rfl).1 this
          simp only[bI]at ae
          rcases ae with⟨_,aA⟩ | ⟨q,mU,bj,br,Cp,aP,aR⟩
          · cases aA
          · cases Cp
            exact⟨q,bj,(List.cons.inj br).1,aP,aR⟩
        · rw[e]
          subst G
          rfl
        · rw[e];trivial
      bD:=λb=>by unfold cF;rw[ui b];trivial
      own:=λb W=>by rw[ui b]at W;cases W
      inj:=λb be W _ _=>by rw[ui b]at W;cases W
      da:=bo
      hf:=λr M=>.inl M
      hP:=λr M=>M
      hs:=λr M=>M.1
      eF:=λ_ _=>rfl
      size:=Nat.le_refl _
      ev:=dc.refl _
      gp:=hW
      ko:=λb r h=>by cases h
      jC:=λb r h=>by cases h
      j3:=λb k h=>by cases h
      kp:=λb k h=>by cases h
      eK:=λdH kA e6 n st e=>by
        rcases fl x l (S x) b5 eN with a6 | ⟨G,_⟩ | ⟨G,_⟩ | ⟨_,a6⟩
        · grind
        · grind
        · grind
        · rw[a6]at e
          cases e
          exact⟨⟨UL,rfl⟩,cL,Y,λr M=>⟨(iE r M).1,(iE r M).2,λk=>k.2 M⟩,λb W=>(by rw[ui b]at W;cases W),lL.y1.2 ait⟩
      jD:=h9,iz:=gr }
  obtain⟨aD,tV⟩:=r_ x l eN;have e':#[Value.func (.yield l) #[] #[]]++args.toArray=(Value.func (.yield l) #[] #[]::args).toArray:=by simp
  rw[e'];refine (h.iU _ _ w _ F _ rfl rfl rfl rfl rfl rfl M aD).mono λe w' ⟨v,bm,aC,κ',F',he,gi,_,bb⟩=>?_;obtain⟨n,st,dH,e6,qh⟩:=po bm;obtain⟨⟨air,M4⟩,_,gD,ag,a1,M5⟩:=bb.eK dH aL e6 n st qh;refine⟨v,n,st,F',gD,he,λgy=>?_,lL.y1.1 M5,bb.hP,λr cN=>?_,bb.da,λr E U=>bb.eF r ⟨E,U⟩,λr cN=>⟨?_,(ag r cN).1,(ag r cN).2.1⟩,bb.size,⟨bb.ev.os,bb.ev.tape,bb.ev.output⟩⟩
  · grind
  · rcases bb.hf r cN with h | h
    · exact .inl h
    · by_cases aQ:Y r
      · exact .inr (.inl aQ)
      · exact .inr (.inr (Nat.le_of_not_lt λcb=>h ⟨cb,aQ⟩))
  grind
end Go.Fer
namespace Go.Fer
open Go.RowKit Go.ChangeShapes Go.WideShapes
def ad.hJ:ad->Bool
 | .bool | .int _ | .str | .cT=>true
 | .st t=>t.hJ
 | .ay a b=>a.hJ&&b.hJ
 | .slice e=>e.hJ
 | _=>false
def ad.hA:(t:ad)->t.ai->Prop
 | .int k,x=>fU k x
 | .str,x=>x.length<2 ^ 63
 | .st t,x=>t.hA x
 | .ay a b,x=>a.hA x.1/\b.hA x.2
 | .slice e,xs=>xs.length<2 ^ 63/\∀ y∈xs,e.hA y
 | .array n e,xs=>xs.length=n/\∀ y∈xs,e.hA y
 | _,_=>True
theorem Aj{P:Program}{w:World}{F:Nat->Prop}:∀ (t:ad) {cs:List Value} {x:t.ai},bI P t F w cs x->t.hA x
 | .bool,_,_,_=>trivial
 | .int _,_,_,h=>h.2
 | .str,_,_,h=>h.2
 | .cT,_,_,_=>trivial
 | .st t,_,_,h=>by simp only[bI]at h;exact Aj t h
 | .ay a b,_,_,h=>by
  simp only[bI]at h;obtain⟨c,d,_,E,U⟩:=h;exact⟨Aj a E,Aj b U⟩
 | .slice e,_,xs,h=>by
  simp only[bI]at h;obtain⟨a,cap,_,E,U,ag,a1⟩:=h;refine⟨by omega,λy aQ=>?_⟩;obtain⟨i,G,rfl⟩:=List.mem_iff_getElem.1 aQ;cases a with
  | none=>have:=ag rfl;omega
  | some p=>
   obtain⟨bj,_,k⟩:=(a1 p rfl (by omega)).2.2 i G;exact Aj e k
 | .array n e,_,xs,h=>by
  simp only[bI]at h;obtain⟨fo,_,E,U,ag⟩:=h;refine⟨U,λy aQ=>?_⟩;obtain⟨i,G,rfl⟩:=List.mem_iff_getElem.1 aQ;exact Aj e (ag i G (by omega))
 | .bH _,_,_,_=>trivial
 | .map _ _,_,_,_=>trivial
 | .fn _ _,_,_,_=>trivial
 | .cr _,_,_,_=>trivial
 | .et,_,_,_=>trivial
section
variable {H:Type} {enc:TypeId×Value->H} {P:Program} {w:World}
theorem b9.cells{t:ad}{id:TypeId}(h:b9 P t id):P.cellsOf id=t.size:=by
 obtain⟨i,z,E,U,_⟩:=ks h.kr;simp[Program.cellsOf,E,U]
theorem UM{a:Addr}{n:Nat}{bj:List Value}(h:w.cells? 0 a n=some bj)(aA:0<n):a.spot=none/\a.block<w.heap.size/\bj.length=n/\∀ j (aE:j<bj.length),w.cell? ⟨a.block,a.off+j,none⟩=some bj[j]:=by
 have W:=World.cells?_block h aA;have n0:a.spot=none:=by
  unfold World.cells? at h;split at h
  ·obtain⟨m,rfl⟩:∃ m,n=m+1:=⟨n - 1,by omega⟩
   rw[List.range_succ_eq_map]at h;simp only[List.mapM_cons,Option.bind_eq_bind,Option.bind_eq_some_iff]at h;obtain⟨v,ae,_⟩:=h;cases aD:a.spot with
   | none=>rfl
   | some x=>simp[World.cell?,Addr.add,aD]at ae;split at ae<;>cases ae
  ·cases h
 unfold World.cells? at h;split at h
 ·have hlen:bj.length=n:=by
   have:∀ (l:List Nat) (r:List Value),l.mapM (λi=>w.cell? (a.add i))=some r->r.length=l.length:=by
    intro l;induction l with
    | nil=>intro r M;simp at M;subst M;rfl
    | cons x l aJ=>
     intro r M;simp only[List.mapM_cons,Option.bind_eq_bind,Option.bind_eq_some_iff,Option.pure_def,Option.some.injEq]at M;obtain⟨v,_,pY,bb,rfl⟩:=M;simp[aJ pY bb]
   simpa using this _ _ h
  refine⟨n0,W,hlen,λj aE=>?_⟩;have:∀ (l:List Nat) (r:List Value),l.mapM (λi=>w.cell? (a.add i))=some r->∀ j (E:j<l.length) (U:j<r.length),w.cell? (a.add l[j])=some r[j]:=by
   intro l;induction l with
   | nil=>intro r _ j E;simp at E
   | cons x l aJ=>
    intro r M j E U;simp only[List.mapM_cons,Option.bind_eq_bind,Option.bind_eq_some_iff,Option.pure_def,Option.some.injEq]at M;obtain⟨v,ae,pY,bb,rfl⟩:=M;cases j with
    | zero=>exact ae
    | succ j=>exact aJ pY bb j (by simpa using E) (by simpa using U)
  have E:=this _ _ h j (by simp;omega) aE;rw[<-E];have zc:a.add ((List.range n)[j]'(by simp;omega))=⟨a.block,a.off+j,none⟩:=by
   cases a;simp only at n0;subst n0;simp[Addr.add]
  rw[zc]
 ·cases h
def qn(w:World):Nat->Prop:=λr=>r<w.heap.size
def ad.oK(n:Nat):(t:ad)->t.ai->Prop
 | .st t,x=>t.oK n x
 | .ay a b,x=>a.oK n x.1/\b.oK n x.2
 | .slice e,xs=>xs.length<=n/\∀ y∈xs,e.oK n y
 | _,_=>True
structure BL(b:DataW H->Nat):Prop where
 len:∀ e s,e.length<=b (.slice e s)
 BM:∀ e s d,d∈e->b d<=b (.slice e s)
 Rc:∀ l d,d∈l->b d<=b (.agg l)
variable {b:DataW H->Nat} {N:Nat}
theorem aiv(W:BL b)(t:ad):(t.hJ=true->∀ {id:TypeId} {cj:Nat} {cs:List Value} {x:DataW H×List MemPlace},b9 P t id->DataW.trod enc P w 0 (λ_=>true) true cj id cs=some x->b x.1<=N->∃ y,bI P t (qn w) w cs y/\t.oK N y)/\
  (t.hJ=true->∀ {l:List Field} {off n:Nat} {cs:List Value},cG P t (.inr (l,off))=true->(∀ f∈l,∃ x,DataW.trod enc P w 0 (λ_=>true) true n f.type ((cs.drop f.offset).take (P.cellsOf f.type))=some x/\b x.1<=N)->∃ y,bI P t (qn w) w ((cs.drop off).take t.size) y/\t.oK N y):=by
 induction t with
 | bool=>
  refine⟨λ_ {id cj cs x} aH h _=>?_,λ_ {l off n cs} h=>by simp[cG]at h⟩;have hu:P.underlying id=some .bool:=by
   unfold b9 at aH;simp only[cG,Bool.and_eq_true]at aH;obtain⟨_,aH⟩:=aH;split at aH
   ·assumption
   ·cases aH
  obtain⟨b,rfl,_⟩:=DataW.trod_bool hu h;exact⟨_,rfl,trivial⟩
 | int k=>
  refine⟨λ_ {id cj cs x} aH h _=>?_,λ_ {l off n cs} h=>by simp[cG]at h⟩;obtain⟨n,rfl,_,hw⟩:=DataW.trod_int aH.int h;simp only[Lit.wf,Bool.and_eq_true,decide_eq_true_eq]at hw;exact⟨n,⟨rfl,hw⟩,trivial⟩
 | str=>
  refine⟨λ_ {id cj cs x} aH h _=>?_,λ_ {l off n cs} h=>by simp[cG]at h⟩;obtain⟨s,rfl,_,hw⟩:=DataW.trod_string aH.str h;refine⟨s.data.toList,⟨by simp,?_⟩,trivial⟩;have:s.data.toList.length=s.size:=by rw[Array.length_toList];rfl
  rw[this];have:maxLen<2 ^ 63:=by decide
  omega
 | cT=>exact⟨λ_ {id cj cs x} aH h _=>by simp[b9,cG]at aH,λ_ {l off n cs} h=>by simp[cG]at h⟩
 | st t aJ=>
  refine⟨λaj {id cj cs x} aH h nc=>?_,λ_ {l off n cs} h=>by simp[cG]at h⟩;have aj:t.hJ=true:=aj;have Ho:P.cellsOf id=t.size:=aH.cells;obtain⟨eT,hu⟩:=aH.st;obtain⟨xs,n,_,rfl,hlen,Sw,ao⟩:=DataW.trod_struct hu h;unfold b9 at aH;simp only[cG,Bool.and_eq_true]at aH;obtain⟨_,aH⟩:=aH;rw[hu]at aH;have jj:∀ f∈eT.toList,∃ x,DataW.trod enc P w 0 (λ_=>true) true n f.type ((cs.drop f.offset).take (P.cellsOf f.type))=some x/\b x.1<=N:=by
   intro f aiw;obtain⟨i,G,rfl⟩:=List.mem_iff_getElem.1 aiw;have dK:i<eT.size:=by simpa using G
   refine⟨xs[i]'(by omega),?_,Nat.le_trans (W.Rc _ _ (List.mem_map_of_mem (List.getElem_mem _))) nc⟩;rw[ao i _ (by simp[dK])];exact List.getElem?_eq_getElem _
  simp only at aH;split at aH
  ·have aH:=of_decide_eq_true aH;subst aH;have:cs=[]:=by
    have:=hlen.trans Ho;simpa [ad.size]using this
   subst this;exact⟨(),rfl,trivial⟩
  ·rename_i f fX;simp only[Bool.and_eq_true,beq_iff_eq,bne_iff_ne]at aH;obtain⟨⟨⟨aX,E⟩,_⟩,_⟩:=aH;obtain⟨x,ah,aix⟩:=jj f (by rw[fX];simp);have hc:P.cellsOf f.type=t.size:=b9.cells E;rw[aX,hc,List.drop_zero,List.take_of_length_le (by omega)]at ah;exact aJ.1 aj E ah aix
  ·obtain⟨y,aQ⟩:=aJ.2 aj aH jj;rw[List.drop_zero,List.take_of_length_le (by omega)]at aQ;exact⟨y,aQ⟩
 | ay a b fx eJ=>
  refine⟨λ_ {id cj cs x} aH h _=>by simp[b9,cG]at aH,λaj {l off n cs} aH h=>?_⟩;simp only[ad.hJ,Bool.and_eq_true]at aj;have join:∀ {y:a.ai} {z:b.ai},bI P a (qn w) w ((cs.drop off).take a.size) y/\a.oK N y->bI P b (qn w) w ((cs.drop (off+a.size)).take b.size) z/\b.oK N z->∃ y,bI P (.ay a b) (qn w) w ((cs.drop off).take (ad.ay a b).size) y/\(ad.ay a b).oK N y:=by
   intro y z aQ bk;refine⟨(y,z),⟨_,_,?_,aQ.1,bk.1⟩,aQ.2,bk.2⟩;simp only[ad.size];rw[List.take_add,List.drop_drop]
  match l,aH with
  | f::g::[],aH=>
   simp only[cG,Bool.and_eq_true,beq_iff_eq,bne_iff_ne]at aH;obtain⟨⟨⟨⟨aX,E⟩,_⟩,_⟩,⟨⟨⟨hk,aP⟩,_⟩,_⟩⟩:=aH;obtain⟨x,ah,aA⟩:=h f (by simp);obtain⟨dJ,nL,CA⟩:=h g (by simp);rw[aX,b9.cells E]at ah;rw[hk,b9.cells aP]at nL;obtain⟨y,aQ⟩:=fx.1 aj.1 E ah aA;obtain⟨z,bk⟩:=eJ.1 aj.2 aP nL CA;exact join aQ bk
  | f::g::e::eT,aH=>
   simp only[cG,Bool.and_eq_true,beq_iff_eq,bne_iff_ne]at aH;obtain⟨⟨⟨⟨aX,E⟩,_⟩,_⟩,aP⟩:=aH;obtain⟨x,ah,aA⟩:=h f (by simp);rw[aX,b9.cells E]at ah;obtain⟨y,aQ⟩:=fx.1 aj.1 E ah aA;obtain⟨z,bk⟩:=eJ.2 aj.2 aP λiC ri=>h iC (List.mem_cons_of_mem _ ri);exact join aQ bk
 | slice e aJ=>
  refine⟨λaj {id cj cs x} aH h nc=>?_,λ_ {l off n cs} h=>by simp[cG]at h⟩;have aj:e.hJ=true:=aj;obtain⟨i,hu,he,cd⟩:=aH.sl;have Ho:=he.cells;rcases DataW.trod_slice hu h with⟨rfl,_⟩ | ⟨a,len,cap,elems,cm,n,rfl,rfl,ah,_,UN,xd,ka,eU,UO,_⟩
  ·exact⟨[],⟨none,0,rfl,Nat.le_refl _,by decide,λ_=>rfl,λp an=>by cases an⟩,Nat.zero_le _,λy aQ=>by cases aQ⟩
  ·rw[ah]at nc;have lj:0<P.cellsOf i:=by rw[Ho];omega
   have key:∀ j,j<len->∃ bj y,w.cells? 0 (a.add (j*P.cellsOf i)) (P.cellsOf i)=some bj/\bI P e (qn w) w bj y/\e.oK N y:=by
    intro j aE;have:=eU j aE;rw[List.getElem?_eq_getElem (by omega)]at this;obtain⟨bj,E,U⟩:=Option.bind_eq_some_iff.1 this;obtain⟨y,aQ⟩:=aJ.1 aj he U (Nat.le_trans (W.BM _ _ _ (List.mem_map_of_mem (List.getElem_mem _))) nc);exact⟨bj,y,E,aQ⟩
   have aiy:0<cap->a.spot=none/\a.block<w.heap.size:=by
    intro hc;have:∃ bj,w.cells? 0 (a.add (0*P.cellsOf i)) (P.cellsOf i)=some bj:=by
     by_cases Ku:0<len
     ·obtain⟨bj,_,E,_⟩:=key 0 Ku;exact⟨bj,E⟩
     ·obtain⟨m1,m2⟩:=UO rfl;have bk:len=0:=by omega
      subst bk;have:=m2 0 (by omega);rw[List.getElem?_eq_getElem (by omega)]at this;obtain⟨bj,E,_⟩:=Option.bind_eq_some_iff.1 this;exact⟨bj,E⟩
    obtain⟨bj,E⟩:=this;have aw:a.add (0*P.cellsOf i)=a:=by unfold Addr.add;simp
    rw[aw]at E;obtain⟨aP,aR,_⟩:=UM E lj;exact⟨aP,aR⟩
   have:∃ ys:List e.ai,ys.length=len/\∀ j (aE:j<ys.length),∃ bj,w.cells? 0 (a.add (j*P.cellsOf i)) (P.cellsOf i)=some bj/\bI P e (qn w) w bj ys[j]/\e.oK N ys[j]:=by
    clear eU ka h UN UO nc;induction len with
    | zero=>exact⟨[],rfl,λj aE=>by simp at aE⟩
    | succ m aiz=>
     obtain⟨ys,j8,cV⟩:=aiz λj aE=>key j (by omega);obtain⟨bj,y,E,U⟩:=key m (by omega);refine⟨ys++[y],by simp[j8],λj aE=>?_⟩;by_cases xg:j<ys.length
     ·rw[List.getElem_append_left xg];exact cV j xg
     ·have:j=m:=by simp at aE;omega
      subst this;refine⟨bj,E,?_⟩;rw[List.getElem_append_right (by omega)];simpa [j8]using U
   have aiA:len<=N:=by have:=W.len (elems.map (·.1)) (cm.map (·.1));rw[List.length_map,ka]at this;exact Nat.le_trans this nc
   obtain⟨ys,rfl,j8⟩:=this;have zp:maxLen<2 ^ 63:=by decide
   refine⟨ys,⟨some a,cap,rfl,UN,by omega,(by simp),λp an u6=>?_⟩,aiA,λy aQ=>by
    obtain⟨j,aE,rfl⟩:=List.mem_iff_getElem.1 aQ;obtain⟨bj,_,E,U⟩:=j8 j aE;exact U⟩
   cases an;obtain⟨aP,aR⟩:=aiy u6;refine⟨aR,aP,λj aE=>?_⟩;obtain⟨bj,d1,d2,_⟩:=j8 j aE;obtain⟨m1,m2,m3,m4⟩:=UM d1 lj;refine⟨bj,⟨aR,rfl,λq br=>?_⟩,d2⟩;have:=m4 q br;have aw:a.add (j*P.cellsOf i)=⟨a.block,a.off+j*e.size,none⟩:=by
    rw[Ho];cases a;simp only at aP;subst aP;unfold Addr.add;split
    ·rename_i aX;simp[aX]
    ·rfl
   rw[aw]at this;exact this
 | array n e aJ=>exact⟨λh=>by simp[ad.hJ]at h,λh=>by simp[ad.hJ]at h⟩
 | bH e aJ=>exact⟨λh=>by simp[ad.hJ]at h,λh=>by simp[ad.hJ]at h⟩
 | map k v wT wU=>exact⟨λh=>by simp[ad.hJ]at h,λh=>by simp[ad.hJ]at h⟩
 | fn a b fx eJ=>exact⟨λh=>by simp[ad.hJ]at h,λh=>by simp[ad.hJ]at h⟩
 | cr a aJ=>exact⟨λh=>by simp[ad.hJ]at h,λh=>by simp[ad.hJ]at h⟩
 | et=>exact⟨λh=>by simp[ad.hJ]at h,λh=>by simp[ad.hJ]at h⟩
theorem UP(W:BL b){t:ad}(aj:t.hJ=true){id:TypeId}(aH:b9 P t id){base:Nat}{v:Value}{d:DataW H}{ps:List MemPlace}(cL:Value.okWide P w .any base id v)
  (h:DataW.Trod enc P w 0 (λ_=>true) true id v d ps) (nc:b d<=N):∃ y,eu P t (qn w) w v y/\t.oK N y:=by
 obtain⟨n,aA⟩:=h;obtain⟨y,aQ,ao⟩:=(aiv W t).1 aj aH aA nc;refine⟨y,⟨?_,aQ⟩,ao⟩;cases t with
 | bool=>
  simp only[bI]at aQ;have hu:P.underlying id=some .bool:=by
   unfold b9 at aH;simp only[cG,Bool.and_eq_true]at aH;obtain⟨_,aH⟩:=aH;split at aH
   ·assumption
   ·cases aH
  simp only[Value.okWide,hu,Cell.okWide,Cell.ok]at cL;cases v<;>first | rfl | exact cL.elim
 | int k=>
  simp only[Value.okWide,aH.int,Cell.okWide,Cell.ok]at cL;cases v<;>first | rfl | exact cL.elim
 | str=>
  simp only[Value.okWide,aH.str,Cell.okWide,Cell.ok]at cL;cases v<;>first | rfl | exact cL.elim
 | cT=>simp[b9,cG]at aH
 | st t=>
  obtain⟨eT,hu⟩:=aH.st;simp only[Value.okWide,hu]at cL;obtain⟨cs,rfl,hc,_⟩:=cL;exact⟨cs,rfl,hc.trans aH.cells⟩
 | ay a b=>simp[b9,cG]at aH
 | slice e=>
  obtain⟨i,hu,_⟩:=aH.sl;simp only[Value.okWide,hu,Cell.okWide,Cell.ok]at cL;cases v<;>first | rfl | exact cL.elim
 | array n e=>simp[ad.hJ]at aj
 | bH e=>simp[ad.hJ]at aj
 | map k v=>simp[ad.hJ]at aj
 | fn a b=>simp[ad.hJ]at aj
 | cr a=>simp[ad.hJ]at aj
 | et=>simp[ad.hJ]at aj
def xV(P:Program):List TypeId->ad->Bool
 | [id],t=>cG P t (.inl id)&&t.hJ
 | id::ids,.ay a b=>cG P a (.inl id)&&a.hJ&&xV P ids b
 | _,_=>false
theorem UQ(W:BL b):∀ (ids:List TypeId) (ts:ad) {base:Nat} {aC:List Value} {bj:List (DataW H)} {ps:List MemPlace},xV P ids ts=true->DataW.TrodAll enc P w 0 (λ_=>true) true ids aC bj ps->
  (∀ (j:Nat) t v,ids[j]?=some t->aC[j]?=some v->Value.okWide P w .any base t v)->(∀ d∈bj,b d<=N)->∃ x,fp P ts (qn w) w aC x/\ts.oK N x
 | [],ts,_,aC,bj,ps,h,_,_,_=>by simp[xV]at h
 | [id],t,_,aC,bj,ps,h,ij,cL,nc=>by
  simp only[xV,Bool.and_eq_true]at h;obtain⟨v0,M7,d0,M8,FQ,Ce,rfl,rfl,rfl,aX,sE⟩:=trodAll_cons ij;obtain⟨rfl,rfl,rfl⟩:=trodAll_nil sE;obtain⟨y,⟨xJ,sv⟩,ao⟩:=UP W h.2 h.1 (cL 0 id v0 rfl rfl) aX (nc _ (List.mem_cons_self ..));refine⟨y,⟨?_,by simpa [ej]using sv⟩,ao⟩;cases t<;>first | exact⟨v0,rfl,xJ⟩ | (simp[cG]at h;done)
 | id::aiB::ids,ts,base,aC,bj,ps,h,ij,cL,nc=>by
  cases ts with
  | ay a b=>
   simp only[xV,Bool.and_eq_true]at h;obtain⟨v0,M7,d0,M8,FQ,Ce,rfl,rfl,rfl,aX,sE⟩:=trodAll_cons ij;obtain⟨y,⟨xJ,sv⟩,ao⟩:=UP W h.1.2 h.1.1 (cL 0 id v0 rfl rfl) aX (nc _ (List.mem_cons_self ..));obtain⟨z,⟨aiC,aiD⟩,aB⟩:=UQ W (aiB::ids) b h.2 sE (λj t v E U=>cL (j+1) t v (by simpa using E) (by simpa using U)) λd au=>nc d (List.mem_cons_of_mem _ au);exact⟨(y,z),⟨⟨xJ,aiC⟩,_,_,JV _ _,sv,aiD⟩,ao,aB⟩
  | _=>simp[xV]at h
theorem UR(aj:laidOutB P=true){w':World}{US:Nat->Bool}:∀ (ids:List TypeId) {aC:List Value} {bj:List (DataW H)} {ps:List MemPlace},(ids.all λt=>P.readableRec t&&decide (t<P.types.size))=true->
  DataW.TrodAll enc P w 0 (λ_=>true) true ids aC bj ps->(∀ p∈ps,w.sameAt w' p)->(∀ p∈ps,US p.block=true)->DataW.TrodAll enc P w' 0 US true ids aC bj ps
 | [],_,_,_,_,h,_,_=>by
  obtain⟨rfl,rfl,rfl⟩:=trodAll_nil h;rfl
 | id::ids,aC,bj,ps,M,h,E,U=>by
  simp only[List.all_cons,Bool.and_eq_true,decide_eq_true_eq]at M;obtain⟨v0,M7,d0,M8,FQ,Ce,rfl,rfl,rfl,aX,sE⟩:=trodAll_cons h;exact trodAll_cons_mk (Go.WideElems.Trod_stays aj M.1.1 M.1.2 aX (λp an=>E p (List.mem_append_left _ an)) (λp an=>U p (List.mem_append_left _ an)))
   (UR aj ids M.2 sE (λp an=>E p (List.mem_append_right _ an)) (λp an=>U p (List.mem_append_right _ an)))
theorem acH(W:BL b){k:FuncId}{fn:Func}{ts:ad}{sh:ts.ai->A (ad.bool).ai}{spec:ChangeSpec}{rt:TypeId}(aiE:laidOutB P=true)(xh:h1 P k ts .bool sh)(aiF:∀ x,ts.hA x->ts.oK N x->A.cx (sh x) λy=>y=true)
  (dX:xV P fn.params.toList ts=true) (aiG:(fn.params.toList.all λt=>P.readableRec t&&decide (t<P.types.size))=true) (gu:fn.resultTypes=#[rt]) (aiH:P.underlying rt=some .bool)
  (ae:spec.vars=[]) (tp:∀ (H:Type) (bj:List (DataW H)),bj.length=fn.params.size->spec.fn H bj={ results:=[.lit (.bool true)],args:=bj })
  {base:Nat} {args:Array Value} {bj gs:List (DataW H)} {before:List MemPlace} (xW:∀ (j:Nat) t v,fn.params[j]?=some t->args[j]?=some v->Value.okWide P w .any base t v)
  (wP:DataW.Whole enc P fn.params.toList spec.vars false w args.toList bj gs before) (nc:∀ d∈bj,b d<=N) (gr:nG P (qn w) w:=by exact λb W=>absurd (show b<0 from W) (Nat.not_lt_zero b)) :
  Calls P k args w λe ql=>∃ v,e=.returned v/\spec.post enc P fn false true false false w args v ql:=by
 have cb:=wP.lt;have UT:=wP;obtain⟨p,q,ij,M9,rfl,tF,_⟩:=wP;have br:gs=[]/\q=[]:=by
  rw[ae]at M9;cases gs with
  | nil=>exact⟨rfl,M9⟩
  | cons _ _=>exact M9.elim
 obtain⟨rfl,rfl⟩:=br;simp only[List.append_nil]at UT cb tF;obtain⟨x,ah,ao⟩:=UQ W fn.params.toList ts dX ij (λj t v E U=>xW j t v (by simpa using E) (by simpa using U)) nc;obtain⟨aD,af⟩:=aiF x (Aj ts ah.2) ao;have vg:bj.length=fn.params.size:=by
  have:∀ (ids:List TypeId) {aC:List Value} {bj:List (DataW H)} {ps:List MemPlace},DataW.TrodAll enc P w 0 (λ_=>true) true ids aC bj ps->bj.length=ids.length:=by
   intro ids;induction ids with
   | nil=>intro aC bj ps h;obtain⟨rfl,rfl,rfl⟩:=trodAll_nil h;rfl
   | cons id ids aJ=>intro aC bj ps h;obtain⟨v0,M7,d0,M8,FQ,Ce,rfl,rfl,rfl,aX,sE⟩:=trodAll_cons h;simp[aJ sE]
  simpa using this _ ij
 have hc:=xh.iU (qn w) w args.toList x (λ_ h=>h) gr ah aD;refine hc.mono λe ql ⟨v,y,he,aQ,M,W⟩=>?_;have aQ:=af y aQ;subst aQ;obtain⟨aC,b4,cv⟩:=M;have aiI:v=.bool true:=by
  simp only[yZ]at b4;subst b4;obtain⟨⟨u,hu,nE⟩,nM⟩:=cv;simp only[List.cons.injEq,and_true]at hu;subst hu;simp only[kM]at nE;simp only[JV,nE,acM,bI]at nM;simpa using nM
 subst aiI;have q3:∀ p'∈p,w.sameAt ql p':=by
  intro p' an;have E:=W.block _ (cb p' an);cases p' with
  | cell b off=>simp only[World.sameAt,World.cell?];simp only[MemPlace.block]at E;rw[E]
  | map b=>exact E
 refine⟨_,he,bj,[],p,[],p,[],UT,?_,?_,?_,?_,λh=>by cases h⟩
 ·rw[List.append_nil,tp H bj vg,gu];exact trodAll_cons_mk (shut_bool aiH true) trodAll_mk0
 ·rw[List.append_nil,tp H bj vg];exact UR aiE _ aiG ij q3 λp' an=>by simpa using cb p' an
 ·rw[ae,List.append_nil,tp H bj vg];rfl
 ·refine⟨W.os,W.output,λi G=>?_⟩;have E:=W.block i G;rw[E];exact (World.keptBut_refl w λHp=>Hp∈p/\(Hp∈[]\/Hp∈p\/Hp∈[])).2.2 i G
end
end Go.Fer
namespace Go.Fer.oe
open Go.Proofs
abbrev t2:ad:=.int .i64
abbrev t3:ad:=.int .i64
abbrev t4:ad:=.bool
abbrev t5:ad:=.int .u8
abbrev aiJ:ad:=.int .u8
abbrev aiK:ad:=.st (.ay t2 (.ay t3 (.ay t4 aiJ)))
abbrev t9:ad:=.str
abbrev aiL:ad:=.str
abbrev aiM:ad:=.str
abbrev t21:ad:=.int .i32
abbrev xX:ad:=.st (.ay t3 t3)
abbrev Ak:ad:=.st (.ay t3 (.ay t3 xX))
abbrev t22:ad:=.slice Ak
abbrev eX:ad:=.slice t3
abbrev Al:ad:=.st (.ay t3 (.ay eX xX))
abbrev Hq:ad:=.slice Al
abbrev vF:ad:=.st Hq
abbrev DG:ad:=.slice vF
abbrev tn:ad:=.st (.ay t3 (.ay t3 (.ay t3 t3)))
abbrev Hr:ad:=.slice tn
abbrev n1:ad:=.st (.ay t22 (.ay DG (.ay t3 Hr)))
abbrev xY:ad:=.st (.ay t3 (.ay t3 (.ay t3 (.ay t3 eX))))
abbrev t28:ad:=.slice xY
abbrev vG:ad:=.st (.ay eX (.ay xX (.ay t3 (.ay t3 t3))))
abbrev Hs:ad:=.slice vG
abbrev rp:ad:=.st (.ay t3 (.ay t3 t3))
abbrev Am:ad:=.slice rp
abbrev t32:ad:=.st (.ay n1 (.ay eX (.ay t28 (.ay Hs (.ay Am t3)))))
abbrev qo:ad:=.slice xX
abbrev jb:ad:=.st (.ay t3 (.ay t3 (.ay t3 (.ay t3 (.ay t3 t3)))))
abbrev n2:ad:=.slice jb
abbrev M_:ad:=.st (.ay t3 (.ay t3 (.ay t3 (.ay t3 (.ay t3 (.ay t3 t3))))))
abbrev tm:ad:=.st (.ay qo (.ay n2 (.ay eX (.ay qo M_))))
abbrev wQ:ad:=.st (.ay t32 tm)
abbrev aiN:ad:=.int .i64
abbrev UU:ad:=.slice t9
abbrev aiO:ad:=.st (.ay t3 (.ay t3 (.ay t3 t3)))
abbrev aiP:ad:=.st (.ay t3 (.ay t3 (.ay t3 (.ay t3 (.ay t3 (.ay t3 (.ay t3 t3)))))))
abbrev qp:ad:=.st wQ
abbrev t105:ad:=.bH qp
abbrev UW:ad:=.et
abbrev M':ad:=.st (.ay t3 (.ay t4 UW))
abbrev Na:ad:=.map t9 M'
abbrev DH:ad:=.slice eX
abbrev xZ:ad:=.st (.ay n1 DH)
abbrev UX:ad:=.bH xZ
abbrev Nb:ad:=.fn t3 t3
abbrev qq:ad:=.st (.ay jb t3)
abbrev Nc:ad:=.slice qq
abbrev Nd:ad:=.array 10 Nc
abbrev DI:ad:=.st (.ay eX Nd)
abbrev pt:ad:=.bH DI
abbrev Nf:ad:=.slice pt
abbrev rq:ad:=.st (.ay tm (.ay n2 Nf))
abbrev vH:ad:=.bH rq
abbrev UY:ad:=.fn t3 t4
abbrev aiQ:ad:=.fn vH t4
abbrev aiR:ad:=.fn (.ay jb t3) t4
abbrev t138:ad:=.cr (.ay jb t3)
abbrev UZ:ad:=.fn pt (.ay t3 t4)
abbrev Ht:ad:=.map t3 t3
abbrev Ng:ad:=.cr t3
abbrev aiS:ad:=.cr t3
abbrev U0:ad:=.st (.ay t3 t3)
abbrev U1:ad:=.slice U0
abbrev U2:ad:=.st (.ay t3 (.ay t3 t3))
abbrev U3:ad:=.map U2 t3
abbrev t222:ad:=.st (.ay t32 (.ay U1 U3))
abbrev oL:ad:=.bH t222
abbrev aiT:ad:=.fn eX t4
abbrev t164:ad:=.cr eX
abbrev U4:ad:=.st (.ay t3 (.ay t3 t3))
abbrev aiU:ad:=.slice U4
abbrev t171:ad:=.slice t5
abbrev U5:ad:=.fn vG t4
abbrev U6:ad:=.fn tn t4
abbrev Nh:ad:=.fn jb t4
abbrev t228:ad:=.int .u64
abbrev aiV:ad:=.slice t3
abbrev aiW:ad:=.bH n1
abbrev aiX:ad:=.bH vF
abbrev aiY:ad:=.array 4 t9
abbrev U7:ad:=.st (.ay t3 (.ay t3 t3))
abbrev aiZ:ad:=.map U7 t3
abbrev Hu:ad:=.map t3 jb
abbrev ai0:ad:=.int .u32
abbrev U8:ad:=.int .u64
abbrev U9:ad:=.fn xY t4
abbrev U_:ad:=.fn rp t4
abbrev U':ad:=.fn Al t4
abbrev Va:ad:=.slice n2
abbrev Vb:ad:=.fn Ak t4
abbrev Vc:ad:=.fn vF t4
abbrev DJ:ad:=.fn (.ay qq qq) t3
abbrev ai1:ad:=.int .i64
abbrev ai2:ad:=.slice DH
abbrev ai3:ad:=.int .i64
abbrev Vd:ad:=.int .u64
abbrev ai4:ad:=.bH t3
abbrev Ve:ad:=.st (.ay jb t3)
abbrev ai5:ad:=.slice Ve
abbrev Vf:ad:=.st (.ay t3 eX)
abbrev ai6:ad:=.slice Vf
abbrev ai7:ad:=.bH t5
abbrev ai8:ad:=.array 24 t5
abbrev ai9:ad:=.bH Vd
abbrev ai_:ad:=.slice Am
abbrev ai':ad:=.array 256 t5
abbrev Vg:ad:=.st (.ay t5 t5)
abbrev aja:ad:=.array 16 Vg
abbrev Vh:ad:=.st t9
abbrev ajb:ad:=.bH Vh
abbrev ajc:ad:=.array 20 U8
abbrev ajd:ad:=.array 65 t5
abbrev aje:ad:=.array 32 t5
abbrev ajf:ad:=.array 64 t5
abbrev ajg:ad:=.int .u8
def vI:List (Nat×ad):=[(2,t2),(3,t3),(4,t4),(5,t5),(8,aiK),(9,t9),(10,aiL),(11,aiM),(21,t21),(22,t22),(23,DG),(24,Hr),(26,n1),(27,eX),(28,t28),(29,Hs),(30,Am),(32,t32),(33,qo),(34,n2),(36,M_),(38,tm),(40,wQ),(42,tn),(44,aiN),(48,UU),(58,xX),(63,aiO),(74,aiP),(87,vG),(91,rp),(93,xY),(105,t105),(107,Na),(111,qp),(115,UX),(121,DH),(123,xZ),(125,jb),(128,Nb),(130,vH),(133,UY),(134,aiQ),(137,pt),(138,t138),(140,UZ),(141,Nc),(142,Nd),(144,qq),(148,Ht),(149,Nf),(151,rq),(153,Ng),(154,aiS),(157,oL),(162,aiT),(164,t164),(165,aiU),(171,t171),(177,U5),(188,UW),(190,M'),(196,Ak),(197,Hq),(199,vF),(201,Al),(203,U6),(209,Nh),(215,aiR),(217,DI),(219,U3),(220,U1),(222,t222),(224,U2),(227,U0),(228,t228),(235,U4),(237,aiV),(249,aiW),(253,aiX),(261,aiY),(269,aiZ),(271,U7),(273,Hu),(282,ai0),(285,U8),(289,U9),(290,U_),(297,U'),(298,Va),(304,Vb),(306,Vc),(311,DJ),(313,ai1),(336,ai2),(351,ai3),(359,Vd),(363,ai4),(368,ai5),(372,Ve),(374,ai6),(380,ai7),(386,ai8),(398,ai9),(402,Vf),(403,ai_),(408,ai'),(410,Vg),(411,aja),(414,ajb),(416,Vh),(418,ajc),(419,ajd),(423,aje),(424,ajf),(432,ajg)]
theorem l0:dT Tryz.prog (rn vI):=aiq (by kernel_rfl)
theorem Hv:Tryz.prog.follows .mixedOrders=true:=by kernel_rfl
def x0(_:Nat):Option aK:=none
theorem Hw:jm Tryz.prog x0:=λk c h=>by cases h
def dD:dF:={ tu:=λ_=>none,tv:=λ_=>none }
theorem mz:qN Tryz.prog dD where
 tu:=λk v h=>by cases h
 tv:=λk v h=>by cases h
end Go.Fer.oe
namespace Go.Fer
open Go.RowKit
def hG.kC(c:hG):aK:=⟨c.ts,.ay c.aV .cT,λx=>(c.sh x).ck,λx=>((c.sh x).val c.aV.de,())⟩
end Go.Fer
namespace Go.Fer
theorem A.ajh{ak:Type}{p:Prop}{m n:A ak}(h:n.ck->p)(k:A.le m n):A.le (A.ab p m) n:=λaD=>⟨⟨h aD,(k aD).1⟩,(k aD).2⟩
theorem rr{ak:Type}{o:Option ak}{x:ak}(h:o=some x):o.isSome=true:=by rw[h];rfl
def Ni(ts:ad)(x:ts.ai)(n:Nat):Nat->Prop
 | 0=>True
 | k+1=>Ni ts x n k/\DB (kt ts x (n+k))
theorem Vi{ts:ad}{x:ts.ai}{n:Nat}:∀ {k:Nat},Ni ts x n k->∀ i,i<k->DB (kt ts x (n+i))
 | 0,_,i,h=>by omega
 | k+1,hc,i,h=>by
  by_cases e:i=k
  ·rw[e];exact hc.2
  ·exact Vi hc.1 i (by omega)
theorem Vj(ts:ad)(x:ts.ai):∀ (l:List Nat) (i:Nat),fr (l.map λi=>(i,kt ts x i)) i=if i∈l then kt ts x i else .undef
 | [],i=>by simp[fr]
 | j::l,i=>by
  simp only[List.map_cons,fr];by_cases e:i=j
  ·subst e;simp
  ·rw[if_neg e,Vj ts x l i];simp[e]
theorem sF{ts:ad}{x:ts.ai}{n:Nat}(h:Ni ts x n (sD ts - n)):DC n (pq ts x):=λi G=>by
 show DB (fr (Af ts x (sD ts)) i);unfold Af;rw[Vj];split
 ·rename_i hm;rw[List.mem_range]at hm;have aA:¬i<n:=λh=>G (.inl h);have:=Vi h (i - n) (by omega);rwa [show n+(i - n)=i by omega]at this
 ·trivial
end Go.Fer
namespace Go.Fer
open A (V)
theorem bz{n:Int}(E:-9223372036854775808<=n)(U:n<9223372036854775808):IntKind.i64.wrap n=n:=by
 show (if (true&&decide (n % 2 ^ 64>=(2 ^ (64 - 1):Int)))=true then n % 2 ^ 64 - 2 ^ 64 else n % 2 ^ 64)=n;grind
theorem ch(a b:Int):Add.add a b=a+b:=rfl
theorem hX(a b:Nat):Add.add a b=a+b:=rfl
theorem Nj{ak:Type}(a b:List ak):Append.append a b=a++b:=rfl
theorem bV(n:Nat):Int.ofNat n=(n:Int):=rfl
theorem qt{x c d:Bool}:(x||!(if (!x)=true then c else d))=(x||!c):=by grind
theorem Vk{x c d:Bool}:(x||(if (!x)=true then c else d))=(x||c):=by grind
theorem vJ{x c d:Bool}:(x&&(if x=true then c else d))=(x&&c):=by grind
namespace A
variable {ak β gC D aI:Type}
theorem bq{m:A ak}{p:Prop}{v:ak}(h:p->m=pure v):le m (dR p v):=λan=>by
 rw[h an];exact⟨trivial,λ_ aQ=>aQ⟩
theorem sG{m:A ak}{p:Prop}{v:ak}(h:p->cx m λy=>y=v):le m (dR p v):=λan=>h an
theorem gz{p:Prop}{v d:ak}:(dR p v).val d=v:=by
 unfold val;have h:∃ x,(dR p v).bK x:=⟨v,rfl⟩
 rw[dif_pos h];exact h.choose_spec
theorem fB{v d:ak}:(pure v).val d=v:=gz (p:=True)
theorem mA{p:Prop}{v:ak}:(dR p v).ck=p:=rfl
theorem vK{p:Prop}{v:ak}:(dR p v).CL:=λ_ _ h k=>h.trans k.symm
theorem jc{g:Bool}{p:Prop}{v d:ak}:cq g (dR p v) d=dR (g=true->p) (if g=true then v else d):=by
 cases g
 ·exact (bR (by simp) _).symm
 ·simp[cq]
theorem kE{g:Bool}{v d:ak}:cq g (pure v) d=pure (if g=true then v else d):=by cases g<;>rfl
theorem bY{f:D->A β}{x:D}:V.bx f (.next x:V D β)=f x:=rfl
theorem pv{f:D->A β}{r:β}:V.bx f (.done r:V D β)=pure r:=rfl
end A
def eY{ak β aI:Type}(f:ak->β->V β aI)(fin:β->aI):List ak->β->aI
 | [],b=>fin b
 | x::l,b=>match f x b with
  | .next be=>eY f fin l be
  | .done r=>r
def V.hl{D β aI:Type}(g:β->D):V β aI->V D aI
 | .next b=>.next (g b)
 | .done r=>.done r
theorem A.f_{ak β D aI:Type}{body:D->A (V D aI)}{s0:D}(l:List ak)(mk:Nat->β->D)(f:ak->β->V β aI)(fin:β->aI)(I:Nat->β->Prop)(b:β)(nb:s0=mk 0 b)(aX:I 0 b)
  (aD:∀ i (h:i<l.length) b,I i b->body (mk i b)=A.pure (V.hl (mk (i+1)) (f l[i] b))/\∀ be,f l[i] b=.next be->I (i+1) be)
  (ao:∀ b,I l.length b->body (mk l.length b)=A.pure (.done (fin b))):A.loop body s0=A.pure (eY f fin l b):=by
 subst nb;have key:∀ (k:Nat) (r:List ak) (b:β),k<=l.length->r=l.drop k->I k b->A.loop body (mk k b)=A.pure (eY f fin r b):=by
  intro k r;induction r generalizing k with
  | nil=>
   intro b al M eA;have:k=l.length:=by have:=congrArg List.length M;grind
   subst this;exact A.rZ (ao b eA)
  | cons x r aJ=>
   intro b al M eA;have cb:k<l.length:=by
    grind
   rw[List.drop_eq_getElem_cons cb]at M;injection M with ah M
   obtain⟨E,U⟩:=aD k cb b eA;rw[<-ah]at E U;simp only[eY];cases ri:f x b with
   | next be=>
    rw[ri]at E;rw[A.yY E];grind
   | done pY=>
    rw[ri]at E;exact A.rZ E
 grind
theorem A.dt{ak β D aI:Type}{body:D->A (V D aI)}{s0:D}(l:List ak)(mk:Nat->β->D)(f:ak->β->V β aI)(fin:β->aI)(b:β)(nb:s0=mk 0 b)
  (aD:∀ i (h:i<l.length) b,body (mk i b)=A.pure (V.hl (mk (i+1)) (f l[i] b)))
  (ao:∀ b,body (mk l.length b)=A.pure (.done (fin b))):A.loop body s0=A.pure (eY f fin l b):=
 A.f_ l mk f fin (λ_ _=>True) b nb trivial (λi h b _=>⟨aD i h b,λ_ _=>trivial⟩) λb _=>ao b
section
variable {ak β aI:Type}
theorem rs{p:ak->Bool}{r:aI}{fin:β->aI}:∀ (l:List ak) (b:β),eY (λx b=>if p x=true then .done r else .next b) fin l b=if l.any p=true then r else fin b
 | [],b=>by rfl
 | x::l,b=>by
  simp only[eY,List.any_cons,Bool.or_eq_true];by_cases h:p x=true
  ·simp[h]
  ·have h:p x=false:=by grind
   simp only[h,Bool.false_eq_true,if_false,false_or];exact rs l b
theorem Hx{p:ak->Bool}{r:aI}{fin:β->aI}:∀ (l:List ak) (b:β),eY (λx b=>if p x=true then .next b else .done r) fin l b=if l.all p=true then fin b else r
 | [],b=>by rfl
 | x::l,b=>by
  simp only[eY,List.all_cons,Bool.and_eq_true];by_cases h:p x=true
  ·simp only[h,if_true,true_and];exact Hx l b
  grind
theorem dP{h:β->ak->β}{fin:β->aI}:∀ (l:List ak) (b:β),eY (λx b=>.next (h b x)) fin l b=fin (l.foldl h b)
 | [],b=>rfl
 | x::l,b=>by simp only[eY,List.foldl_cons];exact dP l (h b x)
theorem Nk{p:ak->Bool}:∀ (l:List ak) (b:List ak),l.foldl (λb x=>if p x=true then b++[x] else b) b=b++l.filter p
 | [],b=>by simp
 | x::l,b=>by
  simp only[List.foldl_cons,List.filter_cons];rw[Nk l];grind
theorem uj{gC:Type}{g:ak->gC}:∀ (l:List ak) (b:List gC),l.foldl (λb x=>b++[g x]) b=b++l.map g
 | [],b=>by simp
 | x::l,b=>by simp only[List.foldl_cons,List.map_cons];rw[uj l];simp
end
theorem Vl{ak:Type}{p q:ak->Bool}(h:∀ x,p x=!q x)(l:List ak):l.any p=!l.all q:=by
 grind
theorem kg{ak β aI:Type}{p q:ak->Bool}{r:aI}{fin:β->aI}(l:List ak)(b:β)(h:∀ x,p x=!q x):eY (λx b=>if p x=true then .done r else .next b) fin l b=if l.all q=true then fin b else r:=by
 rw[rs,Vl h];grind
theorem l1{D β aI:Type}{c:Bool}{mk:β->D}{b:β}{r:aI}:(if c=true then A.pure (V.done r) else A.pure (V.next (mk b)))=A.pure (V.hl mk (if c=true then .done r else .next b)):=by cases c<;>rfl
theorem Vm{D β aI:Type}{c:Bool}{mk:β->D}{b:β}{r:aI}:(if c=true then A.pure (V.done r) else A.pure (V.next (mk b)))=A.pure (V.hl mk (if c=true then .done r else .next b)):=by cases c<;>rfl
theorem cU{l:Nat}{i:Nat}(h:i<l):decide ((i:Int)<(l:Int))=true:=by grind
theorem cM{l:Nat}{i:Nat}(h:i<l):((0:Int)<=(i:Int)/\(i:Int)<(l:Int))=True:=by grind
theorem df{ak:Type}{l:List ak}{i:Nat}{d:ak}(h:i<l.length):l.getD (Int.toNat (i:Int)) d=l[i]:=by
 grind
theorem x1{ak:Type}{l:List ak}{i:Int}{d:ak}(aX:0<=i)(h:i<(l.length:Int)):l.getD i.toNat d∈l:=by
 grind
def eh(a b:Int):z1':=(List.range (b - a+1).toNat).map λ(i:Nat)=>a+(i:Int)
theorem sH(a b:Int):(eh a b).length=(b - a+1).toNat:=by simp[eh]
theorem An{a b:Int}{i:Nat}(h:i<(eh a b).length):(eh a b)[i]=a+i:=by simp[eh]
theorem sI{a b n:Int}:n∈eh a b<->a<=n/\n<=b:=by
 simp only[eh,List.mem_map,List.mem_range];constructor
 ·omega
 ·rintro⟨E,U⟩;exact⟨(n - a).toNat,by omega,by omega⟩
end Go.Fer
namespace Go.Fer.oe
open Go.Proofs
abbrev oM:Type:=List (Nat×hG)
def oN{ak:Type}:List (Nat×ak)->Nat->Option ak
 | [],_=>none
 | p::l,k=>if k=p.1 then some p.2 else oN l k
theorem DK{ak:Type}{k:Nat}{c:ak}:∀ {l:List (Nat×ak)},oN l k=some c->(k,c)∈l
 | [],h=>by cases h
 | p::l,h=>by
  unfold oN at h;split at h
  ·rename_i e;cases h;subst e;simp
  ·exact List.mem_cons_of_mem _ (DK h)
def sJ(T:oM):List (Nat×e5)->Nat->Option e5
 | [],k=>match oN T k with
  | some c=>some (.dv c)
  | none=>none
 | p::l,k=>if k=p.1 then some p.2 else sJ T l k
def Vn(k:Nat)(c:hG):Prop:=h1 Tryz.prog k c.ts c.aV c.sh/\(c.dR=true->∀ x,(c.sh x).CL)
structure kV(T:oM):Type where
 ok:∀ p∈T,Vn p.1 p.2
abbrev aji{T:oM}(_:kV T):oM:=T
def ajj:kV []:=⟨λp h=>by cases h⟩
def kV.cons{T:oM}(h:kV T){n:Nat}{c:hG}(k:Vn n c):kV ((n,c)::T):=⟨λp an=>by
 rcases List.mem_cons.1 an with rfl | an
 ·exact k
 ·exact h.ok p an⟩
def DL(aO:dF):List (Nat×e5)->Prop
 | []=>True
 | p::l=>p.2.hA Tryz.prog aO p.1/\DL aO l
theorem kV.Hy{aO:dF}{T:oM}(h:kV T):∀ {sp:List (Nat×e5)},DL aO sp->lW Tryz.prog aO (sJ T sp)
 | [],_,k,c,e=>by
  unfold sJ at e;split at e
  ·rename_i c' hc;cases e;exact h.ok (k,c') (DK hc)
  ·cases e
 | p::l,aD,k,c,e=>by
  unfold sJ at e;split at e
  ·rename_i al;cases e;subst al;exact aD.1
  ·exact kV.Hy h (sp:=l) aD.2 k c e
def Ao:ad->List ad
 | .cT=>[]
 | .ay a b=>a::Ao b
 | t=>[t]
def Vo:ad->ad
 | .bH t=>t
 | t=>t
def Vp{ts Vq:ad}(e:Vq=ts){aV:ad}(sh:ts.ai->A aV.ai):Vq.ai->A aV.ai:=e ▸ sh
def Nl(pw:Nat)(c:hG):Option Fp:=
 if h:((Ao c.ts).take pw).all ad.gE=true/\gm ((Ao c.ts).take pw++(((Ao c.ts).drop pw).map Vo).map .bH)=c.ts then some ⟨(Ao c.ts).take pw,((Ao c.ts).drop pw).map Vo,c.aV,Vp h.2 c.sh⟩ else none
def Vr:z8'->Nat->Option Nat
 | [],_=>none
 | p::l,k=>if k=p.1 then some p.2 else Vr l k
def Ap(T:oM)(cl:z8')(Hz:List (Nat×wV)):dF where
 tu:=λk=>match oN T k with
  | some c=>some ⟨c.ts,c.aV,c.sh⟩
  | none=>none
 tv:=λk=>match Vr cl k with
  | some pw=>match oN T k with
   | some c=>Nl pw c
   | none=>none
  | none=>none
 wX:=oN Hz
def DM:List (Nat×wV)->Prop
 | []=>True
 | p::l=>wW Tryz.prog p.1 p.2/\DM l
theorem DM.mem:∀ {l:List (Nat×wV)},DM l->∀ p∈l,wW Tryz.prog p.1 p.2
 | [],_,p,h=>by cases h
 | q::l,h,p,an=>by
  rcases List.mem_cons.1 an with rfl | an
  ·exact h.1
  ·exact DM.mem h.2 p an
theorem ajk{k pw:Nat}{c:hG}{v:Fp}(h:h1 Tryz.prog k c.ts c.aV c.sh)(e:Nl pw c=some v):v.as.all ad.gE=true/\h1 Tryz.prog k (gm (v.as++v.cs.map .bH)) v.aV v.sh:=by
 unfold Nl at e;split at e
 ·rename_i cV;cases e;refine⟨cV.1,?_⟩;have key:∀ (ts:ad) (e:ts=c.ts),h1 Tryz.prog k ts c.aV (Vp e c.sh):=by rintro _ rfl;exact h
  exact key _ cV.2
 ·cases e
theorem kV.u{T:oM}(h:kV T)(cl:z8')(Hz:List (Nat×wV))(G:DM Hz):qN Tryz.prog (Ap T cl Hz) where
 tu:=λk v e=>by
  simp only[Ap]at e;split at e
  ·rename_i c hc;cases e;exact (h.ok (k,c) (DK hc)).1
  ·cases e
 tv:=λk v e=>by
  simp only[Ap]at e;split at e
  ·split at e
   ·rename_i c hc;exact ajk (h.ok (k,c) (DK hc)).1 e
   ·cases e
  ·cases e
 wX:=λk v e=>G.mem (k,v) (DK e)
abbrev ru(fn:Func):Code:=fn.body.getD .skip
theorem HA{fn:Func}(h:fn.body.isSome=true):fn.body=some (ru fn):=by
 unfold ru;cases e:fn.body with
 | none=>rw[e]at h;cases h
 | some b=>rfl
abbrev DN(fn:Func)(ts aV:ad):Bool:=fn.body.isSome&&DD fn (ru fn) ts aV
theorem HB{T:oM}(aU:kV T){aO:dF}(h9:qN Tryz.prog aO){sp:List (Nat×e5)}(n0:DL aO sp){n:Nat}{fn:Func}(ao:Tryz.prog.funcs[n]?=some fn){ts aV:ad}{sh:ts.ai->A aV.ai}{ann:cC}{S:ts.ai->A aV.ai}(aD:∀ x,A.le (S x) (sh x))(cL:DN fn ts aV=true)(aj:∀ x,DA aO (rn vI) x0 (sJ T sp) fn (ru fn) ann ts aV x=S x):h1 Tryz.prog n ts aV sh:=
 have cL:=Bool.and_eq_true _ _ ▸ cL
 aik Hv l0 h9 Hw (aU.Hy n0) ao (HA cL.1) cL.2 λx=>A.le_trans (A.le_of_eq (aj x)) (aD x)
def mk{T:oM}(aU:kV T){n:Nat}{fn:Func}(ao:Tryz.prog.funcs[n]?=some fn)(c:aK)(ann:cC){S:c.ts.ai->A c.aV.ai}(aD:∀ x,A.le (S x) (c.sh x))(cL:DN fn c.ts c.aV=true:=by kernel_rfl)(aj:∀ x,DA dD (rn vI) x0 (sJ T []) fn (ru fn) ann c.ts c.aV x=S x:=by intro x;kernel_rfl):kV ((n,c.dv)::T):=
 aU.cons ⟨HB aU mz (sp:=[]) trivial ao aD cL aj,λ_ _=>A.vK⟩
def l2{T:oM}(aU:kV T)(cl:z8'){n:Nat}{fn:Func}(ao:Tryz.prog.funcs[n]?=some fn)(c:aK)(ann:cC){S:c.ts.ai->A c.aV.ai}(aD:∀ x,A.le (S x) (c.sh x))(cL:DN fn c.ts c.aV=true:=by kernel_rfl)(aj:∀ x,DA (Ap T cl []) (rn vI) x0 (sJ T []) fn (ru fn) ann c.ts c.aV x=S x:=by intro x;kernel_rfl):kV ((n,c.dv)::T):=
 aU.cons ⟨HB aU (aU.u cl [] trivial) (sp:=[]) trivial ao aD cL aj,λ_ _=>A.vK⟩
def px{T:oM}(aU:kV T){aO:dF}(h9:qN Tryz.prog aO)(sp:List (Nat×e5))(n0:DL aO sp){n:Nat}{fn:Func}(ao:Tryz.prog.funcs[n]?=some fn)(c:aK)(ann:cC){S:c.ts.ai->A c.aV.ai}(aD:∀ x,A.le (S x) (c.sh x))(cL:DN fn c.ts c.aV=true:=by kernel_rfl)(aj:∀ x,DA aO (rn vI) x0 (sJ T sp) fn (ru fn) ann c.ts c.aV x=S x:=by intro x;kernel_rfl):kV ((n,c.dv)::T):=
 aU.cons ⟨HB aU h9 n0 ao aD cL aj,λ_ _=>A.vK⟩
def jP{T:oM}(aU:kV T)(cl:z8'){n:Nat}{fn:Func}(ao:Tryz.prog.funcs[n]?=some fn)(c:aK)(pw:Nat)(ann:cC){S:c.ts.ai->A c.aV.ai}(aD:∀ x,A.le (S x) (c.sh x))(hc:∀ x,c.pre x->DC pw (pq c.ts x):=by intro x h;obtain⟨f,ao,_⟩:=h;exact sF ⟨trivial,rr ao⟩)(cL:DN fn c.ts c.aV=true:=by kernel_rfl)
  (aj:∀ x,eH (Ap T cl []) (rn vI) x0 (sJ T []) ann (ru fn) (Hm pw (pq c.ts x)) (vD (rn vI) fn.results.toList c.aV)=S x:=by intro x;kernel_rfl):kV ((n,c.dv)::T):=
 have cL:=Bool.and_eq_true _ _ ▸ cL
 aU.cons ⟨aim (n:=pw) Hv l0 (aU.u cl [] trivial) Hw (aU.Hy (sp:=[]) trivial) ao (HA cL.1) cL.2 λx=>A.ajh (hc x) (A.le_trans (A.le_of_eq (aj x)) (aD x)),λ_ _=>A.vK⟩
theorem d_{T:oM}(aU:kV T){aO:dF}(sp:List (Nat×e5))(n0:DL aO sp){n:Nat}{fn:Func}(ao:Tryz.prog.funcs[n]?=some fn){c:cK}(ann:cC){S:c.cp.ai->A c.bK.ai}(aD:∀ x,A.le (S x) (c.sh x))(cL:(fn.body.isSome&&DE fn (ru fn) c.kd c.kB)=true:=by kernel_rfl)(aj:∀ x,MY aO (rn vI) x0 (sJ T sp) fn (ru fn) ann c.cp c.bK c.kB x=S x:=by intro x;kernel_rfl):cR Tryz.prog aO n c:=
 have cL:=Bool.and_eq_true _ _ ▸ cL
 UI Hv l0 Hw (aU.Hy n0) ao (HA cL.1) cL.2 λx=>A.le_trans (A.le_of_eq (aj x)) (aD x)
theorem Nn{aO:dF}{n:Nat}{fn:Func}(ao:Tryz.prog.funcs[n]?=some fn){c:cK}(aD:∀ x,¬(c.sh x).ck)(cL:(fn.body.isSome&&DE fn (ru fn) c.kd c.kB)=true:=by kernel_rfl):cR Tryz.prog aO n c:=
 have cL:=Bool.and_eq_true _ _ ▸ cL
 UI Hv l0 Hw (Ψ:=λ_=>none) (λk c h=>by cases h) (ann:=.eM) ao (HA cL.1) cL.2 λx h=>absurd h (aD x)
end Go.Fer.oe
namespace Go.Fer
open Go.RowKit
theorem ajl{P:Program}{aO:dF}{k:FuncId}{ts e:ad}(t':ts≠.cT){c:cK}(h:cR P aO k c)(h9:qN P aO){sh:ts.ai->A (ad.slice e).ai}{b0:Nat}(mk:ts.ai->c.cp.ai)
    (ajm:∀ x,c.cp.st (mk x)=⟨fr ((List.range (j5 ts)).map λi=>(i,kt ts x i)),λ_=>⟨0,.fy⟩⟩) (aA:c.kd=j5 ts) (hW:c.kd<=eQ) (ajn:c.kB=[none]) (val:c.bK.ai->List e.ai)
    (po:∀ bm,(c.bK.st bm).ax 0=.own b0 0/\(c.bK.st bm).aa b0=⟨0,.bh e (val bm)⟩)
    (r_:∀ x,(sh x).ck->(c.sh (mk x)).ck/\∀ bm,(c.sh (mk x)).bK bm->val bm=(sh x).val (ad.slice e).de):nJ (hG.kC ⟨ts,.slice e,sh,true⟩).aV=true/\Cu P k (hG.kC ⟨ts,.slice e,sh,true⟩):=by
  refine⟨rfl,h.enter,?_⟩;intro (x:ts.ai) (aD:(sh x).ck) y aQ F w args bo gr (dX:fp P ts F w args x);cases aQ;obtain⟨iA,Hb⟩:=tK (H:=λ_=>⟨0,.fy⟩) (κ:=λ_=>⟨0,0,0,false⟩) ts dX t';let C:b_:={ P:=P,w0:=w,F0:=F,K0:=λr=>r<w.heap.size,nt:=c.kd,r:=none,dfr:=[],ia:=λ_=>none,cc:=⟨0,.cT,λ_=>False,λ_ _ _ _ _=>False⟩,aM:=aO }
  have C5:∀ i,fr ((List.range (j5 ts)).map λi=>(i,kt ts x i)) i=.undef\/(i<j5 ts/\fr ((List.range (j5 ts)).map λi=>(i,kt ts x i)) i=kt ts x i):=λi=>by
    rcases UD (l:=(List.range (j5 ts)).map λi=>(i,kt ts x i)) (i:=i) with e | e
    · exact .inl e
    · refine .inr ?_
      generalize bk:fr ((List.range (j5 ts)).map λi=>(i,kt ts x i)) i=z at e
      simp only[List.mem_map,List.mem_range,Prod.mk.injEq]at e
      obtain⟨j,aE,rfl,rfl⟩:=e
      exact⟨aE,rfl⟩
  have M:bl C (c.cp.st (mk x)) { tmps:=args.toArray,defers:=[] } w (λ_=>⟨0,0,0,false⟩) F:=by
    rw[ajm];refine { dG := ?_, dfr := rfl, bT := λi => ?_, bD := λb => trivial, own := λb W => (by cases W), inj := λb be W _ _ => (by cases W), da := bo, hf := λr M => .inl M, hP := λr M => M, hs := λr M => M, eF := λr _ => rfl, size := Nat.le_refl _, ev := dc.refl w,gp:=hW,ko:=λb r h=>(by cases h),jC:=λb r h=>(by cases h),j3:=λb k h=>(by cases h),kp:=λb k h=>(by cases h),eK:=λl aL L n st e=>?_,jD:=h9,iz:=gr }
    · grind
    · rcases C5 i with e | ⟨G,e⟩
      · show bB _ _ _ _ _ (fr _ i) _
        rw[e];trivial
      · show bB _ _ _ _ _ (fr _ i) _
        rw[e]
        have:=Hb i G
        simpa [Array.getD_eq_getD_getElem?,List.getD_eq_getElem?_getD]using this
    · rcases C5 b5 with h | ⟨h,_⟩
      · grind
      · unfold b5 at h;unfold eQ at hW;omega
  obtain⟨L8,tS⟩:=r_ x aD;refine (h.iU C _ w _ F (mk x) rfl rfl rfl rfl rfl rfl M L8).mono λa6 w' ⟨v,bm,aC,κ',F',BR,gi,GO,bb⟩=>?_;obtain⟨ajo,xM⟩:=po bm;rw[ajn]at GO;obtain⟨us,fA,LZ,No⟩:=GO;obtain⟨u,rfl⟩:∃ u,us=[u]:=by
    match us,fA with
    | [u],_=>simp
  have Np:aC=[u]:=by
    obtain⟨_,Np,U⟩:=No;rw[Np,U]
  have ae:v=u:=by simpa using LZ
  have fl:=bb.bT 0;rw[ajo,Np]at fl;have Vs:u=(κ' b0).slice ((c.bK.st bm).aa b0).body.len:=by
    have:=fl.2 (by rw[xM]) (by rw[xM];rfl);simp_all
  rw[xM]at Vs;have aS:=bb.bD b0;unfold cF at aS;rw[xM]at aS;obtain⟨E,U⟩:=aS;have xW:val bm=(sh x).val (ad.slice e).de:=tS bm gi;refine⟨κ' b0,F',by rw[BR,ae,Vs];simp only[bQ.len];rw[xW];rfl,bb.hP,λr Vt=>?_,λaA=>?_,λaA=>?_,bb.ev.os,bb.ev.tape,bb.ev.output,bb.size,bb.eF⟩
  · rcases bb.hf r Vt with cV | cV
    · exact .inl cV
    · exact .inr ⟨Nat.le_of_not_lt cV,bb.da r Vt⟩
  · have:=E aA
    rw[xW]at this
    exact this
  · have af:=bb.own b0 (by rw[xM];simp[bQ.bZ,aA])
    obtain⟨cs,T,bE,c2,c3,c4,c5⟩:=U aA
    rw[xW]at c3 c5
    exact⟨⟨Nat.le_of_not_lt af.2.2,af.1,af.2.1⟩,cs,T,bE,c2,c3,c4,c5⟩
end Go.Fer
namespace Go.Fer
open A (V)
abbrev a8:Type:=z2'×List (List (Int×z1'×Int×Int))×Int×z2'
abbrev qu:Type:=a8×List (z1')
abbrev fc(l:z4')(a b:Int):z4':=lN (k:=.int .i64) (v:=.int .i64) l a b
abbrev vL(l:z5')(a:Int×Int×Int)(b:Int):z5':=lN (k:=.st (.ay (.int .i64) (.ay (.int .i64) (.int .i64)))) (v:=.int .i64) l a b
def Nq(x:z2'×List (List (Int×z1'×Int×Int))×Int×z2'):A a8:=
 A.ab (bP (Add.add 0 (List.length x.1))) (A.ab (bP (Add.add 0 (List.length x.2.2.2))) (A.bind (A.loop (λ(D:Int×a8×Int×Int×z2'×z2'×List (List (Int×z1'×Int×Int))×Unit)=>letI f:=D.1<Int.ofNat (List.length D.2.1.2.1);letI e:=List.getD D.2.1.2.1 (Int.toNat D.1) [];letI d:=D.2.2.2;if decide f=true then A.bind (A.ab (0<=D.1/\f) (A.ab (bP (Add.add 0 (List.length e))) (A.bind (A.loop (λ(D:Int×Int×a8×Int×Int×z2'×z2'×List (Int×z1'×Int×Int)×List (List (Int×z1'×Int×Int))×Unit)=>letI i:=D.2.1;letI h:=D.2.2.2;letI b:=h.2.2;letI c:=i<Int.ofNat (List.length b.2.2.1);letI a:=List.getD b.2.2.1 (Int.toNat i) (0,[],0,0);if decide c=true then A.ab (0<=i/\c) (A.ab (bP (Add.add 0 (List.length a.2.1))) (A.ab (0<=i/\c) (A.pure (V.next (D.1,IntKind.wrap .i64 (Add.add i 1),D.2.2.1,h.1,h.2.1,b.1,b.2.1,List.set b.2.2.1 (Int.toNat i) (a.1,[]++a.2.1,a.2.2),b.2.2.2.1,()))))) else A.bind (A.pure (V.next (D.1,D.2.2.1,h.1,h.2.1,b.1,b.2.1,b.2.2.1,b.2.2.2.1,()))) λr=>A.pure (V.done r)) (D.1,0,D.2.1,D.2.2.1,d.1,d.2.1,d.2.2.1,[]++e,d.2.2.2.1,())) (V.bx (λ(D:Int×a8×Int×Int×z2'×z2'×List (Int×z1'×Int×Int)×List (List (Int×z1'×Int×Int))×Unit)=>letI g:=D.2.2.2.2;A.ab (bP (Add.add (List.length g.2.2.2.1) (Add.add 0 1))) (A.pure (V.next (D.1,D.2.1,D.2.2.1,D.2.2.2.1,g.1,g.2.1,g.2.2.2.1++[g.2.2.1],())))))))) (V.bx (λ(D:Int×a8×Int×Int×z2'×z2'×List (List (Int×z1'×Int×Int))×Unit)=>letI j:=D.2.2.2;A.pure (V.next (IntKind.wrap .i64 (Add.add D.1 1),D.2.1,D.2.2.1,j.1,j.2.1,j.2.2.1,j.2.2.2.1,())))) else A.bind (A.pure (V.next (D.2.2.1,d.1,d.2.1,d.2.2.1,d.2.2.2.1,()))) λr=>A.pure (V.done r)) (0,x,0,x.2.2.1,[]++x.1,[]++x.2.2.2,[],())) (V.bx (λ(D:Int×Int×z2'×z2'×List (List (Int×z1'×Int×Int))×Unit)=>A.pure (D.2.2.1,D.2.2.2.2.1,D.2.1,D.2.2.2.1)))))
def Nr(x:z1'×Int):A Bool:=
 A.bind (A.loop (λ(D:z1'×Int×Int×Unit)=>letI b:=D.2.2.1;letI a:=b<Int.ofNat (List.length D.1);if decide a=true then A.ab (0<=b/\a) (if decide (List.getD D.1 (Int.toNat b) 0=D.2.1)=true then A.bind (A.bind (A.pure true) (λr=>A.pure (V.done r))) λr=>A.pure (V.done r) else A.pure (V.next (D.1,D.2.1,IntKind.wrap .i64 (Add.add b 1),()))) else A.bind (A.pure (V.next ())) λr=>A.pure (V.done r)) (x.1,x.2,0,())) (V.bx (λ(D:Unit)=>A.pure false))
def Ns(kh:Int×Int×Int->A Bool)(x:a8×Int):A Bool:=
 A.bind (kh (x.2,0,IntKind.wrap .i64 (Int.ofNat (List.length x.1.1)-1))) λy=>A.pure y
def HC(kh:Int×Int×Int->A Bool)(ajp:a8×Int->A Bool)(x:a8×Int×Int):A Bool:=
 A.bind (ajp (x.1,x.2.1)) λy=>A.ab (y=true->(y=true/\y=true)/\(0<=x.2.1/\x.2.1<Int.ofNat (List.length x.1.2.1))/\True) (A.bind (cq y (kh (x.2.2,0,IntKind.wrap .i64 (Int.ofNat (List.length (List.getD x.1.2.1 (Int.toNat x.2.1) []))-1))) false) (λb2=>A.pure (y&&b2)))
def Nt(ajq:z2'×List (List (Int×z1'×Int×Int))×Int×z2'->A Bool)(x:z2'×List (List (Int×z1'×Int×Int))×Int×z2'):A Int:=
 A.bind (ajq x) λy=>if (!y)=true then A.pure 70 else A.bind (A.loop (λ(D:Int×a8×Unit)=>if decide (D.1<Int.ofNat (List.length D.2.1.2.2.2))=true then A.bind (A.loop (λ(D:Int×Int×a8×Unit)=>letI d:=D.2.2.1.2.2.2;letI c:=Int.ofNat (List.length d);letI b:=List.getD d (Int.toNat D.1) (0,0,0,0);letI a:=List.getD d (Int.toNat D.2.1) (0,0,0,0);if decide (D.2.1<D.1)=true then A.ab (0<=D.2.1/\D.2.1<c) (A.ab (0<=D.1/\D.1<c) (if (decide (a.1=b.1)&&decide (a.2.1=b.2.1)&&decide (a.2.2.1=b.2.2.1)&&decide (a.2.2.2≠b.2.2.2))=true then A.bind (A.bind (A.bind (A.bind (A.pure 71) (λr=>A.pure (V.done r))) (λr=>A.pure (V.done r))) (λr=>A.pure (V.done r))) λr=>A.pure (V.done r) else A.pure (V.next (D.1,IntKind.wrap .i64 (Add.add D.2.1 1),D.2.2.1,())))) else A.bind (A.pure (V.next (D.1,D.2.2.1,()))) λr=>A.pure (V.done r)) (D.1,0,D.2.1,())) (V.bx (λ(D:Int×a8×Unit)=>A.pure (V.next (IntKind.wrap .i64 (Add.add D.1 1),D.2.1,())))) else A.bind (A.pure (V.next ())) λr=>A.pure (V.done r)) (0,x,())) (V.bx (λ(D:Unit)=>A.pure 0))
def Nu(Vu:a8×Int×Int×Int×Int->A Bool)(kh:Int×Int×Int->A Bool)(x:a8×Int×Int):A Bool:=
 A.bind (A.loop (λ(D:Int×Int×Int×a8×Unit)=>letI i:=D.2.2.1;letI f:=D.2.2.2.1;letI e:=i<Int.ofNat (List.length f.2.2.2);letI b:=List.getD f.2.2.2 (Int.toNat i) (0,0,0,0);letI h:=(f,D.1,D.2.1,b.2.1,b.2.2.1);letI a:=decide (b.1=D.1)=true;letI g:=a->a/\True/\True;if decide e=true then A.ab (0<=i/\e) (A.ab g (A.ab g (A.ab (a->(a/\a/\a/\a/\a/\True)/\(Vu h).ck/\True) (A.ab g (A.ab (a->(a/\True)/\True/\True) (A.ab (a->(a/\a)/\True/\True) (A.ab (True/\(a->a)) (if (decide (b.1=D.1)&&!(decide (A.val (Vu h) false=decide (b.2.2.2=1))))=true then A.bind (A.bind (A.pure false) (λr=>A.pure (V.done r))) λr=>A.pure (V.done r) else A.pure (V.next (D.1,D.2.1,IntKind.wrap .i64 (Add.add i 1),f,())))))))))) else A.bind (A.pure (V.next (D.1,D.2.1,f,()))) λr=>A.pure (V.done r)) (x.2.1,x.2.2,0,x.1,())) (V.bx (λ(D:Int×Int×a8×Unit)=>letI d:=0<=D.1/\D.1<Int.ofNat (List.length D.2.2.1.1);letI c:=(D.2.1,(List.getD D.2.2.1.1 (Int.toNat D.1) (0,0,0,0)).2.2);A.ab d (A.ab d (A.ab (kh c).ck (A.pure (A.val (kh c) false))))))
def Nv(ajr:z1'×Int->A Bool)(kh:Int×Int×Int->A Bool)(x:a8×Int×Int×Int×Int):A Bool:=
 letI e:=x.2.2.2;letI c:=List.getD x.1.2.1 (Int.toNat e.1) [];letI b:=List.getD x.1.1 (Int.toNat x.2.1) (0,0,0,0);letI a:=List.getD c (Int.toNat e.2) (0,[],0,0);letI d:=decide (b.1=a.1);A.ab (0<=x.2.1/\x.2.1<Int.ofNat (List.length x.1.1)) (A.ab (0<=e.1/\e.1<Int.ofNat (List.length x.1.2.1)) (A.ab (0<=e.2/\e.2<Int.ofNat (List.length c)) (A.bind (cq d (ajr (a.2.1,b.2.1)) false) (λy=>A.bind (cq (d&&y) (kh (x.2.2.1,a.2.2.1,IntKind.wrap .i64 (Add.add a.2.2.2 x.1.2.2.1))) false) λb2=>A.pure (d&&y&&b2)))))
def Nw(x:z1'):A Bool:=
 A.bind (A.loop (λ(D:z1'×Int×Unit)=>letI c:=D.2.1;letI b:=IntKind.wrap .i64 (c-1);letI a:=Int.ofNat (List.length D.1);if decide (c<a)=true then A.ab (0<=c/\c<a) (A.ab (0<=b/\b<a) (if decide (List.getD D.1 (Int.toNat c) 0<=List.getD D.1 (Int.toNat b) 0)=true then A.bind (A.bind (A.pure false) (λr=>A.pure (V.done r))) λr=>A.pure (V.done r) else A.pure (V.next (D.1,IntKind.wrap .i64 (Add.add c 1),())))) else A.bind (A.pure (V.next ())) λr=>A.pure (V.done r)) (x,1,())) (V.bx (λ(D:Unit)=>A.pure true))
def Vv(ajs:a8×Bool->A Int)(x:z2'×List (List (Int×z1'×Int×Int))×Int×z2'):A Int:=
 A.bind (ajs (x,true)) λy=>A.pure y
def ajt(x:Int×Int×Int):A Bool:=
 A.pure (decide (x.1>=x.2.1)&&decide (x.1<=x.2.2))
def Nx(kh:Int×Int×Int->A Bool)(x:a8×Int):A Bool:=
 A.bind (kh (x.2,0,IntKind.wrap .i64 (Int.ofNat (List.length x.1.2.1)-1))) λy=>A.pure y
def Ny(aju:a8×Int->A Bool)(ajv:a8×Int×Int->A Bool)(kh:Int×Int×Int->A Bool)(Nz:Int×Int->A Bool)(ajw:Int×z1'×Int×Int->A Bool)(x:z2'×List (List (Int×z1'×Int×Int))×Int×z2'):A Bool:=
 letI c:=decide (Int.ofNat (List.length x.1) > 10)||decide (Int.ofNat (List.length x.2.1) > 6);A.bind (cq (!c) (kh (x.2.2.1,0,99)) false) λy=>if (c||!y||decide (Int.ofNat (List.length x.2.2.2) > 30))=true then A.pure false else A.bind (A.loop (λ(D:Int×a8×Unit)=>letI h:=D.1<Int.ofNat (List.length D.2.1.1);letI b:=List.getD D.2.1.1 (Int.toNat D.1) (0,0,0,0);if decide h=true then A.ab (0<=D.1/\h) (A.bind (kh (b.1,0,9)) (λy=>A.bind (cq (!(!y)) (kh (b.2.1,0,9)) false) λb2=>A.bind (cq (!(!y||!b2)) (Nz b.2.2) false) λdE=>if (!y||!b2||!dE)=true then A.bind (A.bind (A.pure false) (λr=>A.pure (V.done r))) λr=>A.pure (V.done r) else A.pure (V.next (IntKind.wrap .i64 (Add.add D.1 1),D.2.1,())))) else A.bind (A.pure (V.next (D.2.1,()))) λr=>A.pure (V.done r)) (0,x,())) (V.bx (λ(D:a8×Unit)=>A.bind (A.loop (λ(D:Int×a8×Unit)=>letI g:=D.1<Int.ofNat (List.length D.2.1.2.1);if decide g=true then A.bind (A.ab (0<=D.1/\g) (if decide (Int.ofNat (List.length (List.getD D.2.1.2.1 (Int.toNat D.1) [])) > 4)=true then A.bind (A.bind (A.bind (A.pure false) (λr=>A.pure (V.done r))) (λr=>A.pure (V.done r))) λr=>A.pure (V.done r) else A.loop (λ(D:Int×Int×a8×Unit)=>letI j:=D.2.2.1;letI e:=0<=D.1/\D.1<Int.ofNat (List.length j.2.1);letI d:=List.getD j.2.1 (Int.toNat D.1) [];letI i:=D.2.1<Int.ofNat (List.length d);A.ab e (if decide i=true then A.ab e (A.ab (0<=D.2.1/\i) (A.bind (ajw (List.getD d (Int.toNat D.2.1) (0,[],0,0))) (λy=>if (!y)=true then A.bind (A.bind (A.bind (A.bind (A.pure false) (λr=>A.pure (V.done r))) (λr=>A.pure (V.done r))) (λr=>A.pure (V.done r))) λr=>A.pure (V.done r) else A.pure (V.next (D.1,IntKind.wrap .i64 (Add.add D.2.1 1),j,()))))) else A.bind (A.pure (V.next (D.1,j,()))) λr=>A.pure (V.done r))) (D.1,0,D.2.1,()))) (V.bx (λ(D:Int×a8×Unit)=>A.pure (V.next (IntKind.wrap .i64 (Add.add D.1 1),D.2.1,())))) else A.bind (A.pure (V.next (D.2.1,()))) λr=>A.pure (V.done r)) (0,D.1,())) (V.bx (λ(D:a8×Unit)=>A.bind (A.loop (λ(D:Int×a8×Unit)=>letI f:=D.1<Int.ofNat (List.length D.2.1.2.2.2);letI a:=List.getD D.2.1.2.2.2 (Int.toNat D.1) (0,0,0,0);if decide f=true then A.ab (0<=D.1/\f) (A.bind (aju (D.2.1,a.1)) (λy=>A.bind (cq (!(!y)) (ajv (D.2.1,a.2.1,a.2.2.1)) false) λb2=>A.bind (cq (!(!y||!b2)) (kh (a.2.2.2,0,1)) false) λdE=>if (!y||!b2||!dE)=true then A.bind (A.bind (A.pure false) (λr=>A.pure (V.done r))) λr=>A.pure (V.done r) else A.pure (V.next (IntKind.wrap .i64 (Add.add D.1 1),D.2.1,())))) else A.bind (A.pure (V.next ())) λr=>A.pure (V.done r)) (0,D.1,())) (V.bx (λ(D:Unit)=>A.pure true))))))
def NA(DO:z2'×List (List (Int×z1'×Int×Int))×Int×z2'->A Int)(ajx:a8×Int->A (z1'))(x:a8×Bool):A Int:=
 A.bind (DO x.1) λy=>if decide (y≠0)=true then A.pure y else if (!x.2)=true then A.pure 1 else A.bind (A.loop (λ(D:Int×a8×Unit)=>if decide (D.1<Int.ofNat (List.length D.2.1.1))=true then A.bind (ajx (D.2.1,D.1)) λy=>if decide (Int.ofNat (List.length y)=0)=true then A.bind (A.bind (A.pure 3) (λr=>A.pure (V.done r))) λr=>A.pure (V.done r) else A.pure (V.next (IntKind.wrap .i64 (Add.add D.1 1),D.2.1,())) else A.bind (A.pure (V.next ())) λr=>A.pure (V.done r)) (0,x.1,())) (V.bx (λ(D:Unit)=>A.pure 0))
def NB(ajy:a8×Int×Int->A Bool)(x:a8×Int):A (z1'):=
 A.bind (A.ab (0<=x.2/\x.2<Int.ofNat (List.length x.1.1)) (A.loop (λ(D:Int×Int×a8×z1'×Unit)=>letI a:=D.2.2;A.ab (0<=D.1/\D.1<Int.ofNat (List.length a.1.1)) (if decide (D.2.1<=(List.getD a.1.1 (Int.toNat D.1) (0,0,0,0)).2.2.2)=true then A.bind (A.bind (ajy (a.1,D.1,D.2.1)) (λy=>if y=true then A.ab (bP (Add.add (List.length a.2.1) (Add.add 0 1))) (A.pure (V.next (D.1,D.2.1,a.1,a.2.1++[D.2.1],()))) else A.pure (V.next (D.1,D.2.1,a.1,a.2.1,())))) (V.bx (λ(D:Int×Int×a8×z1'×Unit)=>A.pure (V.next (D.1,IntKind.wrap .i64 (Add.add D.2.1 1),D.2.2.1,D.2.2.2.1,())))) else A.bind (A.pure (V.next (a.2.1,()))) λr=>A.pure (V.done r))) (x.2,(List.getD x.1.1 (Int.toNat x.2) (0,0,0,0)).2.2.1,x.1,[],()))) (V.bx (λ(D:z1'×Unit)=>A.pure D.1))
def NC(kh:Int×Int×Int->A Bool)(x:Int×Int):A Bool:=
 A.bind (kh (x.1,0,x.2)) λy=>A.pure (y&&decide (x.2<=999))
def ND(ajz:z1'->A Bool)(kh:Int×Int×Int->A Bool)(Nz:Int×Int->A Bool)(x:Int×z1'×Int×Int):A Bool:=
 A.bind (A.loop (λ(D:Int×(Int×z1'×Int×Int)×Unit)=>letI b:=D.1<Int.ofNat (List.length D.2.1.2.1);if decide b=true then A.ab (0<=D.1/\b) (A.bind (kh (List.getD D.2.1.2.1 (Int.toNat D.1) 0,0,9)) (λy=>if (!y)=true then A.bind (A.bind (A.pure false) (λr=>A.pure (V.done r))) λr=>A.pure (V.done r) else A.pure (V.next (IntKind.wrap .i64 (Add.add D.1 1),D.2.1,())))) else A.bind (A.pure (V.next (D.2.1,()))) λr=>A.pure (V.done r)) (0,x,())) (V.bx (λ(D:(Int×z1'×Int×Int)×Unit)=>A.bind (kh (D.1.1,0,9)) λy=>letI a:=y&&decide (Int.ofNat (List.length D.1.2.1)<=4);A.bind (cq a (ajz D.1.2.1) false) λb2=>A.bind (cq (a&&b2) (Nz D.1.2.2) false) λdE=>A.pure (a&&b2&&dE)))
def Vw(ayo:Int×Int->A (Int×Int))(ajA:Int×Int->A (Int×Int))(x:Int×Int):A (Int×Int):=
 A.bind (ajA x) λy=>A.pure y
def Vx(ajB:z1'×Int->A Int)(x:z1'×Int):A Bool:=
 A.bind (ajB x) λy=>A.pure (decide (y>=0))
def Vy(x:Int×Int):A (Int×Int):=
 A.ab ((0:Int)<=32) (A.ab ((0:Int)<=32) (A.ab ((0:Int)<=32) (A.ab ((0:Int)<=32) (A.ab ((0:Int)<=32) (A.pure (IntKind.wrap .u64 (Add.add (IntKind.wrap .u64 (Add.add (IntKind.wrap .u64 (ji .u64 x.1 32*ji .u64 x.2 32)) (ji .u64 (IntKind.wrap .u64 (Add.add (IntKind.wrap .u64 (ji .u64 x.1 32*lM .u64 x.2 4294967295)) (ji .u64 (IntKind.wrap .u64 (lM .u64 x.1 4294967295*lM .u64 x.2 4294967295)) 32))) 32))) (ji .u64 (IntKind.wrap .u64 (Add.add (lM .u64 (IntKind.wrap .u64 (Add.add (IntKind.wrap .u64 (ji .u64 x.1 32*lM .u64 x.2 4294967295)) (ji .u64 (IntKind.wrap .u64 (lM .u64 x.1 4294967295*lM .u64 x.2 4294967295)) 32))) 4294967295) (IntKind.wrap .u64 (lM .u64 x.1 4294967295*ji .u64 x.2 32)))) 32)),IntKind.wrap .u64 (x.1*x.2)))))))
def NF(x:z1'×Int):A Int:=
 A.bind (A.loop (λ(D:z1'×Int×Int×Int×Unit)=>letI a:=D.2.2.2.1;if decide (a<D.2.2.1)=true then A.ab (0<=a/\a<Int.ofNat (List.length D.1)) (if decide (D.2.1=List.getD D.1 (Int.toNat a) 0)=true then A.bind (A.bind (A.pure a) (λr=>A.pure (V.done r))) λr=>A.pure (V.done r) else A.pure (V.next (D.1,D.2.1,D.2.2.1,IntKind.wrap .i64 (Add.add a 1),()))) else A.bind (A.pure (V.next ())) λr=>A.pure (V.done r)) (x.1,x.2,Int.ofNat (List.length x.1),0,())) (V.bx (λ(D:Unit)=>A.pure (-1)))
def NG(ajC:z2'×List (List (Int×z1'×Int×Int))×Int×z2'->A Bool)(x:z2'×List (List (Int×z1'×Int×Int))×Int×z2'):A Int:=
 A.bind (ajC x) λy=>if (!y)=true then A.pure 70 else A.bind (A.loop (λ(D:z2'×Int×Int×z5'×Unit)=>letI c:=D.2.2.1;letI a:=List.getD D.1 (Int.toNat c) (0,0,0,0);letI b:=Option.map (λx=>x.2) (List.find? (λp=>decide (a.1=p.1.1)&&(decide (a.2.1=p.1.2.1)&&decide (a.2.2.1=p.1.2.2))) D.2.2.2.1);if decide (c<D.2.1)=true then A.ab (0<=c/\c<Int.ofNat (List.length D.1)) (if (Option.isSome b&&decide (Option.getD b 0≠a.2.2.2))=true then A.bind (A.bind (A.pure 71) (λr=>A.pure (V.done r))) λr=>A.pure (V.done r) else A.pure (V.next (D.1,D.2.1,IntKind.wrap .i64 (Add.add c 1),vL D.2.2.2.1 (a.1,a.2.1,a.2.2.1) a.2.2.2,()))) else A.bind (A.pure (V.next ())) λr=>A.pure (V.done r)) (x.2.2.2,Int.ofNat (List.length x.2.2.2),0,[],())) (V.bx (λ(D:Unit)=>A.pure 0))
def NH(mB:a8×Bool->A (Option qu×Int))(im:a8×Int->A Bool)(x:a8×Int):A ((Int×Int)×Int):=
 letI a:=Int.toNat x.2;A.ab (im x).ck (A.ab (mB (x.1,A.val (im x) false)).ck (if decide ((A.val (mB (x.1,A.val (im x) false)) (none,0)).2≠0)=true then A.pure ((0,0),(A.val (mB (x.1,A.val (im x) false)) (none,0)).2) else A.ab (Option.isSome (A.val (mB (x.1,A.val (im x) false)) (none,0)).1=true) (A.ab (0<=x.2/\x.2<Int.ofNat (List.length (Option.getD (A.val (mB (x.1,A.val (im x) false)) (none,0)).1 (([],[],0,[]),[])).2)) (A.ab ((0:Int)<=0/\0<Int.ofNat (List.length (List.getD (Option.getD (A.val (mB (x.1,A.val (im x) false)) (none,0)).1 (([],[],0,[]),[])).2 a []))) (A.ab (0<=IntKind.wrap .i64 (Int.ofNat (List.length (List.getD (Option.getD (A.val (mB (x.1,A.val (im x) false)) (none,0)).1 (([],[],0,[]),[])).2 a []))-1)/\IntKind.wrap .i64 (Int.ofNat (List.length (List.getD (Option.getD (A.val (mB (x.1,A.val (im x) false)) (none,0)).1 (([],[],0,[]),[])).2 a []))-1)<Int.ofNat (List.length (List.getD (Option.getD (A.val (mB (x.1,A.val (im x) false)) (none,0)).1 (([],[],0,[]),[])).2 a []))) (A.pure ((List.getD (List.getD (Option.getD (A.val (mB (x.1,A.val (im x) false)) (none,0)).1 (([],[],0,[]),[])).2 a []) (Int.toNat 0) 0,List.getD (List.getD (Option.getD (A.val (mB (x.1,A.val (im x) false)) (none,0)).1 (([],[],0,[]),[])).2 a []) (Int.toNat (IntKind.wrap .i64 (Int.ofNat (List.length (List.getD (Option.getD (A.val (mB (x.1,A.val (im x) false)) (none,0)).1 (([],[],0,[]),[])).2 a []))-1))) 0),0)))))))
def NI(mB:a8×Bool->A (Option qu×Int))(im:a8×Int->A Bool)(x2:a8×Int×Int->A Bool)(ajD:Option qu×Int×Int×Int->A Int)(x:a8×Int×Int×Int):A (Int×Int):=
 letI b:=(x.1,x.2.2);letI a:=(x.1,x.2.1);A.ab (im a).ck (A.ab (A.val (im a) false=true->(A.val (im a) false=true/\A.val (im a) false=true/\A.val (im a) false=true/\True)/\(x2 b).ck/\True) (A.ab (True/\(A.val (im a) false=true->A.val (im a) false=true)) (A.ab (mB (x.1,A.val (im a) false&&A.val (x2 b) false)).ck (if decide ((A.val (mB (x.1,A.val (im a) false&&A.val (x2 b) false)) (none,0)).2≠0)=true then A.pure (0,(A.val (mB (x.1,A.val (im a) false&&A.val (x2 b) false)) (none,0)).2) else A.bind (ajD ((A.val (mB (x.1,A.val (im a) false&&A.val (x2 b) false)) (none,0)).1,x.2)) λy=>A.pure (y,0)))))
def Vz(oO:Int×Int×Int->A Bool)(ajE:z2'×(Int×Int×Int×Int->A Bool)->A Bool)(ajF:List (List (Int×z1'×Int×Int))×(List (Int×z1'×Int×Int)->A Bool)->A Bool)(NJ:z2'×(Int×Int×Int×Int->A Bool)->A Bool)(ajG:List (Int×z1'×Int×Int)×Option (Int×z1'×Int×Int->A Bool)->A Bool)(ajH:(Int×Int×Int×Int)×Option a8->A Bool)(ajI:Int×Int×Int×Int->A Bool)(ajJ:Int×z1'×Int×Int->A Bool)(x:z2'×List (List (Int×z1'×Int×Int))×Int×z2'):A Bool:=
 letI c:=decide (Int.ofNat (List.length x.1)<=10);A.bind (cq c (ajE (x.1,ajI)) false) λy=>letI a:=c&&y&&decide (Int.ofNat (List.length x.2.1)<=6);A.bind (cq a (ajF (x.2.1,λx=>ajG (x,some ajJ))) false) λb2=>A.bind (cq (a&&b2) (oO (x.2.2.1,0,99)) false) λdE=>letI b:=a&&b2&&dE&&decide (Int.ofNat (List.length x.2.2.2)<=30);A.bind (cq b (NJ (x.2.2.2,λhy=>ajH (hy,some x))) false) λgA=>A.pure (b&&gA)
def NK(DP:z2'×List (List (Int×z1'×Int×Int))×Int×z2'->A Int)(NJ:z2'×(Int×Int×Int×Int->A Bool)->A Bool)(ajK:(Int×Int×Int×Int)×Option Int×Option a8×Option Int->A Bool)(x:a8×Bool):A (Option qu×Int):=
 A.bind (DP x.1) λy=>if decide (y≠0)=true then A.pure (none,y) else if (!x.2)=true then A.pure (none,1) else A.bind (A.loop (λ(D:z2'×Int×Int×a8×z2'×List (List (Int×z1'×Int×Int))×Int×z2'×List (z1')×Unit)=>letI i:=D.2.2.1;letI g:=List.getD D.1 (Int.toNat i) (0,0,0,0);letI c:=D.2.2.2.2;if decide (i<D.2.1)=true then A.bind (A.ab (0<=i/\i<Int.ofNat (List.length D.1)) (A.bind (A.loop (λ(D:z2'×Int×Int×a8×Int×(Int×Int×Int×Int)×z1'×Int×z2'×List (List (Int×z1'×Int×Int))×Int×z2'×List (z1')×Unit)=>letI d:=D.2.2.2;letI a:=d.2.2.2;letI j:=a.2.2;letI e:=j.2.2;if decide (a.2.1<=d.2.2.1.2.2.2)=true then A.bind (A.bind (NJ (d.1.2.2.2,λx=>ajK (x,some d.2.1,some d.1,some a.2.1))) (λy=>if y=true then A.ab (bP (Add.add (List.length a.1) (Add.add 0 1))) (A.pure (V.next (D.1,D.2.1,D.2.2.1,d.1,d.2.1,d.2.2.1,a.1++[a.2.1],a.2.1,j.1,j.2.1,e.1,e.2.1,e.2.2.1,()))) else A.pure (V.next (D.1,D.2.1,D.2.2.1,d.1,d.2.1,d.2.2.1,a.1,a.2.1,j.1,j.2.1,e.1,e.2.1,e.2.2.1,())))) (V.bx (λ(D:z2'×Int×Int×a8×Int×(Int×Int×Int×Int)×z1'×Int×z2'×List (List (Int×z1'×Int×Int))×Int×z2'×List (z1')×Unit)=>letI k:=D.2.2.2;letI b:=k.2.2.2;A.pure (V.next (D.1,D.2.1,D.2.2.1,k.1,k.2.1,k.2.2.1,b.1,IntKind.wrap .i64 (Add.add b.2.1 1),b.2.2.1,b.2.2.2.1,b.2.2.2.2.1,b.2.2.2.2.2.1,b.2.2.2.2.2.2.1,())))) else A.bind (A.pure (V.next (D.1,D.2.1,D.2.2.1,d.1,a.1,j.1,j.2.1,e.1,e.2.1,e.2.2.1,()))) λr=>A.pure (V.done r)) (D.1,D.2.1,i,D.2.2.2.1,i,g,[],g.2.2.1,c.1,c.2.1,c.2.2.1,c.2.2.2.1,c.2.2.2.2.1,())) (V.bx (λ(D:z2'×Int×Int×a8×z1'×z2'×List (List (Int×z1'×Int×Int))×Int×z2'×List (z1')×Unit)=>letI f:=D.2.2.2.2;if decide (Int.ofNat (List.length f.1)=0)=true then A.bind (A.bind (A.bind (A.pure (none,3)) (λr=>A.pure (V.done r))) (λr=>A.pure (V.done r))) λr=>A.pure (V.done r) else A.ab True (A.ab (bP (Add.add (List.length f.2.2.2.2.2.1) (Add.add 0 1))) (A.ab True (A.pure (V.next (D.1,D.2.1,D.2.2.1,D.2.2.2.1,f.2.1,f.2.2.1,f.2.2.2.1,f.2.2.2.2.1,f.2.2.2.2.2.1++[f.1],()))))))))) (V.bx (λ(D:z2'×Int×Int×a8×z2'×List (List (Int×z1'×Int×Int))×Int×z2'×List (z1')×Unit)=>letI h:=D.2.2.2.2;A.pure (V.next (D.1,D.2.1,IntKind.wrap .i64 (Add.add D.2.2.1 1),D.2.2.2.1,h.1,h.2.1,h.2.2.1,h.2.2.2.1,h.2.2.2.2.1,())))) else A.bind (A.pure (V.next (c.1,c.2.1,c.2.2.1,c.2.2.2.1,c.2.2.2.2.1,()))) λr=>A.pure (V.done r)) (x.1.1,Int.ofNat (List.length x.1.1),0,x.1,x.1.1,x.1.2.1,x.1.2.2.1,x.1.2.2.2,[],())) (V.bx (λ(D:z2'×List (List (Int×z1'×Int×Int))×Int×z2'×List (z1')×Unit)=>A.pure (some ((D.1,D.2.1,D.2.2.1,D.2.2.2.1),D.2.2.2.2.1),0)))
def ajL(oO:Int×Int×Int->A Bool)(x:a8×Int):A Bool:=
 A.bind (oO (x.2,0,IntKind.wrap .i64 (Int.ofNat (List.length x.1.1)-1))) λy=>A.pure y
def VA(oO:Int×Int×Int->A Bool)(x:a8×Int×Int):A Bool:=
 letI a:=Int.ofNat (List.length x.1.2.1);A.bind (oO (x.2.1,0,IntKind.wrap .i64 (a-1))) λy=>A.ab (y=true->(y=true/\y=true)/\(0<=x.2.1/\x.2.1<a)/\True) (A.bind (cq y (oO (x.2.2,0,IntKind.wrap .i64 (Int.ofNat (List.length (List.getD x.1.2.1 (Int.toNat x.2.1) []))-1))) false) (λb2=>A.pure (y&&b2)))
def NL(HD:a8×Int×Int×Int×Int->A Bool)(ajM:Int×Int->A Int)(x:Option qu×Int×Int×Int):A Int:=
 letI b:=(Option.getD x.1 (([],[],0,[]),[])).2;letI e:=List.getD b (Int.toNat x.2.1) [];A.bind (A.ab (Option.isSome x.1=true) (A.ab (0<=x.2.1/\x.2.1<Int.ofNat (List.length b)) (A.loop (λ(D:Option qu×Int×Int×Int×Int×z1'×Int×Int×Unit)=>letI c:=D.2.2.2;letI a:=c.2.2;letI f:=a.2.2.1;if decide (f<a.2.1)=true then A.bind (A.ab (0<=f/\f<Int.ofNat (List.length a.1)) (A.ab (Option.isSome D.1=true) (A.bind (HD ((Option.getD D.1 (([],[],0,[]),[])).1,D.2.1,List.getD a.1 (Int.toNat f) 0,D.2.2.1,c.1)) (λy=>if y=true then A.pure (V.next (D.1,D.2.1,D.2.2.1,c.1,IntKind.wrap .i64 (Add.add c.2.1 1),a.1,a.2.1,f,())) else A.pure (V.next (D.1,D.2.1,D.2.2.1,c.1,c.2.1,a.1,a.2.1,f,())))))) (V.bx (λ(D:Option qu×Int×Int×Int×Int×z1'×Int×Int×Unit)=>letI g:=D.2.2.2;A.pure (V.next (D.1,D.2.1,D.2.2.1,g.1,g.2.1,g.2.2.1,g.2.2.2.1,IntKind.wrap .i64 (Add.add g.2.2.2.2.1 1),())))) else A.bind (A.pure (V.next (D.1,D.2.1,c.2.1,()))) λr=>A.pure (V.done r)) (x.1,x.2.1,x.2.2.1,x.2.2.2,0,e,Int.ofNat (List.length e),0,())))) (V.bx (λ(D:Option qu×Int×Int×Unit)=>letI d:=(Option.getD D.1 (([],[],0,[]),[])).2;A.ab (Option.isSome D.1=true) (A.ab (0<=D.2.1/\D.2.1<Int.ofNat (List.length d)) (A.bind (ajM (D.2.2.1,Int.ofNat (List.length (List.getD d (Int.toNat D.2.1) [])))) (λy=>A.pure y)))))
def ajN(x:z1'):A Bool:=
 A.bind (A.loop (λ(D:z1'×Int×Unit)=>letI c:=D.2.1;letI b:=IntKind.wrap .i64 (c-1);letI a:=Int.ofNat (List.length D.1);if decide (c<a)=true then A.ab (0<=c/\c<a) (A.ab (0<=b/\b<a) (if decide (List.getD D.1 (Int.toNat c) 0<=List.getD D.1 (Int.toNat b) 0)=true then A.bind (A.bind (A.pure false) (λr=>A.pure (V.done r))) λr=>A.pure (V.done r) else A.pure (V.next (D.1,IntKind.wrap .i64 (Add.add c 1),())))) else A.bind (A.pure (V.next ())) λr=>A.pure (V.done r)) (x,1,())) (V.bx (λ(D:Unit)=>A.pure true))
def ajO(x:Int×Int×Int):A Bool:=
 A.pure (decide (x.2.1<=x.1)&&decide (x.1<=x.2.2))
def VB(DQ:Int->A Bool)(NM:Int×Int->A Bool)(x:Int×Int×Int×Int):A Bool:=
 A.bind (DQ x.1) λy=>A.bind (cq y (DQ x.2.1) false) λb2=>A.bind (cq (y&&b2) (NM x.2.2) false) λdE=>A.pure (y&&b2&&dE)
def VC(oO:Int×Int×Int->A Bool)(x:Int):A Bool:=
 A.bind (oO (x,0,9)) λy=>A.pure y
def ajP(oO:Int×Int×Int->A Bool)(x:Int×Int):A Bool:=
 A.bind (oO (x.1,0,x.2)) λy=>A.pure (y&&decide (x.2<=999))
def VD(ajQ:z1'->A Bool)(ajR:z1'×(Int->A Bool)->A Bool)(DQ:Int->A Bool)(NM:Int×Int->A Bool)(x:Int×z1'×Int×Int):A Bool:=
 A.bind (DQ x.1) λy=>letI a:=y&&decide (Int.ofNat (List.length x.2.1)<=4);A.bind (cq a (ajR (x.2.1,DQ)) false) λb2=>A.bind (cq (a&&b2) (ajQ x.2.1) false) λdE=>A.bind (cq (a&&b2&&dE) (NM x.2.2) false) λgA=>A.pure (a&&b2&&dE&&gA)
def VE(ajS:List (Int×z1'×Int×Int)×(Int×z1'×Int×Int->A Bool)->A Bool)(x:List (Int×z1'×Int×Int)×Option (Int×z1'×Int×Int->A Bool)):A Bool:=
 letI a:=decide (Int.ofNat (List.length x.1)<=4);A.bind (cq a (ajS (x.1,Option.getD x.2 λx=>{ ck:=False,bK:=λx=>False })) false) λy=>A.pure (a&&y)
def VF(im:a8×Int->A Bool)(x2:a8×Int×Int->A Bool)(oO:Int×Int×Int->A Bool)(x:(Int×Int×Int×Int)×Option a8):A Bool:=
 letI a:=Option.getD x.2 ([],[],0,[]);A.bind (im (a,x.1.1)) λy=>A.bind (cq y (x2 (a,x.1.2.1,x.1.2.2.1)) false) λb2=>A.bind (cq (y&&b2) (oO (x.1.2.2.2,0,1)) false) λdE=>A.pure (y&&b2&&dE)
def VG(HD:a8×Int×Int×Int×Int->A Bool)(x:(Int×Int×Int×Int)×Option Int×Option a8×Option Int):A Bool:=
 letI e:=Option.getD x.2.1 0;letI c:=decide (x.1.1≠e);letI b:=(Option.getD x.2.2.1 ([],[],0,[]),e,Option.getD x.2.2.2 0,x.1.2.1,x.1.2.2.1);letI a:=(!c)=true;letI d:=a->a/\True/\True;A.ab d (A.ab d (A.ab (a->(a/\a/\a/\a/\a/\True)/\(HD b).ck/\True) (A.ab d (A.ab (a->(a/\True)/\True/\True) (A.ab (a->(a/\a)/\True/\True) (A.ab (True/\(c=false->a)) (A.pure (c||decide (A.val (HD b) false=decide (x.1.2.2.2=1))))))))))
def VH(oO:Int×Int×Int->A Bool)(hK:z1'×Int->A Bool)(x:a8×Int×Int×Int×Int):A Bool:=
 letI e:=x.2.2.2;letI c:=List.getD x.1.2.1 (Int.toNat e.1) [];letI b:=List.getD x.1.1 (Int.toNat x.2.1) (0,0,0,0);letI a:=List.getD c (Int.toNat e.2) (0,[],0,0);letI d:=decide (b.1=a.1);A.ab (0<=x.2.1/\x.2.1<Int.ofNat (List.length x.1.1)) (A.ab (0<=e.1/\e.1<Int.ofNat (List.length x.1.2.1)) (A.ab (0<=e.2/\e.2<Int.ofNat (List.length c)) (A.bind (cq d (hK (a.2.1,b.2.1)) false) (λy=>A.bind (cq (d&&y) (oO (x.2.2.1,a.2.2.1,IntKind.wrap .i64 (Add.add a.2.2.2 x.1.2.2.1))) false) λb2=>A.pure (d&&y&&b2)))))
def VI(x:Int×Int):A Int:=
 if decide (x.1=x.2)=true then A.pure 1 else if decide (x.1=0)=true then A.pure 2 else A.pure 3
def NN(DO:z2'×List (List (Int×z1'×Int×Int))×Int×z2'->A Int)(x:z2'×List (List (Int×z1'×Int×Int))×Int×z2'):A Bool:=
 if (decide (Int.ofNat (List.length x.1) > 40)||decide (Int.ofNat (List.length x.2.1) > 40)||decide (Int.ofNat (List.length x.2.2.2) > 60))=true then A.pure true else A.bind (A.loop (λ(D:Int×a8×Unit)=>letI e:=D.1<Int.ofNat (List.length D.2.1.2.1);if decide e=true then A.bind (A.ab (0<=D.1/\e) (if decide (Int.ofNat (List.length (List.getD D.2.1.2.1 (Int.toNat D.1) [])) > 20)=true then A.bind (A.bind (A.bind (A.pure true) (λr=>A.pure (V.done r))) (λr=>A.pure (V.done r))) λr=>A.pure (V.done r) else A.loop (λ(D:Int×Int×a8×Unit)=>letI g:=D.2.2.1;letI c:=0<=D.1/\D.1<Int.ofNat (List.length g.2.1);letI a:=List.getD g.2.1 (Int.toNat D.1) [];letI f:=D.2.1<Int.ofNat (List.length a);A.ab c (if decide f=true then A.ab c (A.ab (0<=D.2.1/\f) (if decide (Int.ofNat (List.length (List.getD a (Int.toNat D.2.1) (0,[],0,0)).2.1) > 20)=true then A.bind (A.bind (A.bind (A.bind (A.pure true) (λr=>A.pure (V.done r))) (λr=>A.pure (V.done r))) (λr=>A.pure (V.done r))) λr=>A.pure (V.done r) else A.pure (V.next (D.1,IntKind.wrap .i64 (Add.add D.2.1 1),g,())))) else A.bind (A.pure (V.next (D.1,g,()))) λr=>A.pure (V.done r))) (D.1,0,D.2.1,()))) (V.bx (λ(D:Int×a8×Unit)=>A.pure (V.next (IntKind.wrap .i64 (Add.add D.1 1),D.2.1,())))) else A.bind (A.pure (V.next (D.2.1,()))) λr=>A.pure (V.done r)) (0,x,())) (V.bx (λ(D:a8×Unit)=>A.bind (DO D.1) λy=>if decide (y≠0)=true then A.pure false else A.bind (A.loop (λ(D:Int×a8×Unit)=>letI d:=(List.getD D.2.1.1 (Int.toNat D.1) (0,0,0,0)).2.2;letI b:=D.1<Int.ofNat (List.length D.2.1.1);if decide b=true then A.ab (0<=D.1/\b) (A.ab (0<=D.1/\b) (if decide (IntKind.wrap .i64 (d.2-d.1)>=50)=true then A.bind (A.bind (A.pure true) (λr=>A.pure (V.done r))) λr=>A.pure (V.done r) else A.pure (V.next (IntKind.wrap .i64 (Add.add D.1 1),D.2.1,())))) else A.bind (A.pure (V.next (D.2.1,()))) λr=>A.pure (V.done r)) (0,D.1,())) (V.bx (λ(D:a8×Unit)=>A.pure (decide (Int.ofNat (List.length D.1.1) > 6)||decide (Int.ofNat (List.length D.1.2.1) > 4)||decide (Int.ofNat (List.length D.1.2.2.2) > 10))))))
def ajT(x:Unit):A a8:=
 A.pure ([(1,2,300,310),(1,3,305,305),(2,1,50,60),(1,2,320,330)],[[(1,[2,3],300,306),(2,[1],40,58)],[(1,[2],310,326)]],5,[(0,1,0,0)])
abbrev dj:Type:=Int×Int×Int×Int×z1'
abbrev dA:Type:=z1'×(Int×Int)×Int×Int×Int
abbrev DR:Type:=Int×Int×Int
abbrev bF:Type:=a8×z1'×List dj×List dA×List DR×Int
abbrev dw:Type:=bF×z4'×z5'
def VJ(ajU:z2'×List (List (Int×z1'×Int×Int))×Int×z2'->A a8)(x:bF):A (bF):=
 letI p:=x.2.2.2;A.bind (ajU x.1) λy=>A.ab (bP (Add.add 0 (List.length x.2.1))) (A.ab (bP (Add.add 0 (List.length x.2.2.1))) (A.ab (bP (Add.add 0 (List.length p.1))) (A.ab (bP (Add.add 0 (List.length p.2.1))) (A.bind (A.loop (λ(D:Int×(a8×z1'×List (Int×Int×Int×Int×z1')×List dA×z3'×Int)×Int×Int×z2'×List (List (Int×z1'×Int×Int))×Int×z2'×Int×z1'×List dj×List dA×z3'×Unit)=>letI m:=Int.toNat D.1;letI e:=(List.getD D.2.1.2.2.1 m (0,0,0,0,[])).2.2.2.2;letI d:=D.2.2.2.2;letI a:=d.2.2.2.2;letI o:=a.2.2;letI k:=D.1<Int.ofNat (List.length o.1);letI c:=List.getD o.1 m (0,0,0,0,[]);if decide k=true then A.ab (0<=D.1/\D.1<Int.ofNat (List.length D.2.1.2.2.1)) (A.ab (bP (Add.add 0 (List.length e))) (A.ab (0<=D.1/\k) (A.pure (V.next (IntKind.wrap .i64 (Add.add D.1 1),D.2.1,D.2.2.1,D.2.2.2.1,d.1,d.2.1,d.2.2.1,d.2.2.2.1,a.1,a.2.1,List.set o.1 m (c.1,c.2.1,c.2.2.1,c.2.2.2.1,[]++e),o.2.1,o.2.2.1,()))))) else A.bind (A.pure (V.next (D.2.1,D.2.2.1,D.2.2.2.1,d.1,d.2.1,d.2.2.1,d.2.2.2.1,a.1,a.2.1,o.1,o.2.1,o.2.2.1,()))) λr=>A.pure (V.done r)) (0,x,0,0,y.1,y.2.1,y.2.2.1,y.2.2.2,p.2.2,[]++x.2.1,[]++x.2.2.1,[]++p.1,[]++p.2.1,())) (V.bx (λ(D:(a8×z1'×List dj×List (z1'×(Int×Int)×Int×Int×Int)×z3'×Int)×Int×Int×z2'×List (List (Int×z1'×Int×Int))×Int×z2'×Int×z1'×List dj×List dA×z3'×Unit)=>letI g:=D.2.2.2.2.2;A.bind (A.loop (λ(D:Int×(a8×z1'×List dj×List (z1'×(Int×Int)×Int×Int×Int)×z3'×Int)×Int×Int×z2'×List (List (Int×z1'×Int×Int))×Int×z2'×Int×z1'×List dj×List dA×z3'×Unit)=>letI n:=Int.toNat D.1;letI i:=D.2.2.2.2;letI f:=(List.getD D.2.1.2.2.2.1 n ([],(0,0),0,0,0)).1;letI b:=i.2.2.2;letI j:=b.2.2.2.2;letI l:=D.1<Int.ofNat (List.length j.1);if decide l=true then A.ab (0<=D.1/\D.1<Int.ofNat (List.length D.2.1.2.2.2.1)) (A.ab (bP (Add.add 0 (List.length f))) (A.ab (0<=D.1/\l) (A.pure (V.next (IntKind.wrap .i64 (Add.add D.1 1),D.2.1,D.2.2.1,D.2.2.2.1,i.1,i.2.1,i.2.2.1,b.1,b.2.1,b.2.2.1,b.2.2.2.1,List.set j.1 n ([]++f,(List.getD j.1 n ([],(0,0),0,0,0)).2),j.2.1,()))))) else A.bind (A.pure (V.next (D.2.2.1,D.2.2.2.1,i.1,i.2.1,i.2.2.1,b.1,b.2.1,b.2.2.1,b.2.2.2.1,j.1,j.2.1,()))) λr=>A.pure (V.done r)) (0,D.1,D.2.1,D.2.2.1,D.2.2.2.1,D.2.2.2.2.1,g.1,g.2.1,g.2.2.1,g.2.2.2.1,g.2.2.2.2.1,g.2.2.2.2.2.1,g.2.2.2.2.2.2.1,())) (V.bx (λ(D:Int×Int×z2'×List (List (Int×z1'×Int×Int))×Int×z2'×Int×z1'×List dj×List dA×z3'×Unit)=>letI h:=D.2.2.2.2.2;A.pure ((D.2.2.1,D.2.2.2.1,D.2.2.2.2.1,h.1),h.2.2.1,h.2.2.2.1,h.2.2.2.2.1,h.2.2.2.2.2.1,h.2.1)))))))))
def VK(ajV:bF×Bool->A (Int×Int))(x:bF):A (Int×Int):=
 A.bind (ajV (x,true)) λy=>A.pure y
def VL(oP:bF×Bool->A (Option dw×Int))(ajW:Option dw->Prop)(ajX:Option dw->List (z1'))(NO:Option dw×z1'->A (z3'×Bool))(ajY:Option dw×z3'->A Bool)(NP:Option dw×z3'->A Int)(x:bF):A (Int×Int):=
 A.bind (oP (x,true)) λy=>if decide (y.2≠0)=true then A.pure (0,y.2) else A.ab (ajW y.1) (A.bind (jL (λ(D:Option (bF×z4'×z5')×Int×Unit) (y:z1')=>A.bind (A.bind (NO (D.1,y)) (λb2=>A.bind (cq (!(!b2.2)) (ajY (D.1,b2.1)) false) λdE=>if (!b2.2||!dE)=true then A.pure (di.normal,D.1,D.2.1,()) else A.bind (NP (D.1,b2.1)) λgA=>if (decide (D.2.1=-1)||decide (gA<D.2.1))=true then A.pure (di.normal,D.1,gA,()) else A.pure (di.normal,D.1,D.2.1,()))) λp=>A.pure (p.1,p.2.1,p.2.2.1,())) (ajX y.1) (y.1,-1,())) (λp=>letI a:=decide (p.2.2.1=-1)=true;sq (if a then A.pure (0,3) else A.pure (p.2.2.1,0)) (λid=>if id=0 then if a then A.pure (0,3) else A.pure (p.2.2.1,0) else A.fail) A.fail p.1))
def VM(oP:bF×Bool->A (Option dw×Int))(DS:bF×Int->A Bool)(NQ:z1'×Int×Unit->A (z1'×Unit))(Aq:Option dw×z1'->A Bool)(x:bF×Int):A (z1'×Int):=
 A.ab (DS x).ck (A.ab (oP (x.1,A.val (DS x) false)).ck (if decide ((A.val (oP (x.1,A.val (DS x) false)) (none,0)).2≠0)=true then A.pure ([],(A.val (oP (x.1,A.val (DS x) false)) (none,0)).2) else A.bind (NQ ([-1],Int.ofNat (List.length x.1.2.2.2.1),())) λy=>A.bind (A.loop (λ(D:Int×Option ((a8×z1'×List dj×List dA×z3'×Int)×z4'×z5')×Int×Int×z1'×z1'×Unit)=>letI b:=D.2.2.2;letI a:=List.set b.2.2.1 (Int.toNat D.1) b.1;if decide (b.1<D.2.2.1)=true then A.bind (A.ab (0<=D.1/\D.1<Int.ofNat (List.length b.2.2.1)) (A.bind (Aq (D.2.1,a)) (λy=>if y=true then A.ab (bP (Add.add (List.length b.2.1) (Add.add 0 1))) (A.pure (V.next (D.1,D.2.1,D.2.2.1,b.1,b.2.1++[b.1],a,()))) else A.pure (V.next (D.1,D.2.1,D.2.2.1,b.1,b.2.1,a,()))))) (V.bx (λ(D:Int×Option ((a8×z1'×List dj×List (z1'×(Int×Int)×Int×Int×Int)×z3'×Int)×z4'×z5')×Int×Int×z1'×z1'×Unit)=>A.pure (V.next (D.1,D.2.1,D.2.2.1,IntKind.wrap .i64 (Add.add D.2.2.2.1 1),D.2.2.2.2.1,D.2.2.2.2.2.1,())))) else A.bind (A.pure (V.next (b.2.1,()))) λr=>A.pure (V.done r)) (x.2,(A.val (oP (x.1,A.val (DS x) false)) (none,0)).1,Int.ofNat (List.length x.1.2.2.1),0,[],y.1,())) (V.bx (λ(D:z1'×Unit)=>A.pure (D.1,0)))))
def VN(DP:z2'×List (List (Int×z1'×Int×Int))×Int×z2'->A Int)(ajZ:bF->A Bool)(x:bF):A Int:=
 A.bind (DP x.1) λy=>if decide (y≠0)=true then A.pure y else A.bind (ajZ x) λy=>if (!y)=true then A.pure 80 else A.pure 0
def VO(DO:z2'×List (List (Int×z1'×Int×Int))×Int×z2'->A Int)(n3:Int×Int×Int->A Bool)(VP:bF×Int×Int×Int×Int×z1'->A Bool)(aj0:z1'×(Int×Int)×Int×Int×Int->A Bool)(x:bF):A Int:=
 letI a:=decide (Int.ofNat (List.length x.2.1)≠Int.ofNat (List.length x.1.1))||decide (Int.ofNat (List.length x.2.2.1) > 8)||decide (Int.ofNat (List.length x.2.2.2.1) > 6)||decide (Int.ofNat (List.length x.2.2.2.2.1) > 8);A.bind (DO x.1) λy=>if decide (y≠0)=true then A.pure y else A.bind (cq (!a) (n3 (x.2.2.2.2.2,0,99)) false) λy=>if (a||!y)=true then A.pure 80 else A.bind (A.loop (λ(D:Int×(a8×z1'×List (Int×Int×Int×Int×z1')×List dA×z3'×Int)×Unit)=>letI g:=D.1<Int.ofNat (List.length D.2.1.2.1);if decide g=true then A.ab (0<=D.1/\g) (A.bind (n3 (List.getD D.2.1.2.1 (Int.toNat D.1) 0,0,10)) (λy=>if (!y)=true then A.bind (A.bind (A.pure 80) (λr=>A.pure (V.done r))) λr=>A.pure (V.done r) else A.pure (V.next (IntKind.wrap .i64 (Add.add D.1 1),D.2.1,())))) else A.bind (A.pure (V.next (D.2.1,()))) λr=>A.pure (V.done r)) (0,x,())) (V.bx (λ(D:(a8×z1'×List dj×List dA×z3'×Int)×Unit)=>A.bind (A.loop (λ(D:Int×(a8×z1'×List dj×List dA×z3'×Int)×Unit)=>letI f:=D.1<Int.ofNat (List.length D.2.1.2.2.1);letI c:=(D.2.1,List.getD D.2.1.2.2.1 (Int.toNat D.1) (0,0,0,0,[]));if decide f=true then A.ab (0<=D.1/\f) (A.ab (VP c).ck (if (!(A.val (VP c) false))=true then A.bind (A.bind (A.pure 80) (λr=>A.pure (V.done r))) λr=>A.pure (V.done r) else A.pure (V.next (IntKind.wrap .i64 (Add.add D.1 1),D.2.1,())))) else A.bind (A.pure (V.next (D.2.1,()))) λr=>A.pure (V.done r)) (0,D.1,())) (V.bx (λ(D:(a8×z1'×List dj×List (z1'×(Int×Int)×Int×Int×Int)×z3'×Int)×Unit)=>A.bind (A.loop (λ(D:Int×(a8×z1'×List dj×List (z1'×(Int×Int)×Int×Int×Int)×z3'×Int)×Unit)=>letI e:=D.1<Int.ofNat (List.length D.2.1.2.2.2.1);if decide e=true then A.ab (0<=D.1/\e) (A.bind (aj0 (List.getD D.2.1.2.2.2.1 (Int.toNat D.1) ([],(0,0),0,0,0))) (λy=>if (!y)=true then A.bind (A.bind (A.pure 80) (λr=>A.pure (V.done r))) λr=>A.pure (V.done r) else A.pure (V.next (IntKind.wrap .i64 (Add.add D.1 1),D.2.1,())))) else A.bind (A.pure (V.next (D.2.1,()))) λr=>A.pure (V.done r)) (0,D.1,())) (V.bx (λ(D:(bF)×Unit)=>A.bind (A.loop (λ(D:Int×(a8×z1'×List dj×List dA×z3'×Int)×Unit)=>letI d:=D.1<Int.ofNat (List.length D.2.1.2.2.2.2.1);letI b:=List.getD D.2.1.2.2.2.2.1 (Int.toNat D.1) (0,0,0);if decide d=true then A.ab (0<=D.1/\d) (A.bind (n3 (b.1,0,99)) (λy=>A.bind (cq (!(!y)) (n3 (b.2.1,0,IntKind.wrap .i64 (Int.ofNat (List.length D.2.1.1.1)-1))) false) λb2=>A.bind (cq (!(!y||!b2)) (n3 (b.2.2,1,10)) false) λdE=>if (!y||!b2||!dE)=true then A.bind (A.bind (A.pure 80) (λr=>A.pure (V.done r))) λr=>A.pure (V.done r) else A.pure (V.next (IntKind.wrap .i64 (Add.add D.1 1),D.2.1,())))) else A.bind (A.pure (V.next ())) λr=>A.pure (V.done r)) (0,D.1,())) (V.bx (λ(D:Unit)=>A.pure 0))))))))
def VQ(oP:bF×Bool->A (Option dw×Int))(Aq:Option dw×z1'->A Bool)(Ar:bF×z1'->A Bool)(l3:Option dw×z1'->A Int)(x:bF×z1'):A (Int×Int):=
 A.ab (Ar x).ck (A.ab (oP (x.1,A.val (Ar x) false)).ck (if decide ((A.val (oP (x.1,A.val (Ar x) false)) (none,0)).2≠0)=true then A.pure (0,(A.val (oP (x.1,A.val (Ar x) false)) (none,0)).2) else A.bind (Aq ((A.val (oP (x.1,A.val (Ar x) false)) (none,0)).1,x.2)) λy=>if (!y)=true then A.pure (0,3) else A.bind (l3 ((A.val (oP (x.1,A.val (Ar x) false)) (none,0)).1,x.2)) λy=>A.pure (y,0)))
def VR(oP:bF×Bool->A (Option dw×Int))(aj1:Option dw->A (z1'))(l3:Option dw×z1'->A Int)(x:bF×Bool):A (Int×Int):=
 A.bind (oP x) λy=>if decide (y.2≠0)=true then A.pure (0,y.2) else A.bind (aj1 y.1) λb2=>A.bind (l3 (y.1,b2)) λy=>A.pure (y,0)
def NR(DT:bF->A Int)(x3:a8×Int->A ((Int×Int)×Int))(rv:a8×Int×Int×Int->A (Int×Int))(As:z4'×Int->A (z4'))(x:bF×Bool):A (Option dw×Int):=
 letI e1:=x.1.1.2;letI f1:=x.1.2.2;A.bind (DT x.1) λy=>if decide (y≠0)=true then A.pure (none,y) else if (!x.2)=true then A.pure (none,1) else A.bind (if decide (Int.ofNat (List.length x.1.2.1) > 0)=true then A.bind (x3 (x.1.1,0)) λy=>if decide (y.2≠0)=true then A.bind (A.pure (none,y.2)) λr=>A.pure (V.done r) else A.pure (V.next (x.1,[],x.1.1.1,e1.1,e1.2.1,e1.2.2,x.1.2.1,f1.1,f1.2.1,f1.2.2.1,f1.2.2.2,())) else A.pure (V.next (x.1,[],x.1.1.1,e1.1,e1.2.1,e1.2.2,x.1.2.1,f1.1,f1.2.1,f1.2.2.1,f1.2.2.2,()))) (V.bx (λ(D:(a8×z1'×List dj×List (z1'×(Int×Int)×Int×Int×Int)×z3'×Int)×z5'×z2'×List (List (Int×z1'×Int×Int))×Int×z2'×z1'×List dj×List (z1'×(Int×Int)×Int×Int×Int)×z3'×Int×Unit)=>letI t:=D.2.2.2.2.2;A.bind (A.loop (λ(D:Int×Int×(a8×z1'×List dj×List dA×z3'×Int)×z5'×z2'×List (List (Int×z1'×Int×Int))×Int×z2'×z1'×List dj×List (z1'×(Int×Int)×Int×Int×Int)×z3'×Int×Unit)=>letI bE:=D.2.2;letI h:=bE.2.2.2.2;letI g1:=h.2.2.2;if decide (D.2.1<D.1)=true then A.bind (A.loop (λ(D:Int×Int×Int×List (List (Int×z1'×Int×Int))×Int×Int×(a8×z1'×List dj×List (z1'×(Int×Int)×Int×Int×Int)×z3'×Int)×z5'×z2'×List (List (Int×z1'×Int×Int))×Int×z2'×z1'×List dj×List dA×z3'×Int×Unit)=>letI i1:=D.2.2.2;letI j:=i1.2.2;letI c:=j.2.2.2;letI o:=c.2.2.2.2;if decide (j.1<i1.2.1)=true then A.bind (A.ab (0<=j.1/\j.1<Int.ofNat (List.length i1.1)) (A.loop (λ(D:Int×Int×Int×Int×List (List (Int×z1'×Int×Int))×Int×Int×Int×Int×(a8×z1'×List dj×List dA×z3'×Int)×z5'×z2'×List (List (Int×z1'×Int×Int))×Int×z2'×z1'×List (Int×Int×Int×Int×z1')×List dA×z3'×Int×Unit)=>letI m1:=D.2.2;letI k:=m1.2.2;letI hQ:=k.2.2;letI a:=hQ.2.2;letI w:=a.2.2.2;letI f:=w.2.2.2;letI d1:=f.2.2.2;if decide (a.1<hQ.2.1)=true then A.bind (A.bind (rv (a.2.1.1,D.1,D.2.1,a.1)) (λy=>if decide (y.1=1)=true then A.ab True (A.ab (True/\True/\True) (A.ab True (A.pure (V.next (D.1,D.2.1,m1.1,m1.2.1,k.1,k.2.1,hQ.1,hQ.2.1,a.1,a.2.1,vL a.2.2.1 (D.1,D.2.1,a.1) (IntKind.wrap .i64 (Add.add (Option.getD (Option.map (λx=>x.2) (List.find? (λp=>decide (D.1=p.1.1)&&(decide (D.2.1=p.1.2.1)&&decide (a.1=p.1.2.2))) a.2.2.1)) 0) 1)),w.1,w.2.1,w.2.2.1,f.1,f.2.1,f.2.2.1,d1.1,d1.2.1,d1.2.2.1,()))))) else A.pure (V.next (D.1,D.2.1,m1.1,m1.2.1,k.1,k.2.1,hQ.1,hQ.2.1,a.1,a.2.1,a.2.2.1,w.1,w.2.1,w.2.2.1,f.1,f.2.1,f.2.2.1,d1.1,d1.2.1,d1.2.2.1,())))) (V.bx (λ(D:Int×Int×Int×Int×List (List (Int×z1'×Int×Int))×Int×Int×Int×Int×bF×z5'×z2'×List (List (Int×z1'×Int×Int))×Int×z2'×z1'×List dj×List dA×z3'×Int×Unit)=>letI aw:=D.2.2.2.2.2;letI g:=aw.2.2.2.2;letI z:=g.2.2.2.2.2;A.pure (V.next (D.1,D.2.1,D.2.2.1,D.2.2.2.1,D.2.2.2.2.1,aw.1,aw.2.1,aw.2.2.1,IntKind.wrap .i64 (Add.add aw.2.2.2.1 1),g.1,g.2.1,g.2.2.1,g.2.2.2.1,g.2.2.2.2.1,z.1,z.2.1,z.2.2.1,z.2.2.2.1,z.2.2.2.2.1,z.2.2.2.2.2.1,())))) else A.bind (A.pure (V.next (D.1,m1.1,m1.2.1,k.1,k.2.1,hQ.1,a.2.1,a.2.2.1,w.1,w.2.1,w.2.2.1,f.1,f.2.1,f.2.2.1,d1.1,d1.2.1,d1.2.2.1,()))) λr=>A.pure (V.done r)) (D.1,j.1,D.2.1,D.2.2.1,i1.1,i1.2.1,j.1,Int.ofNat (List.length (List.getD i1.1 (Int.toNat j.1) [])),0,j.2.1,j.2.2.1,c.1,c.2.1,c.2.2.1,c.2.2.2.1,o.1,o.2.1,o.2.2.1,o.2.2.2.1,o.2.2.2.2.1,()))) (V.bx (λ(D:Int×Int×Int×List (List (Int×z1'×Int×Int))×Int×Int×(a8×z1'×List dj×List dA×z3'×Int)×z5'×z2'×List (List (Int×z1'×Int×Int))×Int×z2'×z1'×List dj×List (z1'×(Int×Int)×Int×Int×Int)×z3'×Int×Unit)=>letI E:=D.2.2.2.2;letI i:=E.2.2.2.2;letI aP:=i.2.2.2.2;A.pure (V.next (D.1,D.2.1,D.2.2.1,D.2.2.2.1,E.1,IntKind.wrap .i64 (Add.add E.2.1 1),E.2.2.1,E.2.2.2.1,i.1,i.2.1,i.2.2.1,i.2.2.2.1,aP.1,aP.2.1,aP.2.2.1,aP.2.2.2.1,aP.2.2.2.2.1,())))) else A.bind (A.pure (V.next (D.2.1,D.2.2.1,j.2.1,j.2.2.1,c.1,c.2.1,c.2.2.1,c.2.2.2.1,o.1,o.2.1,o.2.2.1,o.2.2.2.1,o.2.2.2.2.1,()))) λr=>A.pure (V.done r)) (D.2.1,D.1,D.2.1,bE.1.1.2.1,Int.ofNat (List.length bE.1.1.2.1),0,bE.1,bE.2.1,bE.2.2.1,bE.2.2.2.1,h.1,h.2.1,h.2.2.1,g1.1,g1.2.1,g1.2.2.1,g1.2.2.2.1,())) (V.bx (λ(D:Int×Int×(a8×z1'×List dj×List (z1'×(Int×Int)×Int×Int×Int)×z3'×Int)×z5'×z2'×List (List (Int×z1'×Int×Int))×Int×z2'×z1'×List dj×List (z1'×(Int×Int)×Int×Int×Int)×z3'×Int×Unit)=>letI jH:=D.2.2.2;letI m:=jH.2.2.2;A.pure (V.next (D.1,IntKind.wrap .i64 (Add.add D.2.1 1),D.2.2.1,jH.1,jH.2.1,jH.2.2.1,m.1,m.2.1,m.2.2.1,m.2.2.2.1,m.2.2.2.2.1,m.2.2.2.2.2.1,m.2.2.2.2.2.2.1,())))) else A.bind (A.pure (V.next (bE.1,bE.2.1,bE.2.2.1,bE.2.2.2.1,h.1,h.2.1,h.2.2.1,g1.1,g1.2.1,g1.2.2.1,g1.2.2.2.1,()))) λr=>A.pure (V.done r)) (Int.ofNat (List.length D.1.2.1),0,D.1,D.2.1,D.2.2.1,D.2.2.2.1,D.2.2.2.2.1,t.1,t.2.1,t.2.2.1,t.2.2.2.1,t.2.2.2.2.1,t.2.2.2.2.2.1,())) (V.bx (λ(D:(a8×z1'×List (Int×Int×Int×Int×z1')×List dA×z3'×Int)×z5'×z2'×List (List (Int×z1'×Int×Int))×Int×z2'×z1'×List (Int×Int×Int×Int×z1')×List dA×z3'×Int×Unit)=>letI u:=D.2.2.2.2.2;A.bind (A.loop (λ(D:z1'×Int×Int×(a8×z1'×List dj×List dA×z3'×Int)×z5'×z2'×List (List (Int×z1'×Int×Int))×Int×z2'×z1'×List (Int×Int×Int×Int×z1')×List dA×z3'×Int×z4'×Unit)=>letI l:=D.2.2;letI x4:=l.2.2.2;letI n:=List.getD D.1 (Int.toNat l.1) 0;letI d:=x4.2.2.2;letI b8:=d.2.2.2.2;if decide (l.1<D.2.1)=true then A.ab (0<=l.1/\l.1<Int.ofNat (List.length D.1)) (A.ab True (A.ab (As ([(l.1,0)],n)).ck (A.ab (bP (Add.add (List.length b8.2.2.1) (List.length (A.val (As ([(l.1,0)],n)) [])))) (A.ab True (A.pure (V.next (D.1,D.2.1,IntKind.wrap .i64 (Add.add l.1 1),l.2.1,l.2.2.1,x4.1,x4.2.1,x4.2.2.1,d.1,d.2.1,d.2.2.1,d.2.2.2.1,b8.1,b8.2.1,b8.2.2.1++A.val (As ([(l.1,0)],n)) [],()))))))) else A.bind (A.pure (V.next (l.2.1,l.2.2.1,x4.1,x4.2.1,x4.2.2.1,d.1,d.2.1,d.2.2.1,d.2.2.2.1,b8.1,b8.2.1,b8.2.2.1,()))) λr=>A.pure (V.done r)) (D.1.2.1,Int.ofNat (List.length D.1.2.1),0,D.1,D.2.1,D.2.2.1,D.2.2.2.1,D.2.2.2.2.1,u.1,u.2.1,u.2.2.1,u.2.2.2.1,u.2.2.2.2.1,u.2.2.2.2.2.1,[],())) (V.bx (λ(D:(a8×z1'×List dj×List (z1'×(Int×Int)×Int×Int×Int)×z3'×Int)×z5'×z2'×List (List (Int×z1'×Int×Int))×Int×z2'×z1'×List dj×List dA×z3'×Int×z4'×Unit)=>letI q:=D.2.2.2.2.2;A.bind (A.loop (λ(D:z3'×Int×Int×z5'×z2'×List (List (Int×z1'×Int×Int))×Int×z2'×z1'×List (Int×Int×Int×Int×z1')×List dA×z3'×Int×z4'×Unit)=>letI s:=D.2.2;letI eb:=s.2.2.2;letI e:=eb.2.2;letI dN:=e.2.2.2.2;letI b:=List.getD D.1 (Int.toNat s.1) (0,0,0);letI dy:=(b.2.1,b.1);if decide (s.1<D.2.1)=true then A.ab (0<=s.1/\s.1<Int.ofNat (List.length D.1)) (A.ab True (A.ab (As ([dy],b.2.2)).ck (A.ab (bP (Add.add (List.length dN.2.2.1) (List.length (A.val (As ([dy],b.2.2)) [])))) (A.ab True (A.pure (V.next (D.1,D.2.1,IntKind.wrap .i64 (Add.add s.1 1),s.2.1,s.2.2.1,eb.1,eb.2.1,e.1,e.2.1,e.2.2.1,e.2.2.2.1,dN.1,dN.2.1,dN.2.2.1++A.val (As ([dy],b.2.2)) [],()))))))) else A.bind (A.pure (V.next (s.2.1,s.2.2.1,eb.1,eb.2.1,e.1,e.2.1,e.2.2.1,e.2.2.2.1,dN.1,dN.2.1,dN.2.2.1,()))) λr=>A.pure (V.done r)) (D.1.2.2.2.2.1,Int.ofNat (List.length D.1.2.2.2.2.1),0,D.2.1,D.2.2.1,D.2.2.2.1,D.2.2.2.2.1,q.1,q.2.1,q.2.2.1,q.2.2.2.1,q.2.2.2.2.1,q.2.2.2.2.2.1,q.2.2.2.2.2.2.1,())) (V.bx (λ(D:z5'×z2'×List (List (Int×z1'×Int×Int))×Int×z2'×z1'×List (Int×Int×Int×Int×z1')×List dA×z3'×Int×z4'×Unit)=>letI v:=D.2.2.2.2.2;A.pure (some (((D.2.1,D.2.2.1,D.2.2.2.1,D.2.2.2.2.1),v.1,v.2.1,v.2.2.1,v.2.2.2.1,v.2.2.2.2.1),v.2.2.2.2.2.1,D.1),0)))))))))
def NS(HE:(z1'×(Int×Int)×Int×Int×Int)×Int×Int×Int×Int×z1'->A Int)(x:Option dw×z1'):A (z3'×Bool):=
 A.bind (A.loop (λ(D:Option ((a8×z1'×List dj×List dA×z3'×Int)×z4'×z5')×z1'×Int×Int×z3'×Unit)=>letI l:=D.2;letI g:=Option.isSome D.1=true;letI e:=l.2.2;letI j:=Int.toNat e.1;letI b:=List.getD l.1 j 0;letI a:=(Option.getD D.1 ((([],[],0,[]),[],[],[],[],0),[],[])).1.2.2;letI f:=List.getD a.1 (Int.toNat b) (0,0,0,0,[]);letI d:=List.getD a.2.1 j ([],(0,0),0,0,0);if decide (e.1<l.2.1)=true then A.bind (A.ab (0<=e.1/\e.1<Int.ofNat (List.length l.1)) (if decide (List.getD l.1 j (0:Int)<0)=true then A.pure (V.next (D.1,l.1,l.2.1,e.1,e.2.1,())) else A.ab g (A.ab (0<=e.1/\e.1<Int.ofNat (List.length a.2.1)) (A.ab g (A.ab (0<=b/\b<Int.ofNat (List.length a.1)) (A.bind (A.bind (HE (d,f)) (λy=>if decide (y=0)=true then A.bind (A.bind (A.bind (A.bind (A.pure ([],false)) (λr=>A.pure (V.done r))) (λr=>A.pure (V.done r))) (λr=>A.pure (V.done r))) λr=>A.pure (V.done r) else if decide (y=2)=true then A.ab g (A.pure (V.next (D.1,IntKind.wrap .i64 (d.2.2.2.1-a.2.2.2),l.1,l.2.1,e.1,e.2.1,f,()))) else A.pure (V.next (D.1,d.2.2.2.1,l.1,l.2.1,e.1,e.2.1,f,())))) (V.bx (λ(D:Option ((a8×z1'×List dj×List (z1'×(Int×Int)×Int×Int×Int)×z3'×Int)×z4'×z5')×Int×z1'×Int×Int×z3'×(Int×Int×Int×Int×z1')×Unit)=>letI h:=D.2.2.2.2;if decide (D.2.1<0)=true then A.bind (A.bind (A.bind (A.pure ([],false)) (λr=>A.pure (V.done r))) (λr=>A.pure (V.done r))) λr=>A.pure (V.done r) else A.loop (λ(D:Option ((a8×z1'×List dj×List dA×z3'×Int)×z4'×z5')×Int×z1'×Int×Int×z1'×Int×Int×z3'×(Int×Int×Int×Int×z1')×Unit)=>letI k:=D.2.2.2;letI c:=k.2.2;letI i:=c.2.2;if decide (i.1<c.2.1)=true then A.ab (0<=i.1/\i.1<Int.ofNat (List.length c.1)) (A.ab (bP (Add.add (List.length i.2.1) (Add.add 0 1))) (A.pure (V.next (D.1,D.2.1,D.2.2.1,k.1,k.2.1,c.1,c.2.1,IntKind.wrap .i64 (Add.add i.1 1),i.2.1++[(i.2.2.1.2.2.2.1,List.getD c.1 (Int.toNat i.1) 0,D.2.1)],i.2.2.1,())))) else A.bind (A.pure (V.next (D.1,D.2.2.1,k.1,k.2.1,i.2.1,()))) λr=>A.pure (V.done r)) (D.1,D.2.1,D.2.2.1,D.2.2.2.1,h.1,h.2.2.1.2.2.2.2,Int.ofNat (List.length h.2.2.1.2.2.2.2),0,h.2.1,h.2.2.1,()))))))))) (V.bx (λ(D:Option (bF×z4'×z5')×z1'×Int×Int×z3'×Unit)=>A.pure (V.next (D.1,D.2.1,D.2.2.1,IntKind.wrap .i64 (Add.add D.2.2.2.1 1),D.2.2.2.2.1,())))) else A.bind (A.pure (V.next (e.2.1,()))) λr=>A.pure (V.done r)) (x.1,x.2,Int.ofNat (List.length x.2),0,[],())) (V.bx (λ(D:z3'×Unit)=>A.pure (D.1,true)))
def NT(HF:Option dw×(Int×Int)×Int×Int×Int->A Bool)(x:Option dw×z3'):A Bool:=
 A.bind (A.loop (λ(D:Option ((a8×z1'×List dj×List dA×z3'×Int)×z4'×z5')×z3'×Int×Int×Unit)=>letI b:=D.2.2.2.1;if decide (b<D.2.2.1)=true then A.bind (A.ab (0<=b/\b<Int.ofNat (List.length D.2.1)) (A.bind (A.ab (Option.isSome D.1=true) (A.loop (λ(D:Option ((bF)×z4'×z5')×Bool×z3'×Int×Int×Int×Int×(Int×Int×Int)×Unit)=>letI a:=D.2.2.2.2;if decide (a.2.2.1<a.2.1)=true then A.bind (cq (!D.2.1) (HF (D.1,(a.2.2.1,0),a.2.2.2.1)) false) λy=>A.pure (V.next (D.1,D.2.1||y,D.2.2.1,D.2.2.2.1,a.1,a.2.1,IntKind.wrap .i64 (Add.add a.2.2.1 1),a.2.2.2.1,())) else A.bind (A.pure (V.next (D.1,D.2.1,D.2.2.1,D.2.2.2.1,a.1,()))) λr=>A.pure (V.done r)) (D.1,false,D.2.1,D.2.2.1,b,Int.ofNat (List.length (Option.getD D.1 ((([],[],0,[]),[],[],[],[],0),[],[])).1.2.1),0,List.getD D.2.1 (Int.toNat b) (0,0,0),()))) (V.bx (λ(D:Option ((a8×z1'×List dj×List (z1'×(Int×Int)×Int×Int×Int)×z3'×Int)×z4'×z5')×Bool×z3'×Int×Int×Unit)=>if (!D.2.1)=true then A.bind (A.bind (A.bind (A.pure false) (λr=>A.pure (V.done r))) (λr=>A.pure (V.done r))) λr=>A.pure (V.done r) else A.pure (V.next (D.1,D.2.2.1,D.2.2.2.1,D.2.2.2.2.1,())))))) (V.bx (λ(D:Option ((a8×z1'×List (Int×Int×Int×Int×z1')×List dA×z3'×Int)×z4'×z5')×z3'×Int×Int×Unit)=>A.pure (V.next (D.1,D.2.1,D.2.2.1,IntKind.wrap .i64 (Add.add D.2.2.2.1 1),())))) else A.bind (A.pure (V.next ())) λr=>A.pure (V.done r)) (x.1,x.2,Int.ofNat (List.length x.2),0,())) (V.bx (λ(D:Unit)=>A.pure true))
def NU(NQ:z1'×Int×Unit->A (z1'×Unit))(NV:Option dw×z3'×Int×z4'×z1'×Unit->A (Bool×z4'×z1'×Unit))(x:Option dw×z3'):A Int:=
 A.ab (Option.isSome x.1=true) (A.bind (NQ ([-1],Int.ofNat (List.length (Option.getD x.1 ((([],[],0,[]),[],[],[],[],0),[],[])).2.1),())) (λy=>A.bind (A.loop (λ(D:Option ((a8×z1'×List dj×List (z1'×(Int×Int)×Int×Int×Int)×z3'×Int)×z4'×z5')×z3'×Int×Int×Int×z1'×Unit)=>letI a:=D.2.2.2;if decide (a.2.1<a.1)=true then A.bind (A.bind (NV (D.1,D.2.1,a.2.1,[],a.2.2.1,())) (λy=>if (!y.1)=true then A.pure (V.next (D.1,D.2.1,IntKind.wrap .i64 (Add.add D.2.2.1 1),a.1,a.2.1,y.2.2.1,())) else A.pure (V.next (D.1,D.2.1,D.2.2.1,a.1,a.2.1,y.2.2.1,())))) (V.bx (λ(D:Option ((a8×z1'×List (Int×Int×Int×Int×z1')×List dA×z3'×Int)×z4'×z5')×z3'×Int×Int×Int×z1'×Unit)=>A.pure (V.next (D.1,D.2.1,D.2.2.1,D.2.2.2.1,IntKind.wrap .i64 (Add.add D.2.2.2.2.1 1),D.2.2.2.2.2.1,())))) else A.bind (A.pure (V.next (D.2.2.1,()))) λr=>A.pure (V.done r)) (x.1,x.2,0,Int.ofNat (List.length x.2),0,y.1,())) (V.bx (λ(D:Int×Unit)=>A.pure D.1))))
def VS(kF:Int×Int×Int->A Bool)(x:bF×Int):A Bool:=
 A.bind (kF (x.2,0,IntKind.wrap .i64 (Int.ofNat (List.length x.1.2.2.2.1)-1))) λy=>A.pure y
def aj2(x5:Int×Int->A (Int×Int))(x:z1'×Int):A (z1'):=
 A.bind (if decide (x.2<0)=true then A.ab False (A.ab False (A.pure (V.next (x.1,x.2,())))) else A.pure (V.next (x.1,x.2,()))) (V.bx (λ(D:z1'×Int×Unit)=>A.bind (x5 (IntKind.wrap .u64 (Int.ofNat (List.length D.1)),IntKind.wrap .u64 D.2.1)) λy=>A.bind (if (decide (y.1 > 0)||decide (y.2 > 9223372036854775807))=true then A.ab False (A.ab False (A.pure (V.next (D.1,y.2,())))) else A.pure (V.next (D.1,y.2,()))) (V.bx (λ(D:z1'×Int×Unit)=>letI b:=IntKind.wrap .i64 D.2.1;letI f:=Int.toNat b;letI e:=List.take (List.length (List.replicate f (0:Int))-0) D.1;A.ab (0<=b/\b=b/\bP f) (A.ab True (A.bind (A.loop (λ(D:Int×z1'×Unit)=>letI g:=Int.toNat D.1;letI c:=List.take g D.2.1;letI a:=Int.ofNat (List.length D.2.1);letI d:=Int.toNat a-g;if decide (D.1<a)=true then A.ab (0<=D.1/\D.1<=a/\a<=a) (A.ab ((0:Int)<=0/\0<=D.1/\D.1<=a) (A.ab True (A.pure (V.next (IntKind.wrap .i64 (Add.add D.1 (Int.ofNat (if d<=List.length c then d else List.length c))),c++List.take d c++List.drop (Add.add g (List.length (List.take d c))) D.2.1,()))))) else A.bind (A.pure (V.next (D.2.1,()))) λr=>A.pure (V.done r)) (Int.ofNat (if List.length (List.replicate f (0:Int))-0<=List.length D.1 then List.length (List.replicate f (0:Int))-0 else List.length D.1),[]++e++List.drop (Add.add 0 (List.length e)) (List.replicate f (0:Int)),())) (V.bx (λ(D:z1'×Unit)=>A.pure D.1))))))))
def VT(NO:Option dw×z1'->A (z3'×Bool))(NP:Option dw×z3'->A Int)(x:Option dw×z1'):A Bool:=
 A.bind (NO x) λy=>A.bind (cq y.2 (NP (x.1,y.1)) 0) λb2=>A.pure (y.2&&decide (b2=0))
def VU(DU:Int->A Bool)(NW:z1'×(Int->A Bool)->A Bool)(aj3:List dj×(Int×Int×Int×Int×z1'->A Bool)->A Bool)(aj4:List dA×(z1'×(Int×Int)×Int×Int×Int->A Bool)->A Bool)(aj5:z3'×(Int×Int×Int->A Bool)->A Bool)(aj6:(Int×Int×Int×Int×z1')×Option a8->A Bool)(aj7:(Int×Int×Int)×Option a8->A Bool)(aj8:z1'×(Int×Int)×Int×Int×Int->A Bool)(aj9:Int->A Bool)(x:bF):A Bool:=
 letI e:=x.2.2.2;letI b:=decide (Int.ofNat (List.length x.2.1)=Int.ofNat (List.length x.1.1));A.bind (cq b (NW (x.2.1,aj9)) false) λy=>letI d:=b&&!y&&decide (Int.ofNat (List.length x.2.2.1)<=8);A.bind (cq d (aj3 (x.2.2.1,λhy=>aj6 (hy,some x.1))) false) λb2=>letI a:=d&&!b2&&decide (Int.ofNat (List.length e.1)<=6);A.bind (cq a (aj4 (e.1,aj8)) false) λdE=>letI c:=a&&!dE&&decide (Int.ofNat (List.length e.2.1)<=8);A.bind (cq c (aj5 (e.2.1,λhy=>aj7 (hy,some x.1))) false) λgA=>A.bind (cq (c&&!gA) (DU e.2.2) false) λlx=>A.pure (c&&!gA&&lx)
def aj_(x:Int×Int×Int):A Bool:=
 A.pure (decide (x.2.1<=x.1)&&decide (x.1<=x.2.2))
def VV(n3:Int×Int×Int->A Bool)(HG:z1'×Int->A Bool)(x:bF×Int×Int×Int×Int×z1'):A Bool:=
 letI c:=x.2.2.2.2;letI b:=Int.ofNat (List.length x.1.1.2.1);letI a:=(c.2,IntKind.wrap .i64 (Int.ofNat (List.length (List.getD x.1.1.2.1 (Int.toNat c.1) []))-1));A.bind (n3 (x.2.1,0,99)) λy=>A.bind (cq (!(!y)) (n3 (x.2.2.1,0,99)) false) λb2=>A.bind (cq (!(!y||!b2)) (n3 (x.2.2.2.1,0,99)) false) λdE=>A.bind (cq (!(!y||!b2||!dE)) (n3 (c.1,0,IntKind.wrap .i64 (b-1))) false) λgA=>if (!y||!b2||!dE||!gA)=true then A.pure false else A.ab (0<=c.1/\c.1<b) (A.ab (HG a).ck (A.pure (A.val (HG a) false)))
def VW(n3:Int×Int×Int->A Bool)(HG:z1'×Int->A Bool)(x:z1'×(Int×Int)×Int×Int×Int):A Bool:=
 A.bind (n3 (Int.ofNat (List.length x.1),1,8)) λy=>A.bind (cq y (HG (x.1,99)) false) λb2=>letI a:=y&&b2&&decide (0<=x.2.1.1)&&decide (x.2.1.1<=x.2.1.2)&&decide (x.2.1.2<=99);A.bind (cq a (n3 (x.2.2.1,0,99)) false) λdE=>A.bind (cq (a&&dE) (n3 (x.2.2.2.1,0,99)) false) λgA=>A.bind (cq (a&&dE&&gA) (n3 (x.2.2.2.2,0,100000)) false) λlx=>A.pure (a&&dE&&gA&&lx)
def VX(kF:Int×Int×Int->A Bool)(x:bF×Int):A Bool:=
 A.bind (kF (x.2,0,IntKind.wrap .i64 (Int.ofNat (List.length x.1.2.2.1)-1))) λy=>A.pure y
def VY(kF:Int×Int×Int->A Bool)(hK:z1'×Int->A Bool)(x:(z1'×(Int×Int)×Int×Int×Int)×Int×Int×Int×Int×z1'):A Int:=
 A.bind (hK (x.1.1,x.2.1)) λy=>A.bind (cq (!(!y)) (kF (x.2.2.1,x.1.2.1)) false) λb2=>if (!y||!b2)=true then A.pure 0 else if decide (x.2.2.2.1=x.1.2.2.1)=true then A.pure 1 else if decide (x.2.2.2.1=0)=true then A.pure 2 else A.pure 0
def NX(aj':z1'×Int->A (z1'))(Aq:Option dw×z1'->A Bool)(l3:Option dw×z1'->A Int)(aka:Option dw->Prop)(akb:Option dw->List (z1'))(x:Option dw):A (z1'):=
 A.ab (Option.isSome x=true) (A.bind (aj' ([-1],Int.ofNat (List.length (Option.getD x ((([],[],0,[]),[],[],[],[],0),[],[])).1.2.2.2.1))) (λy=>A.ab (aka x) (A.bind (jL (λ(D:Option ((a8×z1'×List dj×List (z1'×(Int×Int)×Int×Int×Int)×z3'×Int)×z4'×z5')×z1'×Unit) (y:z1')=>letI b:=(D.1,y);letI a:=(D.1,D.2.1);A.bind (A.ab (l3 b).ck (A.ab (l3 a).ck (A.ab (decide (A.val (l3 b) 0 > A.val (l3 a) 0)=true->(decide (A.val (l3 b) 0 > A.val (l3 a) 0)=true/\decide (A.val (l3 b) 0 > A.val (l3 a) 0)=true/\True)/\(Aq b).ck/\True) (A.ab (True/\(decide (A.val (l3 b) 0 > A.val (l3 a) 0)=true->decide (A.val (l3 b) 0 > A.val (l3 a) 0)=true)) (if (decide (A.val (l3 b) 0 > A.val (l3 a) 0)&&A.val (Aq b) false)=true then A.pure (di.normal,D.1,y,()) else A.pure (di.normal,D.1,D.2.1,())))))) λp=>A.pure (p.1,p.2.1,p.2.2.1,())) (akb x) (x,y,())) (λp=>sq (A.pure p.2.2.1) (λid=>if id=0 then A.pure p.2.2.1 else A.fail) A.fail p.1))))
def VZ(akc:bF×Int->A Bool)(hK:z1'×Int->A Bool)(x:bF×z1'):A Bool:=
 A.bind (A.loop (λ(D:z1'×z1'×Int×Int×(a8×z1'×List dj×List (z1'×(Int×Int)×Int×Int×Int)×z3'×Int)×Unit)=>letI e:=D.2.2;letI b:=e.2.1;letI c:=Int.toNat b;letI f:=List.getD D.2.1 c 0;letI a:=decide (List.getD D.2.1 c (0:Int)≠-1);if decide (b<e.1)=true then A.ab (0<=b/\b<Int.ofNat (List.length D.2.1)) (A.bind (cq a (akc (e.2.2.1,f)) false) (λy=>letI d:=(a&&!(!y))=true;A.ab (d->(d/\True/\d)/\((0:Int)<=0/\0<=b/\b<=Int.ofNat (List.length D.1))/\True) (A.bind (cq (a&&!(!y)) (hK (List.take c D.1,f)) false) (λb2=>if (a&&(!y||b2))=true then A.bind (A.bind (A.pure false) (λr=>A.pure (V.done r))) λr=>A.pure (V.done r) else A.pure (V.next (D.1,D.2.1,e.1,IntKind.wrap .i64 (Add.add b 1),e.2.2.1,())))))) else A.bind (A.pure (V.next (D.1,e.2.2.1,()))) λr=>A.pure (V.done r)) (x.2,x.2,Int.ofNat (List.length x.2),0,x.1,())) (V.bx (λ(D:z1'×(a8×z1'×List dj×List dA×z3'×Int)×Unit)=>A.pure (decide (Int.ofNat (List.length D.1)=Int.ofNat (List.length D.2.1.2.2.2.1)))))
def NY(x:Option dw×z1'):A Int:=
 A.bind (A.loop (λ(D:Option ((a8×z1'×List dj×List dA×z3'×Int)×z4'×z5')×Int×z1'×Int×Int×Unit)=>letI c:=D.2.2;letI b:=(Option.getD D.1 ((([],[],0,[]),[],[],[],[],0),[],[])).1.2.2.2.1;letI a:=c.2.2.1;if decide (a<c.2.1)=true then A.bind (A.ab (0<=a/\a<Int.ofNat (List.length c.1)) (if decide (List.getD c.1 (Int.toNat a) (0:Int)≠-1)=true then A.ab (Option.isSome D.1=true) (A.ab (0<=a/\a<Int.ofNat (List.length b)) (A.pure (V.next (D.1,IntKind.wrap .i64 (Add.add D.2.1 (List.getD b (Int.toNat a) ([],(0,0),0,0,0)).2.2.2.2),c.1,c.2.1,a,())))) else A.pure (V.next (D.1,D.2.1,c.1,c.2.1,a,())))) (V.bx (λ(D:Option ((a8×z1'×List (Int×Int×Int×Int×z1')×List dA×z3'×Int)×z4'×z5')×Int×z1'×Int×Int×Unit)=>A.pure (V.next (D.1,D.2.1,D.2.2.1,D.2.2.2.1,IntKind.wrap .i64 (Add.add D.2.2.2.2.1 1),())))) else A.bind (A.pure (V.next (D.2.1,()))) λr=>A.pure (V.done r)) (x.1,0,x.2,Int.ofNat (List.length x.2),0,())) (V.bx (λ(D:Int×Unit)=>A.pure D.1))
def akd(x5:Int×Int->A (Int×Int))(x:z4'×Int):A (z4'):=
 A.bind (if decide (x.2<0)=true then A.ab False (A.ab False (A.pure (V.next (x.1,x.2,())))) else A.pure (V.next (x.1,x.2,()))) (V.bx (λ(D:z4'×Int×Unit)=>A.bind (x5 (IntKind.wrap .u64 (Int.ofNat (List.length D.1)),IntKind.wrap .u64 D.2.1)) λy=>A.bind (if (decide (y.1 > 0)||decide (y.2 > 9223372036854775807))=true then A.ab False (A.ab False (A.pure (V.next (D.1,y.2,())))) else A.pure (V.next (D.1,y.2,()))) (V.bx (λ(D:z4'×Int×Unit)=>letI b:=IntKind.wrap .i64 D.2.1;letI f:=Int.toNat b;letI d:=List.take (List.length (List.replicate f ((0:Int),(0:Int)))-0) D.1;A.ab (0<=b/\b=b/\bP f) (A.ab True (A.bind (A.loop (λ(D:Int×z4'×Unit)=>letI g:=Int.toNat D.1;letI c:=List.take g D.2.1;letI a:=Int.ofNat (List.length D.2.1);letI e:=Int.toNat a-g;if decide (D.1<a)=true then A.ab (0<=D.1/\D.1<=a/\a<=a) (A.ab ((0:Int)<=0/\0<=D.1/\D.1<=a) (A.ab True (A.pure (V.next (IntKind.wrap .i64 (Add.add D.1 (Int.ofNat (if e<=List.length c then e else List.length c))),c++List.take e c++List.drop (Add.add g (List.length (List.take e c))) D.2.1,()))))) else A.bind (A.pure (V.next (D.2.1,()))) λr=>A.pure (V.done r)) (Int.ofNat (if List.length (List.replicate f ((0:Int),(0:Int)))-0<=List.length D.1 then List.length (List.replicate f ((0:Int),(0:Int)))-0 else List.length D.1),[]++d++List.drop (Add.add 0 (List.length d)) (List.replicate f ((0:Int),(0:Int))),())) (V.bx (λ(D:z4'×Unit)=>A.pure D.1))))))))
def V0(x:Option dw×(Int×Int)×Int×Int×Int):A Bool:=
 letI c:=decide (x.2.1.2<=x.2.2.2.2);letI a:=c=true;letI b:=a->a/\True/\True;A.ab (a->a/\Option.isSome x.1=true/\True) (A.ab b (A.ab b (A.ab b (A.ab b (A.ab b (A.ab (a->(a/\a/\a/\True)/\True/\True) (A.ab (a->(a/\a)/\True/\True) (A.ab (a->(a/\True)/\True/\True) (A.ab (True/\(a->a)) (A.pure (c&&decide (Option.getD (Option.map (λx=>x.2) (List.find? (λp=>decide (x.2.1.1=p.1.1)&&(decide (x.2.2.1=p.1.2.1)&&decide (x.2.2.2.1=p.1.2.2))) (Option.getD x.1 ((([],[],0,[]),[],[],[],[],0),[],[])).2.2)) (0:Int) > 0))))))))))))
def ake(x:Int×Int×Int):A Bool:=
 A.pure (decide (x.2.1<=x.1)&&decide (x.1<=x.2.2))
def V1(kF:Int×Int×Int->A Bool)(vM:Int->A Bool)(NZ:z1'×(Int->A Bool)->A Bool)(akf:Int×Option a8×Option (Int×Int×Int×Int×z1')->A Bool)(x:(Int×Int×Int×Int×z1')×Option a8):A Bool:=
 letI b:=Option.getD x.2 ([],[],0,[]);A.bind (vM x.1.1) λy=>A.bind (cq (!(!y)) (vM x.1.2.1) false) λb2=>A.bind (cq (!(!y||!b2)) (vM x.1.2.2.1) false) λdE=>letI a:=!y||!b2||!dE;A.bind (cq (!a) (kF (x.1.2.2.2.1,0,IntKind.wrap .i64 (Int.ofNat (List.length b.2.1)-1))) false) λgA=>A.bind (cq (!(a||!gA)) (NZ (x.1.2.2.2.2,λhy=>akf (hy,some b,some x.1))) false) λlx=>A.pure (a||!gA||!lx)
def V2(kF:Int×Int×Int->A Bool)(x:Int):A Bool:=
 A.bind (kF (x,0,99)) λy=>A.pure y
def V3(x:z1'×(Int->A Bool)):A Bool:=
 A.bind (A.loop (λ(D:z1'×(Int->A Bool)×z1'×Int×Int×Unit)=>letI e:=D.2.2;letI a:=e.2.2.1;letI d:=List.getD e.1 (Int.toNat a) 0;letI c:=IntKind.wrap .i64 (a-1);if decide (a<e.2.1)=true then A.ab (0<=a/\a<Int.ofNat (List.length e.1)) (A.bind (D.2.1 d) (λy=>letI b:=(!(!y)&&decide (a > 0))=true;A.ab (b->(b/\b)/\(0<=c/\c<Int.ofNat (List.length D.1))/\True) (if (!y||decide (a > 0)&&decide (d<=List.getD D.1 (Int.toNat c) 0))=true then A.bind (A.bind (A.pure false) (λr=>A.pure (V.done r))) λr=>A.pure (V.done r) else A.pure (V.next (D.1,D.2.1,e.1,e.2.1,IntKind.wrap .i64 (Add.add a 1),()))))) else A.bind (A.pure (V.next ())) λr=>A.pure (V.done r)) (x.1,x.2,x.1,Int.ofNat (List.length x.1),0,())) (V.bx (λ(D:Unit)=>A.pure true))
def V4(kF:Int×Int×Int->A Bool)(x:Int×Option a8×Option (Int×Int×Int×Int×z1')):A Bool:=
 letI b:=(Option.getD x.2.1 ([],[],0,[])).2.1;letI a:=(Option.getD x.2.2 (0,0,0,0,[])).2.2.2.1;A.ab (0<=a/\a<Int.ofNat (List.length b)) (A.bind (kF (x.1,0,IntKind.wrap .i64 (Int.ofNat (List.length (List.getD b (Int.toNat a) []))-1))) (λy=>A.pure y))
def V5(kF:Int×Int×Int->A Bool)(vM:Int->A Bool)(NZ:z1'×(Int->A Bool)->A Bool)(DU:Int->A Bool)(x:z1'×(Int×Int)×Int×Int×Int):A Bool:=
 A.bind (kF (Int.ofNat (List.length x.1),1,8)) λy=>A.bind (cq (!(!y)) (NZ (x.1,vM)) false) λb2=>A.bind (cq (!(!y||!b2)) (vM x.2.1.1) false) λdE=>A.bind (cq (!(!y||!b2||!dE)) (vM x.2.1.2) false) λgA=>letI a:=!y||!b2||!dE||!gA||decide (x.2.1.1 > x.2.1.2);A.bind (cq (!a) (vM x.2.2.1) false) λlx=>A.bind (cq (!(a||!lx)) (DU x.2.2.2.1) false) λvN=>A.bind (cq (!(a||!lx||!vN)) (kF (x.2.2.2.2,0,100000)) false) λAu=>A.pure (a||!lx||!vN||!Au)
def V6(kF:Int×Int×Int->A Bool)(x:Int):A Bool:=
 A.bind (kF (x,0,99)) λy=>A.pure y
def V7(kF:Int×Int×Int->A Bool)(DU:Int->A Bool)(x:(Int×Int×Int)×Option a8):A Bool:=
 A.bind (DU x.1.1) λy=>A.bind (cq (!(!y)) (kF (x.1.2.1,0,IntKind.wrap .i64 (Int.ofNat (List.length (Option.getD x.2 ([],[],0,[])).1)-1))) false) λb2=>A.bind (cq (!(!y||!b2)) (kF (x.1.2.2,1,10)) false) λdE=>A.pure (!y||!b2||!dE)
def V8(kF:Int×Int×Int->A Bool)(x:Int):A Bool:=
 A.bind (kF (x,0,10)) λy=>A.pure (!y)
def V9(x:z1'×Int):A Bool:=
 A.bind (A.loop (λ(D:z1'×Int×Int×Unit)=>letI e:=D.2.2.1;letI j:=decide (e > 0);letI i:=List.getD D.1 (Int.toNat e) 0;letI h:=IntKind.wrap .i64 (e-1);letI d:=Int.ofNat (List.length D.1);letI k:=0<=e/\e<d;letI b:=decide (List.getD D.1 (Int.toNat e) (0:Int)<0);letI f:=(!b)=true;letI a:=b||decide (i > D.2.1);letI g:=(!a)=true;letI c:=(!a&&j)=true;letI l:=c->c/\True/\True;if decide (e<d)=true then A.ab k (A.ab (f->(f/\f)/\k/\True) (A.ab (f->f/\True/\True) (A.ab (f->(f/\f)/\True/\True) (A.ab (True/\(b=false->f)) (A.ab (g->(g/\True)/\True/\True) (A.ab (g->True/\True/\g) (A.ab (c->(c/\c)/\k/\True) (A.ab l (A.ab (c->(c/\True)/\True/\True) (A.ab (c->(c/\c)/\(0<=h/\h<d)/\True) (A.ab l (A.ab (c->(c/\c)/\True/\True) (A.ab (g->(g/\(j=true->c))/\True/\True) (A.ab (True/\(a=false->g)) (if (a||j&&decide (i<=List.getD D.1 (Int.toNat h) 0))=true then A.bind (A.bind (A.pure false) (λr=>A.pure (V.done r))) λr=>A.pure (V.done r) else A.pure (V.next (D.1,D.2.1,IntKind.wrap .i64 (Add.add e 1),()))))))))))))))))) else A.bind (A.pure (V.next ())) λr=>A.pure (V.done r)) (x.1,x.2,0,())) (V.bx (λ(D:Unit)=>A.pure true))
def HH(x6:Option dw×z1'×Int×Nat×(Nat×(List (z1')->Prop)×List (z1')×Bool)×Unit->A (Bool×(Nat×(List (z1')->Prop)×List (z1')×Bool)×Unit))(x:Option dw×Nat×(Nat×(List (z1')->Prop)×List (z1')×Bool)×Unit):A ((Nat×(List (z1')->Prop)×List (z1')×Bool)×Unit):=
 A.bind (x6 (x.1,[],1,x.2.1,x.2.2.1,())) λy=>A.pure (y.2.1,())
def HI(x6:Option dw×z1'×Int×Nat×(Nat×(List (z1')->Prop)×List (z1')×Bool)×Unit->A (Bool×(Nat×(List (z1')->Prop)×List (z1')×Bool)×Unit))(x:Option dw×Nat×(Nat×(List (z1')->Prop)×List (z1')×Bool)×Unit):A ((Nat×(List (z1')->Prop)×List (z1')×Bool)×Unit):=
 A.bind (x6 (x.1,[],0,x.2.1,x.2.2.1,())) λy=>A.pure (y.2.1,())
def N0(HF:Option dw×(Int×Int)×Int×Int×Int->A Bool)(NV:Option dw×z3'×Int×z4'×z1'×Unit->A (Bool×z4'×z1'×Unit))(x:Option dw×z3'×Int×z4'×z1'×Unit):A (Bool×z4'×z1'×Unit):=
 letI k:=(Option.getD x.1 ((([],[],0,[]),[],[],[],[],0),[],[])).2.1;A.bind (A.ab (Option.isSome x.1=true) (A.loop (λ(D:Option ((a8×z1'×List dj×List (z1'×(Int×Int)×Int×Int×Int)×z3'×Int)×z4'×z5')×z3'×Int×z4'×Int×Int×z4'×z1'×Unit)=>letI o:=D.2.1;letI i:=D.2.2;letI c:=i.2.2.2;letI m:=c.2.2.1;letI l:=Int.toNat c.1;letI j:=Option.map (λx=>x.2) (List.find? (λp=>decide (c.1=p.1)) c.2.1);letI g:=0<=c.1/\c.1<Int.ofNat (List.length m);letI f:=(D.1,List.getD i.2.1 l (0,0),List.getD o (Int.toNat i.1) (0,0,0));letI d:=fc c.2.1 c.1 (IntKind.wrap .i64 (Add.add (Option.getD j 0) 1));letI b:=decide (List.getD m l (0:Int)=-1);letI h:=(!b)=true;letI a:=decide (Option.getD j (0:Int) > 0);letI e:=(!a)=true;letI q:=e->e/\True/\True;if decide (c.1<i.2.2.1)=true then A.bind (A.ab (0<=c.1/\c.1<Int.ofNat (List.length i.2.1)) (A.ab (e->(e/\e)/\(0<=i.1/\i.1<Int.ofNat (List.length o))/\True) (A.ab q (A.ab (e->(e/\e/\e/\True)/\(HF f).ck/\True) (A.ab q (A.ab (True/\(a=false->e)) (if (a||!(A.val (HF f) false))=true then A.pure (V.next (D.1,o,i.1,i.2.1,i.2.2.1,c.1,c.2.1,m,())) else A.ab g (A.ab (h->(h/\h)/\g/\True) (if h then A.ab (h/\h/\h/\h/\h/\True) (A.bind (NV (D.1,o,List.getD m l 0,d,m,())) (λy=>if (b||y.1)=true then A.ab (0<=c.1/\c.1<Int.ofNat (List.length y.2.2.1)) (A.bind (A.bind (A.bind (A.pure (true,y.2.1,List.set y.2.2.1 l i.1,())) (λr=>A.pure (V.done r))) (λr=>A.pure (V.done r))) (λr=>A.pure (V.done r))) else A.pure (V.next (D.1,o,i.1,i.2.1,i.2.2.1,c.1,y.2.1,y.2.2.1,())))) else A.ab (True/\(b=false->false=true)) (if (b||false)=true then A.ab g (A.bind (A.bind (A.bind (A.pure (true,d,List.set m l i.1,())) (λr=>A.pure (V.done r))) (λr=>A.pure (V.done r))) (λr=>A.pure (V.done r))) else A.pure (V.next (D.1,o,i.1,i.2.1,i.2.2.1,c.1,d,m,())))))))))))) (V.bx (λ(D:Option ((a8×z1'×List dj×List dA×z3'×Int)×z4'×z5')×z3'×Int×z4'×Int×Int×z4'×z1'×Unit)=>letI n:=D.2.2.2;A.pure (V.next (D.1,D.2.1,D.2.2.1,n.1,n.2.1,IntKind.wrap .i64 (Add.add n.2.2.1 1),n.2.2.2.1,n.2.2.2.2.1,())))) else A.bind (A.pure (V.next (c.2.1,m,()))) λr=>A.pure (V.done r)) (x.1,x.2.1,x.2.2.1,k,Int.ofNat (List.length k),0,x.2.2.2.1,x.2.2.2.2.1,()))) (V.bx (λ(D:z4'×z1'×Unit)=>A.pure (false,D.1,D.2.1,())))
def N1(HE:(z1'×(Int×Int)×Int×Int×Int)×Int×Int×Int×Int×z1'->A Int)(x6:Option dw×z1'×Int×Nat×(Nat×(List (z1')->Prop)×List (z1')×Bool)×Unit->A (Bool×(Nat×(List (z1')->Prop)×List (z1')×Bool)×Unit))(hK:z1'×Int->A Bool)(x:Option dw×z1'×Int×Nat×(Nat×(List (z1')->Prop)×List (z1')×Bool)×Unit):A (Bool×(Nat×(List (z1')->Prop)×List (z1')×Bool)×Unit):=
 letI p:=Option.isSome x.1=true;letI o:=Int.ofNat (List.length x.2.1);letI i:=x.2.2.2.2.1;letI e:=(Option.getD x.1 ((([],[],0,[]),[],[],[],[],0),[],[])).1.2.2;A.ab p (if decide (o=Int.ofNat (List.length e.2.1))=true then A.bind (A.ab (x.2.2.2.1=i.1/\i.2.2.2=false/\(∃ (T:List (z1')),i.2.1 (i.2.2.1++x.2.1::T))) (A.any (λx=>True))) λy=>A.pure (y,(i.1,i.2.1,i.2.2.1++[x.2.1],!y),()) else A.bind (A.ab p (A.loop (λ(D:Option dw×z1'×Int×Nat×Int×List dj×Int×Int×(Nat×(List (z1')->Prop)×List (z1')×Bool)×Unit)=>letI q:=D.2.1;letI l:=D.2.2;letI j:=(Option.getD D.1 ((([],[],0,[]),[],[],[],[],0),[],[])).1.2.2.2.1;letI c:=l.2.2;letI m:=List.take (Int.toNat c.1) q;letI k:=c.2.2.2;letI d:=(List.getD j (Int.toNat c.1) ([],(0,0),0,0,0),List.getD c.2.1 (Int.toNat k.1) (0,0,0,0,[]));letI a:=(q,k.1);if decide (k.1<c.2.2.1)=true then A.bind (A.ab (0<=k.1/\k.1<Int.ofNat (List.length c.2.1)) (A.ab (hK a).ck (A.ab ((!(A.val (hK a) false))=true->(!(A.val (hK a) false))=true/\Option.isSome D.1=true/\True) (A.ab ((!(A.val (hK a) false))=true->(!(A.val (hK a) false))=true/\True/\True) (A.ab ((!(A.val (hK a) false))=true->(!(A.val (hK a) false))=true/\True/\True) (A.ab ((!(A.val (hK a) false))=true->(!(A.val (hK a) false))=true/\True/\True) (A.ab ((!(A.val (hK a) false))=true->((!(A.val (hK a) false))=true/\(!(A.val (hK a) false))=true)/\(0<=c.1/\c.1<Int.ofNat (List.length j))/\True) (A.ab ((!(A.val (hK a) false))=true->(!(A.val (hK a) false))=true/\True/\True) (A.ab ((!(A.val (hK a) false))=true->((!(A.val (hK a) false))=true/\(!(A.val (hK a) false))=true/\True)/\(HE d).ck/\True) (A.ab ((!(A.val (hK a) false))=true->((!(A.val (hK a) false))=true/\True)/\True/\True) (A.ab (True/\(A.val (hK a) false=false->(!(A.val (hK a) false))=true)) (if (A.val (hK a) false||decide (A.val (HE d) (0:Int)=0))=true then A.pure (V.next (D.1,q,l.1,l.2.1,c.1,c.2.1,c.2.2.1,k.1,k.2.1,())) else A.ab ((0:Int)<=0/\0<=c.1/\c.1=c.1/\c.1<=Int.ofNat (List.length q)) (A.ab (0<Add.add 0 1/\bP (Add.add (List.length m) (Add.add 0 1))) (A.bind (x6 (D.1,m++[k.1],l.1,l.2.1,k.2.1,())) (λy=>if (!y.1)=true then A.bind (A.bind (A.bind (A.pure (false,y.2.1,())) (λr=>A.pure (V.done r))) (λr=>A.pure (V.done r))) λr=>A.pure (V.done r) else A.pure (V.next (D.1,q,l.1,l.2.1,c.1,c.2.1,c.2.2.1,k.1,y.2.1,()))))))))))))))))) (V.bx (λ(D:Option dw×z1'×Int×Nat×Int×List dj×Int×Int×(Nat×(List (z1')->Prop)×List (z1')×Bool)×Unit)=>letI n:=D.2.2.2.2;A.pure (V.next (D.1,D.2.1,D.2.2.1,D.2.2.2.1,n.1,n.2.1,n.2.2.1,IntKind.wrap .i64 (Add.add n.2.2.2.1 1),n.2.2.2.2.1,())))) else A.bind (A.pure (V.next (D.1,q,l.1,l.2.1,c.1,k.2.1,()))) λr=>A.pure (V.done r)) (x.1,x.2.1,x.2.2.1,x.2.2.2.1,o,e.1,Int.ofNat (List.length e.1),0,i,()))) (V.bx (λ(D:Option dw×z1'×Int×Nat×Int×(Nat×(List (z1')->Prop)×List (z1')×Bool)×Unit)=>letI s:=D.2.2;letI h:=s.2.2;letI g:=List.take (Int.toNat h.1) D.2.1;letI f:=decide (s.1=0);letI b:=(!f)=true;A.ab (b->(b/\True/\b/\b)/\((0:Int)<=0/\0<=h.1/\h.1=h.1/\h.1<=Int.ofNat (List.length D.2.1))/\True) (if b then A.ab (b/\b) (A.ab (0<Add.add 0 1/\bP (Add.add (List.length g) (Add.add 0 1))) (if b then A.ab (b/\b/\b/\True) (A.bind (x6 (D.1,g++[-1],s.1,s.2.1,h.2.1,())) (λy=>A.pure (f||y.1,y.2.1,()))) else A.ab (True/\(f=false->false=true)) (A.pure (f||false,h.2.1,())))) else if b then A.ab (b/\false=true/\b/\b/\True) (A.bind (x6 (D.1,g++[-1],s.1,s.2.1,h.2.1,())) (λy=>A.pure (f||y.1,y.2.1,()))) else A.ab (True/\(f=false->false=true)) (A.pure (f||false,h.2.1,()))))))
def akg(x5:Int×Int->A (Int×Int))(x:z1'×Int×Unit):A (z1'×Unit):=
 A.bind (if decide (x.2.1<0)=true then A.ab False (A.ab False (A.pure (V.next (x.1,x.2.1,())))) else A.pure (V.next (x.1,x.2.1,()))) (V.bx (λ(D:z1'×Int×Unit)=>A.bind (x5 (IntKind.wrap .u64 (Int.ofNat (List.length D.1)),IntKind.wrap .u64 D.2.1)) λy=>A.bind (if (decide (y.1 > 0)||decide (y.2 > 9223372036854775807))=true then A.ab False (A.ab False (A.pure (V.next (D.1,y.2,())))) else A.pure (V.next (D.1,y.2,()))) (V.bx (λ(D:z1'×Int×Unit)=>letI b:=IntKind.wrap .i64 D.2.1;letI f:=Int.toNat b;letI e:=List.take (List.length (List.replicate f (0:Int))-0) D.1;A.ab (0<=b/\b=b/\bP f) (A.ab True (A.bind (A.loop (λ(D:Int×z1'×Unit)=>letI g:=Int.toNat D.1;letI c:=List.take g D.2.1;letI a:=Int.ofNat (List.length D.2.1);letI d:=Int.toNat a-g;if decide (D.1<a)=true then A.ab (0<=D.1/\D.1<=a/\a<=a) (A.ab ((0:Int)<=0/\0<=D.1/\D.1<=a) (A.ab True (A.pure (V.next (IntKind.wrap .i64 (Add.add D.1 (Int.ofNat (if d<=List.length c then d else List.length c))),c++List.take d c++List.drop (Add.add g (List.length (List.take d c))) D.2.1,()))))) else A.bind (A.pure (V.next (D.2.1,()))) λr=>A.pure (V.done r)) (Int.ofNat (if List.length (List.replicate f (0:Int))-0<=List.length D.1 then List.length (List.replicate f (0:Int))-0 else List.length D.1),[]++e++List.drop (Add.add 0 (List.length e)) (List.replicate f (0:Int)),())) (V.bx (λ(D:z1'×Unit)=>A.pure (D.1,())))))))))
end Go.Fer
