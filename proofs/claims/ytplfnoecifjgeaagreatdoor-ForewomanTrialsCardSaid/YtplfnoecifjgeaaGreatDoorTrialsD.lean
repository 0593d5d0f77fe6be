/- Part 4 of the proof of Trials: shallow programs of Go functions, and what they compute. No condition. -/
import Derived.Test.YtplfnoecifjgeaaGreatDoorTrialsC
import Derived.RangeFuncBound
import Derived.Scope
import Derived.RangeFuncLeaves
import Derived.OpenShut
import Derived.WideKeyArgs
import Derived.ChangeSame
import Derived.Test.YtplfnoecifjgeaaGreatDoorProg
import Derived.KernelRfl
noncomputable section
set_option linter.unusedVariables false
set_option linter.unusedSimpArgs false
namespace Go.Fer
open Go.RowKit
theorem ahu{C:bS}(iz:C.r=none){β:Type}{s:ay}{a:Act}{w:World}(G:b9 C s a w){g:Operand}{ps:Array Tmp}{assign body:Code}{qW n:Nat}{eA:Nat->aD}(aA:aT C.aK s.ax g=.rI qW n eA){ic:ITC}(T7:CK C.P qW ic)
    {x:ic.ts.ah} {fl:List Nat} (hx:(iK ic.ts ((List.range n).map eA)).run s.ad=some (x,fl)) {sh rin rout:dm} (dG:nF sh rout ic.aI ps.toList C.nt=true) {nJ:sh.ah} (nG:sh.iP (s.cc fl)=some nJ) (gw:ic.pre x)
    {run:ay->M (cQ×rout.ah)} {k:cQ->ay->M β} {O:β->Prop} (an:M.b_ (jA (λA y=>tH sh rin rout ic.aI ps.toList A y run) (ic.seq x) nJ) λp=>M.b_ (k p.1 (sh.st p.2)) O)
    (C7:∀ l,GH C.P C.aK C.nt assign body l run) {Q:Exit->Act->World->Prop}
    (ao:∀ u,C.jC u->∀ e s' a' w',b9 (C.gR u) s' a' w'->M.b_ (k e s') O->Q e.o6 a' w'):(Code.rangeFunc g ps assign body).wpIn (dw C.r) 0 C.P Q a w:=by
  obtain⟨κ,F,G⟩:=G;obtain⟨zI,f1,gx,f2⟩:=bc.kW (pU _ hx) G;obtain⟨κ,dN,f3,cr⟩:=dm.zC nG gx;have hv:=jW G g;rw[aA]at hv;obtain⟨aB,pN,h6,axP⟩:=hv;have ahv:e5 C.P ic.ts zI w aB x:=u4 G.bp f1 ic.ts hx f2 (by grind) λi E dp=>by
    grind
  have oZ:∀ A:sh.ah,(sh.st A).ax TRS=.undef:=λA=>by
    simp only[nF,Bool.and_eq_true,Bool.not_eq_true']at dG;exact xn sh.bF cJ A TRS dG.1.1.1.2
  rw[iz];refine wpIn_rangeFunc λfn _=>?_;have aN:w.heap.size<((w.alloc (.deferred (some []))).alloc (.loop (eP fn a.tmps ps assign body w.heap.size .ready .normal))).heap.size:=by simp;omega
  have ai:w.heap.size+1<((w.alloc (.deferred (some []))).alloc (.loop (eP fn a.tmps ps assign body w.heap.size .ready .normal))).heap.size:=by simp
  have C_:((w.alloc (.deferred (some []))).alloc (.loop (eP fn a.tmps ps assign body w.heap.size .ready .normal))).heap[w.heap.size+1]?=some (.loop (eP fn a.tmps ps assign body w.heap.size .ready .normal)):=by
    have:=pM (w.alloc (.deferred (some []))) (.loop (eP fn a.tmps ps assign body w.heap.size .ready .normal));simp_all
  have C':((w.alloc (.deferred (some []))).alloc (.loop (eP fn a.tmps ps assign body w.heap.size .ready .normal))).heap[w.heap.size]?=some (.deferred (some [])):=
    (oN _ _ (by simp)).trans (pM w _)
  have tU:∀ r,r<w.heap.size->((w.alloc (.deferred (some []))).alloc (.loop (eP fn a.tmps ps assign body w.heap.size .ready .normal))).heap[r]?=w.heap[r]?:=λr h=>T0 h;have Da:(Instr.enterLoop fn a.tmps ps assign body none).run C.P w=.ok (w.heap.size+1,[oj w.heap.size]) ((w.alloc (.deferred (some []))).alloc (.loop (eP fn a.tmps ps assign body w.heap.size .ready .normal))):=run_enterLoop_outer fn a.tmps ps assign body;have xA:cM w ((w.alloc (.deferred (some []))).alloc (.loop (eP fn a.tmps ps assign body w.heap.size .ready .normal))):=⟨rfl,rfl,rfl⟩
  have Mj:((w.alloc (.deferred (some []))).alloc (.loop (eP fn a.tmps ps assign body w.heap.size .ready .normal))).heap.size=w.heap.size+2:=by simp
  generalize (w.alloc (.deferred (some []))).alloc (.loop (eP fn a.tmps ps assign body w.heap.size .ready .normal))=b6 at aN ai C_ C' tU Da xA Mj;have p1:cG dN w b6:=⟨by omega,λr h=>tU r (cr.cL r h)⟩
  have dB:e5 C.P ic.ts dN b6 aB x:=(ahv.mono f3 (cG.refl _ _)).mono (λ_ h=>h) p1;have d_:bc { C with w0:=b6,F0:=dN,K0:=λ_=>False } (sh.st nJ) a b6 κ dN:=
    cr.vl cr.dk cr.dfr cr.fR cr.bF (λl' kn L' iL h_ e=>by have e:(sh.st nJ).ax TRS=.tr l' kn L' iL h_:=e;grind)
      (λr h=>tU r (by
        rcases h with h | ⟨b,ab,rfl⟩
        · exact cr.cL r h
        · exact (cr.own b ab).1)) (by omega) (λ_ h=>.inl h) (λ_ h=>h) (λ_ h=>h.elim) (λ_ h=>h.elim) (λ_ _ h=>h) (Nat.le_refl _) (cM.refl _)
  have Mk:=T6 (T1 (S:=λT=>T=ic.seq x) (C:=C) (CI:={ C with w0:=b6,F0:=dN,K0:=λ_=>False }) (sh:=sh) (rin:=rin) (rout:=rout) (ps:=ps) (assign:=assign) (body:=body) (a:=a) (fn:=fn) (l:=w.heap.size+1) (B:=w.heap.size) (run:=run) (k:=k) (O:=O)
    rfl (by omega) (by rw[G.dk];omega) (by rw[G.dk];grind))
  have hsl:∀ b,((sh.st nJ).ad b).body.bJ (κ b)=true->¬((κ b).ad=w.heap.size+1\/(κ b).ad=w.heap.size):=λb ab h=>by
    have:=(cr.own b ab).1;omega
  have vm:=T7.iH (w.heap.size+1) _ dN (λr=>(∃ b,((sh.st nJ).ad b).body.bJ (κ b)=true/\(κ b).ad=r)\/r=w.heap.size+1\/r=w.heap.size) b6 aB x dB gw Mk (λr h=>d_.cL r h) d_.ij
    (λr h=>by
      rcases h with⟨b,ab,rfl⟩ | rfl | rfl
      · exact⟨(d_.own b ab).1,(d_.own b ab).2.1⟩
      · exact⟨ai,λh=>by have:=cr.cL _ h;omega⟩
      · exact⟨aN,λh=>by have:=cr.cL _ h;omega⟩)
    ⟨.normal,nJ,κ,d_,C_,C',λb ab=>⟨.inl ⟨b,ab,rfl⟩,hsl b ab⟩,.inr (.inl rfl),.inr (.inr rfl),λh=>by have:=cr.cL _ h;omega,λh=>by have:=cr.cL _ h;omega,rfl,λ_=>⟨rfl,λR jD=>by grind⟩,λh=>by cases h⟩
  refine⟨w.heap.size+1,[oj w.heap.size],b6,{ target:=.fn (.func qW) #[],args:=aB.toArray++#[.func (.yield (w.heap.size+1)) #[] #[]] },b6,qW,(aB++[Value.func (.yield (w.heap.size+1)) #[] #[]]).toArray,b6,Da,?_,λ_ _=>trivial,?_,λh=>(by cases h),callsIn_wide.2 (vm.mono λe eD ⟨v,iL,st,F',gf,he,fX,hinv,g1,dW,g3,g4,g5,g6,g7⟩=>?_)⟩
  · have e:a.eval (.const (.func (.yield (w.heap.size+1)) #[] #[]))=.func (.yield (w.heap.size+1)) #[] #[]:=rfl
    simp[resolve,pN,Deferred.ofValue,e]
  · have:=T7.enter (aB++[Value.func (.yield (w.heap.size+1)) #[] #[]]).toArray b6
    simpa [invoke]using this
  subst he;obtain⟨e,A,κ',mc,h1,h2,h3,aR,bw,cZ,fN,_,iX,pH⟩:=hinv;refine⟨sd e,_,run_endLoop h1 (by cases st<;>simp[eP]),?_⟩;have GM:w.heap.size+1<eD.heap.size:=(Array.getElem?_eq_some_iff.1 h1).1;generalize aY:Obj.loop _=bU;have hq:M.b_ (k e (sh.st A)) O:=by
    cases st with
    | true=>grind
    | false=>
      obtain⟨rfl,eY⟩:=iX rfl;exact (eY [] (show iL++[]=ic.seq x by grind)).2 _ rfl
  have vd:∀ r,C.K0 r->r<w.heap.size:=λr h=>Nat.lt_of_lt_of_le (G.g_ r h) G.size;have tS:∀ r,C.K0 r->(eD.putObj (w.heap.size+1) bU).heap[r]?=C.w0.heap[r]?:=λr h=>by
    have b4:=vd r h;rw[World.putObj_heap_other (by omega),g4 r (by omega) λaM=>?_,tU r b4]
    · exact G.ef r h
    · rcases aM with⟨b,ab,rfl⟩ | rfl | rfl
      · exact (cr.own b ab).2.2 h
      · omega
      · omega
  have xB:cM C.w0 (eD.putObj (w.heap.size+1) bU):=by
    have:=(G.dV.trans xA).trans g7;exact⟨this.os,this.tape,this.output⟩
  have zP:C.jC ⟨eD.putObj (w.heap.size+1) bU,λr=>C.K0 r\/r=w.heap.size,[w.heap.size]⟩:=
    { sc := λB aN => by
        have:B=w.heap.size:=by grind
        subst this;exact⟨.inr rfl,(World.putObj_heap_other (by omega)).trans h2⟩
      dZ:=λB aN=>by
        have:B=w.heap.size:=by grind
        subst this;exact⟨λh=>by grind,G.size⟩
      mb:=by simp
      gS:=λ_ h=>.inl h
      ef:=tS
      size:=by have:=G.size;simp;omega
      dV:=xB }
  have nH:b9 (C.gR ⟨eD.putObj (w.heap.size+1) bU,λr=>C.K0 r\/r=w.heap.size,[w.heap.size]⟩) (sh.st A) { a with defers:=[oj w.heap.size]++a.defers } (eD.putObj (w.heap.size+1) bU):=by
    have Ml:∀ r,F' r->C.F0 r\/¬(C.K0 r\/r=w.heap.size):=λr aW=>by
      rcases dW r aW with h | h | h
      · rcases cr.gN r h with c6 | c6
        · exact .inl c6
        · exact .inr λao=>ao.elim c6 λe=>by have:=cr.cL r h;omega
      · rcases h with⟨b,ab,rfl⟩ | rfl | rfl
        · exact .inr λao=>ao.elim (cr.own b ab).2.2 λe=>hsl b ab (.inr e)
        · exact (cZ aW).elim
        · exact (fN aW).elim
      grind
    refine⟨κ',F',mc.vl (r:=C.r) mc.dk (by show [oj w.heap.size]++a.defers=_;rw[G.dfr];rfl) mc.fR mc.bF (λl' kn L' iL h_ e=>by have e:(sh.st A).ax TRS=.tr l' kn L' iL h_:=e;grind)
      (λr h=>World.putObj_heap_other λe=>by
        grind) (by simp) Ml (λr h=>g1 r (cr.hE r h)) (λr h=>?_) (λ_ _=>rfl) (λb ab h=>?_) (Nat.le_refl _) (cM.refl _)⟩
    · simp only[World.putObj_size]
      grind
    · rcases h with h | h
      · rcases (g5 _ (h3 b ab).1).1 with aM | aM
        · rcases aM with⟨aZ,cS,e⟩ | e | e
          · exact (cr.own aZ cS).2.2 (e ▸ h)
          · exact (h3 b ab).2 (.inl e)
          · exact (h3 b ab).2 (.inr e)
        grind
      grind
  have bf:=ao _ zP e _ _ _ nH hq;cases e with
  | normal=>exact bf
  | exit id=>exact wpIn_exit bf
  | ret=>exact wpIn_ret bf
theorem ahw{C:bS}(iz:C.r=none){β:Type}{s:ay}{a:Act}{w:World}(G:b9 C s a w){g:Operand}{ps:Array Tmp}{assign body:Code}{aI:af}{S:List aI.ah->Prop}(aA:aT C.aK s.ax g=.val (.b8 aI) S)
    {sh rin rout:dm} (dG:nF sh rout aI ps.toList C.nt=true) {nJ:sh.ah} (nG:sh.iP s=some nJ) (ea:∃ L,S L)
    {run:ay->M (cQ×rout.ah)} {k:cQ->ay->M β} {O:β->Prop} (an:∀ L,S L->M.b_ (jA (λA y=>tH sh rin rout aI ps.toList A y run) L nJ) λp=>M.b_ (k p.1 (sh.st p.2)) O)
    (C7:∀ l,GH C.P C.aK C.nt assign body l run) {Q:Exit->Act->World->Prop}
    (ao:∀ u,C.jC u->∀ e s' a' w',b9 (C.gR u) s' a' w'->M.b_ (k e s') O->Q e.o6 a' w'):(Code.rangeFunc g ps assign body).wpIn (dw C.r) 0 C.P Q a w:=by
  obtain⟨κ,F,G⟩:=G;obtain⟨κ,dN,f3,cr⟩:=dm.zC nG G;have hv:=jW G g;rw[aA]at hv;have pN:=eS _ f3 (cG.refl _ _) ((dy rfl).1 hv).2;simp only[bt]at pN;obtain⟨u,hu,_,ahx⟩:=pN;have hu:=(List.cons.inj hu).1;have oZ:∀ A:sh.ah,(sh.st A).ax TRS=.undef:=λA=>by
    simp only[nF,Bool.and_eq_true,Bool.not_eq_true']at dG;exact xn sh.bF cJ A TRS dG.1.1.1.2
  rw[iz];refine wpIn_rangeFunc λfn _=>?_;have aN:w.heap.size<((w.alloc (.deferred (some []))).alloc (.loop (eP fn a.tmps ps assign body w.heap.size .ready .normal))).heap.size:=by simp;omega
  have ai:w.heap.size+1<((w.alloc (.deferred (some []))).alloc (.loop (eP fn a.tmps ps assign body w.heap.size .ready .normal))).heap.size:=by simp
  have C_:((w.alloc (.deferred (some []))).alloc (.loop (eP fn a.tmps ps assign body w.heap.size .ready .normal))).heap[w.heap.size+1]?=some (.loop (eP fn a.tmps ps assign body w.heap.size .ready .normal)):=by
    have:=pM (w.alloc (.deferred (some []))) (.loop (eP fn a.tmps ps assign body w.heap.size .ready .normal));simp_all
  have C':((w.alloc (.deferred (some []))).alloc (.loop (eP fn a.tmps ps assign body w.heap.size .ready .normal))).heap[w.heap.size]?=some (.deferred (some [])):=
    (oN _ _ (by simp)).trans (pM w _)
  have tU:∀ r,r<w.heap.size->((w.alloc (.deferred (some []))).alloc (.loop (eP fn a.tmps ps assign body w.heap.size .ready .normal))).heap[r]?=w.heap[r]?:=λr h=>T0 h;have Da:(Instr.enterLoop fn a.tmps ps assign body none).run C.P w=.ok (w.heap.size+1,[oj w.heap.size]) ((w.alloc (.deferred (some []))).alloc (.loop (eP fn a.tmps ps assign body w.heap.size .ready .normal))):=run_enterLoop_outer fn a.tmps ps assign body;have xA:cM w ((w.alloc (.deferred (some []))).alloc (.loop (eP fn a.tmps ps assign body w.heap.size .ready .normal))):=⟨rfl,rfl,rfl⟩
  have Mj:((w.alloc (.deferred (some []))).alloc (.loop (eP fn a.tmps ps assign body w.heap.size .ready .normal))).heap.size=w.heap.size+2:=by simp
  generalize (w.alloc (.deferred (some []))).alloc (.loop (eP fn a.tmps ps assign body w.heap.size .ready .normal))=b6 at aN ai C_ C' tU Da xA Mj;have p1:cG dN w b6:=⟨by omega,λr h=>tU r (cr.cL r h)⟩
  have d_:bc { C with w0:=b6,F0:=dN,K0:=λ_=>False } (sh.st nJ) a b6 κ dN:=
    cr.vl cr.dk cr.dfr cr.fR cr.bF (λl' kn L' iL h_ e=>by have e:(sh.st nJ).ax TRS=.tr l' kn L' iL h_:=e;grind)
      (λr h=>tU r (by
        rcases h with h | ⟨b,ab,rfl⟩
        · exact cr.cL r h
        · exact (cr.own b ab).1)) (by omega) (λ_ h=>.inl h) (λ_ h=>h) (λ_ h=>h.elim) (λ_ h=>h.elim) (λ_ _ h=>h) (Nat.le_refl _) (cM.refl _)
  have Mk:=T1 (S:=S) (C:=C) (CI:={ C with w0:=b6,F0:=dN,K0:=λ_=>False }) (sh:=sh) (rin:=rin) (rout:=rout) (ps:=ps) (assign:=assign) (body:=body) (a:=a) (fn:=fn) (l:=w.heap.size+1) (B:=w.heap.size) (run:=run) (k:=k) (O:=O)
    rfl (by omega) (by rw[G.dk];omega) (by rw[G.dk];grind)
  have hsl:∀ b,((sh.st nJ).ad b).body.bJ (κ b)=true->¬((κ b).ad=w.heap.size+1\/(κ b).ad=w.heap.size):=λb ab h=>by
    have:=(cr.own b ab).1;omega
  obtain⟨qW,cF,ahy,r6,Lp⟩:=ahx dN b6 (λ_ h=>h) p1 (λr h=>d_.cL r h) d_.ij ea;have vm:=Lp (w.heap.size+1) _ (λr=>(∃ b,((sh.st nJ).ad b).body.bJ (κ b)=true/\(κ b).ad=r)\/r=w.heap.size+1\/r=w.heap.size)
    (λr h=>by
      rcases h with⟨b,ab,rfl⟩ | rfl | rfl
      · exact⟨(d_.own b ab).1,(d_.own b ab).2.1⟩
      · exact⟨ai,λh=>by have:=cr.cL _ h;omega⟩
      · exact⟨aN,λh=>by have:=cr.cL _ h;omega⟩)
    Mk ⟨.normal,nJ,κ,d_,C_,C',λb ab=>⟨.inl ⟨b,ab,rfl⟩,hsl b ab⟩,.inr (.inl rfl),.inr (.inr rfl),λh=>by have:=cr.cL _ h;omega,λh=>by have:=cr.cL _ h;omega,rfl,λ_=>⟨rfl,λR jD=>an R jD⟩,λh=>by cases h⟩
  refine⟨w.heap.size+1,[oj w.heap.size],b6,{ target:=.fn (.func qW) cF,args:=#[.func (.yield (w.heap.size+1)) #[] #[]] },b6,qW,#[Value.func (.yield (w.heap.size+1)) #[] #[]]++cF,b6,Da,?_,λ_ _=>trivial,?_,λh=>(by cases h),callsIn_wide.2 (vm.mono λe eD ⟨v,pre,st,F',gf,he,fX,hinv,g1,dW,g3,g4,g5,g6,Mm⟩=>?_)⟩
  · have e:a.eval (.const (.func (.yield (w.heap.size+1)) #[] #[]))=.func (.yield (w.heap.size+1)) #[] #[]:=rfl
    simp[resolve,hu,ahy,Deferred.ofValue,e]
  · have:=r6 (#[Value.func (.yield (w.heap.size+1)) #[] #[]]++cF) b6
    simpa [invoke]using this
  have g7:cM b6 eD:=⟨Mm.1,Mm.2.1,Mm.2.2⟩
  subst he;obtain⟨e,A,κ',mc,h1,h2,h3,aR,bw,cZ,fN,_,iX,pH⟩:=hinv;refine⟨sd e,_,run_endLoop h1 (by cases st<;>simp[eP]),?_⟩;have GM:w.heap.size+1<eD.heap.size:=(Array.getElem?_eq_some_iff.1 h1).1;generalize aY:Obj.loop _=bU;have hq:M.b_ (k e (sh.st A)) O:=by
    cases st with
    | true=>grind
    | false=>
      obtain⟨rfl,eY⟩:=iX rfl;exact (eY [] (show S (pre++[]) by grind)).2 _ rfl
  have vd:∀ r,C.K0 r->r<w.heap.size:=λr h=>Nat.lt_of_lt_of_le (G.g_ r h) G.size;have tS:∀ r,C.K0 r->(eD.putObj (w.heap.size+1) bU).heap[r]?=C.w0.heap[r]?:=λr h=>by
    have b4:=vd r h;rw[World.putObj_heap_other (by omega),g4 r (by omega) λaM=>?_,tU r b4]
    · exact G.ef r h
    · rcases aM with⟨b,ab,rfl⟩ | rfl | rfl
      · exact (cr.own b ab).2.2 h
      · omega
      · omega
  have xB:cM C.w0 (eD.putObj (w.heap.size+1) bU):=by
    have:=(G.dV.trans xA).trans g7;exact⟨this.os,this.tape,this.output⟩
  have zP:C.jC ⟨eD.putObj (w.heap.size+1) bU,λr=>C.K0 r\/r=w.heap.size,[w.heap.size]⟩:=
    { sc := λB aN => by
        have:B=w.heap.size:=by grind
        subst this;exact⟨.inr rfl,(World.putObj_heap_other (by omega)).trans h2⟩
      dZ:=λB aN=>by
        have:B=w.heap.size:=by grind
        subst this;exact⟨λh=>by grind,G.size⟩
      mb:=by simp
      gS:=λ_ h=>.inl h
      ef:=tS
      size:=by have:=G.size;simp;omega
      dV:=xB }
  have nH:b9 (C.gR ⟨eD.putObj (w.heap.size+1) bU,λr=>C.K0 r\/r=w.heap.size,[w.heap.size]⟩) (sh.st A) { a with defers:=[oj w.heap.size]++a.defers } (eD.putObj (w.heap.size+1) bU):=by
    have Ml:∀ r,F' r->C.F0 r\/¬(C.K0 r\/r=w.heap.size):=λr aW=>by
      rcases dW r aW with h | h | h
      · rcases cr.gN r h with c6 | c6
        · exact .inl c6
        · exact .inr λao=>ao.elim c6 λe=>by have:=cr.cL r h;omega
      · rcases h with⟨b,ab,rfl⟩ | rfl | rfl
        · exact .inr λao=>ao.elim (cr.own b ab).2.2 λe=>hsl b ab (.inr e)
        · exact (cZ aW).elim
        · exact (fN aW).elim
      grind
    refine⟨κ',F',mc.vl (r:=C.r) mc.dk (by show [oj w.heap.size]++a.defers=_;rw[G.dfr];rfl) mc.fR mc.bF (λl' kn L' iL h_ e=>by have e:(sh.st A).ax TRS=.tr l' kn L' iL h_:=e;grind)
      (λr h=>World.putObj_heap_other λe=>by
        grind) (by simp) Ml (λr h=>g1 r (cr.hE r h)) (λr h=>?_) (λ_ _=>rfl) (λb ab h=>?_) (Nat.le_refl _) (cM.refl _)⟩
    · simp only[World.putObj_size]
      grind
    · rcases h with h | h
      · rcases (g5 _ (h3 b ab).1).1 with aM | aM
        · rcases aM with⟨aZ,cS,e⟩ | e | e
          · exact (cr.own aZ cS).2.2 (e ▸ h)
          · exact (h3 b ab).2 (.inl e)
          · exact (h3 b ab).2 (.inr e)
        grind
      grind
  have bf:=ao _ zP e _ _ _ nH hq;cases e with
  | normal=>exact bf
  | exit id=>exact wpIn_exit bf
  | ret=>exact wpIn_ret bf
end Go.Fer
namespace Go.Fer
open Go.RowKit
open M (aa)
section
variable {F:Fence} {n:Nat} {P:Program} {Q:Exit->Act->World->Prop} {a:Act} {w:World}
theorem ahz{c:Code}{GQ β:Type}{body:GQ->M (aa GQ β)}{O:β->Prop}(I:GQ->Act->World->Prop)
  (round:∀ A a w,I A a w->(body A).bY->(∀ r,(body A).bC (.done r)->O r)->c.wpIn F n P (Exit.then (λa' w'=>∃ iv,(body A).bC (.next iv)/\I iv a' w') Q) a w)
  {A:GQ} (hs:M.Bq body A) (ag:∀ r,M.yI body A r->O r) (d_:I A a w):(Code.loop c).wpIn F n P Q a w:=by
 intro b k cs q5 ab G;have key:∀ A,M.Bq body A->(∀ r,M.yI body A r->O r)->∀ a w,I A a w->
   ∃ e a' w',Q e a' w'/\ArrivesIn (Machine.fenced P F) P (lone (b.atR a (.code c::.inLoop c::k)) cs w) b k cs e a' w':=by
  intro A hs;induction hs with
  | mk A h _ aH=>
   intro ag a w d_;obtain⟨e,lG,lH,bf,eO⟩:=round A a w d_ h (λr G=>ag r (.done _ _ G)) b (.inLoop c::k) cs q5 ab G;cases e with
   | normal=>
    obtain⟨iv,p7,ahA⟩:=bf;obtain⟨Mn,Mo,Mp,Mq,Mr⟩:=aH iv p7 (λr G=>ag r (.next _ _ _ p7 G)) lG lH ahA;exact⟨Mn,Mo,Mp,Mq,.of_steps (StepsIn.trans eO (.one (fenced_calm ab G rfl) stepR_inLoop)) Mr⟩
   | exit id=>exact⟨_,lG,lH,bf,.pass (x:=.inLoop c) rfl (λ_ _=>.inl (by simp)) eO⟩
   | goto l=>exact⟨_,lG,lH,bf,.pass (x:=.inLoop c) rfl (λ_ _=>.inl (by simp)) eO⟩
   | ret=>exact⟨_,lG,lH,bf,.pass (x:=.inLoop c) rfl (λ_ _=>.inl (by simp)) eO⟩
   | panic Ms=>exact⟨_,lG,lH,bf,.pass (x:=.inLoop c) rfl (λ_ _=>.inl (by simp)) eO⟩
   | outgrown=>exact⟨_,lG,lH,bf,.pass (x:=.inLoop c) rfl (λ_ _=>.inl (by simp)) eO⟩
 obtain⟨e,a',w',bf,eO⟩:=key A hs ag a w d_;exact⟨e,a',w',bf,.of_steps (.one (fenced_calm ab G rfl) stepR_loop) eO⟩
theorem ahB{p q:Prop}(bf:q)(h:q->p):p/\q:=⟨h bf,bf⟩
def GR(F:Fence)(n:Nat)(P:Program)(c:Code)(Q:Exit->Act->World->Prop)(a:Act)(w:World):Prop:=
 ∀ (b:Frame) (k:List Item) (cs:List Frame),b.roundOf=F.round->F.fn b.fn->F.room (cs.length+1+n)->
  ∃ e a' w',Q e a' w'/\ArrivesIn (Machine.fenced P F) P (lone (b.atR a (.code c::.inLoop c::k)) cs w) b k cs e a' w'
theorem ahC{c:Code}(h:GR F n P c Q a w):(Code.loop c).wpIn F n P Q a w:=λb k cs q5 ab G=>by
 obtain⟨e,a',w',bf,eO⟩:=h b k cs q5 ab G;exact⟨e,a',w',bf,.of_steps (.one (fenced_calm ab G rfl) stepR_loop) eO⟩
theorem ahD{c:Code}(h:c.wpIn F n P (Exit.then (λa' w'=>GR F n P c Q a' w') Q) a w):GR F n P c Q a w:=λb k cs q5 ab G=>by
 obtain⟨e,lG,lH,bf,eO⟩:=h b (.inLoop c::k) cs q5 ab G;cases e with
 | normal=>
  obtain⟨Mn,Mo,Mp,Mq,Mr⟩:=bf b k cs q5 ab G;exact⟨Mn,Mo,Mp,Mq,.of_steps (StepsIn.trans eO (.one (fenced_calm ab G rfl) stepR_inLoop)) Mr⟩
 | exit id=>exact⟨_,lG,lH,bf,.pass (x:=.inLoop c) rfl (λ_ _=>.inl (by simp)) eO⟩
 | goto l=>exact⟨_,lG,lH,bf,.pass (x:=.inLoop c) rfl (λ_ _=>.inl (by simp)) eO⟩
 | ret=>exact⟨_,lG,lH,bf,.pass (x:=.inLoop c) rfl (λ_ _=>.inl (by simp)) eO⟩
 | panic Ms=>exact⟨_,lG,lH,bf,.pass (x:=.inLoop c) rfl (λ_ _=>.inl (by simp)) eO⟩
 | outgrown=>exact⟨_,lG,lH,bf,.pass (x:=.inLoop c) rfl (λ_ _=>.inl (by simp)) eO⟩
theorem zQ{b:Frame}{k:List Item}{cs:List Frame}{c:Code}:step P (lone (b.atR a (.code (.scope c)::k)) cs w)=.next (lone (b.atR a (.code c::.inScope c::k)) cs w):=
 step_lone_go (by rfl)
theorem ahE{b:Frame}{k:List Item}{cs:List Frame}{c:Code}:step P (lone (b.atR a (.inScope c::k)) cs w)=.next (lone (b.atR a k) cs w):=
 step_lone_go (by rfl)
theorem ahF{c:Code}(h:c.wpIn F n P (Exit.noGoto Q) a w):(Code.scope c).wpIn F n P Q a w:=by
 intro b k cs q5 ab G;have h0:(lone (b.atR a (.code (.scope c)::k)) cs w).fenced P F:=fenced_calm ab G rfl;obtain⟨e,lG,lH,bf,eO⟩:=h b (.inScope c::k) cs q5 ab G;cases e with
 | normal=>exact⟨.normal,lG,lH,bf,.head h0 zQ (StepsIn.trans eO (.one (fenced_calm ab G rfl) ahE))⟩
 | exit id=>
  have hx:exitTo id (.inScope c::k)=exitTo id k:=by rfl
  exact⟨.exit id,lG,lH,bf,λk' ao=>.head h0 zQ (eO.1 k' (by grind)),λaW ao=>let ⟨k₁,h1,h2⟩:=eO.2 aW (by grind);⟨k₁,h1,.head h0 zQ h2⟩⟩
 | goto l=>exact bf.elim
 | ret=>exact⟨.ret,lG,lH,bf,.of_steps (.one h0 zQ) eO⟩
 | panic Ms=>exact⟨.panic Ms,lG,lH,bf,.of_steps (.one h0 zQ) eO⟩
 | outgrown=>exact⟨.outgrown,lG,lH,bf,.of_steps (.one h0 zQ) eO⟩
end
section
variable {T:Nat->af} {a1:Nat->Option aJ} {Ψ:Nat->Option eK}
def Mt{A β:Type}(m:M (aa A β))(O:β->Prop)(st:aa A β):Prop:=
 match st with
 | .next s=>m.bC (.next s)
 | .done r=>O r
theorem ahG{C:bS}{s s':ay}{i:Nat}{a:Act}{w:World}(h:K_ s i=some s')(G:b9 C s a w):b9 C s' a w:=by
 obtain⟨κ,F,G⟩:=G;unfold K_ at h;split at h
 ·rename_i b g n off hs;split at h
  ·rename_i e xs bD;split at h
   ·rename_i aA;cases h;have hv:=G.bF i;rw[hs]at hv;obtain⟨aO,aP,bA⟩:=hv.2 aA (by rw[bD];rfl);rw[bD]at aO bA;have aN:=G.bp b;unfold cg at aN;rw[bD]at aN;obtain⟨cs,T,c1,c2,c3,c4,c5⟩:=aN.2 aP;have aO:n<xs.length:=aO;obtain⟨a_,d1,d2⟩:=c5 n aO;have d2:bt C.P (.slice e) F w a_ xs[n]:=d2;obtain⟨u,rfl,hu⟩:=Bw (t:=.slice e) rfl d2;have tj:cs.getD ((κ b).off+n) Go.undef=u:=by
     have:=d1 0 (by simp);simp only[af.size,Nat.mul_one,Nat.add_zero]at this;rw[Array.getD_eq_getD_getElem?,this];rfl
    have fV:e6 s.ad κ (λq=>if q=b then (⟨g,.fQ (.st (.slice e)) xs n (.val (.slice e) (xs.getD n []))⟩:bu) else s.ad q) κ:=
     qA aA (λh=>by cases h) (λ_=>by rw[bD];exact⟨rfl,rfl,rfl⟩) (λh=>by cases h) (λh=>by cases h)
    have cr:=G.oO (b:=b) (x:=⟨g,.fQ (.st (.slice e)) xs n (.val (.slice e) (xs.getD n []))⟩) (w':=w) (by rw[bD];simp[bB.bJ,aP]) (by simp[bB.bJ,aP]) fV (λh=>by cases h) (λh=>by cases h) (λ_ _=>rfl) rfl (cM.refl w) λH mB b4 he=>
     ⟨aP,cs,T,c1,c2,c3,c4,⟨rfl,aO⟩,λj aC _=>c5 j aC,by rw[tj,show xs.getD n []=xs[n] by simp[aO]];exact (dy rfl).2 ⟨hu,d2⟩,by rw[tj];exact JA (t:=.slice e) rfl d2⟩
    refine⟨κ,F,{ cr with bF:=λj=>?_,dk:=cr.dk,dfr:=cr.dfr,bp:=cr.bp,pro:=λl aI L m st aS=>?_ }⟩
    ·show bl _ _ _ _ _ (if j=i then _ else _) _;split
     ·rename_i aC;subst aC;refine⟨⟨by show g<=(if b=b then _ else _:bu).gen;simp,hv.1.2⟩,λ_ _=>?_⟩;show _<(if b=b then _ else _:bu).body.len/\_/\_=Value.pointer (some ⟨_,_+_*(if b=b then _ else _:bu).body.eH,_⟩);simp only[if_true];exact⟨aO,aP,bA⟩
     ·exact cr.bF j
    ·have aS:(if TRS=i then _ else _)=aD.tr l aI L m st:=aS;split at aS
     ·cases aS
     ·exact cr.pro l aI L m st aS
   ·cases h
  ·cases h
 ·cases h
theorem ahH{C:bS}{s s':ay}{b:Nat}{a:Act}{w:World}(h:K' s b=some s')(G:b9 C s a w):b9 C s' a w:=by
 obtain⟨κ,F,G⟩:=G;unfold K' at h;split at h
 ·rename_i e xs n v bD;split at h
  ·rename_i y fl aM;split at h
   ·cases h
   ·rename_i pR;cases h;have pR:b ∉ fl:=by simpa using pR
    obtain⟨F',f1,aW,f2⟩:=bc.kW (mA aM) G;have zd:(s.cc fl).ad b=s.ad b:=by simp[ay.cc,pR]
    have aN:=G.bp b;have Mu:=aW.bp b;unfold cg at aN Mu;rw[zd,bD]at Mu;rw[bD]at aN;obtain⟨h0,cs,T,c1,c2,c3,c4,c5,lu,n6,wQ⟩:=Mu;obtain⟨_,cP,hH,T8,_,_,_,_,_,ahI,_⟩:=aN;rw[c1]at T8;cases T8;have u0:=l1 G.bp f1 aM f2 ahI;obtain⟨GJ,om⟩:=(dy rfl).1 u0;have fV:e6 (s.cc fl).ad κ (λq=>if q=b then (⟨(s.ad b).gen,.a8 (.st (.slice e)) (xs.set n y)⟩:bu) else (s.cc fl).ad q) κ:=
     qA (by rw[zd]) (λh=>by cases h) (λ_=>by rw[zd,bD];exact⟨rfl,by simp[bB.len],rfl⟩) (λh=>by cases h) (λh=>by cases h)
    refine⟨κ,F',aW.oO (b:=b) (w':=w) (by rw[zd,bD];simp[bB.bJ,h0]) (by simp[bB.bJ,h0]) fV (λh=>by cases h) (λh=>by cases h) (λ_ _=>rfl) rfl (cM.refl w) λH mB b4 he=>⟨λaz=>(by rw[h0]at az;cases az),λ_=>⟨cs,T,c1,c2,by simpa using c3,c4,λj aC=>?_⟩⟩⟩;by_cases qz:j=n
    ·subst qz;refine⟨[cs.getD ((κ b).off+j) Go.undef],λq bf=>?_,?_⟩
     ·have bf:q=0:=by simpa using bf
      subst bf;have:(κ b).off+j<cs.size:=by
       have:=c5.2;simp only[af.size,Nat.mul_one]at c2;omega
      simp[af.size,this]
     ·rw[List.getElem_set_self];exact om
    ·obtain⟨a_,d1,d2⟩:=lu j (by simpa using aC) qz;exact⟨a_,d1,by rw[List.getElem_set_ne (Ne.symm qz)];exact d2⟩
  ·cases h
 ·cases h
theorem ahJ:∀ (ann:ca),(∀ (C:bS) (_:C.P.follows .mixedOrders=true) (_:dx C.P T) (_:ja C.P a1) (_:lF C.P C.aK Ψ) (_:C.r=none\/ann.dL=true) {β:Type} (c:Code) (s:ay) (k:cQ->ay->M β) (O:β->Prop) (Q:Exit->Act->World->Prop) (a:Act) (w:World),k3 C.nt c=true->b9 C s a w->M.b_ (eh C.aK T a1 Ψ ann c s k) O->(∀ u,C.jC u->∀ e s' a' w',b9 (C.gR u) s' a' w'->M.b_ (k e s') O->Q e.o6 a' w')->c.wpIn (dw C.r) 0 C.P Q a w)/\(ann.ob=true->∀ (C:bS) (_:C.P.follows .mixedOrders=true) (_:dx C.P T) (_:ja C.P a1) (_:lF C.P C.aK Ψ) (_:C.r=none\/ann.dL=true) {β:Type} (c:Code) (s:ay) (k:cQ->ay->M β) (O:β->Prop) (Q:Exit->Act->World->Prop) (a:Act) (w:World),k3 C.nt c=true->b9 C s a w->M.b_ (eh C.aK T a1 Ψ ann (.loop c) s k) O->(∀ u,C.jC u->∀ e s' a' w',b9 (C.gR u) s' a' w'->M.b_ (k e s') O->Q e.o6 a' w')->GR (dw C.r) 0 C.P c Q a w):=by
 intro ann;induction ann with
 | eo=>
  refine⟨?_,λ_ C dO hT cd cE fC β c s k O Q a w hc G an ao=>by unfold eh at an;exact (gm an).elim⟩;intro C dO hT cd cE fC β c s k O Q a w hc G an ao;unfold eh at an;split at an
  ·rename_i id ops draw;cases draw with
   | true=>exact ag3 dO hT (Tk cd cE) cE (λo ag=>List.all_eq_true.1 hc o ag) (λs' a' w' aW eY=>ao C.hl C.vk .normal s' a' w' aW eY) G an
   | false=>
    refine wpIn_region ?_;have:=LV (Q:=Q) (ops:=ops) hT cd cE (λo ag=>List.all_eq_true.1 hc o ag) (k:=k .normal) (O:=O) (λs' a' w' aW eY=>ao C.hl C.vk .normal s' a' w' aW eY) ops.toList 0 [] s a w (by simp) (λp hp=>by cases hp) G an;rw[List.range_eq_range'];omega
  ·exact wpIn_skip (ao C.hl C.vk .normal s a w G an)
  ·exact wpIn_label (ao C.hl C.vk .normal s a w G an)
  ·exact wpIn_exit (ao C.hl C.vk (.exit _) s a w G an)
  ·exact wpIn_ret (ao C.hl C.vk .ret s a w G an)
  ·exact (gm an).elim
 | seq x y hf k6=>
  have hf:=hf.1;have k6:=k6.1;refine⟨?_,λh=>by simp[ca.ob]at h⟩;intro C dO hT cd cE fC β c s k O Q a w hc G an ao;have lI:C.r=none\/x.dL=true:=fC.imp id λh=>by simp only[ca.dL,Bool.and_eq_true]at h;grind
  have p8:C.r=none\/y.dL=true:=fC.imp id λh=>by simp only[ca.dL,Bool.and_eq_true]at h;grind
  unfold eh at an;split at an
  ·rename_i nK zR;simp only[k3,Bool.and_eq_true]at hc;refine wpIn_seq (hf C dO hT cd cE lI nK s _ O _ a w hc.1 G an λu hu e s' a' w' aW eY=>?_);cases e with
   | normal=>exact k6 (C.gR u) dO hT cd cE p8 zR s' k O Q a' w' hc.2 aW eY λv hv=>by rw[bS.zN];exact ao _ (hu.then hv)
   | exit id=>exact ao u hu (.exit id) s' a' w' aW eY
   | ret=>exact ao u hu .ret s' a' w' aW eY
  ·exact (gm an).elim
 | join sh x y hf k6=>
  have hf:=hf.1;have k6:=k6.1;refine⟨?_,λh=>by simp[ca.ob]at h⟩;intro C dO hT cd cE fC β c s k O Q a w hc G an ao;have lI:C.r=none\/x.dL=true:=fC.imp id λh=>by simp only[ca.dL,Bool.and_eq_true]at h;grind
  have p8:C.r=none\/y.dL=true:=fC.imp id λh=>by simp only[ca.dL,Bool.and_eq_true]at h;grind
  unfold eh at an;split at an
  ·rename_i nK zR;simp only[k3,Bool.and_eq_true]at hc;rw[M.fJ]at an;refine wpIn_seq (hf C dO hT cd cE lI nK s _ _ _ a w hc.1 G an λu hu e s' a' w' aW eY=>?_);cases e with
   | normal=>
    obtain⟨A,nG,h2⟩:=tR eY;have h3:=M.dF.1 h2;exact k6 (C.gR u) dO hT cd cE p8 zR _ k O Q a' w' hc.2 (dm.xi nG aW) h3 λv hv=>by rw[bS.zN];exact ao _ (hu.then hv)
   | exit id=>
    simp only[xg,M.fJ,M.dF,aa.bm]at eY;exact ao u hu (.exit id) s' a' w' aW eY
   | ret=>
    simp only[xg,M.fJ,M.dF,aa.bm]at eY;exact ao u hu .ret s' a' w' aW eY
  ·exact (gm an).elim
 | cond x y hf k6=>
  have hf:=hf.1;have k6:=k6.1;refine⟨?_,λh=>by simp[ca.ob]at h⟩;intro C dO hT cd cE fC β c s k O Q a w hc G an ao;have lI:C.r=none\/x.dL=true:=fC.imp id λh=>by simp only[ca.dL,Bool.and_eq_true]at h;grind
  have p8:C.r=none\/y.dL=true:=fC.imp id λh=>by simp only[ca.dL,Bool.and_eq_true]at h;grind
  unfold eh at an;split at an
  ·rename_i co nK zR;simp only[k3,Bool.and_eq_true]at hc;unfold Sz at an;split at an
   ·rename_i t hu;obtain⟨κ,F,eC⟩:=G;have hv:=jW eC co;rw[hu]at hv;refine wpIn_cond_split (eT.1 hv) (λaG=>?_) (λaG=>?_)
    ·subst aG;exact hf C dO hT cd cE lI nK s k O Q a w hc.1 ⟨κ,F,eC⟩ an ao
    ·subst aG;exact k6 C dO hT cd cE p8 zR s k O Q a w hc.2 ⟨κ,F,eC⟩ an ao
   ·rename_i g t hu;rw[M.kv]at an;obtain⟨aY,an⟩:=an;obtain⟨κ,F,eC⟩:=G;have hv:=jW eC co;rw[hu]at hv;refine wpIn_cond_split (eT.1 (hv.1 aY)) (λaG=>?_) (λaG=>?_)
    ·subst aG;exact hf C dO hT cd cE lI nK s k O Q a w hc.1 ⟨κ,F,eC⟩ an ao
    ·subst aG;exact k6 C dO hT cd cE p8 zR s k O Q a w hc.2 ⟨κ,F,eC⟩ an ao
   ·exact (gm an).elim
  ·exact (gm an).elim
 | block x hf=>
  have hf:=hf.1;refine⟨?_,λh=>by simp[ca.ob]at h⟩;intro C dO hT cd cE fC β c s k O Q a w hc G an ao;have lI:C.r=none\/x.dL=true:=fC;unfold eh at an;split at an
  ·rename_i id nK;refine wpIn_block (hf C dO hT cd cE lI nK s _ O _ a w hc G an λu hu e s' a' w' aW eY=>?_);cases e with
   | normal=>exact ao u hu .normal s' a' w' aW eY
   | exit F4=>
    simp only[Sy]at eY;simp only[cQ.o6,Exit.inBlock];split at eY
    ·rename_i e;rw[if_pos e];exact ao u hu .normal s' a' w' aW eY
    ·rename_i e;rw[if_neg e];exact ao u hu (.exit F4) s' a' w' aW eY
   | ret=>exact ao u hu .ret s' a' w' aW eY
  ·exact (gm an).elim
 | loop sh x hf=>
  have hf:=hf.1;refine⟨?_,λh=>by simp[ca.ob]at h⟩;intro C dO hT cd cE fC β c s k O Q a w hc G an ao;have lI:C.r=none\/x.dL=true:=fC;unfold eh at an;split at an
  ·rename_i nK;obtain⟨A,nG,h2⟩:=tR an;refine ahz (I:=λA a w=>∃ u,C.jC u/\b9 (C.gR u) (sh.st A) a w) (O:=O) (λA a w ⟨v,hv,d_⟩ qM CT=>?_) h2.1 h2.2 ⟨C.hl,C.vk,dm.xi nG G⟩;refine hf (C.gR v) dO hT cd cE lI nK (sh.st A) _ (Mt (eh C.aK T a1 Ψ x nK (sh.st A) (xg k λs'=>sh.mJ s' λiv=>M.pure (aa.next iv))) O) _ a w hc d_ ⟨qM,λst fX=>?_⟩ λu hu e s' a' w' aW eY=>?_
   ·cases st with
    | next iv=>exact fX
    | done r=>exact CT r fX
   ·cases e with
    | normal=>
     obtain⟨iv,Me,h3⟩:=tR eY;have aR:=M.dF.1 h3;exact⟨iv,aR,_,hv.then hu,by rw[<-bS.zN];exact dm.xi Me aW⟩
    | exit id=>
     simp only[xg,M.fJ,M.dF,Mt]at eY;exact ao _ (hv.then hu) (.exit id) s' a' w' (by rw[<-bS.zN];omega) eY
    | ret=>
     simp only[xg,M.fJ,M.dF,Mt]at eY;exact ao _ (hv.then hu) .ret s' a' w' (by rw[<-bS.zN];omega) eY
  ·exact (gm an).elim
 | scope x hf=>
  have hf:=hf.1;refine⟨?_,λh=>by simp[ca.ob]at h⟩;intro C dO hT cd cE fC β c s k O Q a w hc G an ao;have lI:C.r=none\/x.dL=true:=fC;unfold eh at an;split at an
  ·rename_i nK;refine ahF (hf C dO hT cd cE lI nK s _ O _ a w hc G an λu hu e s' a' w' aW eY=>?_);have:=ao u hu e s' a' w' aW eY;cases e<;>exact this
  ·exact (gm an).elim
 | range sh rin rout x y hf k6=>
  have hf:=hf.1;have k6:=k6.1;refine⟨?_,λh=>by simp[ca.ob]at h⟩;intro C dO hT cd cE fC β c s k O Q a w hc G an ao;unfold eh at an;split at an
  ·rename_i g ps assign body;simp only[k3,Bool.and_eq_true,List.all_eq_true,decide_eq_true_eq]at hc;obtain⟨axQ,T9,T_⟩:=hc;split at an
   ·rename_i qW n eA aA;split at an
    ·rename_i ic ahK;split at an
     ·rename_i axR fl hx;split at an
      ·rename_i dG;simp only[Bool.and_eq_true]at dG;obtain⟨dG,lI,p8⟩:=dG;obtain⟨A,nG,h2⟩:=tR an;rw[M.kv,M.fJ]at h2;simp only[SA]at h2;have iz:C.r=none:=fC.resolve_right λh=>by cases h
       have Mv:nF sh rout ic.aI ps.toList C.nt=true:=by
        simp only[nF,Bool.and_eq_true,List.all_eq_true,decide_eq_true_eq]at dG ⊢;grind
       refine ahu iz G aA (cE qW _ ahK) hx Mv nG h2.1 h2.2 (λl=>?_) ao;intro C1 jd tm q6 tB eg bV b6 p5 j0 j5;have h:=hf C1 (jd ▸ dO) (jd ▸ hT) (jd ▸ cd) (by grind) (.inr lI) assign eg (F5 λds=>eh C.aK T a1 Ψ y body ds λe ei=>rout.mJ ei λτ=>M.pure (e,τ)) p5
        (Exit.then (λa2 cI=>∃ u ds,C1.jC u/\b9 (C1.gR u) ds a2 cI/\
         ∀ (hd:bS),hd.P=C.P->hd.aK=C.aK->hd.nt=C.nt->hd.r=some l->∀ (cI:World),b9 hd ds a2 cI->
          body.wpIn (dw (some l)) 0 C.P (λe a3 eD=>∃ (aS:cQ) (v:nI) (ei:ay) (τ:rout.ah),e=aS.o6/\hd.jC v/\b9 (hd.gR v) ei a3 eD/\rout.iP ei=some τ/\p5 (aS,τ)) a2 cI) (λ_ _ _=>False)) bV b6 (q6 ▸ T9) j0 (tm ▸ j5)
        λu hu e ds a2 cI cr o8=>?_
       ·grind
       ·cases e with
        | normal=>
         refine⟨u,ds,hu,cr,λhd xC Mw Mx ahL cI mc=>?_⟩;have h:=k6 hd (xC ▸ dO) (xC ▸ hT) (xC ▸ cd) (by grind) (.inr p8) body ds (λe ei=>rout.mJ ei λτ=>M.pure (e,τ)) p5
          (λe a3 eD=>∃ (aS:cQ) (v:nI) (ei:ay) (τ:rout.ah),e=aS.o6/\hd.jC v/\b9 (hd.gR v) ei a3 eD/\rout.iP ei=some τ/\p5 (aS,τ)) a2 cI (Mx ▸ T_) mc (Mw ▸ o8) λv hv e ei a3 eD oo GS=>by
           obtain⟨τ,hτ,bw⟩:=tR GS;exact⟨e,v,ei,τ,rfl,hv,oo,hτ,M.dF.1 bw⟩
         grind
        | exit id=>exact (gm o8).elim
        | ret=>exact (gm o8).elim
      ·exact (gm an).elim
     ·exact (gm an).elim
    ·exact (gm an).elim
   ·rename_i aI S aA;split at an
    ·rename_i dG;simp only[Bool.and_eq_true]at dG;obtain⟨dG,lI,p8⟩:=dG;obtain⟨A,nG,h2⟩:=tR an;rw[M.fJ]at h2;have iz:C.r=none:=fC.resolve_right λh=>by cases h
     have Mv:nF sh rout aI ps.toList C.nt=true:=by
      simp only[nF,Bool.and_eq_true,List.all_eq_true,decide_eq_true_eq]at dG ⊢;grind
     refine ahw iz G aA Mv nG h2.1 (λL iy=>by have h3:=M.fJ.1 (h2.2 L iy);simp only[SA]at h3;exact h3) (λl=>?_) ao;intro C1 jd tm q6 tB eg bV b6 p5 j0 j5;have h:=hf C1 (jd ▸ dO) (jd ▸ hT) (jd ▸ cd) (by grind) (.inr lI) assign eg (F5 λds=>eh C.aK T a1 Ψ y body ds λe ei=>rout.mJ ei λτ=>M.pure (e,τ)) p5
      (Exit.then (λa2 cI=>∃ u ds,C1.jC u/\b9 (C1.gR u) ds a2 cI/\
       ∀ (hd:bS),hd.P=C.P->hd.aK=C.aK->hd.nt=C.nt->hd.r=some l->∀ (cI:World),b9 hd ds a2 cI->
        body.wpIn (dw (some l)) 0 C.P (λe a3 eD=>∃ (aS:cQ) (v:nI) (ei:ay) (τ:rout.ah),e=aS.o6/\hd.jC v/\b9 (hd.gR v) ei a3 eD/\rout.iP ei=some τ/\p5 (aS,τ)) a2 cI) (λ_ _ _=>False)) bV b6 (q6 ▸ T9) j0 (tm ▸ j5)
      λu hu e ds a2 cI cr o8=>?_
     ·grind
     ·cases e with
      | normal=>
       refine⟨u,ds,hu,cr,λhd xC Mw Mx ahL cI mc=>?_⟩;have h:=k6 hd (xC ▸ dO) (xC ▸ hT) (xC ▸ cd) (by grind) (.inr p8) body ds (λe ei=>rout.mJ ei λτ=>M.pure (e,τ)) p5
        (λe a3 eD=>∃ (aS:cQ) (v:nI) (ei:ay) (τ:rout.ah),e=aS.o6/\hd.jC v/\b9 (hd.gR v) ei a3 eD/\rout.iP ei=some τ/\p5 (aS,τ)) a2 cI (Mx ▸ T_) mc (Mw ▸ o8) λv hv e ei a3 eD oo GS=>by
         obtain⟨τ,hτ,bw⟩:=tR GS;exact⟨e,v,ei,τ,rfl,hv,oo,hτ,M.dF.1 bw⟩
       grind
      | exit id=>exact (gm o8).elim
      | ret=>exact (gm o8).elim
    ·exact (gm an).elim
   ·exact (gm an).elim
  ·exact (gm an).elim
 | nE x y hf k6=>
  refine ahB (λ_ C dO hT cd cE fC β c s k O Q a w hc G an ao=>?_) λkey C dO hT cd cE fC β c s k O Q a w hc G an ao=>?_
  ·have lI:C.r=none\/x.dL=true:=fC.imp id λh=>by simp only[ca.dL,Bool.and_eq_true]at h;grind
   have p8:C.r=none\/y.dL=true:=fC.imp id λh=>by simp only[ca.dL,Bool.and_eq_true]at h;grind
   unfold eh at an;simp only at an;split at an
   ·rename_i hu;refine ahD (hf.1 C dO hT cd cE lI c s _ O _ a w hc G an λu xl e s' a' w' aW eY=>?_);cases e with
    | normal=>exact k6.2 hu (C.gR u) dO hT cd cE p8 c s' k O Q a' w' hc aW eY λv hv=>by rw[bS.zN];exact ao _ (xl.then hv)
    | exit id=>exact ao u xl (.exit id) s' a' w' aW eY
    | ret=>exact ao u xl .ret s' a' w' aW eY
   ·exact (gm an).elim
  ·cases c with
   | loop nK=>exact ahC (key rfl C dO hT cd cE fC nK s k O Q a w hc G an ao)
   | _=>unfold eh at an;exact (gm an).elim
 | F3=>
  refine⟨?_,λh=>by simp[ca.ob]at h⟩;intro C dO hT cd cE fC β c s k O Q a w hc G an ao;unfold eh at an;split at an
  ·rename_i id ops draw;split at an
   ·rename_i h;rw[Bool.and_eq_true]at h;obtain⟨rfl,h⟩:=h;exact ag9 dO (fC.resolve_right (by simp[ca.dL])) h hT (Tk cd cE) cE (λo ag=>List.all_eq_true.1 hc o ag) (λs' a' w' aW eY=>ao C.hl C.vk .normal s' a' w' aW eY) G an
   ·exact (gm an).elim
  ·exact (gm an).elim
 | nz i x aH=>
  have aH:=aH.1;refine⟨?_,λh=>by simp[ca.ob]at h⟩;intro C dO hT cd cE fC β c s k O Q a w hc G an ao;unfold eh at an;split at an
  ·rename_i s' hv;exact aH C dO hT cd cE fC c s' k O Q a w hc (ahG hv G) an ao
  ·exact (gm an).elim
 | F2 b x aH=>
  have aH:=aH.1;refine⟨?_,λh=>by simp[ca.ob]at h⟩;intro C dO hT cd cE fC β c s k O Q a w hc G an ao;unfold eh at an;split at an
  ·rename_i s' hv;exact aH C dO hT cd cE fC c s' k O Q a w hc (ahH hv G) an ao
  ·exact (gm an).elim
 | num i n x aH=>
  have aH:=aH.1;refine⟨?_,λh=>by simp[ca.ob]at h⟩;intro C dO hT cd cE fC β c s k O Q a w hc G an ao;unfold eh at an;split at an
  ·rename_i v f hv;rw[M.kv]at an;have h:=an.2;rw[aeM hv an.1]at h;exact aH C dO hT cd cE fC c s k O Q a w hc G h ao
  ·exact (gm an).elim
 | split i off n x aH=>
  have aH:=aH.1;refine⟨?_,λh=>by simp[ca.ob]at h⟩;intro C dO hT cd cE fC β c s k O Q a w hc G an ao;unfold eh at an;split at an
  ·rename_i v f hv;rw[M.kv]at an;have h:=Sv an.2 an.1.1 an.1.2;rw[aeL hv an.1.1]at h;exact aH C dO hT cd cE fC c s k O Q a w hc G h ao
  ·exact (gm an).elim
theorem T'(ann:ca):∀ (C:bS) (_:C.P.follows .mixedOrders=true) (_:dx C.P T) (_:ja C.P a1) (_:lF C.P C.aK Ψ) (_:C.r=none\/ann.dL=true) {β:Type} (c:Code) (s:ay) (k:cQ->ay->M β) (O:β->Prop) (Q:Exit->Act->World->Prop) (a:Act) (w:World),k3 C.nt c=true->b9 C s a w->M.b_ (eh C.aK T a1 Ψ ann c s k) O->(∀ u,C.jC u->∀ e s' a' w',b9 (C.gR u) s' a' w'->M.b_ (k e s') O->Q e.o6 a' w')->c.wpIn (dw C.r) 0 C.P Q a w:=(ahJ ann).1
end
end Go.Fer
namespace Go.Fer
open Go.RowKit
def Db(T:Nat->af)(s:ay):List ResultVar->Option (List aD)
 | []=>some []
 | r::l=>match Db T s l with
  | none=>none
  | some aB=>match r with
   | .tmp t=>some (s.ax t::aB)
   | .cell a ty=>match (yV (T ty) (s.ax a)).run s.ad with
    | some v=>some (v::aB)
    | none=>none
def My(t:af)(n:Nat):Bool:=
 match t with
 | .aw _ _=>n != 1
 | .cz=>n == 0
 | _=>n == 1
def vn(T:Nat->af)(km:List ResultVar)(tr:af)(e:cQ)(s:ay):M tr.ah:=
 match e with
 | .exit _=>M.fail
 | _=>match Db T s km with
  | some avs=>match (iK tr avs).run s.ad with
   | some (y,_)=>M.pure y
   | none=>M.fail
  | none=>M.fail
def zS(t:af)(x:t.ah)(n:Nat):List (Nat×aD):=(List.range n).map λi=>(i,ki t x i)
def sf(t:af):Nat:=if t=.cz then 0 else jU t
def o_(t:af)(x:t.ah):ay:=Si (zS t x (sf t)) []
def Dc(U:dj)(T:Nat->af)(a1:Nat->Option aJ)(Ψ:Nat->Option eK)(fn:Func)(c:Code)(ann:ca)(ts tr:af)(x:ts.ah):M tr.ah:=
 eh U T a1 Ψ ann c (o_ ts x) (vn T fn.results.toList tr)
def GU(av:aD):aD:=match av with | .val (.bq e) p=>.dz e (p.getD e.cO) | v=>v
def Dd(av:aD):Prop:=match av with | .val (.bq _) p=>p.isSome=true | _=>True
def GV(n:Nat)(s:ay):ay:=⟨λi=>if i<n\/ev<i then s.ax i else GU (s.ax i),s.ad⟩
def De(n:Nat)(s:ay):Prop:=∀ i,¬(i<n\/ev<i)->Dd (s.ax i)
def ahM(U:dj)(T:Nat->af)(a1:Nat->Option aJ)(Ψ:Nat->Option eK)(fn:Func)(c:Code)(ann:ca)(n:Nat)(ts tr:af)(x:ts.ah):M tr.ah:=
 M.ae (De n (o_ ts x)) (eh U T a1 Ψ ann c (GV n (o_ ts x)) (vn T fn.results.toList tr))
def Df(fn:Func)(c:Code)(ts tr:af):Bool:=
 k3 fn.ntmps c && My tr fn.results.size && decide (sf ts <= fn.ntmps) && !(fn.name == "runtime.NumGoroutine") && decide (fn.ntmps <= ev)
def zT:z9'->List aD->Option (List aD)
 | [],[]=>some []
 | none::g,v::aB=>match zT g aB with
  | some l=>some (v::l)
  | none=>none
 | some n::g,v::aB=>match v,zT g aB with
  | .agg m f,some l=>if m=n then some ((List.range n).map f++l) else none
  | _,_=>none
 | _,_=>none
def GW(T:Nat->af)(km:List ResultVar)(ko:z9')(bC:dm)(e:cQ)(s:ay):M bC.ah:=
 match e with
 | .exit _=>M.fail
 | _=>match Db T s km with
  | some avs=>match zT ko avs with
   | some l=>match decide (l.length<=ev) with
    | true=>bC.mJ (rZ s l) λτ=>M.pure τ
    | false=>M.fail
   | none=>M.fail
  | none=>M.fail
def Mz(U:dj)(T:Nat->af)(a1:Nat->Option aJ)(Ψ:Nat->Option eK)(fn:Func)(c:Code)(ann:ca)(b7 bC:dm)(ko:z9')(A:b7.ah):M bC.ah:=
 eh U T a1 Ψ ann c (b7.st A) (GW T fn.results.toList ko bC)
def Dg(fn:Func)(c:Code)(j4:Nat)(ko:z9'):Bool:=
 k3 fn.ntmps c && decide (fn.results.size = ko.length) && decide (j4 <= fn.ntmps) && !(fn.name == "runtime.NumGoroutine") && decide (fn.ntmps <= ev)
section
variable {C:bS} {T:Nat->af} {a1:Nat->Option aJ} {Ψ:Nat->Option eK}
def zU(tmps:Array Value)(r:ResultVar):Sem Value:=
 match r with
 | .tmp t=>pure (tmps.getD t undef)
 | .cell b t=>do loadVar t (<-asAddr (tmps.getD b undef))
theorem Ua(fn:Func)(tmps:Array Value):results fn tmps=(fn.results.mapM (zU tmps) >>= λaB=>pure (if h:aB.size=1 then aB[0] else .tuple aB)):=by
 rfl
theorem Ub(hT:dx C.P T){s:ay}{a:Act}{w:World}{κ:Nat->bo}{F:Nat->Prop}(G:bc C s a w κ F):∀ (km:List ResultVar) {avs:List aD},Db T s km=some avs->
  ∃ aB:List Value,(km.mapM (zU a.tmps)).run C.P w=.ok aB w/\aB.length=km.length/\avs.length=km.length/\
   ∀ i (h:i<avs.length) (c6:i<aB.length),bl C.P s.ad κ F w avs[i] aB[i]:=by
 intro km;induction km with
 | nil=>intro avs h;cases h;simp
 | cons r km aH=>
  intro avs h;simp only[Db]at h;split at h
  ·cases h
  ·rename_i l ai;obtain⟨aB,h1,h2,h3,aR⟩:=aH ai;have one:∃ av v,avs=av::l/\(zU a.tmps r).run C.P w=.ok v w/\bl C.P s.ad κ F w av v:=by
    split at h
    ·rename_i t;cases h;exact⟨_,_,rfl,rfl,G.bF t⟩
    ·rename_i b ty;split at h
     ·rename_i v hv;cases h;obtain⟨u,aO,aP⟩:=Rj hT G hv (G.bF b);refine⟨v,u,rfl,?_,aP⟩;unfold Instr.loadAt at aO;unfold zU;simp only;generalize a.tmps.getD b Go.undef=z at aO ⊢;cases z with
      | pointer p=>
       cases p with
       | none=>simp[Instr.sureAddr]at aO
       | some p=>simpa [Instr.sureAddr,asAddr]using aO
      | _=>simp[Instr.sureAddr]at aO
     grind
   obtain⟨av,v,rfl,aO,aP⟩:=one;refine⟨v::aB,?_,by grind,by grind,λi E dp=>?_⟩
   ·simp_all
   grind
theorem ahN(hT:dx C.P T){fn:Func}{tr:af}(q7:My tr fn.results.size=true){e:cQ}{s:ay}{a:Act}{w:World}{O:tr.ah->Prop}(G:b9 C s a w)(an:M.b_ (vn T fn.results.toList tr e s) O) :
  (∀ id,e≠.exit id)/\∃ κ F v y,bc C s a w κ F/\(results fn a.tmps).run C.P w=.ok v w/\O y/\∃ F',(∀ r,F' r->C.F0 r\/¬C.K0 r)/\(∀ r,F' r->r<w.heap.size)/\s8 C.P tr F' w v y:=by
 obtain⟨κ,F,G⟩:=G;unfold vn at an;split at an
 ·exact (gm an).elim
 ·rename_i ea;refine⟨λid he=>ea id he,?_⟩;split at an
  ·rename_i avs MA;split at an
   ·rename_i y l aM;obtain⟨aB,h1,h2,h3,aR⟩:=Ub hT G _ MA;obtain⟨F',f1,aW,f2⟩:=bc.kW (pU _ aM) G;have dB:=u4 (F':=F') G.bp f1 tr aM f2 (by omega) aR;have cH:(results fn a.tmps).run C.P w=.ok (if h:aB.toArray.size=1 then aB.toArray[0] else .tuple aB.toArray) w:=by
     rw[Ua,Sem.run_bind];have:(fn.results.mapM (zU a.tmps)).run C.P w=.ok aB.toArray w:=by
      rw[Array.mapM_eq_mapM_toList,map_eq_pure_bind,Sem.run_bind,h1];rfl
     simp_all
    refine⟨κ,F,_,y,G,cH,M.dF.1 an,F',aW.gN,aW.cL,aB,?_,dB⟩;have bW:aB.length=fn.results.size:=by omega
    rw[<-bW]at q7;clear cH dB h1 aR h2 bW aM;have one:aB.length=1->aB=[if h:aB.toArray.size=1 then aB.toArray[0] else .tuple aB.toArray]:=by
     intro h;match aB,h with
     | [v],_=>rfl
    cases tr<;>simp only[My,beq_iff_eq,bne_iff_ne,ne_eq]at q7<;>simp only[yK];case aw=>rw[dif_neg (by simpa using q7)]
    case cz=>
     have:aB=[]:=List.length_eq_zero_iff.1 q7;subst this;exact⟨rfl,rfl⟩
    all_goals exact one q7
   ·exact (gm an).elim
  ·exact (gm an).elim
theorem Uc{l:List (Nat×aD)}{i:Nat}:e7 l i=.undef\/(i,e7 l i)∈l:=by
 induction l with
 | nil=>exact .inl rfl
 | cons p l aH=>
  simp only[e7];grind
theorem tV{P : Program}{k : FuncId}{fn : Func}{c : Code}(ar : P.funcs[k]? = some fn)(ab : fn.body = some c)(az : (fn.name == "runtime.NumGoroutine") = false)(args : Array Value)(w : World) :
  (callFunc k args).run P w=.ok (.enter k args) w:=by
 have az : ¬ fn.name = "runtime.NumGoroutine" := by grind
 simp[callFunc,ar,ab,az]
def o'(w:World):List Nat->World
 | []=>w
 | B::ms=>o' (w.putObj B (.deferred none)) ms
theorem Ud:∀ (ms:List Nat) (w:World),(o' w ms).heap.size=w.heap.size
 | [],_=>rfl
 | _::ms,_=>(Ud ms _).trans World.putObj_size
theorem MB:∀ (ms:List Nat) (w:World) {r:Nat},r ∉ ms->(o' w ms).heap[r]?=w.heap[r]?
 | [],_,_,_=>rfl
 | B::ms,w,r,h=>by
  simp only[List.mem_cons,not_or]at h;exact (MB ms _ h.2).trans (World.putObj_heap_other h.1)
theorem Ue:∀ (ms:List Nat) (w:World),cM w (o' w ms)
 | [],w=>cM.refl w
 | B::ms,w=>by
  have h:cM w (w.putObj B (.deferred none)):=⟨rfl,rfl,rfl⟩
  exact h.trans (Ue ms _)
theorem MC{P:Program}{fn:Func}{tmps:Array Value}{R:Ending->World->Prop}:∀ (ms:List Nat) (w:World),ms.Nodup->(∀ B∈ms,w.heap[B]?=some (.deferred (some [])))->
  (∃ v,(results fn tmps).run P (o' w ms)=.ok v (o' w ms)/\R (.returned v) (o' w ms))->LeavesInM Fence.wide 0 P fn tmps R (ms.map oj) .returning w
 | [],w,_,_,h=>h
 | B::ms,w,az,aN,h=>by
  simp only[List.nodup_cons]at az;refine⟨by simp,.inl ⟨B,_,rfl,run_takeDeferred (aN B (by simp)),?_⟩⟩;exact MC ms _ az.2 (λahO c6=>(World.putObj_heap_other λe=>az.1 (by grind)).trans (aN ahO (List.mem_cons_of_mem _ c6))) h
theorem b9.Uf{u:nI}{s:ay}{a:Act}{w:World}(hu:C.jC u)(ahP:∀ r,C.F0 r->r<C.w0.heap.size)(vd:∀ r,C.K0 r->r<C.w0.heap.size)(h:b9 (C.gR u) s a w) :
  b9 { C with dfr:=u.ms.map oj++C.dfr } s a (o' w u.ms)/\a.defers=u.ms.map oj++C.dfr/\∀ B∈u.ms,w.heap[B]?=some (.deferred (some [])):=by
 obtain⟨κ,F,h⟩:=h;have axS:∀ B∈u.ms,¬F B:=λB aN ar=>by
  obtain⟨h1,_⟩:=hu.sc B aN;rcases h.gN B ar with h2 | h2
  ·have:=ahP B h2;have:=(hu.dZ B aN).2;omega
  ·exact h2 h1
 have bW:=Ud u.ms w;have hc:=Ue u.ms w;refine⟨⟨κ,F,h.GG (w0:=C.w0) (w':=o' w u.ms) (K0:=C.K0) (r:=C.r) (λr G=>hu.gS r G) (λr G=>MB _ _ λan=>?_) (Nat.le_of_eq bW.symm) hc vd (λr G=>?_) ?_ ?_⟩,h.dfr,λB aN=>?_⟩
 ·rcases G with G | G
  ·grind
  ·exact G (hu.sc r an).1
 ·exact (MB _ _ λan=>(hu.dZ r an).1 G).trans ((h.ef r (hu.gS r G)).trans (hu.ef r G))
 ·rw[bW];exact Nat.le_trans hu.size h.size
 ·exact (hu.dV.trans h.dV).trans hc
 ·exact (h.ef B (hu.sc B aN).1).trans (hu.sc B aN).2
theorem Ug{P:Program}{U:dj}(dO:P.follows .mixedOrders=true){k:FuncId}{fn:Func}{c:Code}{ann:ca}{ts tr:af}{sh:ts.ah->M tr.ah}(hT:dx P T)(hW:qy P U)(cd:ja P a1)(cE:lF P U Ψ)(ar:P.funcs[k]?=some fn)(ab:fn.body=some c)
    (cq:Df fn c ts tr=true) {s0:ts.ah->ay} {pre:ts.ah->Prop} (mM:∀ x C a w,b9 C (o_ ts x) a w->pre x->b9 C (s0 x) a w)
    (nm:∀ x,M.le (M.ae (pre x) (eh U T a1 Ψ ann c (s0 x) (vn T fn.results.toList tr))) (sh x)):hN P k ts tr sh:=by
  simp only[Df,Bool.and_eq_true,Bool.not_eq_true',decide_eq_true_eq]at cq;obtain⟨⟨⟨⟨Dh,q7⟩,ahQ⟩,MD⟩,tN⟩:=cq;refine⟨tV ar ab MD,λF w args x bd fT dB qM=>?_⟩;obtain⟨⟨gw,h1⟩,h2⟩:=nm x qM;have hlen:args.length=sf ts/\∀ i,i<sf ts->∀ (H:Nat->bu) (κ:Nat->bo),bl P H κ F w (ki ts x i) (args.getD i Go.undef):=by
    unfold sf;split
    · rename_i e
      subst e
      have:args=[]:=dB.1
      grind
    · rename_i e
      exact⟨(tt (H:=λ_=>⟨0,.ff⟩) (κ:=λ_=>⟨0,0,0,false⟩) ts dB e).1,λi E H κ=>(tt ts dB e).2 i E⟩
  let C:bS:={ P:=P,w0:=w,F0:=F,K0:=λr=>r<w.heap.size,nt:=fn.ntmps,r:=none,dfr:=[],h4:=λ_=>none,pr:=⟨0,.cz,λ_=>False,λ_ _ _ _ _=>False⟩,aK:=U }
  let a0:Act:={ tmps:=args.toArray++Array.replicate (fn.ntmps - args.toArray.size) undef,defers:=[] }
  let ahR:Nat->bo:=λ_=>⟨0,0,0,false⟩
  have p2:∀ i,(o_ ts x).ax i=.undef\/(i<sf ts/\(o_ ts x).ax i=ki ts x i):=λi=>by
    rcases Uc (l:=zS ts x (sf ts)) (i:=i) with e | e
    · exact .inl e
    · refine .inr ?_
      generalize bb:e7 (zS ts x (sf ts)) i=z at e
      simp only[zS,List.mem_map,List.mem_range,Prod.mk.injEq]at e
      obtain⟨j,aC,rfl,rfl⟩:=e
      exact⟨aC,bb⟩
  have G:b9 C (o_ ts x) a0 w:=by
    refine⟨ahR, F, { dk := ?_, dfr := rfl, bF := λi => ?_, bp := λb => trivial, own := λb ab => (by cases ab), inj := λb aZ ab _ _ => (by cases ab), cL := bd, gN := λr G => .inl G, hE := λr G => G, g_ := λr G => G, ef := λr _ => rfl, size := Nat.le_refl _, dV := cM.refl w,fR:=tN,kd:=λb r h=>(by cases h),jq:=λb r h=>(by cases h),jS:=λb k h=>(by cases h),ke:=λb k h=>(by cases h),pro:=λl aI L n st e=>?_,jr:=hW,ij:=fT }⟩
    · grind
    · rcases p2 i with e | ⟨E,e⟩
      · rw[e];simp only[bl]
      · rw[e]
        have:a0.tmps.getD i Go.undef=args.getD i Go.undef:=by
          have dp:i<args.length:=by omega
          simp[a0,Array.getD_eq_getD_getElem?,List.getD_eq_getElem?_getD,Array.getElem?_append,dp]
        grind
    · rcases p2 TRS with h | ⟨h,_⟩
      · grind
      · unfold TRS ev at *;omega
  refine callsIn_wide.1 (callsIn_of_wp_marks (F:=Fence.wide) (n:=0) ar ab trivial ?_);have hw:=T' ann C dO hT cd cE (.inl rfl) (k:=vn T fn.results.toList tr) (O:=(eh U T a1 Ψ ann c (s0 x) (vn T fn.results.toList tr)).bC) (Q:=bodyPostM Fence.wide 0 P fn λe w'=>∃ v y,e=.returned v/\(sh x).bC y/\s8 P tr (uN F w w') w' v y/\Below w.heap.size w w') c (s0 x) a0 w Dh (mM x C a0 w G gw) ⟨h1,λ_ h=>h⟩;refine hw λu hu e s' a' w' aW an=>?_;obtain⟨cr,au,aN⟩:=b9.Uf hu bd (λ_ h=>h) aW;obtain⟨ea,κ,zI,v,y,eC,cH,aM,F',f1,f2,fU⟩:=ahN (C:={ C with dfr:=u.ms.map oj++C.dfr }) hT q7 cr an;have tF:LeavesInM Fence.wide 0 P fn a'.tmps (λe w'=>∃ v y,e=.returned v/\(sh x).bC y/\s8 P tr (uN F w w') w' v y/\Below w.heap.size w w') a'.defers .returning w':=by
    rw[au];simp only[C,List.append_nil];refine MC u.ms w' hu.mb aN ⟨v,cH,v,y,rfl,h2 y aM,?_,eC.dV.os,eC.dV.tape,eC.dV.output,eC.size,eC.ef⟩;obtain⟨aB,aO,aP,bA⟩:=fU;refine⟨aB,aO,aP,eS tr (λr G=>?_) (cG.refl _ _) bA⟩;rcases f1 r G with h | h
    · exact .inl h
    · exact .inr ⟨Nat.le_of_not_lt h,f2 r G⟩
  cases e with
  | normal=>exact tF
  | exit id=>grind
  | ret=>exact tF
theorem ahS{P:Program}{U:dj}(dO:P.follows .mixedOrders=true){k:FuncId}{fn:Func}{c:Code}{ann:ca}{ts tr:af}{sh:ts.ah->M tr.ah}(hT:dx P T)(hW:qy P U)(cd:ja P a1)(cE:lF P U Ψ)(ar:P.funcs[k]?=some fn)(ab:fn.body=some c)
  (cq:Df fn c ts tr=true) (nm:∀ x,M.le (Dc U T a1 Ψ fn c ann ts tr x) (sh x)):hN P k ts tr sh:=
 Ug dO hT hW cd cE ar ab cq (ann:=ann) (s0:=o_ ts) (pre:=λ_=>True) (λ_ _ _ _ h _=>h) λx hs=>⟨⟨trivial,(nm x hs).1⟩,(nm x hs).2⟩
theorem ahT{C:bS}{s:ay}{a:Act}{w:World}{n:Nat}(h:b9 C s a w)(hc:De n s):b9 C (GV n s) a w:=by
 obtain⟨κ,F,G⟩:=h;refine⟨κ,F,{ G with bF:=λi=>?_,dk:=G.dk,dfr:=G.dfr,bp:=G.bp,pro:=λl aI L m st e=>?_ }⟩
 ·show bl C.P s.ad κ F w (if i<n\/ev<i then s.ax i else GU (s.ax i)) _;split
  ·exact G.bF i
  ·rename_i E;have hv:=G.bF i;have hp:=hc i E;unfold GU;unfold Dd at hp;split
   ·rename_i e p he;rw[he]at hv hp;have hp:p.isSome=true:=hp;obtain⟨_,hv⟩:=(dy rfl).1 hv;simp only[bt]at hv;rcases hv with⟨_,rfl⟩ | ⟨q,y,a_,bf,rfl,aO,aP⟩
    ·cases hp
    ·exact⟨q,a_,(List.cons.inj bf).1,aO,aP⟩
   omega
 ·have e:(if TRS<n\/ev<TRS then s.ax TRS else GU (s.ax TRS))=.tr l aI L m st:=e;rw[if_pos (.inr (by decide))]at e;exact G.pro l aI L m st e
theorem ahU{P:Program}{U:dj}(dO:P.follows .mixedOrders=true){k:FuncId}{fn:Func}{c:Code}{ann:ca}{n:Nat}{ts tr:af}{sh:ts.ah->M tr.ah}(hT:dx P T)(hW:qy P U)(cd:ja P a1)(cE:lF P U Ψ)(ar:P.funcs[k]?=some fn)(ab:fn.body=some c)
  (cq:Df fn c ts tr=true) (nm:∀ x,M.le (ahM U T a1 Ψ fn c ann n ts tr x) (sh x)):hN P k ts tr sh:=
 Ug dO hT hW cd cE ar ab cq (ann:=ann) (s0:=λx=>GV n (o_ ts x)) (pre:=λx=>De n (o_ ts x)) (λ_ _ _ _ h hp=>ahT h hp) nm
theorem ME{H:Nat->bu}{κ:Nat->bo}{F:Nat->Prop}{w:World}{P:Program}:∀ (g:z9') {avs l:List aD} {us:List Value},zT g avs=some l->avs.length=us.length->(∀ i (h:i<avs.length) (c6:i<us.length),bl P H κ F w avs[i] us[i])->
  ∃ aB:List Value,CB g us aB/\l.length=aB.length/\∀ i,i<aB.length->bl P H κ F w (l.getD i .undef) (aB.getD i undef)
 | [],[],l,us,h,ai,_=>by
  cases h;have:us=[]:=List.eq_nil_of_length_eq_zero ai.symm;subst this;exact⟨[],rfl,rfl,λi E=>by cases E⟩
 | [],_::_,_,_,h,_,_=>by cases h
 | none::_,[],_,_,h,_,_=>by cases h
 | some _::_,[],_,_,h,_,_=>by cases h
 | none::g,av::avs,l,[],_,ai,_=>by cases ai
 | some n::g,av::avs,l,[],_,ai,_=>by cases ai
 | none::g,av::avs,l,u::us,h,ai,hv=>by
  simp only[zT]at h;split at h
  ·rename_i l' GN;cases h;obtain⟨aB,h1,h2,h3⟩:=ME g GN (by grind) λi h c6=>hv (i+1) (Nat.succ_lt_succ h) (Nat.succ_lt_succ c6);refine⟨u::aB,⟨aB,rfl,h1⟩,by grind,λi E=>?_⟩;cases i with
   | zero=>exact hv 0 (Nat.zero_lt_succ _) (Nat.zero_lt_succ _)
   | succ i=>grind
  grind
 | some n::g,av::avs,l,u::us,h,ai,hv=>by
  simp only[zT]at h;split at h
  ·rename_i m f l' GN;split at h
   ·rename_i RY;cases h;subst RY;obtain⟨aB,h1,h2,h3⟩:=ME g GN (by grind) λi h c6=>hv (i+1) (Nat.succ_lt_succ h) (Nat.succ_lt_succ c6);obtain⟨cs,aO,aP,bA⟩:bl P H κ F w (.agg m f) u:=hv 0 (Nat.zero_lt_succ _) (Nat.zero_lt_succ _);refine⟨cs++aB,⟨cs.toArray,aB,aO,by omega,λc hc=>?_,by simp,h1⟩,by grind,λi E=>?_⟩
    ·obtain⟨j,aC,rfl⟩:=List.mem_iff_getElem.1 (by omega:c∈cs);grind
    grind
   grind
  grind
def ahV(P:Program)(U:dj)(T:Nat->af)(fn:Func)(c:Code)(ic:IOC):Prop:=
 ∀ (C:bS) (A:ic.b7.ah) (Q:Exit->Act->World->Prop) (a:Act) (w:World),C.P=P->C.aK=U->C.nt=fn.ntmps->C.r=none->C.dfr=[]->k3 C.nt c=true->b9 C (ic.b7.st A) a w->(ic.sh A).bY->
  (∀ u,C.jC u->∀ e s' a' w',b9 (C.gR u) s' a' w'->M.b_ (GW T fn.results.toList ic.ko ic.bC e s') (ic.sh A).bC->Q e.o6 a' w')->c.wpIn (dw C.r) 0 C.P Q a w
theorem ahW{P:Program}{U:dj}{k:FuncId}{fn:Func}{c:Code}{ic:IOC}(hT:dx P T)(ar:P.funcs[k]?=some fn)(ab:fn.body=some c)
  (cq:Dg fn c ic.j4 ic.ko=true) (ahX:ahV P U T fn c ic):IoSpec P U k ic:=by
 simp only[Dg,Bool.and_eq_true,Bool.not_eq_true',decide_eq_true_eq]at cq;obtain⟨⟨⟨⟨Dh,q7⟩,ahQ⟩,MD⟩,tN⟩:=cq;refine⟨tV ar ab MD,λC a w κ F A jd zV iz qZ rX hW G qM=>?_⟩;subst jd;subst zV;subst hW;have axT:a.tmps.size=ic.j4:=G.dk.trans rX;have eB:∀ i,(a.tmps++Array.replicate (fn.ntmps - a.tmps.size) undef).getD i undef=a.tmps.getD i undef:=λi=>by
  simp only[Array.getD_eq_getD_getElem?,Array.getElem?_append];grind
 have aW:bc { C with nt:=fn.ntmps,dfr:=[],r:=none } (ic.b7.st A) { tmps:=a.tmps++Array.replicate (fn.ntmps - a.tmps.size) undef,defers:=[] } C.w0 κ F:=
  { G with dk:=(by grind),dfr:=rfl,fR:=tN,bF:=λi=>(by rw[eB];exact G.bF i),bp:=G.bp }
 refine callsIn_wide.1 (callsIn_of_wp_marks (F:=Fence.wide) (n:=0) ar ab trivial ?_);refine ahX { C with nt:=fn.ntmps,dfr:=[],r:=none } A _ _ C.w0 rfl rfl rfl rfl rfl Dh ⟨κ,F,aW⟩ qM λu hu e s' a' w' aW an=>?_;obtain⟨⟨mL,dN,cr⟩,au,aN⟩:=b9.Uf hu (λr h=>G.cL r (G.hE r h)) G.g_ aW;have key:(∀ id,e≠.exit id)/\LeavesInM Fence.wide 0 C.P fn a'.tmps (λe w'=>∃ v τ aB κ' F',e=.returned v/\(ic.sh A).bC τ/\Ga ic.ko v aB/\bc { C with nt:=aB.length } (ic.bC.st τ) { tmps:=aB.toArray,defers:=[] } w' κ' F') a'.defers .returning w':=by
  unfold GW at an;split at an
  ·exact (gm an).elim
  ·rename_i ea;refine⟨λid he=>ea id he,?_⟩;split at an
   ·rename_i avs MA;split at an
    ·rename_i l ai;split at an
     ·rename_i b4;have b4:l.length<=ev:=of_decide_eq_true b4;obtain⟨us,aO,aP,bA,gi⟩:=Ub (C:={ C with nt:=fn.ntmps,dfr:=u.ms.map oj++[],r:=none }) hT cr _ MA;obtain⟨aB,g1,dW,g3⟩:=ME ic.ko ai (by omega) gi;obtain⟨τ,hτ,bw⟩:=tR an;have aV:=cr.args (avs:=l) (us:=aB) (by omega) dW g3;obtain⟨GK,TX,_,mc⟩:=dm.zC hτ aV;rw[au];simp only[List.append_nil];have cH:(results fn a'.tmps).run C.P (o' w' u.ms)=.ok (if us.length=1 then us.getD 0 undef else .tuple us.toArray) (o' w' u.ms):=by
       rw[Ua,Sem.run_bind];have:(fn.results.mapM (zU a'.tmps)).run C.P (o' w' u.ms)=.ok us.toArray (o' w' u.ms):=by
        rw[Array.mapM_eq_mapM_toList,map_eq_pure_bind,Sem.run_bind,aO];rfl
       rw[this];simp only[Result.andThen_ok,Sem.run_pure,List.size_toArray];grind
      refine MC u.ms w' hu.mb aN ⟨_,cH,_,τ,aB,GK,TX,rfl,M.dF.1 bw,⟨us,?_,rfl,g1⟩,?_⟩
      ·rw[aP];simpa using q7
      ·have e:({ C with nt:=aB.length }:bS)={ C with nt:=aB.length,dfr:=[],r:=none }:=by
        cases C;simp only at iz qZ;subst iz;subst qZ;rfl
       rw[e];exact mc
     ·exact (gm an).elim
    ·exact (gm an).elim
   ·exact (gm an).elim
 cases e with
 | normal=>exact key.2
 | exit id=>grind
 | ret=>exact key.2
theorem Uh{P:Program}{U:dj}(dO:P.follows .mixedOrders=true){k:FuncId}{fn:Func}{c:Code}{ann:ca}{ic:IOC}(hT:dx P T)(cd:ja P a1)(cE:lF P U Ψ)(ar:P.funcs[k]?=some fn)(ab:fn.body=some c)
  (cq:Dg fn c ic.j4 ic.ko=true) (nm:∀ A,M.le (Mz U T a1 Ψ fn c ann ic.b7 ic.bC ic.ko A) (ic.sh A)):IoSpec P U k ic:=
 ahW hT ar ab cq λC A Q a w jd hW _ iz _ Dh G qM ao=>by
  subst jd;subst hW;obtain⟨h1,h2⟩:=nm A qM;exact T' ann C dO hT cd cE (.inl iz) c (ic.b7.st A) (GW T fn.results.toList ic.ko ic.bC) (Mz C.aK T a1 Ψ fn c ann ic.b7 ic.bC ic.ko A).bC Q a w Dh G ⟨h1,λ_ h=>h⟩ λu hu e s' a' w' aW an=>ao u hu e s' a' w' aW ⟨an.1,λy aM=>h2 y (an.2 y aM)⟩
end
def q8:List (Nat×af)->Nat->af
 | [],_=>.cz
 | p::l,i=>if i=p.1 then p.2 else q8 l i
def Ui(P:Program)(l:List (Nat×af)):Bool:=l.all λp=>ch P p.2 (.inl p.1)
theorem ahY{P:Program}{l:List (Nat×af)}(h:Ui P l=true):dx P (q8 l):=by
 intro id;induction l with
 | nil=>exact .inl rfl
 | cons p l aH=>
  simp only[Ui,List.all_cons,Bool.and_eq_true]at h;simp only[q8];split
  ·rename_i e;subst e;exact .inr h.1
  ·exact aH h.2
end Go.Fer
namespace Go.Fer
open Go.RowKit
theorem Uj{P:Program}{U:dj}{k:FuncId}{c:IOC}(h:IoSpec P U k c)(hW:qy P U){ic:ITC}(mk:ic.ts.ah->Nat->(List ic.aI.ah->Prop)->c.b7.ah)(az:c.j4=jU ic.ts+1)(hK:c.j4<=ev)(tM:ic.ts≠.cz)
    (hsl:∀ x l L i,(c.b7.st (mk x l L)).ax i=.undef\/(i<jU ic.ts/\(c.b7.st (mk x l L)).ax i=ki ic.ts x i)\/(i=jU ic.ts/\(c.b7.st (mk x l L)).ax i=.gM l)\/(i=TRS/\(c.b7.st (mk x l L)).ax i=.tr l ic.aI L [] false))
    (iq:c.b7.bp=[]) (p7:∀ τ,∃ n st l L,(c.bC.st τ).ax TRS=.tr l ic.aI L n st)
    (rQ:∀ x l,ic.pre x->(c.sh (mk x l (λT=>T=ic.seq x))).bY/\∀ τ,(c.sh (mk x l (λT=>T=ic.seq x))).bC τ->∀ l' L' n,(c.bC.st τ).ax TRS=.tr l' ic.aI L' n false->n=ic.seq x):CK P k ic:=by
  refine⟨h.enter,λl I F Y w args x dB gw cq bd fT hb d_=>?_⟩;obtain⟨ik,GI⟩:=tt (H:=λ_=>⟨0,.ff⟩) (κ:=λ_=>⟨0,0,0,false⟩) ic.ts dB tM;have tW:∀ b,(c.b7.st (mk x l (λT=>T=ic.seq x))).ad b=⟨0,.ff⟩:=λb=>by
    show eu (gQ cJ c.b7.bp (eb cJ c.b7.bF (mk x l (λT=>T=ic.seq x))).2) b=_;generalize (eb cJ c.b7.bF (mk x l (λT=>T=ic.seq x))).2=z;revert z;rw[iq];intro z;rfl
  have bW:(args++[Value.func (.yield l) #[] #[]]).length=c.j4:=by grind
  have G:bc { P:=P,w0:=w,F0:=F,K0:=λr=>r<w.heap.size/\¬Y r,nt:=c.j4,r:=none,dfr:=[],h4:=λ_=>none,pr:=⟨l,ic.aI,λT=>T=ic.seq x,I⟩,aK:=U } (c.b7.st (mk x l (λT=>T=ic.seq x)))
      { tmps:=(args++[Value.func (.yield l) #[] #[]]).toArray,defers:=[] } w (λ_=>⟨0,0,0,false⟩) F:=
    { dk := by omega
      dfr:=rfl
      bF:=λi=>by
        rcases hsl x l (λT=>T=ic.seq x) i with e | ⟨E,e⟩ | ⟨E,e⟩ | ⟨E,e⟩
        · rw[e];trivial
        · rw[e]
          have:=(tt (H:=(c.b7.st (mk x l (λT=>T=ic.seq x))).ad) (κ:=λ_=>⟨0,0,0,false⟩) ic.ts dB tM).2 i E
          have e2:(args++[Value.func (.yield l) #[] #[]]).toArray.getD i undef=args.getD i undef:=by
            rw[Array.getD_eq_getD_getElem?,List.getD_eq_getElem?_getD,List.getElem?_toArray,List.getElem?_append_left (by omega)]
          grind
        · rw[e]
          show (args++[Value.func (.yield l) #[] #[]]).toArray.getD i undef=_
          simp_all
        · rw[e];trivial
      bp:=λb=>by unfold cg;rw[tW b];trivial
      own:=λb ab=>by rw[tW b]at ab;cases ab
      inj:=λb aZ ab _ _=>by rw[tW b]at ab;cases ab
      cL:=bd
      gN:=λr G=>.inl G
      hE:=λr G=>G
      g_:=λr G=>G.1
      ef:=λ_ _=>rfl
      size:=Nat.le_refl _
      dV:=cM.refl _
      fR:=hK
      kd:=λb r h=>by cases h
      jq:=λb r h=>by cases h
      jS:=λb k h=>by cases h
      ke:=λb k h=>by cases h
      pro:=λl' kn L' n st e=>by
        rcases hsl x l (λT=>T=ic.seq x) TRS with aS | ⟨E,_⟩ | ⟨E,_⟩ | ⟨_,aS⟩
        · grind
        · unfold TRS ev at *;omega
        · grind
        · rw[aS]at e
          cases e
          exact⟨⟨I,rfl⟩,cq,Y,λr G=>⟨(hb r G).1,(hb r G).2,λk=>k.2 G⟩,λb ab=>(by rw[tW b]at ab;cases ab),lq.yM.2 d_⟩
      jr:=hW,ij:=fT }
  obtain⟨hs,tF⟩:=rQ x l gw;refine (h.iH _ _ w _ F _ rfl rfl rfl rfl rfl rfl G hs).mono λe w' ⟨v,τ,aB,κ',F',he,hτ,_,aW⟩=>?_;obtain⟨n,st,l',L',p2⟩:=p7 τ;obtain⟨⟨ahZ,MF⟩,_,gf,h3,aR,MG⟩:=aW.pro l' ic.aI L' n st p2;refine⟨v,n,st,F',gf,he,λfX=>?_,lq.yM.1 MG,aW.hE,λr cr=>?_,aW.cL,λr h1 h2=>aW.ef r ⟨h1,h2⟩,λr cr=>⟨?_,(h3 r cr).1,(h3 r cr).2.1⟩,aW.size,aW.dV⟩
  · grind
  · rcases aW.gN r cr with h | h
    · exact .inl h
    · by_cases aM:Y r
      · exact .inr (.inl aM)
      · exact .inr (.inr (Nat.le_of_not_lt λb4=>h ⟨b4,aM⟩))
  grind
theorem MH{P:Program}{U:dj}{k:FuncId}{c:IOC}(h:IoSpec P U k c)(hW:qy P U){cs:List af}{aI:af}{S:(fP (cs.map .bq)).ah->List aI.ah->Prop}(mk:(fP (cs.map .bq)).ah->Nat->(List aI.ah->Prop)->c.b7.ah)
    (az:c.j4=jU (fP (cs.map .bq))+1) (hK:c.j4<=ev) (tM:fP (cs.map .bq)≠.cz)
    (hsl:∀ x l L i,(∃ T,S x T)->(c.b7.st (mk x l L)).ax i=.undef\/(i<jU (fP (cs.map .bq))+1/\0<i/\∃ e y,(c.b7.st (mk x l L)).ax i=.dz e y/\ki (fP (cs.map .bq)) x (i - 1)=.val (.bq e) (some y))\/(i=0/\(c.b7.st (mk x l L)).ax i=.gM l)\/(i=TRS/\(c.b7.st (mk x l L)).ax i=.tr l aI L [] false))
    (iq:c.b7.bp=[]) (p7:∀ τ,∃ n st l L,(c.bC.st τ).ax TRS=.tr l aI L n st)
    (rQ:∀ x l,(∃ L,S x L)->(c.sh (mk x l (S x))).bY/\∀ τ,(c.sh (mk x l (S x))).bC τ->∀ l' L' p,(c.bC.st τ).ax TRS=.tr l' aI L' p false->S x p):wC P k ⟨cs,aI,S⟩:=by
  refine⟨h.enter,λF w args x bd fT dB ea l Uk Y hb ah0 ah1=>?_⟩;have cq:=T6 ah0;obtain⟨ik,GI⟩:=tt (H:=λ_=>⟨0,.ff⟩) (κ:=λ_=>⟨0,0,0,false⟩) (fP (cs.map .bq)) dB tM;have tW:∀ b,(c.b7.st (mk x l (S x))).ad b=⟨0,.ff⟩:=λb=>by
    show eu (gQ cJ c.b7.bp (eb cJ c.b7.bF (mk x l (S x))).2) b=_;generalize (eb cJ c.b7.bF (mk x l (S x))).2=z;revert z;rw[iq];intro z;rfl
  have bW:(Value.func (.yield l) #[] #[]::args).length=c.j4:=by grind
  have G:bc { P:=P,w0:=w,F0:=F,K0:=λr=>r<w.heap.size/\¬Y r,nt:=c.j4,r:=none,dfr:=[],h4:=λ_=>none,pr:=⟨l,aI,S x,Uk⟩,aK:=U } (c.b7.st (mk x l (S x)))
      { tmps:=(Value.func (.yield l) #[] #[]::args).toArray,defers:=[] } w (λ_=>⟨0,0,0,false⟩) F:=
    { dk := by omega
      dfr:=rfl
      bF:=λi=>by
        rcases hsl x l (S x) i ea with e | ⟨E,n_,te,y,e,ey⟩ | ⟨E,e⟩ | ⟨E,e⟩
        · rw[e];trivial
        · rw[e]
          have:=(tt (H:=(c.b7.st (mk x l (S x))).ad) (κ:=λ_=>⟨0,0,0,false⟩) (fP (cs.map .bq)) dB tM).2 (i - 1) (by omega)
          have e2:(Value.func (.yield l) #[] #[]::args).toArray.getD i undef=args.getD (i - 1) undef:=by
            obtain⟨j,rfl⟩:∃ j,i=j+1:=⟨i - 1,by omega⟩
            simp
          rw[e2]
          rw[ey]at this
          obtain⟨_,hv⟩:=(dy rfl).1 this
          simp only[bt]at hv
          rcases hv with⟨_,az⟩ | ⟨q,mD,a_,bf,B4,aO,aP⟩
          · cases az
          · cases B4
            exact⟨q,a_,(List.cons.inj bf).1,aO,aP⟩
        · rw[e]
          subst E
          rfl
        · rw[e];trivial
      bp:=λb=>by unfold cg;rw[tW b];trivial
      own:=λb ab=>by rw[tW b]at ab;cases ab
      inj:=λb aZ ab _ _=>by rw[tW b]at ab;cases ab
      cL:=bd
      gN:=λr G=>.inl G
      hE:=λr G=>G
      g_:=λr G=>G.1
      ef:=λ_ _=>rfl
      size:=Nat.le_refl _
      dV:=cM.refl _
      fR:=hK
      kd:=λb r h=>by cases h
      jq:=λb r h=>by cases h
      jS:=λb k h=>by cases h
      ke:=λb k h=>by cases h
      pro:=λl' kn L' n st e=>by
        rcases hsl x l (S x) TRS ea with aS | ⟨E,_⟩ | ⟨E,_⟩ | ⟨_,aS⟩
        · grind
        · grind
        · grind
        · rw[aS]at e
          cases e
          exact⟨⟨Uk,rfl⟩,cq,Y,λr G=>⟨(hb r G).1,(hb r G).2,λk=>k.2 G⟩,λb ab=>(by rw[tW b]at ab;cases ab),lq.yM.2 ah1⟩
      jr:=hW,ij:=fT }
  obtain⟨hs,tF⟩:=rQ x l ea;have eO:#[Value.func (.yield l) #[] #[]]++args.toArray=(Value.func (.yield l) #[] #[]::args).toArray:=by simp
  rw[eO];refine (h.iH _ _ w _ F _ rfl rfl rfl rfl rfl rfl G hs).mono λe w' ⟨v,τ,aB,κ',F',he,hτ,_,aW⟩=>?_;obtain⟨n,st,l',L',p2⟩:=p7 τ;obtain⟨⟨ahZ,MF⟩,_,gf,h3,aR,MG⟩:=aW.pro l' aI L' n st p2;refine⟨v,n,st,F',gf,he,λfX=>?_,lq.yM.1 MG,aW.hE,λr cr=>?_,aW.cL,λr h1 h2=>aW.ef r ⟨h1,h2⟩,λr cr=>⟨?_,(h3 r cr).1,(h3 r cr).2.1⟩,aW.size,⟨aW.dV.os,aW.dV.tape,aW.dV.output⟩⟩
  · grind
  · rcases aW.gN r cr with h | h
    · exact .inl h
    · by_cases aM:Y r
      · exact .inr (.inl aM)
      · exact .inr (.inr (Nat.le_of_not_lt λb4=>h ⟨b4,aM⟩))
  grind
end Go.Fer
namespace Go.Fer
open Go.RowKit Go.ChangeShapes Go.WideShapes
def af.hr:af->Bool
 | .bool | .int _ | .str | .cz=>true
 | .st t=>t.hr
 | .aw a b=>a.hr&&b.hr
 | .slice e=>e.hr
 | _=>false
def af.Ok:(t:af)->t.ah->Prop
 | .int k,x=>fz k x
 | .str,x=>x.length<2 ^ 63
 | .st t,x=>t.Ok x
 | .aw a b,x=>a.Ok x.1/\b.Ok x.2
 | .slice e,xs=>xs.length<2 ^ 63/\∀ y∈xs,e.Ok y
 | .array n e,xs=>xs.length=n/\∀ y∈xs,e.Ok y
 | _,_=>True
theorem zW{P:Program}{w:World}{F:Nat->Prop}:∀ (t:af) {cs:List Value} {x:t.ah},bt P t F w cs x->t.Ok x
 | .bool,_,_,_=>trivial
 | .int _,_,_,h=>h.2
 | .str,_,_,h=>h.2
 | .cz,_,_,_=>trivial
 | .st t,_,_,h=>by simp only[bt]at h;exact zW t h
 | .aw a b,_,_,h=>by
  simp only[bt]at h;obtain⟨c,d,_,h1,h2⟩:=h;exact⟨zW a h1,zW b h2⟩
 | .slice e,_,xs,h=>by
  simp only[bt]at h;obtain⟨a,cap,_,h1,h2,h3,aR⟩:=h;refine⟨by omega,λy aM=>?_⟩;obtain⟨i,E,rfl⟩:=List.mem_iff_getElem.1 aM;cases a with
  | none=>have:=h3 rfl;omega
  | some p=>
   obtain⟨a_,_,k⟩:=(aR p rfl (by omega)).2.2 i E;exact zW e k
 | .array n e,_,xs,h=>by
  simp only[bt]at h;obtain⟨eZ,_,h1,h2,h3⟩:=h;refine⟨h2,λy aM=>?_⟩;obtain⟨i,E,rfl⟩:=List.mem_iff_getElem.1 aM;exact zW e (h3 i E (by omega))
 | .bq _,_,_,_=>trivial
 | .map _ _,_,_,_=>trivial
 | .fn _ _,_,_,_=>trivial
 | .b8 _,_,_,_=>trivial
 | .dT,_,_,_=>trivial
section
variable {H:Type} {enc:TypeId×Value->H} {P:Program} {w:World}
theorem bQ.cells{t:af}{id:TypeId}(h:bQ P t id):P.cellsOf id=t.size:=by
 obtain⟨i,z,h1,h2,_⟩:=kh h.kg;simp[Program.cellsOf,h1,h2]
theorem Ul{a:Addr}{n:Nat}{a_:List Value}(h:w.cells? 0 a n=some a_)(az:0<n):a.spot=none/\a.block<w.heap.size/\a_.length=n/\∀ j (aC:j<a_.length),w.cell? ⟨a.block,a.off+j,none⟩=some a_[j]:=by
 have ab:=World.cells?_block h az;have nL:a.spot=none:=by
  unfold World.cells? at h;split at h
  ·obtain⟨m,rfl⟩:∃ m,n=m+1:=⟨n - 1,by omega⟩
   rw[List.range_succ_eq_map]at h;simp only[List.mapM_cons,Option.bind_eq_bind,Option.bind_eq_some_iff]at h;obtain⟨v,hv,_⟩:=h;cases hs:a.spot with
   | none=>rfl
   | some x=>simp[World.cell?,Addr.add,hs]at hv;split at hv<;>cases hv
  ·cases h
 unfold World.cells? at h;split at h
 ·have hlen:a_.length=n:=by
   have:∀ (l:List Nat) (r:List Value),l.mapM (λi=>w.cell? (a.add i))=some r->r.length=l.length:=by
    intro l;induction l with
    | nil=>intro r G;simp at G;subst G;rfl
    | cons x l aH=>
     intro r G;simp only[List.mapM_cons,Option.bind_eq_bind,Option.bind_eq_some_iff,Option.pure_def,Option.some.injEq]at G;obtain⟨v,_,pJ,aW,rfl⟩:=G;simp[aH pJ aW]
   simpa using this _ _ h
  refine⟨nL,ab,hlen,λj aC=>?_⟩;have:∀ (l:List Nat) (r:List Value),l.mapM (λi=>w.cell? (a.add i))=some r->∀ j (h1:j<l.length) (h2:j<r.length),w.cell? (a.add l[j])=some r[j]:=by
   intro l;induction l with
   | nil=>intro r _ j h1;simp at h1
   | cons x l aH=>
    intro r G j h1 h2;simp only[List.mapM_cons,Option.bind_eq_bind,Option.bind_eq_some_iff,Option.pure_def,Option.some.injEq]at G;obtain⟨v,hv,pJ,aW,rfl⟩:=G;cases j with
    | zero=>exact hv
    | succ j=>exact aH pJ aW j (by simpa using h1) (by simpa using h2)
  have h1:=this _ _ h j (by simp;omega) aC;rw[<-h1];have yZ:a.add ((List.range n)[j]'(by simp;omega))=⟨a.block,a.off+j,none⟩:=by
   cases a;simp only at nL;subst nL;simp[Addr.add]
  rw[yZ]
 ·cases h
def p9(w:World):Nat->Prop:=λr=>r<w.heap.size
def af.oq(n:Nat):(t:af)->t.ah->Prop
 | .st t,x=>t.oq n x
 | .aw a b,x=>a.oq n x.1/\b.oq n x.2
 | .slice e,xs=>xs.length<=n/\∀ y∈xs,e.oq n y
 | _,_=>True
structure Bo(b:DataW H->Nat):Prop where
 len:∀ e s,e.length<=b (.slice e s)
 Bp:∀ e s d,d∈e->b d<=b (.slice e s)
 QM:∀ l d,d∈l->b d<=b (.agg l)
variable {b:DataW H->Nat} {N:Nat}
theorem ah2(ab:Bo b)(t:af):(t.hr=true->∀ {id:TypeId} {b3:Nat} {cs:List Value} {x:DataW H×List MemPlace},bQ P t id->DataW.trod enc P w 0 (λ_=>true) true b3 id cs=some x->b x.1<=N->∃ y,bt P t (p9 w) w cs y/\t.oq N y)/\
  (t.hr=true->∀ {l:List Field} {off n:Nat} {cs:List Value},ch P t (.inr (l,off))=true->(∀ f∈l,∃ x,DataW.trod enc P w 0 (λ_=>true) true n f.type ((cs.drop f.offset).take (P.cellsOf f.type))=some x/\b x.1<=N)->∃ y,bt P t (p9 w) w ((cs.drop off).take t.size) y/\t.oq N y):=by
 induction t with
 | bool=>
  refine⟨λ_ {id b3 cs x} aG h _=>?_,λ_ {l off n cs} h=>by simp[ch]at h⟩;have hu:P.underlying id=some .bool:=by
   unfold bQ at aG;simp only[ch,Bool.and_eq_true]at aG;obtain⟨_,aG⟩:=aG;split at aG
   ·assumption
   ·cases aG
  obtain⟨b,rfl,_⟩:=DataW.trod_bool hu h;exact⟨_,rfl,trivial⟩
 | int k=>
  refine⟨λ_ {id b3 cs x} aG h _=>?_,λ_ {l off n cs} h=>by simp[ch]at h⟩;obtain⟨n,rfl,_,hw⟩:=DataW.trod_int aG.int h;simp only[Lit.wf,Bool.and_eq_true,decide_eq_true_eq]at hw;exact⟨n,⟨rfl,hw⟩,trivial⟩
 | str=>
  refine⟨λ_ {id b3 cs x} aG h _=>?_,λ_ {l off n cs} h=>by simp[ch]at h⟩;obtain⟨s,rfl,_,hw⟩:=DataW.trod_string aG.str h;refine⟨s.data.toList,⟨by simp,?_⟩,trivial⟩;have:s.data.toList.length=s.size:=by rw[Array.length_toList];rfl
  rw[this];have:maxLen<2 ^ 63:=by decide
  omega
 | cz=>exact⟨λ_ {id b3 cs x} aG h _=>by simp[bQ,ch]at aG,λ_ {l off n cs} h=>by simp[ch]at h⟩
 | st t aH=>
  refine⟨λai {id b3 cs x} aG h mN=>?_,λ_ {l off n cs} h=>by simp[ch]at h⟩;have ai:t.hr=true:=ai;have GX:P.cellsOf id=t.size:=aG.cells;obtain⟨eA,hu⟩:=aG.st;obtain⟨xs,n,_,rfl,hlen,R5,ar⟩:=DataW.trod_struct hu h;unfold bQ at aG;simp only[ch,Bool.and_eq_true]at aG;obtain⟨_,aG⟩:=aG;rw[hu]at aG;have i_:∀ f∈eA.toList,∃ x,DataW.trod enc P w 0 (λ_=>true) true n f.type ((cs.drop f.offset).take (P.cellsOf f.type))=some x/\b x.1<=N:=by
   intro f ah3;obtain⟨i,E,rfl⟩:=List.mem_iff_getElem.1 ah3;have dp:i<eA.size:=by simpa using E
   refine⟨xs[i]'(by omega),?_,Nat.le_trans (ab.QM _ _ (List.mem_map_of_mem (List.getElem_mem _))) mN⟩;rw[ar i _ (by simp[dp])];exact List.getElem?_eq_getElem _
  simp only at aG;split at aG
  ·have aG:=of_decide_eq_true aG;subst aG;have:cs=[]:=by
    have:=hlen.trans GX;simpa [af.size]using this
   subst this;exact⟨(),rfl,trivial⟩
  ·rename_i f fC;simp only[Bool.and_eq_true,beq_iff_eq,bne_iff_ne]at aG;obtain⟨⟨⟨h0,h1⟩,_⟩,_⟩:=aG;obtain⟨x,hx,ah4⟩:=i_ f (by rw[fC];simp);have hc:P.cellsOf f.type=t.size:=bQ.cells h1;rw[h0,hc,List.drop_zero,List.take_of_length_le (by omega)]at hx;exact aH.1 ai h1 hx ah4
  ·obtain⟨y,aM⟩:=aH.2 ai aG i_;rw[List.drop_zero,List.take_of_length_le (by omega)]at aM;exact⟨y,aM⟩
 | aw a b fe ej=>
  refine⟨λ_ {id b3 cs x} aG h _=>by simp[bQ,ch]at aG,λai {l off n cs} aG h=>?_⟩;simp only[af.hr,Bool.and_eq_true]at ai;have join:∀ {y:a.ah} {z:b.ah},bt P a (p9 w) w ((cs.drop off).take a.size) y/\a.oq N y->bt P b (p9 w) w ((cs.drop (off+a.size)).take b.size) z/\b.oq N z->∃ y,bt P (.aw a b) (p9 w) w ((cs.drop off).take (af.aw a b).size) y/\(af.aw a b).oq N y:=by
   intro y z aM bb;refine⟨(y,z),⟨_,_,?_,aM.1,bb.1⟩,aM.2,bb.2⟩;simp only[af.size];rw[List.take_add,List.drop_drop]
  match l,aG with
  | f::g::[],aG=>
   simp only[ch,Bool.and_eq_true,beq_iff_eq,bne_iff_ne]at aG;obtain⟨⟨⟨⟨h0,h1⟩,_⟩,_⟩,⟨⟨⟨gS,aO⟩,_⟩,_⟩⟩:=aG;obtain⟨x,hx,az⟩:=h f (by simp);obtain⟨dn,nw,Cd⟩:=h g (by simp);rw[h0,bQ.cells h1]at hx;rw[gS,bQ.cells aO]at nw;obtain⟨y,aM⟩:=fe.1 ai.1 h1 hx az;obtain⟨z,bb⟩:=ej.1 ai.2 aO nw Cd;exact join aM bb
  | f::g::e::eA,aG=>
   simp only[ch,Bool.and_eq_true,beq_iff_eq,bne_iff_ne]at aG;obtain⟨⟨⟨⟨h0,h1⟩,_⟩,_⟩,aO⟩:=aG;obtain⟨x,hx,az⟩:=h f (by simp);rw[h0,bQ.cells h1]at hx;obtain⟨y,aM⟩:=fe.1 ai.1 h1 hx az;obtain⟨z,bb⟩:=ej.2 ai.2 aO λim q1=>h im (List.mem_cons_of_mem _ q1);exact join aM bb
 | slice e aH=>
  refine⟨λai {id b3 cs x} aG h mN=>?_,λ_ {l off n cs} h=>by simp[ch]at h⟩;have ai:e.hr=true:=ai;obtain⟨i,hu,he,bW⟩:=aG.sl;have GX:=he.cells;rcases DataW.trod_slice hu h with⟨rfl,_⟩ | ⟨a,len,cap,elems,b5,n,rfl,rfl,hx,_,Um,wU,j2,eB,Un,_⟩
  ·exact⟨[],⟨none,0,rfl,Nat.le_refl _,by decide,λ_=>rfl,λp hp=>by cases hp⟩,Nat.zero_le _,λy aM=>by cases aM⟩
  ·rw[hx]at mN;have kX:0<P.cellsOf i:=by rw[GX];omega
   have key:∀ j,j<len->∃ a_ y,w.cells? 0 (a.add (j*P.cellsOf i)) (P.cellsOf i)=some a_/\bt P e (p9 w) w a_ y/\e.oq N y:=by
    intro j aC;have:=eB j aC;rw[List.getElem?_eq_getElem (by omega)]at this;obtain⟨a_,h1,h2⟩:=Option.bind_eq_some_iff.1 this;obtain⟨y,aM⟩:=aH.1 ai he h2 (Nat.le_trans (ab.Bp _ _ _ (List.mem_map_of_mem (List.getElem_mem _))) mN);exact⟨a_,y,h1,aM⟩
   have ah5:0<cap->a.spot=none/\a.block<w.heap.size:=by
    intro hc;have:∃ a_,w.cells? 0 (a.add (0*P.cellsOf i)) (P.cellsOf i)=some a_:=by
     by_cases J7:0<len
     ·obtain⟨a_,_,h1,_⟩:=key 0 J7;exact⟨a_,h1⟩
     ·obtain⟨m1,m2⟩:=Un rfl;have bb:len=0:=by omega
      subst bb;have:=m2 0 (by omega);rw[List.getElem?_eq_getElem (by omega)]at this;obtain⟨a_,h1,_⟩:=Option.bind_eq_some_iff.1 this;exact⟨a_,h1⟩
    obtain⟨a_,h1⟩:=this;have e1:a.add (0*P.cellsOf i)=a:=by unfold Addr.add;simp
    rw[e1]at h1;obtain⟨aO,aP,_⟩:=Ul h1 kX;exact⟨aO,aP⟩
   have:∃ ys:List e.ah,ys.length=len/\∀ j (aC:j<ys.length),∃ a_,w.cells? 0 (a.add (j*P.cellsOf i)) (P.cellsOf i)=some a_/\bt P e (p9 w) w a_ ys[j]/\e.oq N ys[j]:=by
    clear eB j2 h Um Un mN;induction len with
    | zero=>exact⟨[],rfl,λj aC=>by simp at aC⟩
    | succ m ah6=>
     obtain⟨ys,jX,cA⟩:=ah6 λj aC=>key j (by omega);obtain⟨a_,y,h1,h2⟩:=key m (by omega);refine⟨ys++[y],by simp[jX],λj aC=>?_⟩;by_cases wX:j<ys.length
     ·rw[List.getElem_append_left wX];exact cA j wX
     ·have:j=m:=by simp at aC;omega
      subst this;refine⟨a_,h1,?_⟩;rw[List.getElem_append_right (by omega)];simpa [jX]using h2
   have ah7:len<=N:=by have:=ab.len (elems.map (·.1)) (b5.map (·.1));rw[List.length_map,j2]at this;exact Nat.le_trans this mN
   obtain⟨ys,rfl,jX⟩:=this;have za:maxLen<2 ^ 63:=by decide
   refine⟨ys,⟨some a,cap,rfl,Um,by omega,(by simp),λp hp uQ=>?_⟩,ah7,λy aM=>by
    obtain⟨j,aC,rfl⟩:=List.mem_iff_getElem.1 aM;obtain⟨a_,_,h1,h2⟩:=jX j aC;exact h2⟩
   cases hp;obtain⟨aO,aP⟩:=ah5 uQ;refine⟨aP,aO,λj aC=>?_⟩;obtain⟨a_,d1,d2,_⟩:=jX j aC;obtain⟨m1,m2,m3,m4⟩:=Ul d1 kX;refine⟨a_,⟨aP,rfl,λq bf=>?_⟩,d2⟩;have:=m4 q bf;have e1:a.add (j*P.cellsOf i)=⟨a.block,a.off+j*e.size,none⟩:=by
    rw[GX];cases a;simp only at aO;subst aO;unfold Addr.add;split
    ·rename_i h0;simp[h0]
    ·rfl
   rw[e1]at this;exact this
 | array n e aH=>exact⟨λh=>by simp[af.hr]at h,λh=>by simp[af.hr]at h⟩
 | bq e aH=>exact⟨λh=>by simp[af.hr]at h,λh=>by simp[af.hr]at h⟩
 | map k v wz wA=>exact⟨λh=>by simp[af.hr]at h,λh=>by simp[af.hr]at h⟩
 | fn a b fe ej=>exact⟨λh=>by simp[af.hr]at h,λh=>by simp[af.hr]at h⟩
 | b8 a aH=>exact⟨λh=>by simp[af.hr]at h,λh=>by simp[af.hr]at h⟩
 | dT=>exact⟨λh=>by simp[af.hr]at h,λh=>by simp[af.hr]at h⟩
theorem Uo(ab:Bo b){t:af}(ai:t.hr=true){id:TypeId}(aG:bQ P t id){base:Nat}{v:Value}{d:DataW H}{ps:List MemPlace}(cq:Value.okWide P w .any base id v)
  (h:DataW.Trod enc P w 0 (λ_=>true) true id v d ps) (mN:b d<=N):∃ y,dU P t (p9 w) w v y/\t.oq N y:=by
 obtain⟨n,az⟩:=h;obtain⟨y,aM,ar⟩:=(ah2 ab t).1 ai aG az mN;refine⟨y,⟨?_,aM⟩,ar⟩;cases t with
 | bool=>
  simp only[bt]at aM;have hu:P.underlying id=some .bool:=by
   unfold bQ at aG;simp only[ch,Bool.and_eq_true]at aG;obtain⟨_,aG⟩:=aG;split at aG
   ·assumption
   ·cases aG
  simp only[Value.okWide,hu,Cell.okWide,Cell.ok]at cq;cases v<;>first | rfl | exact cq.elim
 | int k=>
  simp only[Value.okWide,aG.int,Cell.okWide,Cell.ok]at cq;cases v<;>first | rfl | exact cq.elim
 | str=>
  simp only[Value.okWide,aG.str,Cell.okWide,Cell.ok]at cq;cases v<;>first | rfl | exact cq.elim
 | cz=>simp[bQ,ch]at aG
 | st t=>
  obtain⟨eA,hu⟩:=aG.st;simp only[Value.okWide,hu]at cq;obtain⟨cs,rfl,hc,_⟩:=cq;exact⟨cs,rfl,hc.trans aG.cells⟩
 | aw a b=>simp[bQ,ch]at aG
 | slice e=>
  obtain⟨i,hu,_⟩:=aG.sl;simp only[Value.okWide,hu,Cell.okWide,Cell.ok]at cq;cases v<;>first | rfl | exact cq.elim
 | array n e=>simp[af.hr]at ai
 | bq e=>simp[af.hr]at ai
 | map k v=>simp[af.hr]at ai
 | fn a b=>simp[af.hr]at ai
 | b8 a=>simp[af.hr]at ai
 | dT=>simp[af.hr]at ai
def xD(P:Program):List TypeId->af->Bool
 | [id],t=>ch P t (.inl id)&&t.hr
 | id::ids,.aw a b=>ch P a (.inl id)&&a.hr&&xD P ids b
 | _,_=>false
theorem Up(ab:Bo b):∀ (ids:List TypeId) (ts:af) {base:Nat} {aB:List Value} {a_:List (DataW H)} {ps:List MemPlace},xD P ids ts=true->DataW.TrodAll enc P w 0 (λ_=>true) true ids aB a_ ps->
  (∀ (j:Nat) t v,ids[j]?=some t->aB[j]?=some v->Value.okWide P w .any base t v)->(∀ d∈a_,b d<=N)->∃ x,e5 P ts (p9 w) w aB x/\ts.oq N x
 | [],ts,_,aB,a_,ps,h,_,_,_=>by simp[xD]at h
 | [id],t,_,aB,a_,ps,h,h8,cq,mN=>by
  simp only[xD,Bool.and_eq_true]at h;obtain⟨v0,MI,d0,MJ,Fm,BT,rfl,rfl,rfl,h0,sg⟩:=trodAll_cons h8;obtain⟨rfl,rfl,rfl⟩:=trodAll_nil sg;obtain⟨y,⟨xq,r9⟩,ar⟩:=Uo ab h.2 h.1 (cq 0 id v0 rfl rfl) h0 (mN _ (List.mem_cons_self ..));refine⟨y,⟨?_,by simpa [dL]using r9⟩,ar⟩;cases t<;>first | exact⟨v0,rfl,xq⟩ | (simp[ch]at h;done)
 | id::ah8::ids,ts,base,aB,a_,ps,h,h8,cq,mN=>by
  cases ts with
  | aw a b=>
   simp only[xD,Bool.and_eq_true]at h;obtain⟨v0,MI,d0,MJ,Fm,BT,rfl,rfl,rfl,h0,sg⟩:=trodAll_cons h8;obtain⟨y,⟨xq,r9⟩,ar⟩:=Uo ab h.1.2 h.1.1 (cq 0 id v0 rfl rfl) h0 (mN _ (List.mem_cons_self ..));obtain⟨z,⟨ah9,ah_⟩,aA⟩:=Up ab (ah8::ids) b h.2 sg (λj t v h1 h2=>cq (j+1) t v (by simpa using h1) (by simpa using h2)) λd au=>mN d (List.mem_cons_of_mem _ au);exact⟨(y,z),⟨⟨xq,ah9⟩,_,_,Jy _ _,r9,ah_⟩,ar,aA⟩
  | _=>simp[xD]at h
theorem Uq(ai:laidOutB P=true){w':World}{Ur:Nat->Bool}:∀ (ids:List TypeId) {aB:List Value} {a_:List (DataW H)} {ps:List MemPlace},(ids.all λt=>P.readableRec t&&decide (t<P.types.size))=true->
  DataW.TrodAll enc P w 0 (λ_=>true) true ids aB a_ ps->(∀ p∈ps,w.sameAt w' p)->(∀ p∈ps,Ur p.block=true)->DataW.TrodAll enc P w' 0 Ur true ids aB a_ ps
 | [],_,_,_,_,h,_,_=>by
  obtain⟨rfl,rfl,rfl⟩:=trodAll_nil h;rfl
 | id::ids,aB,a_,ps,G,h,h1,h2=>by
  simp only[List.all_cons,Bool.and_eq_true,decide_eq_true_eq]at G;obtain⟨v0,MI,d0,MJ,Fm,BT,rfl,rfl,rfl,h0,sg⟩:=trodAll_cons h;exact trodAll_cons_mk (Go.WideElems.Trod_stays ai G.1.1 G.1.2 h0 (λp hp=>h1 p (List.mem_append_left _ hp)) (λp hp=>h2 p (List.mem_append_left _ hp)))
   (Uq ai ids G.2 sg (λp hp=>h1 p (List.mem_append_right _ hp)) (λp hp=>h2 p (List.mem_append_right _ hp)))
theorem acb(ab:Bo b){k:FuncId}{fn:Func}{ts:af}{sh:ts.ah->M (af.bool).ah}{spec:ChangeSpec}{rt:TypeId}(ah':laidOutB P=true)(wY:hN P k ts .bool sh)(aia:∀ x,ts.Ok x->ts.oq N x->M.b_ (sh x) λy=>y=true)
  (dB:xD P fn.params.toList ts=true) (aib:(fn.params.toList.all λt=>P.readableRec t&&decide (t<P.types.size))=true) (fU:fn.resultTypes=#[rt]) (aic:P.underlying rt=some .bool)
  (hv:spec.vars=[]) (s5:∀ (H:Type) (a_:List (DataW H)),a_.length=fn.params.size->spec.fn H a_={ results:=[.lit (.bool true)],args:=a_ })
  {base:Nat} {args:Array Value} {a_ gs:List (DataW H)} {before:List MemPlace} (xE:∀ (j:Nat) t v,fn.params[j]?=some t->args[j]?=some v->Value.okWide P w .any base t v)
  (wu:DataW.Whole enc P fn.params.toList spec.vars false w args.toList a_ gs before) (mN:∀ d∈a_,b d<=N) (fT:np P (p9 w) w:=by exact λb ab=>absurd (show b<0 from ab) (Nat.not_lt_zero b)) :
  Calls P k args w λe p6=>∃ v,e=.returned v/\spec.post enc P fn false true false false w args v p6:=by
 have b4:=wu.lt;have Us:=wu;obtain⟨p,q,h8,MK,rfl,tl,_⟩:=wu;have bf:gs=[]/\q=[]:=by
  rw[hv]at MK;cases gs with
  | nil=>exact⟨rfl,MK⟩
  | cons _ _=>exact MK.elim
 obtain⟨rfl,rfl⟩:=bf;simp only[List.append_nil]at Us b4 tl;obtain⟨x,hx,ar⟩:=Up ab fn.params.toList ts dB h8 (λj t v h1 h2=>xE j t v (by simpa using h1) (by simpa using h2)) mN;obtain⟨hs,ag⟩:=aia x (zW ts hx.2) ar;have u1:a_.length=fn.params.size:=by
  have:∀ (ids:List TypeId) {aB:List Value} {a_:List (DataW H)} {ps:List MemPlace},DataW.TrodAll enc P w 0 (λ_=>true) true ids aB a_ ps->a_.length=ids.length:=by
   intro ids;induction ids with
   | nil=>intro aB a_ ps h;obtain⟨rfl,rfl,rfl⟩:=trodAll_nil h;rfl
   | cons id ids aH=>intro aB a_ ps h;obtain⟨v0,MI,d0,MJ,Fm,BT,rfl,rfl,rfl,h0,sg⟩:=trodAll_cons h;simp[aH sg]
  simpa using this _ h8
 have hc:=wY.iH (p9 w) w args.toList x (λ_ h=>h) fT hx hs;refine hc.mono λe p6 ⟨v,y,he,aM,G,ab⟩=>?_;have aM:=ag y aM;subst aM;obtain⟨aB,bR,cp⟩:=G;have aid:v=.bool true:=by
  simp only[yK]at bR;subst bR;obtain⟨⟨u,hu,nm⟩,nx⟩:=cp;simp only[List.cons.injEq,and_true]at hu;subst hu;simp only[kx]at nm;simp only[Jy,nm,ach,bt]at nx;simpa using nx
 subst aid;have qO:∀ p'∈p,w.sameAt p6 p':=by
  intro p' hp;have h1:=ab.block _ (b4 p' hp);cases p' with
  | cell b off=>simp only[World.sameAt,World.cell?];simp only[MemPlace.block]at h1;rw[h1]
  | map b=>exact h1
 refine⟨_,he,a_,[],p,[],p,[],Us,?_,?_,?_,?_,λh=>by cases h⟩
 ·rw[List.append_nil,s5 H a_ u1,fU];exact trodAll_cons_mk (shut_bool aic true) trodAll_mk0
 ·rw[List.append_nil,s5 H a_ u1];exact Uq ah' _ aib h8 qO λp' hp=>by simpa using b4 p' hp
 ·rw[hv,List.append_nil,s5 H a_ u1];rfl
 ·refine⟨ab.os,ab.output,λi E=>?_⟩;have h1:=ab.block i E;rw[h1];exact (World.keptBut_refl w λGY=>GY∈p/\(GY∈[]\/GY∈p\/GY∈[])).2.2 i E
end
end Go.Fer
namespace Go.Fer.nZ
open Go.Proofs
abbrev t2:af:=.int .i64
abbrev t3:af:=.int .i64
abbrev t4:af:=.bool
abbrev t5:af:=.int .u8
abbrev aie:af:=.int .u8
abbrev aif:af:=.st (.aw t2 (.aw t3 (.aw t4 aie)))
abbrev t9:af:=.str
abbrev aih:af:=.str
abbrev aii:af:=.str
abbrev t21:af:=.int .i32
abbrev xF:af:=.st (.aw t3 t3)
abbrev zX:af:=.st (.aw t3 (.aw t3 xF))
abbrev t22:af:=.slice zX
abbrev t27:af:=.slice t3
abbrev zY:af:=.st (.aw t3 (.aw t27 xF))
abbrev GZ:af:=.slice zY
abbrev xG:af:=.st GZ
abbrev Di:af:=.slice xG
abbrev uM:af:=.st (.aw t3 (.aw t3 (.aw t3 t3)))
abbrev G0:af:=.slice uM
abbrev tX:af:=.st (.aw t22 (.aw Di (.aw t3 G0)))
abbrev xH:af:=.st (.aw t3 (.aw t3 (.aw t3 (.aw t3 t27))))
abbrev t28:af:=.slice xH
abbrev vo:af:=.st (.aw t27 (.aw xF (.aw t3 (.aw t3 t3))))
abbrev G1:af:=.slice vo
abbrev q9:af:=.st (.aw t3 (.aw t3 t3))
abbrev zZ:af:=.slice q9
abbrev t32:af:=.st (.aw tX (.aw t27 (.aw t28 (.aw G1 (.aw zZ t3)))))
abbrev p_:af:=.slice xF
abbrev iQ:af:=.st (.aw t3 (.aw t3 (.aw t3 (.aw t3 (.aw t3 t3)))))
abbrev t34:af:=.slice iQ
abbrev ML:af:=.st (.aw t3 (.aw t3 (.aw t3 (.aw t3 (.aw t3 (.aw t3 t3))))))
abbrev s4:af:=.st (.aw p_ (.aw t34 (.aw t27 (.aw p_ ML))))
abbrev wv:af:=.st (.aw t32 s4)
abbrev aij:af:=.int .i64
abbrev ER:af:=.slice t9
abbrev aik:af:=.st (.aw t3 (.aw t3 (.aw t3 t3)))
abbrev ail:af:=.st (.aw t3 (.aw t3 (.aw t3 (.aw t3 (.aw t3 (.aw t3 (.aw t3 t3)))))))
abbrev qa:af:=.st wv
abbrev t105:af:=.bq qa
abbrev Ut:af:=.dT
abbrev MM:af:=.st (.aw t3 (.aw t4 Ut))
abbrev MN:af:=.map t9 MM
abbrev Dj:af:=.slice t27
abbrev xI:af:=.st (.aw tX Dj)
abbrev Uu:af:=.bq xI
abbrev MO:af:=.fn t3 t3
abbrev qb:af:=.st (.aw iQ t3)
abbrev MP:af:=.slice qb
abbrev MQ:af:=.array 10 MP
abbrev Dk:af:=.st (.aw t27 MQ)
abbrev pa:af:=.bq Dk
abbrev MR:af:=.slice pa
abbrev q_:af:=.st (.aw s4 (.aw t34 MR))
abbrev vp:af:=.bq q_
abbrev Uv:af:=.fn t3 t4
abbrev aim:af:=.fn vp t4
abbrev aio:af:=.fn (.aw iQ t3) t4
abbrev t138:af:=.b8 (.aw iQ t3)
abbrev Uw:af:=.fn pa (.aw t3 t4)
abbrev G2:af:=.map t3 t3
abbrev MS:af:=.b8 t3
abbrev aip:af:=.b8 t3
abbrev Ux:af:=.st (.aw t3 t3)
abbrev Uy:af:=.slice Ux
abbrev Uz:af:=.st (.aw t3 (.aw t3 t3))
abbrev UA:af:=.map Uz t3
abbrev t222:af:=.st (.aw t32 (.aw Uy UA))
abbrev ot:af:=.bq t222
abbrev aiq:af:=.fn t27 t4
abbrev t164:af:=.b8 t27
abbrev UB:af:=.st (.aw t3 (.aw t3 t3))
abbrev air:af:=.slice UB
abbrev t171:af:=.slice t5
abbrev UC:af:=.fn vo t4
abbrev UD:af:=.fn uM t4
abbrev MT:af:=.fn iQ t4
abbrev t228:af:=.int .u64
abbrev ais:af:=.slice t3
abbrev ait:af:=.bq tX
abbrev aiu:af:=.bq xG
abbrev aiv:af:=.array 4 t9
abbrev UE:af:=.st (.aw t3 (.aw t3 t3))
abbrev aiw:af:=.map UE t3
abbrev G3:af:=.map t3 iQ
abbrev aix:af:=.int .u32
abbrev UF:af:=.int .u64
abbrev UG:af:=.fn xH t4
abbrev UH:af:=.fn q9 t4
abbrev UI:af:=.fn zY t4
abbrev UJ:af:=.slice t34
abbrev UK:af:=.fn zX t4
abbrev UL:af:=.fn xG t4
abbrev Dl:af:=.fn (.aw qb qb) t3
abbrev aiy:af:=.int .i64
abbrev aiz:af:=.slice Dj
abbrev aiA:af:=.int .i64
abbrev UM:af:=.int .u64
abbrev aiB:af:=.bq t3
abbrev UN:af:=.st (.aw iQ t3)
abbrev aiC:af:=.slice UN
abbrev UO:af:=.st (.aw t3 t27)
abbrev aiD:af:=.slice UO
abbrev aiE:af:=.bq t5
abbrev aiF:af:=.array 24 t5
abbrev aiG:af:=.bq UM
abbrev aiH:af:=.slice zZ
abbrev aiI:af:=.array 256 t5
abbrev UP:af:=.st (.aw t5 t5)
abbrev aiJ:af:=.array 16 UP
abbrev UQ:af:=.st t9
abbrev aiK:af:=.bq UQ
abbrev aiL:af:=.array 20 UF
abbrev aiM:af:=.array 65 t5
abbrev aiN:af:=.array 32 t5
abbrev aiO:af:=.array 64 t5
abbrev aiP:af:=.int .u8
def vq:List (Nat×af):=[(2,t2),(3,t3),(4,t4),(5,t5),(8,aif),(9,t9),(10,aih),(11,aii),(21,t21),(22,t22),(23,Di),(24,G0),(26,tX),(27,t27),(28,t28),(29,G1),(30,zZ),(32,t32),(33,p_),(34,t34),(36,ML),(38,s4),(40,wv),(42,uM),(44,aij),(48,ER),(58,xF),(63,aik),(74,ail),(87,vo),(91,q9),(93,xH),(105,t105),(107,MN),(111,qa),(115,Uu),(121,Dj),(123,xI),(125,iQ),(128,MO),(130,vp),(133,Uv),(134,aim),(137,pa),(138,t138),(140,Uw),(141,MP),(142,MQ),(144,qb),(148,G2),(149,MR),(151,q_),(153,MS),(154,aip),(157,ot),(162,aiq),(164,t164),(165,air),(171,t171),(177,UC),(188,Ut),(190,MM),(196,zX),(197,GZ),(199,xG),(201,zY),(203,UD),(209,MT),(215,aio),(217,Dk),(219,UA),(220,Uy),(222,t222),(224,Uz),(227,Ux),(228,t228),(235,UB),(237,ais),(249,ait),(253,aiu),(261,aiv),(269,aiw),(271,UE),(273,G3),(282,aix),(285,UF),(289,UG),(290,UH),(297,UI),(298,UJ),(304,UK),(306,UL),(311,Dl),(313,aiy),(336,aiz),(351,aiA),(359,UM),(363,aiB),(368,aiC),(372,UN),(374,aiD),(380,aiE),(386,aiF),(398,aiG),(402,UO),(403,aiH),(408,aiI),(410,UP),(411,aiJ),(414,aiK),(416,UQ),(418,aiL),(419,aiM),(423,aiN),(424,aiO),(432,aiP)]
theorem nM:dx Tryz.prog (q8 vq):=ahY (by kernel_rfl)
theorem G4:Tryz.prog.follows .mixedOrders=true:=by kernel_rfl
def xJ(_:Nat):Option aJ:=none
theorem G5:ja Tryz.prog xJ:=λk c h=>by cases h
def noU:dj:={ s9:=λ_=>none,s_:=λ_=>none }
theorem me:qy Tryz.prog noU where
 s9:=λk v h=>by cases h
 s_:=λk v h=>by cases h
end Go.Fer.nZ
namespace Go.Fer
open Go.RowKit
def SC.ow(c:SC):aJ:=⟨c.ts,.aw c.tr .cz,λx=>(c.sh x).bY,λx=>((c.sh x).val c.tr.cO,())⟩
end Go.Fer
namespace Go.Fer
theorem M.aiQ{aj:Type}{p:Prop}{m n:M aj}(h:n.bY->p)(k:M.le m n):M.le (M.ae p m) n:=λhs=>⟨⟨h hs,(k hs).1⟩,(k hs).2⟩
theorem ra{aj:Type}{o:Option aj}{x:aj}(h:o=some x):o.isSome=true:=by rw[h];rfl
def MU(ts:af)(x:ts.ah)(n:Nat):Nat->Prop
 | 0=>True
 | k+1=>MU ts x n k/\Dd (ki ts x (n+k))
theorem UR{ts:af}{x:ts.ah}{n:Nat}:∀ {k:Nat},MU ts x n k->∀ i,i<k->Dd (ki ts x (n+i))
 | 0,_,i,h=>by omega
 | k+1,hc,i,h=>by
  by_cases e:i=k
  ·rw[e];exact hc.2
  ·exact UR hc.1 i (by omega)
theorem US(ts:af)(x:ts.ah):∀ (l:List Nat) (i:Nat),e7 (l.map λi=>(i,ki ts x i)) i=if i∈l then ki ts x i else .undef
 | [],i=>by simp[e7]
 | j::l,i=>by
  simp only[List.map_cons,e7];by_cases e:i=j
  ·subst e;simp
  ·rw[if_neg e,US ts x l i];simp[e]
theorem si{ts:af}{x:ts.ah}{n:Nat}(h:MU ts x n (sf ts - n)):De n (o_ ts x):=λi E=>by
 show Dd (e7 (zS ts x (sf ts)) i);unfold zS;rw[US];split
 ·rename_i an;rw[List.mem_range]at an;have az:¬i<n:=λh=>E (.inl h);have:=UR h (i - n) (by omega);rwa [show n+(i - n)=i by omega]at this
 ·trivial
end Go.Fer
namespace Go.Fer
open M (aa)
theorem bn{n:Int}(h1:-9223372036854775808<=n)(h2:n<9223372036854775808):IntKind.i64.wrap n=n:=by
 show (if (true&&decide (n % 2 ^ 64>=(2 ^ (64 - 1):Int)))=true then n % 2 ^ 64 - 2 ^ 64 else n % 2 ^ 64)=n;grind
theorem b2(a b:Int):Add.add a b=a+b:=rfl
theorem hX(a b:Nat):Add.add a b=a+b:=rfl
theorem MV{aj:Type}(a b:List aj):Append.append a b=a++b:=rfl
theorem bG(n:Nat):Int.ofNat n=(n:Int):=rfl
theorem qc{x c d:Bool}:(x||!(if (!x)=true then c else d))=(x||!c):=by grind
theorem UT{x c d:Bool}:(x||(if (!x)=true then c else d))=(x||c):=by grind
theorem vr{x c d:Bool}:(x&&(if x=true then c else d))=(x&&c):=by grind
namespace M
variable {aj β gb A aF:Type}
theorem bg{m:M aj}{p:Prop}{v:aj}(h:p->m=pure v):le m (dv p v):=λhp=>by
 rw[h hp];exact⟨trivial,λ_ aM=>aM⟩
theorem sj{m:M aj}{p:Prop}{v:aj}(h:p->b_ m λy=>y=v):le m (dv p v):=λhp=>h hp
theorem fY{p:Prop}{v d:aj}:(dv p v).val d=v:=by
 unfold val;have h:∃ x,(dv p v).bC x:=⟨v,rfl⟩
 rw[dif_pos h];exact h.choose_spec
theorem fi{v d:aj}:(pure v).val d=v:=fY (p:=True)
theorem mf{p:Prop}{v:aj}:(dv p v).bY=p:=rfl
theorem vs{p:Prop}{v:aj}:(dv p v).Cn:=λ_ _ h k=>h.trans k.symm
theorem iR{g:Bool}{p:Prop}{v d:aj}:b1 g (dv p v) d=dv (g=true->p) (if g=true then v else d):=by
 cases g
 ·exact (bE (by simp) _).symm
 ·simp[b1]
theorem j6{g:Bool}{v d:aj}:b1 g (pure v) d=pure (if g=true then v else d):=by cases g<;>rfl
theorem bK{f:A->M β}{x:A}:aa.bm f (.next x:aa A β)=f x:=rfl
theorem pb{f:A->M β}{r:β}:aa.bm f (.done r:aa A β)=pure r:=rfl
end M
def eE{aj β aF:Type}(f:aj->β->aa β aF)(fin:β->aF):List aj->β->aF
 | [],b=>fin b
 | x::l,b=>match f x b with
  | .next aZ=>eE f fin l aZ
  | .done r=>r
def aa.gT{A β aF:Type}(g:β->A):aa β aF->aa A aF
 | .next b=>.next (g b)
 | .done r=>.done r
theorem M.fZ{aj β A aF:Type}{body:A->M (aa A aF)}{s0:A}(l:List aj)(mk:Nat->β->A)(f:aj->β->aa β aF)(fin:β->aF)(I:Nat->β->Prop)(b:β)(mM:s0=mk 0 b)(h0:I 0 b)
  (hs:∀ i (h:i<l.length) b,I i b->body (mk i b)=M.pure (aa.gT (mk (i+1)) (f l[i] b))/\∀ aZ,f l[i] b=.next aZ->I (i+1) aZ)
  (ar:∀ b,I l.length b->body (mk l.length b)=M.pure (.done (fin b))):M.loop body s0=M.pure (eE f fin l b):=by
 subst mM;have key:∀ (k:Nat) (r:List aj) (b:β),k<=l.length->r=l.drop k->I k b->M.loop body (mk k b)=M.pure (eE f fin r b):=by
  intro k r;induction r generalizing k with
  | nil=>
   intro b ao G d_;have:k=l.length:=by have:=congrArg List.length G;grind
   subst this;exact M.rF (ar b d_)
  | cons x r aH=>
   intro b ao G d_;have b4:k<l.length:=by
    grind
   rw[List.drop_eq_getElem_cons b4]at G;injection G with hx G
   obtain⟨h1,h2⟩:=hs k b4 b d_;rw[<-hx]at h1 h2;simp only[eE];cases q1:f x b with
   | next aZ=>
    rw[q1]at h1;rw[M.yJ h1];grind
   | done pJ=>
    rw[q1]at h1;exact M.rF h1
 grind
theorem M.dh{aj β A aF:Type}{body:A->M (aa A aF)}{s0:A}(l:List aj)(mk:Nat->β->A)(f:aj->β->aa β aF)(fin:β->aF)(b:β)(mM:s0=mk 0 b)
  (hs:∀ i (h:i<l.length) b,body (mk i b)=M.pure (aa.gT (mk (i+1)) (f l[i] b)))
  (ar:∀ b,body (mk l.length b)=M.pure (.done (fin b))):M.loop body s0=M.pure (eE f fin l b):=
 M.fZ l mk f fin (λ_ _=>True) b mM trivial (λi h b _=>⟨hs i h b,λ_ _=>trivial⟩) λb _=>ar b
section
variable {aj β aF:Type}
theorem qd{p:aj->Bool}{r:aF}{fin:β->aF}:∀ (l:List aj) (b:β),eE (λx b=>if p x=true then .done r else .next b) fin l b=if l.any p=true then r else fin b
 | [],b=>by rfl
 | x::l,b=>by
  simp only[eE,List.any_cons,Bool.or_eq_true];by_cases h:p x=true
  ·simp[h]
  ·have h:p x=false:=by grind
   simp only[h,Bool.false_eq_true,if_false,false_or];exact qd l b
theorem G6{p:aj->Bool}{r:aF}{fin:β->aF}:∀ (l:List aj) (b:β),eE (λx b=>if p x=true then .next b else .done r) fin l b=if l.all p=true then fin b else r
 | [],b=>by rfl
 | x::l,b=>by
  simp only[eE,List.all_cons,Bool.and_eq_true];by_cases h:p x=true
  ·simp only[h,if_true,true_and];exact G6 l b
  grind
theorem dP{h:β->aj->β}{fin:β->aF}:∀ (l:List aj) (b:β),eE (λx b=>.next (h b x)) fin l b=fin (l.foldl h b)
 | [],b=>rfl
 | x::l,b=>by simp only[eE,List.foldl_cons];exact dP l (h b x)
theorem MW{p:aj->Bool}:∀ (l:List aj) (b:List aj),l.foldl (λb x=>if p x=true then b++[x] else b) b=b++l.filter p
 | [],b=>by simp
 | x::l,b=>by
  simp only[List.foldl_cons,List.filter_cons];rw[MW l];grind
theorem xK{gb:Type}{g:aj->gb}:∀ (l:List aj) (b:List gb),l.foldl (λb x=>b++[g x]) b=b++l.map g
 | [],b=>by simp
 | x::l,b=>by simp only[List.foldl_cons,List.map_cons];rw[xK l];simp
end
theorem UU{aj:Type}{p q:aj->Bool}(h:∀ x,p x=!q x)(l:List aj):l.any p=!l.all q:=by
 grind
theorem j7{aj β aF:Type}{p q:aj->Bool}{r:aF}{fin:β->aF}(l:List aj)(b:β)(h:∀ x,p x=!q x):eE (λx b=>if p x=true then .done r else .next b) fin l b=if l.all q=true then fin b else r:=by
 rw[qd,UU h];grind
theorem lJ{A β aF:Type}{c:Bool}{mk:β->A}{b:β}{r:aF}:(if c=true then M.pure (aa.done r) else M.pure (aa.next (mk b)))=M.pure (aa.gT mk (if c=true then .done r else .next b)):=by cases c<;>rfl
theorem UW{A β aF:Type}{c:Bool}{mk:β->A}{b:β}{r:aF}:(if c=true then M.pure (aa.done r) else M.pure (aa.next (mk b)))=M.pure (aa.gT mk (if c=true then .done r else .next b)):=by cases c<;>rfl
theorem cC{l:Nat}{i:Nat}(h:i<l):decide ((i:Int)<(l:Int))=true:=by grind
theorem ct{l:Nat}{i:Nat}(h:i<l):((0:Int)<=(i:Int)/\(i:Int)<(l:Int))=True:=by grind
theorem cV{aj:Type}{l:List aj}{i:Nat}{d:aj}(h:i<l.length):l.getD (Int.toNat (i:Int)) d=l[i]:=by
 grind
theorem xL{aj:Type}{l:List aj}{i:Int}{d:aj}(h0:0<=i)(h:i<(l.length:Int)):l.getD i.toNat d∈l:=by
 grind
def dJ(a b:Int):z1':=(List.range (b - a+1).toNat).map λ(i:Nat)=>a+(i:Int)
theorem sk(a b:Int):(dJ a b).length=(b - a+1).toNat:=by simp[dJ]
theorem z1{a b:Int}{i:Nat}(h:i<(dJ a b).length):(dJ a b)[i]=a+i:=by simp[dJ]
theorem sn{a b n:Int}:n∈dJ a b<->a<=n/\n<=b:=by
 simp only[dJ,List.mem_map,List.mem_range];constructor
 ·omega
 ·rintro⟨h1,h2⟩;exact⟨(n - a).toNat,by omega,by omega⟩
end Go.Fer
namespace Go.Fer.nZ
open Go.Proofs
abbrev ou:Type:=List (Nat×SC)
def ov{aj:Type}:List (Nat×aj)->Nat->Option aj
 | [],_=>none
 | p::l,k=>if k=p.1 then some p.2 else ov l k
theorem Dm{aj:Type}{k:Nat}{c:aj}:∀ {l:List (Nat×aj)},ov l k=some c->(k,c)∈l
 | [],h=>by cases h
 | p::l,h=>by
  unfold ov at h;split at h
  ·rename_i e;cases h;subst e;simp
  ·exact List.mem_cons_of_mem _ (Dm h)
def so(T:ou):List (Nat×eK)->Nat->Option eK
 | [],k=>match ov T k with
  | some c=>some (.c8 c)
  | none=>none
 | p::l,k=>if k=p.1 then some p.2 else so T l k
def UX(k:Nat)(c:SC):Prop:=hN Tryz.prog k c.ts c.tr c.sh/\(c.dv=true->∀ x,(c.sh x).Cn)
structure kG(T:ou):Type where
 ok:∀ p∈T,UX p.1 p.2
abbrev aiR{T:ou}(_:kG T):ou:=T
def aiS:kG []:=⟨λp h=>by cases h⟩
def kG.cons{T:ou}(h:kG T){n:Nat}{c:SC}(k:UX n c):kG ((n,c)::T):=⟨λp hp=>by
 rcases List.mem_cons.1 hp with rfl | hp
 ·exact k
 ·exact h.ok p hp⟩
def Dn(U:dj):List (Nat×eK)->Prop
 | []=>True
 | p::l=>p.2.Ok Tryz.prog U p.1/\Dn U l
theorem kG.G7{U:dj}{T:ou}(h:kG T):∀ {sp:List (Nat×eK)},Dn U sp->lF Tryz.prog U (so T sp)
 | [],_,k,c,e=>by
  unfold so at e;split at e
  ·rename_i c' hc;cases e;exact h.ok (k,c') (Dm hc)
  ·cases e
 | p::l,hs,k,c,e=>by
  unfold so at e;split at e
  ·rename_i ao;cases e;subst ao;exact hs.1
  ·exact kG.G7 h (sp:=l) hs.2 k c e
def z6:af->List af
 | .cz=>[]
 | .aw a b=>a::z6 b
 | t=>[t]
def UY:af->af
 | .bq t=>t
 | t=>t
def UZ{ts U0:af}(e:U0=ts){tr:af}(sh:ts.ah->M tr.ah):U0.ah->M tr.ah:=e ▸ sh
def MX(pc:Nat)(c:SC):Option EX:=
 if h:((z6 c.ts).take pc).all af.gg=true/\fP ((z6 c.ts).take pc++(((z6 c.ts).drop pc).map UY).map .bq)=c.ts then some ⟨(z6 c.ts).take pc,((z6 c.ts).drop pc).map UY,c.tr,UZ h.2 c.sh⟩ else none
def U1:z8'->Nat->Option Nat
 | [],_=>none
 | p::l,k=>if k=p.1 then some p.2 else U1 l k
def z7(T:ou)(cl:z8')(G8:List (Nat×wB)):dj where
 s9:=λk=>match ov T k with
  | some c=>some ⟨c.ts,c.tr,c.sh⟩
  | none=>none
 s_:=λk=>match U1 cl k with
  | some pc=>match ov T k with
   | some c=>MX pc c
   | none=>none
  | none=>none
 wD:=ov G8
def Dp:List (Nat×wB)->Prop
 | []=>True
 | p::l=>wC Tryz.prog p.1 p.2/\Dp l
theorem Dp.mem:∀ {l:List (Nat×wB)},Dp l->∀ p∈l,wC Tryz.prog p.1 p.2
 | [],_,p,h=>by cases h
 | q::l,h,p,hp=>by
  rcases List.mem_cons.1 hp with rfl | hp
  ·exact h.1
  ·exact Dp.mem h.2 p hp
theorem aiT{k pc:Nat}{c:SC}{v:EX}(h:hN Tryz.prog k c.ts c.tr c.sh)(e:MX pc c=some v):v.as.all af.gg=true/\hN Tryz.prog k (fP (v.as++v.cs.map .bq)) v.tr v.sh:=by
 unfold MX at e;split at e
 ·rename_i cA;cases e;refine⟨cA.1,?_⟩;have key:∀ (ts:af) (e:ts=c.ts),hN Tryz.prog k ts c.tr (UZ e c.sh):=by rintro _ rfl;exact h
  exact key _ cA.2
 ·cases e
theorem kG.u{T:ou}(h:kG T)(cl:z8')(G8:List (Nat×wB))(E:Dp G8):qy Tryz.prog (z7 T cl G8) where
 s9:=λk v e=>by
  simp only[z7]at e;split at e
  ·rename_i c hc;cases e;exact (h.ok (k,c) (Dm hc)).1
  ·cases e
 s_:=λk v e=>by
  simp only[z7]at e;split at e
  ·split at e
   ·rename_i c hc;exact aiT (h.ok (k,c) (Dm hc)).1 e
   ·cases e
  ·cases e
 wD:=λk v e=>E.mem (k,v) (Dm e)
abbrev rb(fn:Func):Code:=fn.body.getD .skip
theorem G9{fn:Func}(h:fn.body.isSome=true):fn.body=some (rb fn):=by
 unfold rb;cases e:fn.body with
 | none=>rw[e]at h;cases h
 | some b=>rfl
abbrev Dq(fn:Func)(ts tr:af):Bool:=fn.body.isSome&&Df fn (rb fn) ts tr
theorem G_{T:ou}(hT:kG T){U:dj}(hW:qy Tryz.prog U){sp:List (Nat×eK)}(nL:Dn U sp){n:Nat}{fn:Func}(ar:Tryz.prog.funcs[n]?=some fn){ts tr:af}{sh:ts.ah->M tr.ah}{ann:ca}{S:ts.ah->M tr.ah}(hs:∀ x,M.le (S x) (sh x))(cq:Dq fn ts tr=true)(ai:∀ x,Dc U (q8 vq) xJ (so T sp) fn (rb fn) ann ts tr x=S x):hN Tryz.prog n ts tr sh:=
 have cq:=Bool.and_eq_true _ _ ▸ cq
 ahS G4 nM hW G5 (hT.G7 nL) ar (G9 cq.1) cq.2 λx=>M.le_trans (M.le_of_eq (ai x)) (hs x)
def mk{T:ou}(hT:kG T){n:Nat}{fn:Func}(ar:Tryz.prog.funcs[n]?=some fn)(c:aJ)(ann:ca){S:c.ts.ah->M c.tr.ah}(hs:∀ x,M.le (S x) (c.sh x))(cq:Dq fn c.ts c.tr=true:=by kernel_rfl)(ai:∀ x,Dc noU (q8 vq) xJ (so T []) fn (rb fn) ann c.ts c.tr x=S x:=by intro x;kernel_rfl):kG ((n,c.c8)::T):=
 hT.cons ⟨G_ hT me (sp:=[]) trivial ar hs cq ai,λ_ _=>M.vs⟩
def lK{T:ou}(hT:kG T)(cl:z8'){n:Nat}{fn:Func}(ar:Tryz.prog.funcs[n]?=some fn)(c:aJ)(ann:ca){S:c.ts.ah->M c.tr.ah}(hs:∀ x,M.le (S x) (c.sh x))(cq:Dq fn c.ts c.tr=true:=by kernel_rfl)(ai:∀ x,Dc (z7 T cl []) (q8 vq) xJ (so T []) fn (rb fn) ann c.ts c.tr x=S x:=by intro x;kernel_rfl):kG ((n,c.c8)::T):=
 hT.cons ⟨G_ hT (hT.u cl [] trivial) (sp:=[]) trivial ar hs cq ai,λ_ _=>M.vs⟩
def pd{T:ou}(hT:kG T){U:dj}(hW:qy Tryz.prog U)(sp:List (Nat×eK))(nL:Dn U sp){n:Nat}{fn:Func}(ar:Tryz.prog.funcs[n]?=some fn)(c:aJ)(ann:ca){S:c.ts.ah->M c.tr.ah}(hs:∀ x,M.le (S x) (c.sh x))(cq:Dq fn c.ts c.tr=true:=by kernel_rfl)(ai:∀ x,Dc U (q8 vq) xJ (so T sp) fn (rb fn) ann c.ts c.tr x=S x:=by intro x;kernel_rfl):kG ((n,c.c8)::T):=
 hT.cons ⟨G_ hT hW nL ar hs cq ai,λ_ _=>M.vs⟩
def jE{T:ou}(hT:kG T)(cl:z8'){n:Nat}{fn:Func}(ar:Tryz.prog.funcs[n]?=some fn)(c:aJ)(pc:Nat)(ann:ca){S:c.ts.ah->M c.tr.ah}(hs:∀ x,M.le (S x) (c.sh x))(hc:∀ x,c.pre x->De pc (o_ c.ts x):=by intro x h;obtain⟨f,ar,_⟩:=h;exact si ⟨trivial,ra ar⟩)(cq:Dq fn c.ts c.tr=true:=by kernel_rfl)
  (ai:∀ x,eh (z7 T cl []) (q8 vq) xJ (so T []) ann (rb fn) (GV pc (o_ c.ts x)) (vn (q8 vq) fn.results.toList c.tr)=S x:=by intro x;kernel_rfl):kG ((n,c.c8)::T):=
 have cq:=Bool.and_eq_true _ _ ▸ cq
 hT.cons ⟨ahU (n:=pc) G4 nM (hT.u cl [] trivial) G5 (hT.G7 (sp:=[]) trivial) ar (G9 cq.1) cq.2 λx=>M.aiQ (hc x) (M.le_trans (M.le_of_eq (ai x)) (hs x)),λ_ _=>M.vs⟩
theorem mkI{T:ou}(hT:kG T){U:dj}(sp:List (Nat×eK))(nL:Dn U sp){n:Nat}{fn:Func}(ar:Tryz.prog.funcs[n]?=some fn){c:IOC}(ann:ca){S:c.b7.ah->M c.bC.ah}(hs:∀ x,M.le (S x) (c.sh x))(cq:(fn.body.isSome&&Dg fn (rb fn) c.j4 c.ko)=true:=by kernel_rfl)(ai:∀ x,Mz U (q8 vq) xJ (so T sp) fn (rb fn) ann c.b7 c.bC c.ko x=S x:=by intro x;kernel_rfl):IoSpec Tryz.prog U n c:=
 have cq:=Bool.and_eq_true _ _ ▸ cq
 Uh G4 nM G5 (hT.G7 nL) ar (G9 cq.1) cq.2 λx=>M.le_trans (M.le_of_eq (ai x)) (hs x)
theorem MY{U:dj}{n:Nat}{fn:Func}(ar:Tryz.prog.funcs[n]?=some fn){c:IOC}(hs:∀ x,¬(c.sh x).bY)(cq:(fn.body.isSome&&Dg fn (rb fn) c.j4 c.ko)=true:=by kernel_rfl):IoSpec Tryz.prog U n c:=
 have cq:=Bool.and_eq_true _ _ ▸ cq
 Uh G4 nM G5 (Ψ:=λ_=>none) (λk c h=>by cases h) (ann:=.eo) ar (G9 cq.1) cq.2 λx h=>absurd h (hs x)
end Go.Fer.nZ
namespace Go.Fer
open Go.RowKit
theorem aiU{P:Program}{U:dj}{k:FuncId}{ts e:af}(tM:ts≠.cz){c:IOC}(h:IoSpec P U k c)(hW:qy P U){sh:ts.ah->M (af.slice e).ah}{b0:Nat}(mk:ts.ah->c.b7.ah)
    (aiV:∀ x,c.b7.st (mk x)=⟨e7 ((List.range (jU ts)).map λi=>(i,ki ts x i)),λ_=>⟨0,.ff⟩⟩) (az:c.j4=jU ts) (hK:c.j4<=ev) (aiW:c.ko=[none]) (val:c.bC.ah->List e.ah)
    (p7:∀ τ,(c.bC.st τ).ax 0=.own b0 0/\(c.bC.st τ).ad b0=⟨0,.a8 e (val τ)⟩)
    (rQ:∀ x,(sh x).bY->(c.sh (mk x)).bY/\∀ τ,(c.sh (mk x)).bC τ->val τ=(sh x).val (af.slice e).cO):nu (SC.ow ⟨ts,.slice e,sh,true⟩).tr=true/\B9 P k (SC.ow ⟨ts,.slice e,sh,true⟩):=by
  refine⟨rfl,h.enter,?_⟩;intro (x:ts.ah) (hs:(sh x).bY) y aM F w args bd fT (dB:e5 P ts F w args x);cases aM;obtain⟨ik,GI⟩:=tt (H:=λ_=>⟨0,.ff⟩) (κ:=λ_=>⟨0,0,0,false⟩) ts dB tM;let C:bS:={ P:=P,w0:=w,F0:=F,K0:=λr=>r<w.heap.size,nt:=c.j4,r:=none,dfr:=[],h4:=λ_=>none,pr:=⟨0,.cz,λ_=>False,λ_ _ _ _ _=>False⟩,aK:=U }
  have CG:∀ i,e7 ((List.range (jU ts)).map λi=>(i,ki ts x i)) i=.undef\/(i<jU ts/\e7 ((List.range (jU ts)).map λi=>(i,ki ts x i)) i=ki ts x i):=λi=>by
    rcases Uc (l:=(List.range (jU ts)).map λi=>(i,ki ts x i)) (i:=i) with e | e
    · exact .inl e
    · refine .inr ?_
      generalize bb:e7 ((List.range (jU ts)).map λi=>(i,ki ts x i)) i=z at e
      simp only[List.mem_map,List.mem_range,Prod.mk.injEq]at e
      obtain⟨j,aC,rfl,rfl⟩:=e
      exact⟨aC,rfl⟩
  have G:bc C (c.b7.st (mk x)) { tmps:=args.toArray,defers:=[] } w (λ_=>⟨0,0,0,false⟩) F:=by
    rw[aiV];refine { dk := ?_, dfr := rfl, bF := λi => ?_, bp := λb => trivial, own := λb ab => (by cases ab), inj := λb aZ ab _ _ => (by cases ab), cL := bd, gN := λr G => .inl G, hE := λr G => G, g_ := λr G => G, ef := λr _ => rfl, size := Nat.le_refl _, dV := cM.refl w,fR:=hK,kd:=λb r h=>(by cases h),jq:=λb r h=>(by cases h),jS:=λb k h=>(by cases h),ke:=λb k h=>(by cases h),pro:=λl aI L n st e=>?_,jr:=hW,ij:=fT }
    · grind
    · rcases CG i with e | ⟨E,e⟩
      · show bl _ _ _ _ _ (e7 _ i) _
        rw[e];trivial
      · show bl _ _ _ _ _ (e7 _ i) _
        rw[e]
        have:=GI i E
        simpa [Array.getD_eq_getD_getElem?,List.getD_eq_getElem?_getD]using this
    · rcases CG TRS with h | ⟨h,_⟩
      · grind
      · unfold TRS at h;unfold ev at hK;omega
  obtain⟨LI,tC⟩:=rQ x hs;refine (h.iH C _ w _ F (mk x) rfl rfl rfl rfl rfl rfl G LI).mono λaS w' ⟨v,τ,aB,κ',F',Bu,hτ,Gi,aW⟩=>?_;obtain⟨aiX,xu⟩:=p7 τ;rw[aiW]at Gi;obtain⟨us,fh,Ly,MZ⟩:=Gi;obtain⟨u,rfl⟩:∃ u,us=[u]:=by
    match us,fh with
    | [u],_=>simp
  have M0:aB=[u]:=by
    obtain⟨_,M0,h2⟩:=MZ;rw[M0,h2]
  have hv:v=u:=by simpa using Ly
  have hsl:=aW.bF 0;rw[aiX,M0]at hsl;have U2:u=(κ' b0).slice ((c.bC.st τ).ad b0).body.len:=by
    have:=hsl.2 (by rw[xu]) (by rw[xu];rfl);simp_all
  rw[xu]at U2;have aN:=aW.bp b0;unfold cg at aN;rw[xu]at aN;obtain⟨h1,h2⟩:=aN;have xE:val τ=(sh x).val (af.slice e).cO:=tC τ hτ;refine⟨κ' b0,F',by rw[Bu,hv,U2];simp only[bB.len];rw[xE];rfl,aW.hE,λr U3=>?_,λaz=>?_,λaz=>?_,aW.dV.os,aW.dV.tape,aW.dV.output,aW.size,aW.ef⟩
  · rcases aW.gN r U3 with cA | cA
    · exact .inl cA
    · exact .inr ⟨Nat.le_of_not_lt cA,aW.cL r U3⟩
  · have:=h1 az
    rw[xE]at this
    exact this
  · have ag:=aW.own b0 (by rw[xu];simp[bB.bJ,az])
    obtain⟨cs,T,c1,c2,c3,c4,c5⟩:=h2 az
    rw[xE]at c3 c5
    exact⟨⟨Nat.le_of_not_lt ag.2.2,ag.1,ag.2.1⟩,cs,T,c1,c2,c3,c4,c5⟩
end Go.Fer
namespace Go.Fer
open M (aa)
abbrev a7:Type:=z2'×List (List (Int×z1'×Int×Int))×Int×z2'
abbrev qe:Type:=a7×List (z1')
abbrev eQ(l:z4')(a b:Int):z4':=ls (k:=.int .i64) (v:=.int .i64) l a b
abbrev vt(l:z5')(a:Int×Int×Int)(b:Int):z5':=ls (k:=.st (.aw (.int .i64) (.aw (.int .i64) (.int .i64)))) (v:=.int .i64) l a b
def M1(x:z1'×Int):M Bool:=
 M.bind (M.loop (λ(A:z1'×Int×Int×Unit)=>letI b:=A.2.2.1;letI a:=b<Int.ofNat (List.length A.1);if decide a=true then M.ae (0<=b/\a) (if decide (List.getD A.1 (Int.toNat b) 0=A.2.1)=true then M.bind (M.bind (M.pure true) (λr=>M.pure (aa.done r))) λr=>M.pure (aa.done r) else M.pure (aa.next (A.1,A.2.1,IntKind.wrap .i64 (Add.add b 1),()))) else M.bind (M.pure (aa.next ())) λr=>M.pure (aa.done r)) (x.1,x.2,0,())) (aa.bm (λ(A:Unit)=>M.pure false))
def M2(j8:Int×Int×Int->M Bool)(x:a7×Int):M Bool:=
 M.bind (j8 (x.2,0,IntKind.wrap .i64 (Int.ofNat (List.length x.1.1)-1))) λy=>M.pure y
def G'(j8:Int×Int×Int->M Bool)(aiY:a7×Int->M Bool)(x:a7×Int×Int):M Bool:=
 M.bind (aiY (x.1,x.2.1)) λy=>M.ae (y=true->(y=true/\y=true)/\(0<=x.2.1/\x.2.1<Int.ofNat (List.length x.1.2.1))/\True) (M.bind (b1 y (j8 (x.2.2,0,IntKind.wrap .i64 (Int.ofNat (List.length (List.getD x.1.2.1 (Int.toNat x.2.1) []))-1))) false) (λbL=>M.pure (y&&bL)))
def M3(aiZ:z2'×List (List (Int×z1'×Int×Int))×Int×z2'->M Bool)(x:z2'×List (List (Int×z1'×Int×Int))×Int×z2'):M Int:=
 M.bind (aiZ x) λy=>if (!y)=true then M.pure 70 else M.bind (M.loop (λ(A:Int×a7×Unit)=>if decide (A.1<Int.ofNat (List.length A.2.1.2.2.2))=true then M.bind (M.loop (λ(A:Int×Int×a7×Unit)=>letI d:=A.2.2.1.2.2.2;letI c:=Int.ofNat (List.length d);letI b:=List.getD d (Int.toNat A.1) (0,0,0,0);letI a:=List.getD d (Int.toNat A.2.1) (0,0,0,0);if decide (A.2.1<A.1)=true then M.ae (0<=A.2.1/\A.2.1<c) (M.ae (0<=A.1/\A.1<c) (if (decide (a.1=b.1)&&decide (a.2.1=b.2.1)&&decide (a.2.2.1=b.2.2.1)&&decide (a.2.2.2≠b.2.2.2))=true then M.bind (M.bind (M.bind (M.bind (M.pure 71) (λr=>M.pure (aa.done r))) (λr=>M.pure (aa.done r))) (λr=>M.pure (aa.done r))) λr=>M.pure (aa.done r) else M.pure (aa.next (A.1,IntKind.wrap .i64 (Add.add A.2.1 1),A.2.2.1,())))) else M.bind (M.pure (aa.next (A.1,A.2.2.1,()))) λr=>M.pure (aa.done r)) (A.1,0,A.2.1,())) (aa.bm (λ(A:Int×a7×Unit)=>M.pure (aa.next (IntKind.wrap .i64 (Add.add A.1 1),A.2.1,())))) else M.bind (M.pure (aa.next ())) λr=>M.pure (aa.done r)) (0,x,())) (aa.bm (λ(A:Unit)=>M.pure 0))
def M4(U4:a7×Int×Int×Int×Int->M Bool)(j8:Int×Int×Int->M Bool)(x:a7×Int×Int):M Bool:=
 M.bind (M.loop (λ(A:Int×Int×Int×a7×Unit)=>letI i:=A.2.2.1;letI f:=A.2.2.2.1;letI e:=i<Int.ofNat (List.length f.2.2.2);letI b:=List.getD f.2.2.2 (Int.toNat i) (0,0,0,0);letI h:=(f,A.1,A.2.1,b.2.1,b.2.2.1);letI a:=decide (b.1=A.1)=true;letI g:=a->a/\True/\True;if decide e=true then M.ae (0<=i/\e) (M.ae g (M.ae g (M.ae (a->(a/\a/\a/\a/\a/\True)/\(U4 h).bY/\True) (M.ae g (M.ae (a->(a/\True)/\True/\True) (M.ae (a->(a/\a)/\True/\True) (M.ae (True/\(a->a)) (if (decide (b.1=A.1)&&!(decide (M.val (U4 h) false=decide (b.2.2.2=1))))=true then M.bind (M.bind (M.pure false) (λr=>M.pure (aa.done r))) λr=>M.pure (aa.done r) else M.pure (aa.next (A.1,A.2.1,IntKind.wrap .i64 (Add.add i 1),f,())))))))))) else M.bind (M.pure (aa.next (A.1,A.2.1,f,()))) λr=>M.pure (aa.done r)) (x.2.1,x.2.2,0,x.1,())) (aa.bm (λ(A:Int×Int×a7×Unit)=>letI d:=0<=A.1/\A.1<Int.ofNat (List.length A.2.2.1.1);letI c:=(A.2.1,(List.getD A.2.2.1.1 (Int.toNat A.1) (0,0,0,0)).2.2);M.ae d (M.ae d (M.ae (j8 c).bY (M.pure (M.val (j8 c) false))))))
def M5(ai0:z1'×Int->M Bool)(j8:Int×Int×Int->M Bool)(x:a7×Int×Int×Int×Int):M Bool:=
 letI e:=x.2.2.2;letI c:=List.getD x.1.2.1 (Int.toNat e.1) [];letI b:=List.getD x.1.1 (Int.toNat x.2.1) (0,0,0,0);letI a:=List.getD c (Int.toNat e.2) (0,[],0,0);letI d:=decide (b.1=a.1);M.ae (0<=x.2.1/\x.2.1<Int.ofNat (List.length x.1.1)) (M.ae (0<=e.1/\e.1<Int.ofNat (List.length x.1.2.1)) (M.ae (0<=e.2/\e.2<Int.ofNat (List.length c)) (M.bind (b1 d (ai0 (a.2.1,b.2.1)) false) (λy=>M.bind (b1 (d&&y) (j8 (x.2.2.1,a.2.2.1,IntKind.wrap .i64 (Add.add a.2.2.2 x.1.2.2.1))) false) λbL=>M.pure (d&&y&&bL)))))
def M6(x:z1'):M Bool:=
 M.bind (M.loop (λ(A:z1'×Int×Unit)=>letI c:=A.2.1;letI b:=IntKind.wrap .i64 (c-1);letI a:=Int.ofNat (List.length A.1);if decide (c<a)=true then M.ae (0<=c/\c<a) (M.ae (0<=b/\b<a) (if decide (List.getD A.1 (Int.toNat c) 0<=List.getD A.1 (Int.toNat b) 0)=true then M.bind (M.bind (M.pure false) (λr=>M.pure (aa.done r))) λr=>M.pure (aa.done r) else M.pure (aa.next (A.1,IntKind.wrap .i64 (Add.add c 1),())))) else M.bind (M.pure (aa.next ())) λr=>M.pure (aa.done r)) (x,1,())) (aa.bm (λ(A:Unit)=>M.pure true))
def U5(ai1:a7×Bool->M Int)(x:z2'×List (List (Int×z1'×Int×Int))×Int×z2'):M Int:=
 M.bind (ai1 (x,true)) λy=>M.pure y
def ai2(x:Int×Int×Int):M Bool:=
 M.pure (decide (x.1>=x.2.1)&&decide (x.1<=x.2.2))
def M7(j8:Int×Int×Int->M Bool)(x:a7×Int):M Bool:=
 M.bind (j8 (x.2,0,IntKind.wrap .i64 (Int.ofNat (List.length x.1.2.1)-1))) λy=>M.pure y
def M8(ai3:a7×Int->M Bool)(ai4:a7×Int×Int->M Bool)(j8:Int×Int×Int->M Bool)(M9:Int×Int->M Bool)(ai5:Int×z1'×Int×Int->M Bool)(x:z2'×List (List (Int×z1'×Int×Int))×Int×z2'):M Bool:=
 letI c:=decide (Int.ofNat (List.length x.1) > 10)||decide (Int.ofNat (List.length x.2.1) > 6);M.bind (b1 (!c) (j8 (x.2.2.1,0,99)) false) λy=>if (c||!y||decide (Int.ofNat (List.length x.2.2.2) > 30))=true then M.pure false else M.bind (M.loop (λ(A:Int×a7×Unit)=>letI h:=A.1<Int.ofNat (List.length A.2.1.1);letI b:=List.getD A.2.1.1 (Int.toNat A.1) (0,0,0,0);if decide h=true then M.ae (0<=A.1/\h) (M.bind (j8 (b.1,0,9)) (λy=>M.bind (b1 (!(!y)) (j8 (b.2.1,0,9)) false) λbL=>M.bind (b1 (!(!y||!bL)) (M9 b.2.2) false) λdq=>if (!y||!bL||!dq)=true then M.bind (M.bind (M.pure false) (λr=>M.pure (aa.done r))) λr=>M.pure (aa.done r) else M.pure (aa.next (IntKind.wrap .i64 (Add.add A.1 1),A.2.1,())))) else M.bind (M.pure (aa.next (A.2.1,()))) λr=>M.pure (aa.done r)) (0,x,())) (aa.bm (λ(A:a7×Unit)=>M.bind (M.loop (λ(A:Int×a7×Unit)=>letI g:=A.1<Int.ofNat (List.length A.2.1.2.1);if decide g=true then M.bind (M.ae (0<=A.1/\g) (if decide (Int.ofNat (List.length (List.getD A.2.1.2.1 (Int.toNat A.1) [])) > 4)=true then M.bind (M.bind (M.bind (M.pure false) (λr=>M.pure (aa.done r))) (λr=>M.pure (aa.done r))) λr=>M.pure (aa.done r) else M.loop (λ(A:Int×Int×a7×Unit)=>letI j:=A.2.2.1;letI e:=0<=A.1/\A.1<Int.ofNat (List.length j.2.1);letI d:=List.getD j.2.1 (Int.toNat A.1) [];letI i:=A.2.1<Int.ofNat (List.length d);M.ae e (if decide i=true then M.ae e (M.ae (0<=A.2.1/\i) (M.bind (ai5 (List.getD d (Int.toNat A.2.1) (0,[],0,0))) (λy=>if (!y)=true then M.bind (M.bind (M.bind (M.bind (M.pure false) (λr=>M.pure (aa.done r))) (λr=>M.pure (aa.done r))) (λr=>M.pure (aa.done r))) λr=>M.pure (aa.done r) else M.pure (aa.next (A.1,IntKind.wrap .i64 (Add.add A.2.1 1),j,()))))) else M.bind (M.pure (aa.next (A.1,j,()))) λr=>M.pure (aa.done r))) (A.1,0,A.2.1,()))) (aa.bm (λ(A:Int×a7×Unit)=>M.pure (aa.next (IntKind.wrap .i64 (Add.add A.1 1),A.2.1,())))) else M.bind (M.pure (aa.next (A.2.1,()))) λr=>M.pure (aa.done r)) (0,A.1,())) (aa.bm (λ(A:a7×Unit)=>M.bind (M.loop (λ(A:Int×a7×Unit)=>letI f:=A.1<Int.ofNat (List.length A.2.1.2.2.2);letI a:=List.getD A.2.1.2.2.2 (Int.toNat A.1) (0,0,0,0);if decide f=true then M.ae (0<=A.1/\f) (M.bind (ai3 (A.2.1,a.1)) (λy=>M.bind (b1 (!(!y)) (ai4 (A.2.1,a.2.1,a.2.2.1)) false) λbL=>M.bind (b1 (!(!y||!bL)) (j8 (a.2.2.2,0,1)) false) λdq=>if (!y||!bL||!dq)=true then M.bind (M.bind (M.pure false) (λr=>M.pure (aa.done r))) λr=>M.pure (aa.done r) else M.pure (aa.next (IntKind.wrap .i64 (Add.add A.1 1),A.2.1,())))) else M.bind (M.pure (aa.next ())) λr=>M.pure (aa.done r)) (0,A.1,())) (aa.bm (λ(A:Unit)=>M.pure true))))))
def M_(Dr:z2'×List (List (Int×z1'×Int×Int))×Int×z2'->M Int)(ai6:a7×Int->M (z1'))(x:a7×Bool):M Int:=
 M.bind (Dr x.1) λy=>if decide (y≠0)=true then M.pure y else if (!x.2)=true then M.pure 1 else M.bind (M.loop (λ(A:Int×a7×Unit)=>if decide (A.1<Int.ofNat (List.length A.2.1.1))=true then M.bind (ai6 (A.2.1,A.1)) λy=>if decide (Int.ofNat (List.length y)=0)=true then M.bind (M.bind (M.pure 3) (λr=>M.pure (aa.done r))) λr=>M.pure (aa.done r) else M.pure (aa.next (IntKind.wrap .i64 (Add.add A.1 1),A.2.1,())) else M.bind (M.pure (aa.next ())) λr=>M.pure (aa.done r)) (0,x.1,())) (aa.bm (λ(A:Unit)=>M.pure 0))
def M'(ai7:a7×Int×Int->M Bool)(x:a7×Int):M (z1'):=
 M.bind (M.ae (0<=x.2/\x.2<Int.ofNat (List.length x.1.1)) (M.loop (λ(A:Int×Int×a7×z1'×Unit)=>letI a:=A.2.2;M.ae (0<=A.1/\A.1<Int.ofNat (List.length a.1.1)) (if decide (A.2.1<=(List.getD a.1.1 (Int.toNat A.1) (0,0,0,0)).2.2.2)=true then M.bind (M.bind (ai7 (a.1,A.1,A.2.1)) (λy=>if y=true then M.ae (bT (Add.add (List.length a.2.1) (Add.add 0 1))) (M.pure (aa.next (A.1,A.2.1,a.1,a.2.1++[A.2.1],()))) else M.pure (aa.next (A.1,A.2.1,a.1,a.2.1,())))) (aa.bm (λ(A:Int×Int×a7×z1'×Unit)=>M.pure (aa.next (A.1,IntKind.wrap .i64 (Add.add A.2.1 1),A.2.2.1,A.2.2.2.1,())))) else M.bind (M.pure (aa.next (a.2.1,()))) λr=>M.pure (aa.done r))) (x.2,(List.getD x.1.1 (Int.toNat x.2) (0,0,0,0)).2.2.1,x.1,[],()))) (aa.bm (λ(A:z1'×Unit)=>M.pure A.1))
def Na(j8:Int×Int×Int->M Bool)(x:Int×Int):M Bool:=
 M.bind (j8 (x.1,0,x.2)) λy=>M.pure (y&&decide (x.2<=999))
def Nb(ai8:z1'->M Bool)(j8:Int×Int×Int->M Bool)(M9:Int×Int->M Bool)(x:Int×z1'×Int×Int):M Bool:=
 M.bind (M.loop (λ(A:Int×(Int×z1'×Int×Int)×Unit)=>letI b:=A.1<Int.ofNat (List.length A.2.1.2.1);if decide b=true then M.ae (0<=A.1/\b) (M.bind (j8 (List.getD A.2.1.2.1 (Int.toNat A.1) 0,0,9)) (λy=>if (!y)=true then M.bind (M.bind (M.pure false) (λr=>M.pure (aa.done r))) λr=>M.pure (aa.done r) else M.pure (aa.next (IntKind.wrap .i64 (Add.add A.1 1),A.2.1,())))) else M.bind (M.pure (aa.next (A.2.1,()))) λr=>M.pure (aa.done r)) (0,x,())) (aa.bm (λ(A:(Int×z1'×Int×Int)×Unit)=>M.bind (j8 (A.1.1,0,9)) λy=>letI a:=y&&decide (Int.ofNat (List.length A.1.2.1)<=4);M.bind (b1 a (ai8 A.1.2.1) false) λbL=>M.bind (b1 (a&&bL) (M9 A.1.2.2) false) λdq=>M.pure (a&&bL&&dq)))
def U6(axU:Int×Int->M (Int×Int))(ai9:Int×Int->M (Int×Int))(x:Int×Int):M (Int×Int):=
 M.bind (ai9 x) λy=>M.pure y
def U7(ai_:z1'×Int->M Int)(x:z1'×Int):M Bool:=
 M.bind (ai_ x) λy=>M.pure (decide (y>=0))
def U8(x:Int×Int):M (Int×Int):=
 M.ae ((0:Int)<=32) (M.ae ((0:Int)<=32) (M.ae ((0:Int)<=32) (M.ae ((0:Int)<=32) (M.ae ((0:Int)<=32) (M.pure (IntKind.wrap .u64 (Add.add (IntKind.wrap .u64 (Add.add (IntKind.wrap .u64 (iZ .u64 x.1 32*iZ .u64 x.2 32)) (iZ .u64 (IntKind.wrap .u64 (Add.add (IntKind.wrap .u64 (iZ .u64 x.1 32*lr .u64 x.2 4294967295)) (iZ .u64 (IntKind.wrap .u64 (lr .u64 x.1 4294967295*lr .u64 x.2 4294967295)) 32))) 32))) (iZ .u64 (IntKind.wrap .u64 (Add.add (lr .u64 (IntKind.wrap .u64 (Add.add (IntKind.wrap .u64 (iZ .u64 x.1 32*lr .u64 x.2 4294967295)) (iZ .u64 (IntKind.wrap .u64 (lr .u64 x.1 4294967295*lr .u64 x.2 4294967295)) 32))) 4294967295) (IntKind.wrap .u64 (lr .u64 x.1 4294967295*iZ .u64 x.2 32)))) 32)),IntKind.wrap .u64 (x.1*x.2)))))))
def Nc(x:z1'×Int):M Int:=
 M.bind (M.loop (λ(A:z1'×Int×Int×Int×Unit)=>letI a:=A.2.2.2.1;if decide (a<A.2.2.1)=true then M.ae (0<=a/\a<Int.ofNat (List.length A.1)) (if decide (A.2.1=List.getD A.1 (Int.toNat a) 0)=true then M.bind (M.bind (M.pure a) (λr=>M.pure (aa.done r))) λr=>M.pure (aa.done r) else M.pure (aa.next (A.1,A.2.1,A.2.2.1,IntKind.wrap .i64 (Add.add a 1),()))) else M.bind (M.pure (aa.next ())) λr=>M.pure (aa.done r)) (x.1,x.2,Int.ofNat (List.length x.1),0,())) (aa.bm (λ(A:Unit)=>M.pure (-1)))
def Nd(ai':z2'×List (List (Int×z1'×Int×Int))×Int×z2'->M Bool)(x:z2'×List (List (Int×z1'×Int×Int))×Int×z2'):M Int:=
 M.bind (ai' x) λy=>if (!y)=true then M.pure 70 else M.bind (M.loop (λ(A:z2'×Int×Int×z5'×Unit)=>letI c:=A.2.2.1;letI a:=List.getD A.1 (Int.toNat c) (0,0,0,0);letI b:=Option.map (λx=>x.2) (List.find? (λp=>decide (a.1=p.1.1)&&(decide (a.2.1=p.1.2.1)&&decide (a.2.2.1=p.1.2.2))) A.2.2.2.1);if decide (c<A.2.1)=true then M.ae (0<=c/\c<Int.ofNat (List.length A.1)) (if (Option.isSome b&&decide (Option.getD b 0≠a.2.2.2))=true then M.bind (M.bind (M.pure 71) (λr=>M.pure (aa.done r))) λr=>M.pure (aa.done r) else M.pure (aa.next (A.1,A.2.1,IntKind.wrap .i64 (Add.add c 1),vt A.2.2.2.1 (a.1,a.2.1,a.2.2.1) a.2.2.2,()))) else M.bind (M.pure (aa.next ())) λr=>M.pure (aa.done r)) (x.2.2.2,Int.ofNat (List.length x.2.2.2),0,[],())) (aa.bm (λ(A:Unit)=>M.pure 0))
def Nf(mg:a7×Bool->M (Option qe×Int))(h':a7×Int->M Bool)(x:a7×Int):M ((Int×Int)×Int):=
 letI a:=Int.toNat x.2;M.ae (h' x).bY (M.ae (mg (x.1,M.val (h' x) false)).bY (if decide ((M.val (mg (x.1,M.val (h' x) false)) (none,0)).2≠0)=true then M.pure ((0,0),(M.val (mg (x.1,M.val (h' x) false)) (none,0)).2) else M.ae (Option.isSome (M.val (mg (x.1,M.val (h' x) false)) (none,0)).1=true) (M.ae (0<=x.2/\x.2<Int.ofNat (List.length (Option.getD (M.val (mg (x.1,M.val (h' x) false)) (none,0)).1 (([],[],0,[]),[])).2)) (M.ae ((0:Int)<=0/\0<Int.ofNat (List.length (List.getD (Option.getD (M.val (mg (x.1,M.val (h' x) false)) (none,0)).1 (([],[],0,[]),[])).2 a []))) (M.ae (0<=IntKind.wrap .i64 (Int.ofNat (List.length (List.getD (Option.getD (M.val (mg (x.1,M.val (h' x) false)) (none,0)).1 (([],[],0,[]),[])).2 a []))-1)/\IntKind.wrap .i64 (Int.ofNat (List.length (List.getD (Option.getD (M.val (mg (x.1,M.val (h' x) false)) (none,0)).1 (([],[],0,[]),[])).2 a []))-1)<Int.ofNat (List.length (List.getD (Option.getD (M.val (mg (x.1,M.val (h' x) false)) (none,0)).1 (([],[],0,[]),[])).2 a []))) (M.pure ((List.getD (List.getD (Option.getD (M.val (mg (x.1,M.val (h' x) false)) (none,0)).1 (([],[],0,[]),[])).2 a []) (Int.toNat 0) 0,List.getD (List.getD (Option.getD (M.val (mg (x.1,M.val (h' x) false)) (none,0)).1 (([],[],0,[]),[])).2 a []) (Int.toNat (IntKind.wrap .i64 (Int.ofNat (List.length (List.getD (Option.getD (M.val (mg (x.1,M.val (h' x) false)) (none,0)).1 (([],[],0,[]),[])).2 a []))-1))) 0),0)))))))
def Ng(mg:a7×Bool->M (Option qe×Int))(h':a7×Int->M Bool)(xM:a7×Int×Int->M Bool)(aja:Option qe×Int×Int×Int->M Int)(x:a7×Int×Int×Int):M (Int×Int):=
 letI b:=(x.1,x.2.2);letI a:=(x.1,x.2.1);M.ae (h' a).bY (M.ae (M.val (h' a) false=true->(M.val (h' a) false=true/\M.val (h' a) false=true/\M.val (h' a) false=true/\True)/\(xM b).bY/\True) (M.ae (True/\(M.val (h' a) false=true->M.val (h' a) false=true)) (M.ae (mg (x.1,M.val (h' a) false&&M.val (xM b) false)).bY (if decide ((M.val (mg (x.1,M.val (h' a) false&&M.val (xM b) false)) (none,0)).2≠0)=true then M.pure (0,(M.val (mg (x.1,M.val (h' a) false&&M.val (xM b) false)) (none,0)).2) else M.bind (aja ((M.val (mg (x.1,M.val (h' a) false&&M.val (xM b) false)) (none,0)).1,x.2)) λy=>M.pure (y,0)))))
def U9(ox:Int×Int×Int->M Bool)(ajb:z2'×(Int×Int×Int×Int->M Bool)->M Bool)(ajc:List (List (Int×z1'×Int×Int))×(List (Int×z1'×Int×Int)->M Bool)->M Bool)(Nh:z2'×(Int×Int×Int×Int->M Bool)->M Bool)(ajd:List (Int×z1'×Int×Int)×Option (Int×z1'×Int×Int->M Bool)->M Bool)(aje:(Int×Int×Int×Int)×Option a7->M Bool)(ajf:Int×Int×Int×Int->M Bool)(ajg:Int×z1'×Int×Int->M Bool)(x:z2'×List (List (Int×z1'×Int×Int))×Int×z2'):M Bool:=
 letI c:=decide (Int.ofNat (List.length x.1)<=10);M.bind (b1 c (ajb (x.1,ajf)) false) λy=>letI a:=c&&y&&decide (Int.ofNat (List.length x.2.1)<=6);M.bind (b1 a (ajc (x.2.1,λx=>ajd (x,some ajg))) false) λbL=>M.bind (b1 (a&&bL) (ox (x.2.2.1,0,99)) false) λdq=>letI b:=a&&bL&&dq&&decide (Int.ofNat (List.length x.2.2.2)<=30);M.bind (b1 b (Nh (x.2.2.2,λhg=>aje (hg,some x))) false) λgn=>M.pure (b&&gn)
def Ni(Ds:z2'×List (List (Int×z1'×Int×Int))×Int×z2'->M Int)(Nh:z2'×(Int×Int×Int×Int->M Bool)->M Bool)(ajh:(Int×Int×Int×Int)×Option Int×Option a7×Option Int->M Bool)(x:a7×Bool):M (Option qe×Int):=
 M.bind (Ds x.1) λy=>if decide (y≠0)=true then M.pure (none,y) else if (!x.2)=true then M.pure (none,1) else M.bind (M.loop (λ(A:z2'×Int×Int×a7×z2'×List (List (Int×z1'×Int×Int))×Int×z2'×List (z1')×Unit)=>letI i:=A.2.2.1;letI g:=List.getD A.1 (Int.toNat i) (0,0,0,0);letI c:=A.2.2.2.2;if decide (i<A.2.1)=true then M.bind (M.ae (0<=i/\i<Int.ofNat (List.length A.1)) (M.bind (M.loop (λ(A:z2'×Int×Int×a7×Int×(Int×Int×Int×Int)×z1'×Int×z2'×List (List (Int×z1'×Int×Int))×Int×z2'×List (z1')×Unit)=>letI d:=A.2.2.2;letI a:=d.2.2.2;letI j:=a.2.2;letI e:=j.2.2;if decide (a.2.1<=d.2.2.1.2.2.2)=true then M.bind (M.bind (Nh (d.1.2.2.2,λx=>ajh (x,some d.2.1,some d.1,some a.2.1))) (λy=>if y=true then M.ae (bT (Add.add (List.length a.1) (Add.add 0 1))) (M.pure (aa.next (A.1,A.2.1,A.2.2.1,d.1,d.2.1,d.2.2.1,a.1++[a.2.1],a.2.1,j.1,j.2.1,e.1,e.2.1,e.2.2.1,()))) else M.pure (aa.next (A.1,A.2.1,A.2.2.1,d.1,d.2.1,d.2.2.1,a.1,a.2.1,j.1,j.2.1,e.1,e.2.1,e.2.2.1,())))) (aa.bm (λ(A:z2'×Int×Int×a7×Int×(Int×Int×Int×Int)×z1'×Int×z2'×List (List (Int×z1'×Int×Int))×Int×z2'×List (z1')×Unit)=>letI k:=A.2.2.2;letI b:=k.2.2.2;M.pure (aa.next (A.1,A.2.1,A.2.2.1,k.1,k.2.1,k.2.2.1,b.1,IntKind.wrap .i64 (Add.add b.2.1 1),b.2.2.1,b.2.2.2.1,b.2.2.2.2.1,b.2.2.2.2.2.1,b.2.2.2.2.2.2.1,())))) else M.bind (M.pure (aa.next (A.1,A.2.1,A.2.2.1,d.1,a.1,j.1,j.2.1,e.1,e.2.1,e.2.2.1,()))) λr=>M.pure (aa.done r)) (A.1,A.2.1,i,A.2.2.2.1,i,g,[],g.2.2.1,c.1,c.2.1,c.2.2.1,c.2.2.2.1,c.2.2.2.2.1,())) (aa.bm (λ(A:z2'×Int×Int×a7×z1'×z2'×List (List (Int×z1'×Int×Int))×Int×z2'×List (z1')×Unit)=>letI f:=A.2.2.2.2;if decide (Int.ofNat (List.length f.1)=0)=true then M.bind (M.bind (M.bind (M.pure (none,3)) (λr=>M.pure (aa.done r))) (λr=>M.pure (aa.done r))) λr=>M.pure (aa.done r) else M.ae True (M.ae (bT (Add.add (List.length f.2.2.2.2.2.1) (Add.add 0 1))) (M.ae True (M.pure (aa.next (A.1,A.2.1,A.2.2.1,A.2.2.2.1,f.2.1,f.2.2.1,f.2.2.2.1,f.2.2.2.2.1,f.2.2.2.2.2.1++[f.1],()))))))))) (aa.bm (λ(A:z2'×Int×Int×a7×z2'×List (List (Int×z1'×Int×Int))×Int×z2'×List (z1')×Unit)=>letI h:=A.2.2.2.2;M.pure (aa.next (A.1,A.2.1,IntKind.wrap .i64 (Add.add A.2.2.1 1),A.2.2.2.1,h.1,h.2.1,h.2.2.1,h.2.2.2.1,h.2.2.2.2.1,())))) else M.bind (M.pure (aa.next (c.1,c.2.1,c.2.2.1,c.2.2.2.1,c.2.2.2.2.1,()))) λr=>M.pure (aa.done r)) (x.1.1,Int.ofNat (List.length x.1.1),0,x.1,x.1.1,x.1.2.1,x.1.2.2.1,x.1.2.2.2,[],())) (aa.bm (λ(A:z2'×List (List (Int×z1'×Int×Int))×Int×z2'×List (z1')×Unit)=>M.pure (some ((A.1,A.2.1,A.2.2.1,A.2.2.2.1),A.2.2.2.2.1),0)))
def aji(ox:Int×Int×Int->M Bool)(x:a7×Int):M Bool:=
 M.bind (ox (x.2,0,IntKind.wrap .i64 (Int.ofNat (List.length x.1.1)-1))) λy=>M.pure y
def U_(ox:Int×Int×Int->M Bool)(x:a7×Int×Int):M Bool:=
 letI a:=Int.ofNat (List.length x.1.2.1);M.bind (ox (x.2.1,0,IntKind.wrap .i64 (a-1))) λy=>M.ae (y=true->(y=true/\y=true)/\(0<=x.2.1/\x.2.1<a)/\True) (M.bind (b1 y (ox (x.2.2,0,IntKind.wrap .i64 (Int.ofNat (List.length (List.getD x.1.2.1 (Int.toNat x.2.1) []))-1))) false) (λbL=>M.pure (y&&bL)))
def Nj(Ha:a7×Int×Int×Int×Int->M Bool)(ajj:Int×Int->M Int)(x:Option qe×Int×Int×Int):M Int:=
 letI b:=(Option.getD x.1 (([],[],0,[]),[])).2;letI e:=List.getD b (Int.toNat x.2.1) [];M.bind (M.ae (Option.isSome x.1=true) (M.ae (0<=x.2.1/\x.2.1<Int.ofNat (List.length b)) (M.loop (λ(A:Option qe×Int×Int×Int×Int×z1'×Int×Int×Unit)=>letI c:=A.2.2.2;letI a:=c.2.2;letI f:=a.2.2.1;if decide (f<a.2.1)=true then M.bind (M.ae (0<=f/\f<Int.ofNat (List.length a.1)) (M.ae (Option.isSome A.1=true) (M.bind (Ha ((Option.getD A.1 (([],[],0,[]),[])).1,A.2.1,List.getD a.1 (Int.toNat f) 0,A.2.2.1,c.1)) (λy=>if y=true then M.pure (aa.next (A.1,A.2.1,A.2.2.1,c.1,IntKind.wrap .i64 (Add.add c.2.1 1),a.1,a.2.1,f,())) else M.pure (aa.next (A.1,A.2.1,A.2.2.1,c.1,c.2.1,a.1,a.2.1,f,())))))) (aa.bm (λ(A:Option qe×Int×Int×Int×Int×z1'×Int×Int×Unit)=>letI g:=A.2.2.2;M.pure (aa.next (A.1,A.2.1,A.2.2.1,g.1,g.2.1,g.2.2.1,g.2.2.2.1,IntKind.wrap .i64 (Add.add g.2.2.2.2.1 1),())))) else M.bind (M.pure (aa.next (A.1,A.2.1,c.2.1,()))) λr=>M.pure (aa.done r)) (x.1,x.2.1,x.2.2.1,x.2.2.2,0,e,Int.ofNat (List.length e),0,())))) (aa.bm (λ(A:Option qe×Int×Int×Unit)=>letI d:=(Option.getD A.1 (([],[],0,[]),[])).2;M.ae (Option.isSome A.1=true) (M.ae (0<=A.2.1/\A.2.1<Int.ofNat (List.length d)) (M.bind (ajj (A.2.2.1,Int.ofNat (List.length (List.getD d (Int.toNat A.2.1) [])))) (λy=>M.pure y)))))
def ajk(x:z1'):M Bool:=
 M.bind (M.loop (λ(A:z1'×Int×Unit)=>letI c:=A.2.1;letI b:=IntKind.wrap .i64 (c-1);letI a:=Int.ofNat (List.length A.1);if decide (c<a)=true then M.ae (0<=c/\c<a) (M.ae (0<=b/\b<a) (if decide (List.getD A.1 (Int.toNat c) 0<=List.getD A.1 (Int.toNat b) 0)=true then M.bind (M.bind (M.pure false) (λr=>M.pure (aa.done r))) λr=>M.pure (aa.done r) else M.pure (aa.next (A.1,IntKind.wrap .i64 (Add.add c 1),())))) else M.bind (M.pure (aa.next ())) λr=>M.pure (aa.done r)) (x,1,())) (aa.bm (λ(A:Unit)=>M.pure true))
def ajl(x:Int×Int×Int):M Bool:=
 M.pure (decide (x.2.1<=x.1)&&decide (x.1<=x.2.2))
def U'(Dt:Int->M Bool)(Nk:Int×Int->M Bool)(x:Int×Int×Int×Int):M Bool:=
 M.bind (Dt x.1) λy=>M.bind (b1 y (Dt x.2.1) false) λbL=>M.bind (b1 (y&&bL) (Nk x.2.2) false) λdq=>M.pure (y&&bL&&dq)
def Va(ox:Int×Int×Int->M Bool)(x:Int):M Bool:=
 M.bind (ox (x,0,9)) λy=>M.pure y
def ajm(ox:Int×Int×Int->M Bool)(x:Int×Int):M Bool:=
 M.bind (ox (x.1,0,x.2)) λy=>M.pure (y&&decide (x.2<=999))
def Vb(ajn:z1'->M Bool)(ajo:z1'×(Int->M Bool)->M Bool)(Dt:Int->M Bool)(Nk:Int×Int->M Bool)(x:Int×z1'×Int×Int):M Bool:=
 M.bind (Dt x.1) λy=>letI a:=y&&decide (Int.ofNat (List.length x.2.1)<=4);M.bind (b1 a (ajo (x.2.1,Dt)) false) λbL=>M.bind (b1 (a&&bL) (ajn x.2.1) false) λdq=>M.bind (b1 (a&&bL&&dq) (Nk x.2.2) false) λgn=>M.pure (a&&bL&&dq&&gn)
def Vc(ajp:List (Int×z1'×Int×Int)×(Int×z1'×Int×Int->M Bool)->M Bool)(x:List (Int×z1'×Int×Int)×Option (Int×z1'×Int×Int->M Bool)):M Bool:=
 letI a:=decide (Int.ofNat (List.length x.1)<=4);M.bind (b1 a (ajp (x.1,Option.getD x.2 λx=>{ bY:=False,bC:=λx=>False })) false) λy=>M.pure (a&&y)
def Vd(h':a7×Int->M Bool)(xM:a7×Int×Int->M Bool)(ox:Int×Int×Int->M Bool)(x:(Int×Int×Int×Int)×Option a7):M Bool:=
 letI a:=Option.getD x.2 ([],[],0,[]);M.bind (h' (a,x.1.1)) λy=>M.bind (b1 y (xM (a,x.1.2.1,x.1.2.2.1)) false) λbL=>M.bind (b1 (y&&bL) (ox (x.1.2.2.2,0,1)) false) λdq=>M.pure (y&&bL&&dq)
def Ve(Ha:a7×Int×Int×Int×Int->M Bool)(x:(Int×Int×Int×Int)×Option Int×Option a7×Option Int):M Bool:=
 letI e:=Option.getD x.2.1 0;letI c:=decide (x.1.1≠e);letI b:=(Option.getD x.2.2.1 ([],[],0,[]),e,Option.getD x.2.2.2 0,x.1.2.1,x.1.2.2.1);letI a:=(!c)=true;letI d:=a->a/\True/\True;M.ae d (M.ae d (M.ae (a->(a/\a/\a/\a/\a/\True)/\(Ha b).bY/\True) (M.ae d (M.ae (a->(a/\True)/\True/\True) (M.ae (a->(a/\a)/\True/\True) (M.ae (True/\(c=false->a)) (M.pure (c||decide (M.val (Ha b) false=decide (x.1.2.2.2=1))))))))))
def Vf(ox:Int×Int×Int->M Bool)(ht:z1'×Int->M Bool)(x:a7×Int×Int×Int×Int):M Bool:=
 letI e:=x.2.2.2;letI c:=List.getD x.1.2.1 (Int.toNat e.1) [];letI b:=List.getD x.1.1 (Int.toNat x.2.1) (0,0,0,0);letI a:=List.getD c (Int.toNat e.2) (0,[],0,0);letI d:=decide (b.1=a.1);M.ae (0<=x.2.1/\x.2.1<Int.ofNat (List.length x.1.1)) (M.ae (0<=e.1/\e.1<Int.ofNat (List.length x.1.2.1)) (M.ae (0<=e.2/\e.2<Int.ofNat (List.length c)) (M.bind (b1 d (ht (a.2.1,b.2.1)) false) (λy=>M.bind (b1 (d&&y) (ox (x.2.2.1,a.2.2.1,IntKind.wrap .i64 (Add.add a.2.2.2 x.1.2.2.1))) false) λbL=>M.pure (d&&y&&bL)))))
def Vg(x:Int×Int):M Int:=
 if decide (x.1=x.2)=true then M.pure 1 else if decide (x.1=0)=true then M.pure 2 else M.pure 3
def Nl(Dr:z2'×List (List (Int×z1'×Int×Int))×Int×z2'->M Int)(x:z2'×List (List (Int×z1'×Int×Int))×Int×z2'):M Bool:=
 if (decide (Int.ofNat (List.length x.1) > 40)||decide (Int.ofNat (List.length x.2.1) > 40)||decide (Int.ofNat (List.length x.2.2.2) > 60))=true then M.pure true else M.bind (M.loop (λ(A:Int×a7×Unit)=>letI e:=A.1<Int.ofNat (List.length A.2.1.2.1);if decide e=true then M.bind (M.ae (0<=A.1/\e) (if decide (Int.ofNat (List.length (List.getD A.2.1.2.1 (Int.toNat A.1) [])) > 20)=true then M.bind (M.bind (M.bind (M.pure true) (λr=>M.pure (aa.done r))) (λr=>M.pure (aa.done r))) λr=>M.pure (aa.done r) else M.loop (λ(A:Int×Int×a7×Unit)=>letI g:=A.2.2.1;letI c:=0<=A.1/\A.1<Int.ofNat (List.length g.2.1);letI a:=List.getD g.2.1 (Int.toNat A.1) [];letI f:=A.2.1<Int.ofNat (List.length a);M.ae c (if decide f=true then M.ae c (M.ae (0<=A.2.1/\f) (if decide (Int.ofNat (List.length (List.getD a (Int.toNat A.2.1) (0,[],0,0)).2.1) > 20)=true then M.bind (M.bind (M.bind (M.bind (M.pure true) (λr=>M.pure (aa.done r))) (λr=>M.pure (aa.done r))) (λr=>M.pure (aa.done r))) λr=>M.pure (aa.done r) else M.pure (aa.next (A.1,IntKind.wrap .i64 (Add.add A.2.1 1),g,())))) else M.bind (M.pure (aa.next (A.1,g,()))) λr=>M.pure (aa.done r))) (A.1,0,A.2.1,()))) (aa.bm (λ(A:Int×a7×Unit)=>M.pure (aa.next (IntKind.wrap .i64 (Add.add A.1 1),A.2.1,())))) else M.bind (M.pure (aa.next (A.2.1,()))) λr=>M.pure (aa.done r)) (0,x,())) (aa.bm (λ(A:a7×Unit)=>M.bind (Dr A.1) λy=>if decide (y≠0)=true then M.pure false else M.bind (M.loop (λ(A:Int×a7×Unit)=>letI d:=(List.getD A.2.1.1 (Int.toNat A.1) (0,0,0,0)).2.2;letI b:=A.1<Int.ofNat (List.length A.2.1.1);if decide b=true then M.ae (0<=A.1/\b) (M.ae (0<=A.1/\b) (if decide (IntKind.wrap .i64 (d.2-d.1)>=50)=true then M.bind (M.bind (M.pure true) (λr=>M.pure (aa.done r))) λr=>M.pure (aa.done r) else M.pure (aa.next (IntKind.wrap .i64 (Add.add A.1 1),A.2.1,())))) else M.bind (M.pure (aa.next (A.2.1,()))) λr=>M.pure (aa.done r)) (0,A.1,())) (aa.bm (λ(A:a7×Unit)=>M.pure (decide (Int.ofNat (List.length A.1.1) > 6)||decide (Int.ofNat (List.length A.1.2.1) > 4)||decide (Int.ofNat (List.length A.1.2.2.2) > 10))))))
def ajq(x:Unit):M a7:=
 M.pure ([(1,2,300,310),(1,3,305,305),(2,1,50,60),(1,2,320,330)],[[(1,[2,3],300,306),(2,[1],40,58)],[(1,[2],310,326)]],5,[(0,1,0,0)])
abbrev db:Type:=Int×Int×Int×Int×z1'
abbrev dr:Type:=z1'×(Int×Int)×Int×Int×Int
abbrev Du:Type:=Int×Int×Int
abbrev br:Type:=a7×z1'×List db×List dr×List Du×Int
abbrev Sto:Type:=br×z4'×z5'
def Vh(ajr:br×Bool->M (Int×Int))(x:br):M (Int×Int):=
 M.bind (ajr (x,true)) λy=>M.pure y
def Vi(oy:br×Bool->M (Option Sto×Int))(ajs:Option Sto->Prop)(ajt:Option Sto->List (z1'))(Nn:Option Sto×z1'->M (z3'×Bool))(aju:Option Sto×z3'->M Bool)(No:Option Sto×z3'->M Int)(x:br):M (Int×Int):=
 M.bind (oy (x,true)) λy=>if decide (y.2≠0)=true then M.pure (0,y.2) else M.ae (ajs y.1) (M.bind (jA (λ(A:Option (br×z4'×z5')×Int×Unit) (y:z1')=>M.bind (M.bind (Nn (A.1,y)) (λbL=>M.bind (b1 (!(!bL.2)) (aju (A.1,bL.1)) false) λdq=>if (!bL.2||!dq)=true then M.pure (cQ.normal,A.1,A.2.1,()) else M.bind (No (A.1,bL.1)) λgn=>if (decide (A.2.1=-1)||decide (gn<A.2.1))=true then M.pure (cQ.normal,A.1,gn,()) else M.pure (cQ.normal,A.1,A.2.1,()))) λp=>M.pure (p.1,p.2.1,p.2.2.1,())) (ajt y.1) (y.1,-1,())) (λp=>letI a:=decide (p.2.2.1=-1)=true;r4 (if a then M.pure (0,3) else M.pure (p.2.2.1,0)) (λid=>if id=0 then if a then M.pure (0,3) else M.pure (p.2.2.1,0) else M.fail) M.fail p.1))
def Vj(oy:br×Bool->M (Option Sto×Int))(Dv:br×Int->M Bool)(Np:z1'×Int×Unit->M (z1'×Unit))(z8:Option Sto×z1'->M Bool)(x:br×Int):M (z1'×Int):=
 M.ae (Dv x).bY (M.ae (oy (x.1,M.val (Dv x) false)).bY (if decide ((M.val (oy (x.1,M.val (Dv x) false)) (none,0)).2≠0)=true then M.pure ([],(M.val (oy (x.1,M.val (Dv x) false)) (none,0)).2) else M.bind (Np ([-1],Int.ofNat (List.length x.1.2.2.2.1),())) λy=>M.bind (M.loop (λ(A:Int×Option ((a7×z1'×List db×List dr×z3'×Int)×z4'×z5')×Int×Int×z1'×z1'×Unit)=>letI b:=A.2.2.2;letI a:=List.set b.2.2.1 (Int.toNat A.1) b.1;if decide (b.1<A.2.2.1)=true then M.bind (M.ae (0<=A.1/\A.1<Int.ofNat (List.length b.2.2.1)) (M.bind (z8 (A.2.1,a)) (λy=>if y=true then M.ae (bT (Add.add (List.length b.2.1) (Add.add 0 1))) (M.pure (aa.next (A.1,A.2.1,A.2.2.1,b.1,b.2.1++[b.1],a,()))) else M.pure (aa.next (A.1,A.2.1,A.2.2.1,b.1,b.2.1,a,()))))) (aa.bm (λ(A:Int×Option ((a7×z1'×List db×List (z1'×(Int×Int)×Int×Int×Int)×z3'×Int)×z4'×z5')×Int×Int×z1'×z1'×Unit)=>M.pure (aa.next (A.1,A.2.1,A.2.2.1,IntKind.wrap .i64 (Add.add A.2.2.2.1 1),A.2.2.2.2.1,A.2.2.2.2.2.1,())))) else M.bind (M.pure (aa.next (b.2.1,()))) λr=>M.pure (aa.done r)) (x.2,(M.val (oy (x.1,M.val (Dv x) false)) (none,0)).1,Int.ofNat (List.length x.1.2.2.1),0,[],y.1,())) (aa.bm (λ(A:z1'×Unit)=>M.pure (A.1,0)))))
def Vk(Ds:z2'×List (List (Int×z1'×Int×Int))×Int×z2'->M Int)(ajv:br->M Bool)(x:br):M Int:=
 M.bind (Ds x.1) λy=>if decide (y≠0)=true then M.pure y else M.bind (ajv x) λy=>if (!y)=true then M.pure 80 else M.pure 0
def Vl(Dr:z2'×List (List (Int×z1'×Int×Int))×Int×z2'->M Int)(nN:Int×Int×Int->M Bool)(Vm:br×Int×Int×Int×Int×z1'->M Bool)(ajw:z1'×(Int×Int)×Int×Int×Int->M Bool)(x:br):M Int:=
 letI a:=decide (Int.ofNat (List.length x.2.1)≠Int.ofNat (List.length x.1.1))||decide (Int.ofNat (List.length x.2.2.1) > 8)||decide (Int.ofNat (List.length x.2.2.2.1) > 6)||decide (Int.ofNat (List.length x.2.2.2.2.1) > 8);M.bind (Dr x.1) λy=>if decide (y≠0)=true then M.pure y else M.bind (b1 (!a) (nN (x.2.2.2.2.2,0,99)) false) λy=>if (a||!y)=true then M.pure 80 else M.bind (M.loop (λ(A:Int×(a7×z1'×List (Int×Int×Int×Int×z1')×List dr×z3'×Int)×Unit)=>letI g:=A.1<Int.ofNat (List.length A.2.1.2.1);if decide g=true then M.ae (0<=A.1/\g) (M.bind (nN (List.getD A.2.1.2.1 (Int.toNat A.1) 0,0,10)) (λy=>if (!y)=true then M.bind (M.bind (M.pure 80) (λr=>M.pure (aa.done r))) λr=>M.pure (aa.done r) else M.pure (aa.next (IntKind.wrap .i64 (Add.add A.1 1),A.2.1,())))) else M.bind (M.pure (aa.next (A.2.1,()))) λr=>M.pure (aa.done r)) (0,x,())) (aa.bm (λ(A:(a7×z1'×List db×List dr×z3'×Int)×Unit)=>M.bind (M.loop (λ(A:Int×(a7×z1'×List db×List dr×z3'×Int)×Unit)=>letI f:=A.1<Int.ofNat (List.length A.2.1.2.2.1);letI c:=(A.2.1,List.getD A.2.1.2.2.1 (Int.toNat A.1) (0,0,0,0,[]));if decide f=true then M.ae (0<=A.1/\f) (M.ae (Vm c).bY (if (!(M.val (Vm c) false))=true then M.bind (M.bind (M.pure 80) (λr=>M.pure (aa.done r))) λr=>M.pure (aa.done r) else M.pure (aa.next (IntKind.wrap .i64 (Add.add A.1 1),A.2.1,())))) else M.bind (M.pure (aa.next (A.2.1,()))) λr=>M.pure (aa.done r)) (0,A.1,())) (aa.bm (λ(A:(a7×z1'×List db×List (z1'×(Int×Int)×Int×Int×Int)×z3'×Int)×Unit)=>M.bind (M.loop (λ(A:Int×(a7×z1'×List db×List (z1'×(Int×Int)×Int×Int×Int)×z3'×Int)×Unit)=>letI e:=A.1<Int.ofNat (List.length A.2.1.2.2.2.1);if decide e=true then M.ae (0<=A.1/\e) (M.bind (ajw (List.getD A.2.1.2.2.2.1 (Int.toNat A.1) ([],(0,0),0,0,0))) (λy=>if (!y)=true then M.bind (M.bind (M.pure 80) (λr=>M.pure (aa.done r))) λr=>M.pure (aa.done r) else M.pure (aa.next (IntKind.wrap .i64 (Add.add A.1 1),A.2.1,())))) else M.bind (M.pure (aa.next (A.2.1,()))) λr=>M.pure (aa.done r)) (0,A.1,())) (aa.bm (λ(A:(br)×Unit)=>M.bind (M.loop (λ(A:Int×(a7×z1'×List db×List dr×z3'×Int)×Unit)=>letI d:=A.1<Int.ofNat (List.length A.2.1.2.2.2.2.1);letI b:=List.getD A.2.1.2.2.2.2.1 (Int.toNat A.1) (0,0,0);if decide d=true then M.ae (0<=A.1/\d) (M.bind (nN (b.1,0,99)) (λy=>M.bind (b1 (!(!y)) (nN (b.2.1,0,IntKind.wrap .i64 (Int.ofNat (List.length A.2.1.1.1)-1))) false) λbL=>M.bind (b1 (!(!y||!bL)) (nN (b.2.2,1,10)) false) λdq=>if (!y||!bL||!dq)=true then M.bind (M.bind (M.pure 80) (λr=>M.pure (aa.done r))) λr=>M.pure (aa.done r) else M.pure (aa.next (IntKind.wrap .i64 (Add.add A.1 1),A.2.1,())))) else M.bind (M.pure (aa.next ())) λr=>M.pure (aa.done r)) (0,A.1,())) (aa.bm (λ(A:Unit)=>M.pure 0))))))))
def Vn(oy:br×Bool->M (Option Sto×Int))(z8:Option Sto×z1'->M Bool)(z_:br×z1'->M Bool)(lL:Option Sto×z1'->M Int)(x:br×z1'):M (Int×Int):=
 M.ae (z_ x).bY (M.ae (oy (x.1,M.val (z_ x) false)).bY (if decide ((M.val (oy (x.1,M.val (z_ x) false)) (none,0)).2≠0)=true then M.pure (0,(M.val (oy (x.1,M.val (z_ x) false)) (none,0)).2) else M.bind (z8 ((M.val (oy (x.1,M.val (z_ x) false)) (none,0)).1,x.2)) λy=>if (!y)=true then M.pure (0,3) else M.bind (lL ((M.val (oy (x.1,M.val (z_ x) false)) (none,0)).1,x.2)) λy=>M.pure (y,0)))
def Vo(oy:br×Bool->M (Option Sto×Int))(ajx:Option Sto->M (z1'))(lL:Option Sto×z1'->M Int)(x:br×Bool):M (Int×Int):=
 M.bind (oy x) λy=>if decide (y.2≠0)=true then M.pure (0,y.2) else M.bind (ajx y.1) λbL=>M.bind (lL (y.1,bL)) λy=>M.pure (y,0)
def Nq(Dw:br->M Int)(Hb:a7×Int->M ((Int×Int)×Int))(vu:a7×Int×Int×Int->M (Int×Int))(z':z4'×Int->M (z4'))(x:br×Bool):M (Option Sto×Int):=
 letI eR:=x.1.1.2;letI f1:=x.1.2.2;M.bind (Dw x.1) λy=>if decide (y≠0)=true then M.pure (none,y) else if (!x.2)=true then M.pure (none,1) else M.bind (if decide (Int.ofNat (List.length x.1.2.1) > 0)=true then M.bind (Hb (x.1.1,0)) λy=>if decide (y.2≠0)=true then M.bind (M.pure (none,y.2)) λr=>M.pure (aa.done r) else M.pure (aa.next (x.1,[],x.1.1.1,eR.1,eR.2.1,eR.2.2,x.1.2.1,f1.1,f1.2.1,f1.2.2.1,f1.2.2.2,())) else M.pure (aa.next (x.1,[],x.1.1.1,eR.1,eR.2.1,eR.2.2,x.1.2.1,f1.1,f1.2.1,f1.2.2.1,f1.2.2.2,()))) (aa.bm (λ(A:(a7×z1'×List db×List (z1'×(Int×Int)×Int×Int×Int)×z3'×Int)×z5'×z2'×List (List (Int×z1'×Int×Int))×Int×z2'×z1'×List db×List (z1'×(Int×Int)×Int×Int×Int)×z3'×Int×Unit)=>letI t:=A.2.2.2.2.2;M.bind (M.loop (λ(A:Int×Int×(a7×z1'×List db×List dr×z3'×Int)×z5'×z2'×List (List (Int×z1'×Int×Int))×Int×z2'×z1'×List db×List (z1'×(Int×Int)×Int×Int×Int)×z3'×Int×Unit)=>letI c1:=A.2.2;letI h:=c1.2.2.2.2;letI g1:=h.2.2.2;if decide (A.2.1<A.1)=true then M.bind (M.loop (λ(A:Int×Int×Int×List (List (Int×z1'×Int×Int))×Int×Int×(a7×z1'×List db×List (z1'×(Int×Int)×Int×Int×Int)×z3'×Int)×z5'×z2'×List (List (Int×z1'×Int×Int))×Int×z2'×z1'×List db×List dr×z3'×Int×Unit)=>letI i1:=A.2.2.2;letI j:=i1.2.2;letI c:=j.2.2.2;letI o:=c.2.2.2.2;if decide (j.1<i1.2.1)=true then M.bind (M.ae (0<=j.1/\j.1<Int.ofNat (List.length i1.1)) (M.loop (λ(A:Int×Int×Int×Int×List (List (Int×z1'×Int×Int))×Int×Int×Int×Int×(a7×z1'×List db×List dr×z3'×Int)×z5'×z2'×List (List (Int×z1'×Int×Int))×Int×z2'×z1'×List (Int×Int×Int×Int×z1')×List dr×z3'×Int×Unit)=>letI m1:=A.2.2;letI k:=m1.2.2;letI o1:=k.2.2;letI a:=o1.2.2;letI w:=a.2.2.2;letI f:=w.2.2.2;letI d1:=f.2.2.2;if decide (a.1<o1.2.1)=true then M.bind (M.bind (vu (a.2.1.1,A.1,A.2.1,a.1)) (λy=>if decide (y.1=1)=true then M.ae True (M.ae (True/\True/\True) (M.ae True (M.pure (aa.next (A.1,A.2.1,m1.1,m1.2.1,k.1,k.2.1,o1.1,o1.2.1,a.1,a.2.1,vt a.2.2.1 (A.1,A.2.1,a.1) (IntKind.wrap .i64 (Add.add (Option.getD (Option.map (λx=>x.2) (List.find? (λp=>decide (A.1=p.1.1)&&(decide (A.2.1=p.1.2.1)&&decide (a.1=p.1.2.2))) a.2.2.1)) 0) 1)),w.1,w.2.1,w.2.2.1,f.1,f.2.1,f.2.2.1,d1.1,d1.2.1,d1.2.2.1,()))))) else M.pure (aa.next (A.1,A.2.1,m1.1,m1.2.1,k.1,k.2.1,o1.1,o1.2.1,a.1,a.2.1,a.2.2.1,w.1,w.2.1,w.2.2.1,f.1,f.2.1,f.2.2.1,d1.1,d1.2.1,d1.2.2.1,())))) (aa.bm (λ(A:Int×Int×Int×Int×List (List (Int×z1'×Int×Int))×Int×Int×Int×Int×br×z5'×z2'×List (List (Int×z1'×Int×Int))×Int×z2'×z1'×List db×List dr×z3'×Int×Unit)=>letI e1:=A.2.2.2.2.2;letI g:=e1.2.2.2.2;letI z:=g.2.2.2.2.2;M.pure (aa.next (A.1,A.2.1,A.2.2.1,A.2.2.2.1,A.2.2.2.2.1,e1.1,e1.2.1,e1.2.2.1,IntKind.wrap .i64 (Add.add e1.2.2.2.1 1),g.1,g.2.1,g.2.2.1,g.2.2.2.1,g.2.2.2.2.1,z.1,z.2.1,z.2.2.1,z.2.2.2.1,z.2.2.2.2.1,z.2.2.2.2.2.1,())))) else M.bind (M.pure (aa.next (A.1,m1.1,m1.2.1,k.1,k.2.1,o1.1,a.2.1,a.2.2.1,w.1,w.2.1,w.2.2.1,f.1,f.2.1,f.2.2.1,d1.1,d1.2.1,d1.2.2.1,()))) λr=>M.pure (aa.done r)) (A.1,j.1,A.2.1,A.2.2.1,i1.1,i1.2.1,j.1,Int.ofNat (List.length (List.getD i1.1 (Int.toNat j.1) [])),0,j.2.1,j.2.2.1,c.1,c.2.1,c.2.2.1,c.2.2.2.1,o.1,o.2.1,o.2.2.1,o.2.2.2.1,o.2.2.2.2.1,()))) (aa.bm (λ(A:Int×Int×Int×List (List (Int×z1'×Int×Int))×Int×Int×(a7×z1'×List db×List dr×z3'×Int)×z5'×z2'×List (List (Int×z1'×Int×Int))×Int×z2'×z1'×List db×List (z1'×(Int×Int)×Int×Int×Int)×z3'×Int×Unit)=>letI h1:=A.2.2.2.2;letI i:=h1.2.2.2.2;letI aO:=i.2.2.2.2;M.pure (aa.next (A.1,A.2.1,A.2.2.1,A.2.2.2.1,h1.1,IntKind.wrap .i64 (Add.add h1.2.1 1),h1.2.2.1,h1.2.2.2.1,i.1,i.2.1,i.2.2.1,i.2.2.2.1,aO.1,aO.2.1,aO.2.2.1,aO.2.2.2.1,aO.2.2.2.2.1,())))) else M.bind (M.pure (aa.next (A.2.1,A.2.2.1,j.2.1,j.2.2.1,c.1,c.2.1,c.2.2.1,c.2.2.2.1,o.1,o.2.1,o.2.2.1,o.2.2.2.1,o.2.2.2.2.1,()))) λr=>M.pure (aa.done r)) (A.2.1,A.1,A.2.1,c1.1.1.2.1,Int.ofNat (List.length c1.1.1.2.1),0,c1.1,c1.2.1,c1.2.2.1,c1.2.2.2.1,h.1,h.2.1,h.2.2.1,g1.1,g1.2.1,g1.2.2.1,g1.2.2.2.1,())) (aa.bm (λ(A:Int×Int×(a7×z1'×List db×List (z1'×(Int×Int)×Int×Int×Int)×z3'×Int)×z5'×z2'×List (List (Int×z1'×Int×Int))×Int×z2'×z1'×List db×List (z1'×(Int×Int)×Int×Int×Int)×z3'×Int×Unit)=>letI jw:=A.2.2.2;letI m:=jw.2.2.2;M.pure (aa.next (A.1,IntKind.wrap .i64 (Add.add A.2.1 1),A.2.2.1,jw.1,jw.2.1,jw.2.2.1,m.1,m.2.1,m.2.2.1,m.2.2.2.1,m.2.2.2.2.1,m.2.2.2.2.2.1,m.2.2.2.2.2.2.1,())))) else M.bind (M.pure (aa.next (c1.1,c1.2.1,c1.2.2.1,c1.2.2.2.1,h.1,h.2.1,h.2.2.1,g1.1,g1.2.1,g1.2.2.1,g1.2.2.2.1,()))) λr=>M.pure (aa.done r)) (Int.ofNat (List.length A.1.2.1),0,A.1,A.2.1,A.2.2.1,A.2.2.2.1,A.2.2.2.2.1,t.1,t.2.1,t.2.2.1,t.2.2.2.1,t.2.2.2.2.1,t.2.2.2.2.2.1,())) (aa.bm (λ(A:(a7×z1'×List (Int×Int×Int×Int×z1')×List dr×z3'×Int)×z5'×z2'×List (List (Int×z1'×Int×Int))×Int×z2'×z1'×List (Int×Int×Int×Int×z1')×List dr×z3'×Int×Unit)=>letI u:=A.2.2.2.2.2;M.bind (M.loop (λ(A:z1'×Int×Int×(a7×z1'×List db×List dr×z3'×Int)×z5'×z2'×List (List (Int×z1'×Int×Int))×Int×z2'×z1'×List (Int×Int×Int×Int×z1')×List dr×z3'×Int×z4'×Unit)=>letI l:=A.2.2;letI xN:=l.2.2.2;letI n:=List.getD A.1 (Int.toNat l.1) 0;letI d:=xN.2.2.2;letI bV:=d.2.2.2.2;if decide (l.1<A.2.1)=true then M.ae (0<=l.1/\l.1<Int.ofNat (List.length A.1)) (M.ae True (M.ae (z' ([(l.1,0)],n)).bY (M.ae (bT (Add.add (List.length bV.2.2.1) (List.length (M.val (z' ([(l.1,0)],n)) [])))) (M.ae True (M.pure (aa.next (A.1,A.2.1,IntKind.wrap .i64 (Add.add l.1 1),l.2.1,l.2.2.1,xN.1,xN.2.1,xN.2.2.1,d.1,d.2.1,d.2.2.1,d.2.2.2.1,bV.1,bV.2.1,bV.2.2.1++M.val (z' ([(l.1,0)],n)) [],()))))))) else M.bind (M.pure (aa.next (l.2.1,l.2.2.1,xN.1,xN.2.1,xN.2.2.1,d.1,d.2.1,d.2.2.1,d.2.2.2.1,bV.1,bV.2.1,bV.2.2.1,()))) λr=>M.pure (aa.done r)) (A.1.2.1,Int.ofNat (List.length A.1.2.1),0,A.1,A.2.1,A.2.2.1,A.2.2.2.1,A.2.2.2.2.1,u.1,u.2.1,u.2.2.1,u.2.2.2.1,u.2.2.2.2.1,u.2.2.2.2.2.1,[],())) (aa.bm (λ(A:(a7×z1'×List db×List (z1'×(Int×Int)×Int×Int×Int)×z3'×Int)×z5'×z2'×List (List (Int×z1'×Int×Int))×Int×z2'×z1'×List db×List dr×z3'×Int×z4'×Unit)=>letI q:=A.2.2.2.2.2;M.bind (M.loop (λ(A:z3'×Int×Int×z5'×z2'×List (List (Int×z1'×Int×Int))×Int×z2'×z1'×List (Int×Int×Int×Int×z1')×List dr×z3'×Int×z4'×Unit)=>letI s:=A.2.2;letI dH:=s.2.2.2;letI e:=dH.2.2;letI dt:=e.2.2.2.2;letI b:=List.getD A.1 (Int.toNat s.1) (0,0,0);letI c7:=(b.2.1,b.1);if decide (s.1<A.2.1)=true then M.ae (0<=s.1/\s.1<Int.ofNat (List.length A.1)) (M.ae True (M.ae (z' ([c7],b.2.2)).bY (M.ae (bT (Add.add (List.length dt.2.2.1) (List.length (M.val (z' ([c7],b.2.2)) [])))) (M.ae True (M.pure (aa.next (A.1,A.2.1,IntKind.wrap .i64 (Add.add s.1 1),s.2.1,s.2.2.1,dH.1,dH.2.1,e.1,e.2.1,e.2.2.1,e.2.2.2.1,dt.1,dt.2.1,dt.2.2.1++M.val (z' ([c7],b.2.2)) [],()))))))) else M.bind (M.pure (aa.next (s.2.1,s.2.2.1,dH.1,dH.2.1,e.1,e.2.1,e.2.2.1,e.2.2.2.1,dt.1,dt.2.1,dt.2.2.1,()))) λr=>M.pure (aa.done r)) (A.1.2.2.2.2.1,Int.ofNat (List.length A.1.2.2.2.2.1),0,A.2.1,A.2.2.1,A.2.2.2.1,A.2.2.2.2.1,q.1,q.2.1,q.2.2.1,q.2.2.2.1,q.2.2.2.2.1,q.2.2.2.2.2.1,q.2.2.2.2.2.2.1,())) (aa.bm (λ(A:z5'×z2'×List (List (Int×z1'×Int×Int))×Int×z2'×z1'×List (Int×Int×Int×Int×z1')×List dr×z3'×Int×z4'×Unit)=>letI v:=A.2.2.2.2.2;M.pure (some (((A.2.1,A.2.2.1,A.2.2.2.1,A.2.2.2.2.1),v.1,v.2.1,v.2.2.1,v.2.2.2.1,v.2.2.2.2.1),v.2.2.2.2.2.1,A.1),0)))))))))
def Nr(Hc:(z1'×(Int×Int)×Int×Int×Int)×Int×Int×Int×Int×z1'->M Int)(x:Option Sto×z1'):M (z3'×Bool):=
 M.bind (M.loop (λ(A:Option ((a7×z1'×List db×List dr×z3'×Int)×z4'×z5')×z1'×Int×Int×z3'×Unit)=>letI l:=A.2;letI g:=Option.isSome A.1=true;letI e:=l.2.2;letI j:=Int.toNat e.1;letI b:=List.getD l.1 j 0;letI a:=(Option.getD A.1 ((([],[],0,[]),[],[],[],[],0),[],[])).1.2.2;letI f:=List.getD a.1 (Int.toNat b) (0,0,0,0,[]);letI d:=List.getD a.2.1 j ([],(0,0),0,0,0);if decide (e.1<l.2.1)=true then M.bind (M.ae (0<=e.1/\e.1<Int.ofNat (List.length l.1)) (if decide (List.getD l.1 j (0:Int)<0)=true then M.pure (aa.next (A.1,l.1,l.2.1,e.1,e.2.1,())) else M.ae g (M.ae (0<=e.1/\e.1<Int.ofNat (List.length a.2.1)) (M.ae g (M.ae (0<=b/\b<Int.ofNat (List.length a.1)) (M.bind (M.bind (Hc (d,f)) (λy=>if decide (y=0)=true then M.bind (M.bind (M.bind (M.bind (M.pure ([],false)) (λr=>M.pure (aa.done r))) (λr=>M.pure (aa.done r))) (λr=>M.pure (aa.done r))) λr=>M.pure (aa.done r) else if decide (y=2)=true then M.ae g (M.pure (aa.next (A.1,IntKind.wrap .i64 (d.2.2.2.1-a.2.2.2),l.1,l.2.1,e.1,e.2.1,f,()))) else M.pure (aa.next (A.1,d.2.2.2.1,l.1,l.2.1,e.1,e.2.1,f,())))) (aa.bm (λ(A:Option ((a7×z1'×List db×List (z1'×(Int×Int)×Int×Int×Int)×z3'×Int)×z4'×z5')×Int×z1'×Int×Int×z3'×(Int×Int×Int×Int×z1')×Unit)=>letI h:=A.2.2.2.2;if decide (A.2.1<0)=true then M.bind (M.bind (M.bind (M.pure ([],false)) (λr=>M.pure (aa.done r))) (λr=>M.pure (aa.done r))) λr=>M.pure (aa.done r) else M.loop (λ(A:Option ((a7×z1'×List db×List dr×z3'×Int)×z4'×z5')×Int×z1'×Int×Int×z1'×Int×Int×z3'×(Int×Int×Int×Int×z1')×Unit)=>letI k:=A.2.2.2;letI c:=k.2.2;letI i:=c.2.2;if decide (i.1<c.2.1)=true then M.ae (0<=i.1/\i.1<Int.ofNat (List.length c.1)) (M.ae (bT (Add.add (List.length i.2.1) (Add.add 0 1))) (M.pure (aa.next (A.1,A.2.1,A.2.2.1,k.1,k.2.1,c.1,c.2.1,IntKind.wrap .i64 (Add.add i.1 1),i.2.1++[(i.2.2.1.2.2.2.1,List.getD c.1 (Int.toNat i.1) 0,A.2.1)],i.2.2.1,())))) else M.bind (M.pure (aa.next (A.1,A.2.2.1,k.1,k.2.1,i.2.1,()))) λr=>M.pure (aa.done r)) (A.1,A.2.1,A.2.2.1,A.2.2.2.1,h.1,h.2.2.1.2.2.2.2,Int.ofNat (List.length h.2.2.1.2.2.2.2),0,h.2.1,h.2.2.1,()))))))))) (aa.bm (λ(A:Option (br×z4'×z5')×z1'×Int×Int×z3'×Unit)=>M.pure (aa.next (A.1,A.2.1,A.2.2.1,IntKind.wrap .i64 (Add.add A.2.2.2.1 1),A.2.2.2.2.1,())))) else M.bind (M.pure (aa.next (e.2.1,()))) λr=>M.pure (aa.done r)) (x.1,x.2,Int.ofNat (List.length x.2),0,[],())) (aa.bm (λ(A:z3'×Unit)=>M.pure (A.1,true)))
def Ns(Hd:Option Sto×(Int×Int)×Int×Int×Int->M Bool)(x:Option Sto×z3'):M Bool:=
 M.bind (M.loop (λ(A:Option ((a7×z1'×List db×List dr×z3'×Int)×z4'×z5')×z3'×Int×Int×Unit)=>letI b:=A.2.2.2.1;if decide (b<A.2.2.1)=true then M.bind (M.ae (0<=b/\b<Int.ofNat (List.length A.2.1)) (M.bind (M.ae (Option.isSome A.1=true) (M.loop (λ(A:Option ((br)×z4'×z5')×Bool×z3'×Int×Int×Int×Int×(Int×Int×Int)×Unit)=>letI a:=A.2.2.2.2;if decide (a.2.2.1<a.2.1)=true then M.bind (b1 (!A.2.1) (Hd (A.1,(a.2.2.1,0),a.2.2.2.1)) false) λy=>M.pure (aa.next (A.1,A.2.1||y,A.2.2.1,A.2.2.2.1,a.1,a.2.1,IntKind.wrap .i64 (Add.add a.2.2.1 1),a.2.2.2.1,())) else M.bind (M.pure (aa.next (A.1,A.2.1,A.2.2.1,A.2.2.2.1,a.1,()))) λr=>M.pure (aa.done r)) (A.1,false,A.2.1,A.2.2.1,b,Int.ofNat (List.length (Option.getD A.1 ((([],[],0,[]),[],[],[],[],0),[],[])).1.2.1),0,List.getD A.2.1 (Int.toNat b) (0,0,0),()))) (aa.bm (λ(A:Option ((a7×z1'×List db×List (z1'×(Int×Int)×Int×Int×Int)×z3'×Int)×z4'×z5')×Bool×z3'×Int×Int×Unit)=>if (!A.2.1)=true then M.bind (M.bind (M.bind (M.pure false) (λr=>M.pure (aa.done r))) (λr=>M.pure (aa.done r))) λr=>M.pure (aa.done r) else M.pure (aa.next (A.1,A.2.2.1,A.2.2.2.1,A.2.2.2.2.1,())))))) (aa.bm (λ(A:Option ((a7×z1'×List (Int×Int×Int×Int×z1')×List dr×z3'×Int)×z4'×z5')×z3'×Int×Int×Unit)=>M.pure (aa.next (A.1,A.2.1,A.2.2.1,IntKind.wrap .i64 (Add.add A.2.2.2.1 1),())))) else M.bind (M.pure (aa.next ())) λr=>M.pure (aa.done r)) (x.1,x.2,Int.ofNat (List.length x.2),0,())) (aa.bm (λ(A:Unit)=>M.pure true))
def Nt(Np:z1'×Int×Unit->M (z1'×Unit))(Nu:Option Sto×z3'×Int×z4'×z1'×Unit->M (Bool×z4'×z1'×Unit))(x:Option Sto×z3'):M Int:=
 M.ae (Option.isSome x.1=true) (M.bind (Np ([-1],Int.ofNat (List.length (Option.getD x.1 ((([],[],0,[]),[],[],[],[],0),[],[])).2.1),())) (λy=>M.bind (M.loop (λ(A:Option ((a7×z1'×List db×List (z1'×(Int×Int)×Int×Int×Int)×z3'×Int)×z4'×z5')×z3'×Int×Int×Int×z1'×Unit)=>letI a:=A.2.2.2;if decide (a.2.1<a.1)=true then M.bind (M.bind (Nu (A.1,A.2.1,a.2.1,[],a.2.2.1,())) (λy=>if (!y.1)=true then M.pure (aa.next (A.1,A.2.1,IntKind.wrap .i64 (Add.add A.2.2.1 1),a.1,a.2.1,y.2.2.1,())) else M.pure (aa.next (A.1,A.2.1,A.2.2.1,a.1,a.2.1,y.2.2.1,())))) (aa.bm (λ(A:Option ((a7×z1'×List (Int×Int×Int×Int×z1')×List dr×z3'×Int)×z4'×z5')×z3'×Int×Int×Int×z1'×Unit)=>M.pure (aa.next (A.1,A.2.1,A.2.2.1,A.2.2.2.1,IntKind.wrap .i64 (Add.add A.2.2.2.2.1 1),A.2.2.2.2.2.1,())))) else M.bind (M.pure (aa.next (A.2.2.1,()))) λr=>M.pure (aa.done r)) (x.1,x.2,0,Int.ofNat (List.length x.2),0,y.1,())) (aa.bm (λ(A:Int×Unit)=>M.pure A.1))))
def Vp(kq:Int×Int×Int->M Bool)(x:br×Int):M Bool:=
 M.bind (kq (x.2,0,IntKind.wrap .i64 (Int.ofNat (List.length x.1.2.2.2.1)-1))) λy=>M.pure y
def ajy(xO:Int×Int->M (Int×Int))(x:z1'×Int):M (z1'):=
 M.bind (if decide (x.2<0)=true then M.ae False (M.ae False (M.pure (aa.next (x.1,x.2,())))) else M.pure (aa.next (x.1,x.2,()))) (aa.bm (λ(A:z1'×Int×Unit)=>M.bind (xO (IntKind.wrap .u64 (Int.ofNat (List.length A.1)),IntKind.wrap .u64 A.2.1)) λy=>M.bind (if (decide (y.1 > 0)||decide (y.2 > 9223372036854775807))=true then M.ae False (M.ae False (M.pure (aa.next (A.1,y.2,())))) else M.pure (aa.next (A.1,y.2,()))) (aa.bm (λ(A:z1'×Int×Unit)=>letI b:=IntKind.wrap .i64 A.2.1;letI f:=Int.toNat b;letI e:=List.take (List.length (List.replicate f (0:Int))-0) A.1;M.ae (0<=b/\b=b/\bT f) (M.ae True (M.bind (M.loop (λ(A:Int×z1'×Unit)=>letI g:=Int.toNat A.1;letI c:=List.take g A.2.1;letI a:=Int.ofNat (List.length A.2.1);letI d:=Int.toNat a-g;if decide (A.1<a)=true then M.ae (0<=A.1/\A.1<=a/\a<=a) (M.ae ((0:Int)<=0/\0<=A.1/\A.1<=a) (M.ae True (M.pure (aa.next (IntKind.wrap .i64 (Add.add A.1 (Int.ofNat (if d<=List.length c then d else List.length c))),c++List.take d c++List.drop (Add.add g (List.length (List.take d c))) A.2.1,()))))) else M.bind (M.pure (aa.next (A.2.1,()))) λr=>M.pure (aa.done r)) (Int.ofNat (if List.length (List.replicate f (0:Int))-0<=List.length A.1 then List.length (List.replicate f (0:Int))-0 else List.length A.1),[]++e++List.drop (Add.add 0 (List.length e)) (List.replicate f (0:Int)),())) (aa.bm (λ(A:z1'×Unit)=>M.pure A.1))))))))
def Vq(Nn:Option Sto×z1'->M (z3'×Bool))(No:Option Sto×z3'->M Int)(x:Option Sto×z1'):M Bool:=
 M.bind (Nn x) λy=>M.bind (b1 y.2 (No (x.1,y.1)) 0) λbL=>M.pure (y.2&&decide (bL=0))
def Vr(Dx:Int->M Bool)(Nv:z1'×(Int->M Bool)->M Bool)(ajz:List db×(Int×Int×Int×Int×z1'->M Bool)->M Bool)(ajA:List dr×(z1'×(Int×Int)×Int×Int×Int->M Bool)->M Bool)(ajB:z3'×(Int×Int×Int->M Bool)->M Bool)(ajC:(Int×Int×Int×Int×z1')×Option a7->M Bool)(ajD:(Int×Int×Int)×Option a7->M Bool)(ajE:z1'×(Int×Int)×Int×Int×Int->M Bool)(ajF:Int->M Bool)(x:br):M Bool:=
 letI e:=x.2.2.2;letI b:=decide (Int.ofNat (List.length x.2.1)=Int.ofNat (List.length x.1.1));M.bind (b1 b (Nv (x.2.1,ajF)) false) λy=>letI d:=b&&!y&&decide (Int.ofNat (List.length x.2.2.1)<=8);M.bind (b1 d (ajz (x.2.2.1,λhg=>ajC (hg,some x.1))) false) λbL=>letI a:=d&&!bL&&decide (Int.ofNat (List.length e.1)<=6);M.bind (b1 a (ajA (e.1,ajE)) false) λdq=>letI c:=a&&!dq&&decide (Int.ofNat (List.length e.2.1)<=8);M.bind (b1 c (ajB (e.2.1,λhg=>ajD (hg,some x.1))) false) λgn=>M.bind (b1 (c&&!gn) (Dx e.2.2) false) λk7=>M.pure (c&&!gn&&k7)
def ajG(x:Int×Int×Int):M Bool:=
 M.pure (decide (x.2.1<=x.1)&&decide (x.1<=x.2.2))
def Vs(nN:Int×Int×Int->M Bool)(He:z1'×Int->M Bool)(x:br×Int×Int×Int×Int×z1'):M Bool:=
 letI c:=x.2.2.2.2;letI b:=Int.ofNat (List.length x.1.1.2.1);letI a:=(c.2,IntKind.wrap .i64 (Int.ofNat (List.length (List.getD x.1.1.2.1 (Int.toNat c.1) []))-1));M.bind (nN (x.2.1,0,99)) λy=>M.bind (b1 (!(!y)) (nN (x.2.2.1,0,99)) false) λbL=>M.bind (b1 (!(!y||!bL)) (nN (x.2.2.2.1,0,99)) false) λdq=>M.bind (b1 (!(!y||!bL||!dq)) (nN (c.1,0,IntKind.wrap .i64 (b-1))) false) λgn=>if (!y||!bL||!dq||!gn)=true then M.pure false else M.ae (0<=c.1/\c.1<b) (M.ae (He a).bY (M.pure (M.val (He a) false)))
def Vt(nN:Int×Int×Int->M Bool)(He:z1'×Int->M Bool)(x:z1'×(Int×Int)×Int×Int×Int):M Bool:=
 M.bind (nN (Int.ofNat (List.length x.1),1,8)) λy=>M.bind (b1 y (He (x.1,99)) false) λbL=>letI a:=y&&bL&&decide (0<=x.2.1.1)&&decide (x.2.1.1<=x.2.1.2)&&decide (x.2.1.2<=99);M.bind (b1 a (nN (x.2.2.1,0,99)) false) λdq=>M.bind (b1 (a&&dq) (nN (x.2.2.2.1,0,99)) false) λgn=>M.bind (b1 (a&&dq&&gn) (nN (x.2.2.2.2,0,100000)) false) λk7=>M.pure (a&&dq&&gn&&k7)
def Vu(kq:Int×Int×Int->M Bool)(x:br×Int):M Bool:=
 M.bind (kq (x.2,0,IntKind.wrap .i64 (Int.ofNat (List.length x.1.2.2.1)-1))) λy=>M.pure y
def Vv(kq:Int×Int×Int->M Bool)(ht:z1'×Int->M Bool)(x:(z1'×(Int×Int)×Int×Int×Int)×Int×Int×Int×Int×z1'):M Int:=
 M.bind (ht (x.1.1,x.2.1)) λy=>M.bind (b1 (!(!y)) (kq (x.2.2.1,x.1.2.1)) false) λbL=>if (!y||!bL)=true then M.pure 0 else if decide (x.2.2.2.1=x.1.2.2.1)=true then M.pure 1 else if decide (x.2.2.2.1=0)=true then M.pure 2 else M.pure 0
def Nw(ajH:z1'×Int->M (z1'))(z8:Option Sto×z1'->M Bool)(lL:Option Sto×z1'->M Int)(ajI:Option Sto->Prop)(ajJ:Option Sto->List (z1'))(x:Option Sto):M (z1'):=
 M.ae (Option.isSome x=true) (M.bind (ajH ([-1],Int.ofNat (List.length (Option.getD x ((([],[],0,[]),[],[],[],[],0),[],[])).1.2.2.2.1))) (λy=>M.ae (ajI x) (M.bind (jA (λ(A:Option ((a7×z1'×List db×List (z1'×(Int×Int)×Int×Int×Int)×z3'×Int)×z4'×z5')×z1'×Unit) (y:z1')=>letI b:=(A.1,y);letI a:=(A.1,A.2.1);M.bind (M.ae (lL b).bY (M.ae (lL a).bY (M.ae (decide (M.val (lL b) 0 > M.val (lL a) 0)=true->(decide (M.val (lL b) 0 > M.val (lL a) 0)=true/\decide (M.val (lL b) 0 > M.val (lL a) 0)=true/\True)/\(z8 b).bY/\True) (M.ae (True/\(decide (M.val (lL b) 0 > M.val (lL a) 0)=true->decide (M.val (lL b) 0 > M.val (lL a) 0)=true)) (if (decide (M.val (lL b) 0 > M.val (lL a) 0)&&M.val (z8 b) false)=true then M.pure (cQ.normal,A.1,y,()) else M.pure (cQ.normal,A.1,A.2.1,())))))) λp=>M.pure (p.1,p.2.1,p.2.2.1,())) (ajJ x) (x,y,())) (λp=>r4 (M.pure p.2.2.1) (λid=>if id=0 then M.pure p.2.2.1 else M.fail) M.fail p.1))))
def Vw(ajK:br×Int->M Bool)(ht:z1'×Int->M Bool)(x:br×z1'):M Bool:=
 M.bind (M.loop (λ(A:z1'×z1'×Int×Int×(a7×z1'×List db×List (z1'×(Int×Int)×Int×Int×Int)×z3'×Int)×Unit)=>letI e:=A.2.2;letI b:=e.2.1;letI c:=Int.toNat b;letI f:=List.getD A.2.1 c 0;letI a:=decide (List.getD A.2.1 c (0:Int)≠-1);if decide (b<e.1)=true then M.ae (0<=b/\b<Int.ofNat (List.length A.2.1)) (M.bind (b1 a (ajK (e.2.2.1,f)) false) (λy=>letI d:=(a&&!(!y))=true;M.ae (d->(d/\True/\d)/\((0:Int)<=0/\0<=b/\b<=Int.ofNat (List.length A.1))/\True) (M.bind (b1 (a&&!(!y)) (ht (List.take c A.1,f)) false) (λbL=>if (a&&(!y||bL))=true then M.bind (M.bind (M.pure false) (λr=>M.pure (aa.done r))) λr=>M.pure (aa.done r) else M.pure (aa.next (A.1,A.2.1,e.1,IntKind.wrap .i64 (Add.add b 1),e.2.2.1,())))))) else M.bind (M.pure (aa.next (A.1,e.2.2.1,()))) λr=>M.pure (aa.done r)) (x.2,x.2,Int.ofNat (List.length x.2),0,x.1,())) (aa.bm (λ(A:z1'×(a7×z1'×List db×List dr×z3'×Int)×Unit)=>M.pure (decide (Int.ofNat (List.length A.1)=Int.ofNat (List.length A.2.1.2.2.2.1)))))
def Nx(x:Option Sto×z1'):M Int:=
 M.bind (M.loop (λ(A:Option ((a7×z1'×List db×List dr×z3'×Int)×z4'×z5')×Int×z1'×Int×Int×Unit)=>letI c:=A.2.2;letI b:=(Option.getD A.1 ((([],[],0,[]),[],[],[],[],0),[],[])).1.2.2.2.1;letI a:=c.2.2.1;if decide (a<c.2.1)=true then M.bind (M.ae (0<=a/\a<Int.ofNat (List.length c.1)) (if decide (List.getD c.1 (Int.toNat a) (0:Int)≠-1)=true then M.ae (Option.isSome A.1=true) (M.ae (0<=a/\a<Int.ofNat (List.length b)) (M.pure (aa.next (A.1,IntKind.wrap .i64 (Add.add A.2.1 (List.getD b (Int.toNat a) ([],(0,0),0,0,0)).2.2.2.2),c.1,c.2.1,a,())))) else M.pure (aa.next (A.1,A.2.1,c.1,c.2.1,a,())))) (aa.bm (λ(A:Option ((a7×z1'×List (Int×Int×Int×Int×z1')×List dr×z3'×Int)×z4'×z5')×Int×z1'×Int×Int×Unit)=>M.pure (aa.next (A.1,A.2.1,A.2.2.1,A.2.2.2.1,IntKind.wrap .i64 (Add.add A.2.2.2.2.1 1),())))) else M.bind (M.pure (aa.next (A.2.1,()))) λr=>M.pure (aa.done r)) (x.1,0,x.2,Int.ofNat (List.length x.2),0,())) (aa.bm (λ(A:Int×Unit)=>M.pure A.1))
def ajL(xO:Int×Int->M (Int×Int))(x:z4'×Int):M (z4'):=
 M.bind (if decide (x.2<0)=true then M.ae False (M.ae False (M.pure (aa.next (x.1,x.2,())))) else M.pure (aa.next (x.1,x.2,()))) (aa.bm (λ(A:z4'×Int×Unit)=>M.bind (xO (IntKind.wrap .u64 (Int.ofNat (List.length A.1)),IntKind.wrap .u64 A.2.1)) λy=>M.bind (if (decide (y.1 > 0)||decide (y.2 > 9223372036854775807))=true then M.ae False (M.ae False (M.pure (aa.next (A.1,y.2,())))) else M.pure (aa.next (A.1,y.2,()))) (aa.bm (λ(A:z4'×Int×Unit)=>letI b:=IntKind.wrap .i64 A.2.1;letI f:=Int.toNat b;letI d:=List.take (List.length (List.replicate f ((0:Int),(0:Int)))-0) A.1;M.ae (0<=b/\b=b/\bT f) (M.ae True (M.bind (M.loop (λ(A:Int×z4'×Unit)=>letI g:=Int.toNat A.1;letI c:=List.take g A.2.1;letI a:=Int.ofNat (List.length A.2.1);letI e:=Int.toNat a-g;if decide (A.1<a)=true then M.ae (0<=A.1/\A.1<=a/\a<=a) (M.ae ((0:Int)<=0/\0<=A.1/\A.1<=a) (M.ae True (M.pure (aa.next (IntKind.wrap .i64 (Add.add A.1 (Int.ofNat (if e<=List.length c then e else List.length c))),c++List.take e c++List.drop (Add.add g (List.length (List.take e c))) A.2.1,()))))) else M.bind (M.pure (aa.next (A.2.1,()))) λr=>M.pure (aa.done r)) (Int.ofNat (if List.length (List.replicate f ((0:Int),(0:Int)))-0<=List.length A.1 then List.length (List.replicate f ((0:Int),(0:Int)))-0 else List.length A.1),[]++d++List.drop (Add.add 0 (List.length d)) (List.replicate f ((0:Int),(0:Int))),())) (aa.bm (λ(A:z4'×Unit)=>M.pure A.1))))))))
def Vx(x:Option Sto×(Int×Int)×Int×Int×Int):M Bool:=
 letI c:=decide (x.2.1.2<=x.2.2.2.2);letI a:=c=true;letI b:=a->a/\True/\True;M.ae (a->a/\Option.isSome x.1=true/\True) (M.ae b (M.ae b (M.ae b (M.ae b (M.ae b (M.ae (a->(a/\a/\a/\True)/\True/\True) (M.ae (a->(a/\a)/\True/\True) (M.ae (a->(a/\True)/\True/\True) (M.ae (True/\(a->a)) (M.pure (c&&decide (Option.getD (Option.map (λx=>x.2) (List.find? (λp=>decide (x.2.1.1=p.1.1)&&(decide (x.2.2.1=p.1.2.1)&&decide (x.2.2.2.1=p.1.2.2))) (Option.getD x.1 ((([],[],0,[]),[],[],[],[],0),[],[])).2.2)) (0:Int) > 0))))))))))))
def ajM(x:Int×Int×Int):M Bool:=
 M.pure (decide (x.2.1<=x.1)&&decide (x.1<=x.2.2))
def Vy(kq:Int×Int×Int->M Bool)(vv:Int->M Bool)(Ny:z1'×(Int->M Bool)->M Bool)(ajN:Int×Option a7×Option (Int×Int×Int×Int×z1')->M Bool)(x:(Int×Int×Int×Int×z1')×Option a7):M Bool:=
 letI b:=Option.getD x.2 ([],[],0,[]);M.bind (vv x.1.1) λy=>M.bind (b1 (!(!y)) (vv x.1.2.1) false) λbL=>M.bind (b1 (!(!y||!bL)) (vv x.1.2.2.1) false) λdq=>letI a:=!y||!bL||!dq;M.bind (b1 (!a) (kq (x.1.2.2.2.1,0,IntKind.wrap .i64 (Int.ofNat (List.length b.2.1)-1))) false) λgn=>M.bind (b1 (!(a||!gn)) (Ny (x.1.2.2.2.2,λhg=>ajN (hg,some b,some x.1))) false) λk7=>M.pure (a||!gn||!k7)
def Vz(kq:Int×Int×Int->M Bool)(x:Int):M Bool:=
 M.bind (kq (x,0,99)) λy=>M.pure y
def VA(x:z1'×(Int->M Bool)):M Bool:=
 M.bind (M.loop (λ(A:z1'×(Int->M Bool)×z1'×Int×Int×Unit)=>letI e:=A.2.2;letI a:=e.2.2.1;letI d:=List.getD e.1 (Int.toNat a) 0;letI c:=IntKind.wrap .i64 (a-1);if decide (a<e.2.1)=true then M.ae (0<=a/\a<Int.ofNat (List.length e.1)) (M.bind (A.2.1 d) (λy=>letI b:=(!(!y)&&decide (a > 0))=true;M.ae (b->(b/\b)/\(0<=c/\c<Int.ofNat (List.length A.1))/\True) (if (!y||decide (a > 0)&&decide (d<=List.getD A.1 (Int.toNat c) 0))=true then M.bind (M.bind (M.pure false) (λr=>M.pure (aa.done r))) λr=>M.pure (aa.done r) else M.pure (aa.next (A.1,A.2.1,e.1,e.2.1,IntKind.wrap .i64 (Add.add a 1),()))))) else M.bind (M.pure (aa.next ())) λr=>M.pure (aa.done r)) (x.1,x.2,x.1,Int.ofNat (List.length x.1),0,())) (aa.bm (λ(A:Unit)=>M.pure true))
def VB(kq:Int×Int×Int->M Bool)(x:Int×Option a7×Option (Int×Int×Int×Int×z1')):M Bool:=
 letI b:=(Option.getD x.2.1 ([],[],0,[])).2.1;letI a:=(Option.getD x.2.2 (0,0,0,0,[])).2.2.2.1;M.ae (0<=a/\a<Int.ofNat (List.length b)) (M.bind (kq (x.1,0,IntKind.wrap .i64 (Int.ofNat (List.length (List.getD b (Int.toNat a) []))-1))) (λy=>M.pure y))
def VC(kq:Int×Int×Int->M Bool)(vv:Int->M Bool)(Ny:z1'×(Int->M Bool)->M Bool)(Dx:Int->M Bool)(x:z1'×(Int×Int)×Int×Int×Int):M Bool:=
 M.bind (kq (Int.ofNat (List.length x.1),1,8)) λy=>M.bind (b1 (!(!y)) (Ny (x.1,vv)) false) λbL=>M.bind (b1 (!(!y||!bL)) (vv x.2.1.1) false) λdq=>M.bind (b1 (!(!y||!bL||!dq)) (vv x.2.1.2) false) λgn=>letI a:=!y||!bL||!dq||!gn||decide (x.2.1.1 > x.2.1.2);M.bind (b1 (!a) (vv x.2.2.1) false) λk7=>M.bind (b1 (!(a||!k7)) (Dx x.2.2.2.1) false) λDy=>M.bind (b1 (!(a||!k7||!Dy)) (kq (x.2.2.2.2,0,100000)) false) λNz=>M.pure (a||!k7||!Dy||!Nz)
def VD(kq:Int×Int×Int->M Bool)(x:Int):M Bool:=
 M.bind (kq (x,0,99)) λy=>M.pure y
def VE(kq:Int×Int×Int->M Bool)(Dx:Int->M Bool)(x:(Int×Int×Int)×Option a7):M Bool:=
 M.bind (Dx x.1.1) λy=>M.bind (b1 (!(!y)) (kq (x.1.2.1,0,IntKind.wrap .i64 (Int.ofNat (List.length (Option.getD x.2 ([],[],0,[])).1)-1))) false) λbL=>M.bind (b1 (!(!y||!bL)) (kq (x.1.2.2,1,10)) false) λdq=>M.pure (!y||!bL||!dq)
def VF(kq:Int×Int×Int->M Bool)(x:Int):M Bool:=
 M.bind (kq (x,0,10)) λy=>M.pure (!y)
def VG(x:z1'×Int):M Bool:=
 M.bind (M.loop (λ(A:z1'×Int×Int×Unit)=>letI e:=A.2.2.1;letI j:=decide (e > 0);letI i:=List.getD A.1 (Int.toNat e) 0;letI h:=IntKind.wrap .i64 (e-1);letI d:=Int.ofNat (List.length A.1);letI k:=0<=e/\e<d;letI b:=decide (List.getD A.1 (Int.toNat e) (0:Int)<0);letI f:=(!b)=true;letI a:=b||decide (i > A.2.1);letI g:=(!a)=true;letI c:=(!a&&j)=true;letI l:=c->c/\True/\True;if decide (e<d)=true then M.ae k (M.ae (f->(f/\f)/\k/\True) (M.ae (f->f/\True/\True) (M.ae (f->(f/\f)/\True/\True) (M.ae (True/\(b=false->f)) (M.ae (g->(g/\True)/\True/\True) (M.ae (g->True/\True/\g) (M.ae (c->(c/\c)/\k/\True) (M.ae l (M.ae (c->(c/\True)/\True/\True) (M.ae (c->(c/\c)/\(0<=h/\h<d)/\True) (M.ae l (M.ae (c->(c/\c)/\True/\True) (M.ae (g->(g/\(j=true->c))/\True/\True) (M.ae (True/\(a=false->g)) (if (a||j&&decide (i<=List.getD A.1 (Int.toNat h) 0))=true then M.bind (M.bind (M.pure false) (λr=>M.pure (aa.done r))) λr=>M.pure (aa.done r) else M.pure (aa.next (A.1,A.2.1,IntKind.wrap .i64 (Add.add e 1),()))))))))))))))))) else M.bind (M.pure (aa.next ())) λr=>M.pure (aa.done r)) (x.1,x.2,0,())) (aa.bm (λ(A:Unit)=>M.pure true))
def Hf(xP:Option Sto×z1'×Int×Nat×(Nat×(List (z1')->Prop)×List (z1')×Bool)×Unit->M (Bool×(Nat×(List (z1')->Prop)×List (z1')×Bool)×Unit))(x:Option Sto×Nat×(Nat×(List (z1')->Prop)×List (z1')×Bool)×Unit):M ((Nat×(List (z1')->Prop)×List (z1')×Bool)×Unit):=
 M.bind (xP (x.1,[],1,x.2.1,x.2.2.1,())) λy=>M.pure (y.2.1,())
def Hg(xP:Option Sto×z1'×Int×Nat×(Nat×(List (z1')->Prop)×List (z1')×Bool)×Unit->M (Bool×(Nat×(List (z1')->Prop)×List (z1')×Bool)×Unit))(x:Option Sto×Nat×(Nat×(List (z1')->Prop)×List (z1')×Bool)×Unit):M ((Nat×(List (z1')->Prop)×List (z1')×Bool)×Unit):=
 M.bind (xP (x.1,[],0,x.2.1,x.2.2.1,())) λy=>M.pure (y.2.1,())
def NA(Hd:Option Sto×(Int×Int)×Int×Int×Int->M Bool)(Nu:Option Sto×z3'×Int×z4'×z1'×Unit->M (Bool×z4'×z1'×Unit))(x:Option Sto×z3'×Int×z4'×z1'×Unit):M (Bool×z4'×z1'×Unit):=
 letI k:=(Option.getD x.1 ((([],[],0,[]),[],[],[],[],0),[],[])).2.1;M.bind (M.ae (Option.isSome x.1=true) (M.loop (λ(A:Option ((a7×z1'×List db×List (z1'×(Int×Int)×Int×Int×Int)×z3'×Int)×z4'×z5')×z3'×Int×z4'×Int×Int×z4'×z1'×Unit)=>letI o:=A.2.1;letI i:=A.2.2;letI c:=i.2.2.2;letI m:=c.2.2.1;letI l:=Int.toNat c.1;letI j:=Option.map (λx=>x.2) (List.find? (λp=>decide (c.1=p.1)) c.2.1);letI g:=0<=c.1/\c.1<Int.ofNat (List.length m);letI f:=(A.1,List.getD i.2.1 l (0,0),List.getD o (Int.toNat i.1) (0,0,0));letI d:=eQ c.2.1 c.1 (IntKind.wrap .i64 (Add.add (Option.getD j 0) 1));letI b:=decide (List.getD m l (0:Int)=-1);letI h:=(!b)=true;letI a:=decide (Option.getD j (0:Int) > 0);letI e:=(!a)=true;letI q:=e->e/\True/\True;if decide (c.1<i.2.2.1)=true then M.bind (M.ae (0<=c.1/\c.1<Int.ofNat (List.length i.2.1)) (M.ae (e->(e/\e)/\(0<=i.1/\i.1<Int.ofNat (List.length o))/\True) (M.ae q (M.ae (e->(e/\e/\e/\True)/\(Hd f).bY/\True) (M.ae q (M.ae (True/\(a=false->e)) (if (a||!(M.val (Hd f) false))=true then M.pure (aa.next (A.1,o,i.1,i.2.1,i.2.2.1,c.1,c.2.1,m,())) else M.ae g (M.ae (h->(h/\h)/\g/\True) (if h then M.ae (h/\h/\h/\h/\h/\True) (M.bind (Nu (A.1,o,List.getD m l 0,d,m,())) (λy=>if (b||y.1)=true then M.ae (0<=c.1/\c.1<Int.ofNat (List.length y.2.2.1)) (M.bind (M.bind (M.bind (M.pure (true,y.2.1,List.set y.2.2.1 l i.1,())) (λr=>M.pure (aa.done r))) (λr=>M.pure (aa.done r))) (λr=>M.pure (aa.done r))) else M.pure (aa.next (A.1,o,i.1,i.2.1,i.2.2.1,c.1,y.2.1,y.2.2.1,())))) else M.ae (True/\(b=false->false=true)) (if (b||false)=true then M.ae g (M.bind (M.bind (M.bind (M.pure (true,d,List.set m l i.1,())) (λr=>M.pure (aa.done r))) (λr=>M.pure (aa.done r))) (λr=>M.pure (aa.done r))) else M.pure (aa.next (A.1,o,i.1,i.2.1,i.2.2.1,c.1,d,m,())))))))))))) (aa.bm (λ(A:Option ((a7×z1'×List db×List dr×z3'×Int)×z4'×z5')×z3'×Int×z4'×Int×Int×z4'×z1'×Unit)=>letI n:=A.2.2.2;M.pure (aa.next (A.1,A.2.1,A.2.2.1,n.1,n.2.1,IntKind.wrap .i64 (Add.add n.2.2.1 1),n.2.2.2.1,n.2.2.2.2.1,())))) else M.bind (M.pure (aa.next (c.2.1,m,()))) λr=>M.pure (aa.done r)) (x.1,x.2.1,x.2.2.1,k,Int.ofNat (List.length k),0,x.2.2.2.1,x.2.2.2.2.1,()))) (aa.bm (λ(A:z4'×z1'×Unit)=>M.pure (false,A.1,A.2.1,())))
def NB(Hc:(z1'×(Int×Int)×Int×Int×Int)×Int×Int×Int×Int×z1'->M Int)(xP:Option Sto×z1'×Int×Nat×(Nat×(List (z1')->Prop)×List (z1')×Bool)×Unit->M (Bool×(Nat×(List (z1')->Prop)×List (z1')×Bool)×Unit))(ht:z1'×Int->M Bool)(x:Option Sto×z1'×Int×Nat×(Nat×(List (z1')->Prop)×List (z1')×Bool)×Unit):M (Bool×(Nat×(List (z1')->Prop)×List (z1')×Bool)×Unit):=
 letI p:=Option.isSome x.1=true;letI o:=Int.ofNat (List.length x.2.1);letI i:=x.2.2.2.2.1;letI e:=(Option.getD x.1 ((([],[],0,[]),[],[],[],[],0),[],[])).1.2.2;M.ae p (if decide (o=Int.ofNat (List.length e.2.1))=true then M.bind (M.ae (x.2.2.2.1=i.1/\i.2.2.2=false/\(∃ (T:List (z1')),i.2.1 (i.2.2.1++x.2.1::T))) (M.any (λx=>True))) λy=>M.pure (y,(i.1,i.2.1,i.2.2.1++[x.2.1],!y),()) else M.bind (M.ae p (M.loop (λ(A:Option Sto×z1'×Int×Nat×Int×List db×Int×Int×(Nat×(List (z1')->Prop)×List (z1')×Bool)×Unit)=>letI q:=A.2.1;letI l:=A.2.2;letI j:=(Option.getD A.1 ((([],[],0,[]),[],[],[],[],0),[],[])).1.2.2.2.1;letI c:=l.2.2;letI m:=List.take (Int.toNat c.1) q;letI k:=c.2.2.2;letI d:=(List.getD j (Int.toNat c.1) ([],(0,0),0,0,0),List.getD c.2.1 (Int.toNat k.1) (0,0,0,0,[]));letI a:=(q,k.1);if decide (k.1<c.2.2.1)=true then M.bind (M.ae (0<=k.1/\k.1<Int.ofNat (List.length c.2.1)) (M.ae (ht a).bY (M.ae ((!(M.val (ht a) false))=true->(!(M.val (ht a) false))=true/\Option.isSome A.1=true/\True) (M.ae ((!(M.val (ht a) false))=true->(!(M.val (ht a) false))=true/\True/\True) (M.ae ((!(M.val (ht a) false))=true->(!(M.val (ht a) false))=true/\True/\True) (M.ae ((!(M.val (ht a) false))=true->(!(M.val (ht a) false))=true/\True/\True) (M.ae ((!(M.val (ht a) false))=true->((!(M.val (ht a) false))=true/\(!(M.val (ht a) false))=true)/\(0<=c.1/\c.1<Int.ofNat (List.length j))/\True) (M.ae ((!(M.val (ht a) false))=true->(!(M.val (ht a) false))=true/\True/\True) (M.ae ((!(M.val (ht a) false))=true->((!(M.val (ht a) false))=true/\(!(M.val (ht a) false))=true/\True)/\(Hc d).bY/\True) (M.ae ((!(M.val (ht a) false))=true->((!(M.val (ht a) false))=true/\True)/\True/\True) (M.ae (True/\(M.val (ht a) false=false->(!(M.val (ht a) false))=true)) (if (M.val (ht a) false||decide (M.val (Hc d) (0:Int)=0))=true then M.pure (aa.next (A.1,q,l.1,l.2.1,c.1,c.2.1,c.2.2.1,k.1,k.2.1,())) else M.ae ((0:Int)<=0/\0<=c.1/\c.1=c.1/\c.1<=Int.ofNat (List.length q)) (M.ae (0<Add.add 0 1/\bT (Add.add (List.length m) (Add.add 0 1))) (M.bind (xP (A.1,m++[k.1],l.1,l.2.1,k.2.1,())) (λy=>if (!y.1)=true then M.bind (M.bind (M.bind (M.pure (false,y.2.1,())) (λr=>M.pure (aa.done r))) (λr=>M.pure (aa.done r))) λr=>M.pure (aa.done r) else M.pure (aa.next (A.1,q,l.1,l.2.1,c.1,c.2.1,c.2.2.1,k.1,y.2.1,()))))))))))))))))) (aa.bm (λ(A:Option Sto×z1'×Int×Nat×Int×List db×Int×Int×(Nat×(List (z1')->Prop)×List (z1')×Bool)×Unit)=>letI n:=A.2.2.2.2;M.pure (aa.next (A.1,A.2.1,A.2.2.1,A.2.2.2.1,n.1,n.2.1,n.2.2.1,IntKind.wrap .i64 (Add.add n.2.2.2.1 1),n.2.2.2.2.1,())))) else M.bind (M.pure (aa.next (A.1,q,l.1,l.2.1,c.1,k.2.1,()))) λr=>M.pure (aa.done r)) (x.1,x.2.1,x.2.2.1,x.2.2.2.1,o,e.1,Int.ofNat (List.length e.1),0,i,()))) (aa.bm (λ(A:Option Sto×z1'×Int×Nat×Int×(Nat×(List (z1')->Prop)×List (z1')×Bool)×Unit)=>letI s:=A.2.2;letI h:=s.2.2;letI g:=List.take (Int.toNat h.1) A.2.1;letI f:=decide (s.1=0);letI b:=(!f)=true;M.ae (b->(b/\True/\b/\b)/\((0:Int)<=0/\0<=h.1/\h.1=h.1/\h.1<=Int.ofNat (List.length A.2.1))/\True) (if b then M.ae (b/\b) (M.ae (0<Add.add 0 1/\bT (Add.add (List.length g) (Add.add 0 1))) (if b then M.ae (b/\b/\b/\True) (M.bind (xP (A.1,g++[-1],s.1,s.2.1,h.2.1,())) (λy=>M.pure (f||y.1,y.2.1,()))) else M.ae (True/\(f=false->false=true)) (M.pure (f||false,h.2.1,())))) else if b then M.ae (b/\false=true/\b/\b/\True) (M.bind (xP (A.1,g++[-1],s.1,s.2.1,h.2.1,())) (λy=>M.pure (f||y.1,y.2.1,()))) else M.ae (True/\(f=false->false=true)) (M.pure (f||false,h.2.1,()))))))
def ajO(xO:Int×Int->M (Int×Int))(x:z1'×Int×Unit):M (z1'×Unit):=
 M.bind (if decide (x.2.1<0)=true then M.ae False (M.ae False (M.pure (aa.next (x.1,x.2.1,())))) else M.pure (aa.next (x.1,x.2.1,()))) (aa.bm (λ(A:z1'×Int×Unit)=>M.bind (xO (IntKind.wrap .u64 (Int.ofNat (List.length A.1)),IntKind.wrap .u64 A.2.1)) λy=>M.bind (if (decide (y.1 > 0)||decide (y.2 > 9223372036854775807))=true then M.ae False (M.ae False (M.pure (aa.next (A.1,y.2,())))) else M.pure (aa.next (A.1,y.2,()))) (aa.bm (λ(A:z1'×Int×Unit)=>letI b:=IntKind.wrap .i64 A.2.1;letI f:=Int.toNat b;letI e:=List.take (List.length (List.replicate f (0:Int))-0) A.1;M.ae (0<=b/\b=b/\bT f) (M.ae True (M.bind (M.loop (λ(A:Int×z1'×Unit)=>letI g:=Int.toNat A.1;letI c:=List.take g A.2.1;letI a:=Int.ofNat (List.length A.2.1);letI d:=Int.toNat a-g;if decide (A.1<a)=true then M.ae (0<=A.1/\A.1<=a/\a<=a) (M.ae ((0:Int)<=0/\0<=A.1/\A.1<=a) (M.ae True (M.pure (aa.next (IntKind.wrap .i64 (Add.add A.1 (Int.ofNat (if d<=List.length c then d else List.length c))),c++List.take d c++List.drop (Add.add g (List.length (List.take d c))) A.2.1,()))))) else M.bind (M.pure (aa.next (A.2.1,()))) λr=>M.pure (aa.done r)) (Int.ofNat (if List.length (List.replicate f (0:Int))-0<=List.length A.1 then List.length (List.replicate f (0:Int))-0 else List.length A.1),[]++e++List.drop (Add.add 0 (List.length e)) (List.replicate f (0:Int)),())) (aa.bm (λ(A:z1'×Unit)=>M.pure (A.1,())))))))))
end Go.Fer
