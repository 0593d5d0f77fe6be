/- Part 4 of the proof of Replayed: shallow programs of Go functions, and what they compute. No condition. -/
import Derived.Test.YtplfnoecifjgeaaGreatDoorReplayedC
import Derived.RangeFuncBound
import Derived.Scope
import Derived.RangeFuncLeaves
import Derived.OpenShut
import Derived.WideKeyArgs
import Derived.ChangeSame
import Derived.Test.YtplfnoecifjgeaaGreatDoorProg
import Derived.KernelRfl
noncomputable section
set_option linter.unusedVariables false
set_option linter.unusedSimpArgs false
namespace Go.Fer
open Go.RowKit
theorem ag7{C:bQ}(iw:C.r=none){β:Type}{s:ay}{a:Act}{w:World}(V:b9 C s a w){g:Operand}{ps:Array Tmp}{assign body:Code}{qT n:Nat}{ez:Nat->aD}(az:aT C.aL s.aw g=.rB qT n ez){ic:ITC}(TU:CC C.P qT ic)
    {x:ic.ts.ah} {fl:List Nat} (hx:(iG ic.ts ((List.range n).map ez)).run s.ad=some (x,fl)) {sh rin rout:dj} (dF:nB sh rout ic.aI ps.toList C.nt=true) {nF:sh.ah} (nC:sh.iL (s.cb fl)=some nF) (gm:ic.pre x)
    {run:ay->M (cP×rout.ah)} {k:cP->ay->M β} {O:β->Prop} (an:M.b_ (jy (λA y=>tx sh rin rout ic.aI ps.toList A y run) (ic.seq x) nF) λp=>M.b_ (k p.1 (sh.st p.2)) O)
    (CZ:∀ l,Gy C.P C.aL C.nt assign body l run) {Q:Exit->Act->World->Prop}
    (ao:∀ u,C.jA u->∀ e s' a' w',b9 (C.gQ u) s' a' w'->M.b_ (k e s') O->Q e.o6 a' w'):(Code.rangeFunc g ps assign body).wpIn (dv C.r) 0 C.P Q a w:=by
  obtain⟨κ,F,V⟩:=V;obtain⟨zz,f1,gn,f2⟩:=ba.kS (pW _ hx) V;obtain⟨κ,dK,f3,cr⟩:=dj.zr nC gn;have hv:=jU V g;rw[az]at hv;obtain⟨aB,pQ,hZ,axe⟩:=hv;have ag8:eY C.P ic.ts zz w aB x:=uS V.bn f1 ic.ts hx f2 (by grind) λi G dp=>by
    grind
  have oZ:∀ A:sh.ah,(sh.st A).aw TRS=.undef:=λA=>by
    simp only[nB,Bool.and_eq_true,Bool.not_eq_true']at dF;exact xg sh.bE cJ A TRS dF.1.1.1.2
  rw[iw];refine wpIn_rangeFunc λfn _=>?_;have aN:w.heap.size<((w.alloc (.deferred (some []))).alloc (.loop (eM fn a.tmps ps assign body w.heap.size .ready .normal))).heap.size:=by simp;omega
  have ai:w.heap.size+1<((w.alloc (.deferred (some []))).alloc (.loop (eM fn a.tmps ps assign body w.heap.size .ready .normal))).heap.size:=by simp
  have C3:((w.alloc (.deferred (some []))).alloc (.loop (eM fn a.tmps ps assign body w.heap.size .ready .normal))).heap[w.heap.size+1]?=some (.loop (eM fn a.tmps ps assign body w.heap.size .ready .normal)):=by
    have:=pP (w.alloc (.deferred (some []))) (.loop (eM fn a.tmps ps assign body w.heap.size .ready .normal));simp_all
  have C4:((w.alloc (.deferred (some []))).alloc (.loop (eM fn a.tmps ps assign body w.heap.size .ready .normal))).heap[w.heap.size]?=some (.deferred (some [])):=
    (oN _ _ (by simp)).trans (pP w _)
  have tK:∀ r,r<w.heap.size->((w.alloc (.deferred (some []))).alloc (.loop (eM fn a.tmps ps assign body w.heap.size .ready .normal))).heap[r]?=w.heap[r]?:=λr h=>TN h;have C5:(Instr.enterLoop fn a.tmps ps assign body none).run C.P w=.ok (w.heap.size+1,[oe w.heap.size]) ((w.alloc (.deferred (some []))).alloc (.loop (eM fn a.tmps ps assign body w.heap.size .ready .normal))):=run_enterLoop_outer fn a.tmps ps assign body;have xt:cM w ((w.alloc (.deferred (some []))).alloc (.loop (eM fn a.tmps ps assign body w.heap.size .ready .normal))):=⟨rfl,rfl,rfl⟩
  have Mc:((w.alloc (.deferred (some []))).alloc (.loop (eM fn a.tmps ps assign body w.heap.size .ready .normal))).heap.size=w.heap.size+2:=by simp
  generalize (w.alloc (.deferred (some []))).alloc (.loop (eM fn a.tmps ps assign body w.heap.size .ready .normal))=b1 at aN ai C3 C4 tK C5 xt Mc;have p3:cG dK w b1:=⟨by omega,λr h=>tK r (cr.cL r h)⟩
  have dA:eY C.P ic.ts dK b1 aB x:=(ag8.mono f3 (cG.refl _ _)).mono (λ_ h=>h) p3;have ee:ba { C with w0:=b1,F0:=dK,K0:=λ_=>False } (sh.st nF) a b1 κ dK:=
    cr.u_ cr.di cr.dfr cr.fO cr.bE (λl' kj L' iH h7 e=>by have e:(sh.st nF).aw TRS=.tr l' kj L' iH h7:=e;grind)
      (λr h=>tK r (by
        rcases h with h | ⟨b,ab,rfl⟩
        · exact cr.cL r h
        · exact (cr.own b ab).1)) (by omega) (λ_ h=>.inl h) (λ_ h=>h) (λ_ h=>h.elim) (λ_ h=>h.elim) (λ_ _ h=>h) (Nat.le_refl _) (cM.refl _)
  have Md:=TT (TO (S:=λT=>T=ic.seq x) (C:=C) (CI:={ C with w0:=b1,F0:=dK,K0:=λ_=>False }) (sh:=sh) (rin:=rin) (rout:=rout) (ps:=ps) (assign:=assign) (body:=body) (a:=a) (fn:=fn) (l:=w.heap.size+1) (B:=w.heap.size) (run:=run) (k:=k) (O:=O)
    rfl (by omega) (by rw[V.di];omega) (by rw[V.di];grind))
  have hsl:∀ b,((sh.st nF).ad b).body.bL (κ b)=true->¬((κ b).ad=w.heap.size+1\/(κ b).ad=w.heap.size):=λb ab h=>by
    have:=(cr.own b ab).1;omega
  have u':=TU.iD (w.heap.size+1) _ dK (λr=>(∃ b,((sh.st nF).ad b).body.bL (κ b)=true/\(κ b).ad=r)\/r=w.heap.size+1\/r=w.heap.size) b1 aB x dA gm Md (λr h=>ee.cL r h) ee.ib
    (λr h=>by
      rcases h with⟨b,ab,rfl⟩ | rfl | rfl
      · exact⟨(ee.own b ab).1,(ee.own b ab).2.1⟩
      · exact⟨ai,λh=>by have:=cr.cL _ h;omega⟩
      · exact⟨aN,λh=>by have:=cr.cL _ h;omega⟩)
    ⟨.normal,nF,κ,ee,C3,C4,λb ab=>⟨.inl ⟨b,ab,rfl⟩,hsl b ab⟩,.inr (.inl rfl),.inr (.inr rfl),λh=>by have:=cr.cL _ h;omega,λh=>by have:=cr.cL _ h;omega,rfl,λ_=>⟨rfl,λR jB=>by grind⟩,λh=>by cases h⟩
  refine⟨w.heap.size+1,[oe w.heap.size],b1,{ target:=.fn (.func qT) #[],args:=aB.toArray++#[.func (.yield (w.heap.size+1)) #[] #[]] },b1,qT,(aB++[Value.func (.yield (w.heap.size+1)) #[] #[]]).toArray,b1,C5,?_,λ_ _=>trivial,?_,λh=>(by cases h),callsIn_wide.2 (u'.mono λe eC ⟨v,iH,st,F',fZ,he,fU,hinv,g1,dR,g3,g4,g5,g6,g7⟩=>?_)⟩
  · have e:a.eval (.const (.func (.yield (w.heap.size+1)) #[] #[]))=.func (.yield (w.heap.size+1)) #[] #[]:=rfl
    simp[resolve,pQ,Deferred.ofValue,e]
  · have:=TU.enter (aB++[Value.func (.yield (w.heap.size+1)) #[] #[]]).toArray b1
    simpa [invoke]using this
  subst he;obtain⟨e,A,κ',l8,h1,h2,h3,aR,bw,cY,fK,_,iS,pK⟩:=hinv;refine⟨r8 e,_,run_endLoop h1 (by cases st<;>simp[eM]),?_⟩;have GD:w.heap.size+1<eC.heap.size:=(Array.getElem?_eq_some_iff.1 h1).1;generalize aY:Obj.loop _=bR;have hk:M.b_ (k e (sh.st A)) O:=by
    cases st with
    | true=>grind
    | false=>
      obtain⟨rfl,eV⟩:=iS rfl;exact (eV [] (show iH++[]=ic.seq x by grind)).2 _ rfl
  have u3:∀ r,C.K0 r->r<w.heap.size:=λr h=>Nat.lt_of_lt_of_le (V.gX r h) V.size;have tH:∀ r,C.K0 r->(eC.putObj (w.heap.size+1) bR).heap[r]?=C.w0.heap[r]?:=λr h=>by
    have bZ:=u3 r h;rw[World.putObj_heap_other (by omega),g4 r (by omega) λaM=>?_,tK r bZ]
    · exact V.eb r h
    · rcases aM with⟨b,ab,rfl⟩ | rfl | rfl
      · exact (cr.own b ab).2.2 h
      · omega
      · omega
  have xu:cM C.w0 (eC.putObj (w.heap.size+1) bR):=by
    have:=(V.dQ.trans xt).trans g7;exact⟨this.os,this.tape,this.output⟩
  have zG:C.jA ⟨eC.putObj (w.heap.size+1) bR,λr=>C.K0 r\/r=w.heap.size,[w.heap.size]⟩:=
    { r7 := λB aN => by
        have:B=w.heap.size:=by grind
        subst this;exact⟨.inr rfl,(World.putObj_heap_other (by omega)).trans h2⟩
      dX:=λB aN=>by
        have:B=w.heap.size:=by grind
        subst this;exact⟨λh=>by grind,V.size⟩
      l7:=by simp
      gR:=λ_ h=>.inl h
      eb:=tH
      size:=by have:=V.size;simp;omega
      dQ:=xu }
  have nD:b9 (C.gQ ⟨eC.putObj (w.heap.size+1) bR,λr=>C.K0 r\/r=w.heap.size,[w.heap.size]⟩) (sh.st A) { a with defers:=[oe w.heap.size]++a.defers } (eC.putObj (w.heap.size+1) bR):=by
    have Me:∀ r,F' r->C.F0 r\/¬(C.K0 r\/r=w.heap.size):=λr aX=>by
      rcases dR r aX with h | h | h
      · rcases cr.gL r h with cZ | cZ
        · exact .inl cZ
        · exact .inr λao=>ao.elim cZ λe=>by have:=cr.cL r h;omega
      · rcases h with⟨b,ab,rfl⟩ | rfl | rfl
        · exact .inr λao=>ao.elim (cr.own b ab).2.2 λe=>hsl b ab (.inr e)
        · exact (cY aX).elim
        · exact (fK aX).elim
      grind
    refine⟨κ',F',l8.u_ (r:=C.r) l8.di (by show [oe w.heap.size]++a.defers=_;rw[V.dfr];rfl) l8.fO l8.bE (λl' kj L' iH h7 e=>by have e:(sh.st A).aw TRS=.tr l' kj L' iH h7:=e;grind)
      (λr h=>World.putObj_heap_other λe=>by
        grind) (by simp) Me (λr h=>g1 r (cr.hy r h)) (λr h=>?_) (λ_ _=>rfl) (λb ab h=>?_) (Nat.le_refl _) (cM.refl _)⟩
    · simp only[World.putObj_size]
      grind
    · rcases h with h | h
      · rcases (g5 _ (h3 b ab).1).1 with aM | aM
        · rcases aM with⟨aZ,cS,e⟩ | e | e
          · exact (cr.own aZ cS).2.2 (e ▸ h)
          · exact (h3 b ab).2 (.inl e)
          · exact (h3 b ab).2 (.inr e)
        grind
      grind
  have be:=ao _ zG e _ _ _ nD hk;cases e with
  | normal=>exact be
  | exit id=>exact wpIn_exit be
  | ret=>exact wpIn_ret be
theorem ag9{C:bQ}(iw:C.r=none){β:Type}{s:ay}{a:Act}{w:World}(V:b9 C s a w){g:Operand}{ps:Array Tmp}{assign body:Code}{aI:ae}{S:List aI.ah->Prop}(az:aT C.aL s.aw g=.val (.b5 aI) S)
    {sh rin rout:dj} (dF:nB sh rout aI ps.toList C.nt=true) {nF:sh.ah} (nC:sh.iL s=some nF) (dZ:∃ L,S L)
    {run:ay->M (cP×rout.ah)} {k:cP->ay->M β} {O:β->Prop} (an:∀ L,S L->M.b_ (jy (λA y=>tx sh rin rout aI ps.toList A y run) L nF) λp=>M.b_ (k p.1 (sh.st p.2)) O)
    (CZ:∀ l,Gy C.P C.aL C.nt assign body l run) {Q:Exit->Act->World->Prop}
    (ao:∀ u,C.jA u->∀ e s' a' w',b9 (C.gQ u) s' a' w'->M.b_ (k e s') O->Q e.o6 a' w'):(Code.rangeFunc g ps assign body).wpIn (dv C.r) 0 C.P Q a w:=by
  obtain⟨κ,F,V⟩:=V;obtain⟨κ,dK,f3,cr⟩:=dj.zr nC V;have hv:=jU V g;rw[az]at hv;have pQ:=eP _ f3 (cG.refl _ _) ((dx rfl).1 hv).2;simp only[bt]at pQ;obtain⟨u,hu,_,ag_⟩:=pQ;have hu:=(List.cons.inj hu).1;have oZ:∀ A:sh.ah,(sh.st A).aw TRS=.undef:=λA=>by
    simp only[nB,Bool.and_eq_true,Bool.not_eq_true']at dF;exact xg sh.bE cJ A TRS dF.1.1.1.2
  rw[iw];refine wpIn_rangeFunc λfn _=>?_;have aN:w.heap.size<((w.alloc (.deferred (some []))).alloc (.loop (eM fn a.tmps ps assign body w.heap.size .ready .normal))).heap.size:=by simp;omega
  have ai:w.heap.size+1<((w.alloc (.deferred (some []))).alloc (.loop (eM fn a.tmps ps assign body w.heap.size .ready .normal))).heap.size:=by simp
  have C3:((w.alloc (.deferred (some []))).alloc (.loop (eM fn a.tmps ps assign body w.heap.size .ready .normal))).heap[w.heap.size+1]?=some (.loop (eM fn a.tmps ps assign body w.heap.size .ready .normal)):=by
    have:=pP (w.alloc (.deferred (some []))) (.loop (eM fn a.tmps ps assign body w.heap.size .ready .normal));simp_all
  have C4:((w.alloc (.deferred (some []))).alloc (.loop (eM fn a.tmps ps assign body w.heap.size .ready .normal))).heap[w.heap.size]?=some (.deferred (some [])):=
    (oN _ _ (by simp)).trans (pP w _)
  have tK:∀ r,r<w.heap.size->((w.alloc (.deferred (some []))).alloc (.loop (eM fn a.tmps ps assign body w.heap.size .ready .normal))).heap[r]?=w.heap[r]?:=λr h=>TN h;have C5:(Instr.enterLoop fn a.tmps ps assign body none).run C.P w=.ok (w.heap.size+1,[oe w.heap.size]) ((w.alloc (.deferred (some []))).alloc (.loop (eM fn a.tmps ps assign body w.heap.size .ready .normal))):=run_enterLoop_outer fn a.tmps ps assign body;have xt:cM w ((w.alloc (.deferred (some []))).alloc (.loop (eM fn a.tmps ps assign body w.heap.size .ready .normal))):=⟨rfl,rfl,rfl⟩
  have Mc:((w.alloc (.deferred (some []))).alloc (.loop (eM fn a.tmps ps assign body w.heap.size .ready .normal))).heap.size=w.heap.size+2:=by simp
  generalize (w.alloc (.deferred (some []))).alloc (.loop (eM fn a.tmps ps assign body w.heap.size .ready .normal))=b1 at aN ai C3 C4 tK C5 xt Mc;have p3:cG dK w b1:=⟨by omega,λr h=>tK r (cr.cL r h)⟩
  have ee:ba { C with w0:=b1,F0:=dK,K0:=λ_=>False } (sh.st nF) a b1 κ dK:=
    cr.u_ cr.di cr.dfr cr.fO cr.bE (λl' kj L' iH h7 e=>by have e:(sh.st nF).aw TRS=.tr l' kj L' iH h7:=e;grind)
      (λr h=>tK r (by
        rcases h with h | ⟨b,ab,rfl⟩
        · exact cr.cL r h
        · exact (cr.own b ab).1)) (by omega) (λ_ h=>.inl h) (λ_ h=>h) (λ_ h=>h.elim) (λ_ h=>h.elim) (λ_ _ h=>h) (Nat.le_refl _) (cM.refl _)
  have Md:=TO (S:=S) (C:=C) (CI:={ C with w0:=b1,F0:=dK,K0:=λ_=>False }) (sh:=sh) (rin:=rin) (rout:=rout) (ps:=ps) (assign:=assign) (body:=body) (a:=a) (fn:=fn) (l:=w.heap.size+1) (B:=w.heap.size) (run:=run) (k:=k) (O:=O)
    rfl (by omega) (by rw[V.di];omega) (by rw[V.di];grind)
  have hsl:∀ b,((sh.st nF).ad b).body.bL (κ b)=true->¬((κ b).ad=w.heap.size+1\/(κ b).ad=w.heap.size):=λb ab h=>by
    have:=(cr.own b ab).1;omega
  obtain⟨qT,cF,ag',r0,Lj⟩:=ag_ dK b1 (λ_ h=>h) p3 (λr h=>ee.cL r h) ee.ib dZ;have u':=Lj (w.heap.size+1) _ (λr=>(∃ b,((sh.st nF).ad b).body.bL (κ b)=true/\(κ b).ad=r)\/r=w.heap.size+1\/r=w.heap.size)
    (λr h=>by
      rcases h with⟨b,ab,rfl⟩ | rfl | rfl
      · exact⟨(ee.own b ab).1,(ee.own b ab).2.1⟩
      · exact⟨ai,λh=>by have:=cr.cL _ h;omega⟩
      · exact⟨aN,λh=>by have:=cr.cL _ h;omega⟩)
    Md ⟨.normal,nF,κ,ee,C3,C4,λb ab=>⟨.inl ⟨b,ab,rfl⟩,hsl b ab⟩,.inr (.inl rfl),.inr (.inr rfl),λh=>by have:=cr.cL _ h;omega,λh=>by have:=cr.cL _ h;omega,rfl,λ_=>⟨rfl,λR jB=>an R jB⟩,λh=>by cases h⟩
  refine⟨w.heap.size+1,[oe w.heap.size],b1,{ target:=.fn (.func qT) cF,args:=#[.func (.yield (w.heap.size+1)) #[] #[]] },b1,qT,#[Value.func (.yield (w.heap.size+1)) #[] #[]]++cF,b1,C5,?_,λ_ _=>trivial,?_,λh=>(by cases h),callsIn_wide.2 (u'.mono λe eC ⟨v,pre,st,F',fZ,he,fU,hinv,g1,dR,g3,g4,g5,g6,Mf⟩=>?_)⟩
  · have e:a.eval (.const (.func (.yield (w.heap.size+1)) #[] #[]))=.func (.yield (w.heap.size+1)) #[] #[]:=rfl
    simp[resolve,hu,ag',Deferred.ofValue,e]
  · have:=r0 (#[Value.func (.yield (w.heap.size+1)) #[] #[]]++cF) b1
    simpa [invoke]using this
  have g7:cM b1 eC:=⟨Mf.1,Mf.2.1,Mf.2.2⟩
  subst he;obtain⟨e,A,κ',l8,h1,h2,h3,aR,bw,cY,fK,_,iS,pK⟩:=hinv;refine⟨r8 e,_,run_endLoop h1 (by cases st<;>simp[eM]),?_⟩;have GD:w.heap.size+1<eC.heap.size:=(Array.getElem?_eq_some_iff.1 h1).1;generalize aY:Obj.loop _=bR;have hk:M.b_ (k e (sh.st A)) O:=by
    cases st with
    | true=>grind
    | false=>
      obtain⟨rfl,eV⟩:=iS rfl;exact (eV [] (show S (pre++[]) by grind)).2 _ rfl
  have u3:∀ r,C.K0 r->r<w.heap.size:=λr h=>Nat.lt_of_lt_of_le (V.gX r h) V.size;have tH:∀ r,C.K0 r->(eC.putObj (w.heap.size+1) bR).heap[r]?=C.w0.heap[r]?:=λr h=>by
    have bZ:=u3 r h;rw[World.putObj_heap_other (by omega),g4 r (by omega) λaM=>?_,tK r bZ]
    · exact V.eb r h
    · rcases aM with⟨b,ab,rfl⟩ | rfl | rfl
      · exact (cr.own b ab).2.2 h
      · omega
      · omega
  have xu:cM C.w0 (eC.putObj (w.heap.size+1) bR):=by
    have:=(V.dQ.trans xt).trans g7;exact⟨this.os,this.tape,this.output⟩
  have zG:C.jA ⟨eC.putObj (w.heap.size+1) bR,λr=>C.K0 r\/r=w.heap.size,[w.heap.size]⟩:=
    { r7 := λB aN => by
        have:B=w.heap.size:=by grind
        subst this;exact⟨.inr rfl,(World.putObj_heap_other (by omega)).trans h2⟩
      dX:=λB aN=>by
        have:B=w.heap.size:=by grind
        subst this;exact⟨λh=>by grind,V.size⟩
      l7:=by simp
      gR:=λ_ h=>.inl h
      eb:=tH
      size:=by have:=V.size;simp;omega
      dQ:=xu }
  have nD:b9 (C.gQ ⟨eC.putObj (w.heap.size+1) bR,λr=>C.K0 r\/r=w.heap.size,[w.heap.size]⟩) (sh.st A) { a with defers:=[oe w.heap.size]++a.defers } (eC.putObj (w.heap.size+1) bR):=by
    have Me:∀ r,F' r->C.F0 r\/¬(C.K0 r\/r=w.heap.size):=λr aX=>by
      rcases dR r aX with h | h | h
      · rcases cr.gL r h with cZ | cZ
        · exact .inl cZ
        · exact .inr λao=>ao.elim cZ λe=>by have:=cr.cL r h;omega
      · rcases h with⟨b,ab,rfl⟩ | rfl | rfl
        · exact .inr λao=>ao.elim (cr.own b ab).2.2 λe=>hsl b ab (.inr e)
        · exact (cY aX).elim
        · exact (fK aX).elim
      grind
    refine⟨κ',F',l8.u_ (r:=C.r) l8.di (by show [oe w.heap.size]++a.defers=_;rw[V.dfr];rfl) l8.fO l8.bE (λl' kj L' iH h7 e=>by have e:(sh.st A).aw TRS=.tr l' kj L' iH h7:=e;grind)
      (λr h=>World.putObj_heap_other λe=>by
        grind) (by simp) Me (λr h=>g1 r (cr.hy r h)) (λr h=>?_) (λ_ _=>rfl) (λb ab h=>?_) (Nat.le_refl _) (cM.refl _)⟩
    · simp only[World.putObj_size]
      grind
    · rcases h with h | h
      · rcases (g5 _ (h3 b ab).1).1 with aM | aM
        · rcases aM with⟨aZ,cS,e⟩ | e | e
          · exact (cr.own aZ cS).2.2 (e ▸ h)
          · exact (h3 b ab).2 (.inl e)
          · exact (h3 b ab).2 (.inr e)
        grind
      grind
  have be:=ao _ zG e _ _ _ nD hk;cases e with
  | normal=>exact be
  | exit id=>exact wpIn_exit be
  | ret=>exact wpIn_ret be
end Go.Fer
namespace Go.Fer
open Go.RowKit
open M (aa)
section
variable {F:Fence} {n:Nat} {P:Program} {Q:Exit->Act->World->Prop} {a:Act} {w:World}
theorem aha{c:Code}{GI β:Type}{body:GI->M (aa GI β)}{O:β->Prop}(I:GI->Act->World->Prop)
  (round:∀ A a w,I A a w->(body A).b8->(∀ r,(body A).bC (.done r)->O r)->c.wpIn F n P (Exit.then (λa' w'=>∃ iq,(body A).bC (.next iq)/\I iq a' w') Q) a w)
  {A:GI} (hs:M.Bi body A) (ag:∀ r,M.yy body A r->O r) (ee:I A a w):(Code.loop c).wpIn F n P Q a w:=by
 intro b k cs q0 ab V;have key:∀ A,M.Bi body A->(∀ r,M.yy body A r->O r)->∀ a w,I A a w->
   ∃ e a' w',Q e a' w'/\ArrivesIn (Machine.fenced P F) P (lone (b.atR a (.code c::.inLoop c::k)) cs w) b k cs e a' w':=by
  intro A hs;induction hs with
  | mk A h _ aG=>
   intro ag a w ee;obtain⟨e,lE,lF,be,eL⟩:=round A a w ee h (λr V=>ag r (.done _ _ V)) b (.inLoop c::k) cs q0 ab V;cases e with
   | normal=>
    obtain⟨iq,p9,ahb⟩:=be;obtain⟨Mg,Mh,Mi,Mj,Mk⟩:=aG iq p9 (λr V=>ag r (.next _ _ _ p9 V)) lE lF ahb;exact⟨Mg,Mh,Mi,Mj,.of_steps (StepsIn.trans eL (.one (fenced_calm ab V rfl) stepR_inLoop)) Mk⟩
   | exit id=>exact⟨_,lE,lF,be,.pass (x:=.inLoop c) rfl (λ_ _=>.inl (by simp)) eL⟩
   | goto l=>exact⟨_,lE,lF,be,.pass (x:=.inLoop c) rfl (λ_ _=>.inl (by simp)) eL⟩
   | ret=>exact⟨_,lE,lF,be,.pass (x:=.inLoop c) rfl (λ_ _=>.inl (by simp)) eL⟩
   | panic Ml=>exact⟨_,lE,lF,be,.pass (x:=.inLoop c) rfl (λ_ _=>.inl (by simp)) eL⟩
   | outgrown=>exact⟨_,lE,lF,be,.pass (x:=.inLoop c) rfl (λ_ _=>.inl (by simp)) eL⟩
 obtain⟨e,a',w',be,eL⟩:=key A hs ag a w ee;exact⟨e,a',w',be,.of_steps (.one (fenced_calm ab V rfl) stepR_loop) eL⟩
theorem ahc{p q:Prop}(be:q)(h:q->p):p/\q:=⟨h be,be⟩
def GJ(F:Fence)(n:Nat)(P:Program)(c:Code)(Q:Exit->Act->World->Prop)(a:Act)(w:World):Prop:=
 ∀ (b:Frame) (k:List Item) (cs:List Frame),b.roundOf=F.round->F.fn b.fn->F.room (cs.length+1+n)->
  ∃ e a' w',Q e a' w'/\ArrivesIn (Machine.fenced P F) P (lone (b.atR a (.code c::.inLoop c::k)) cs w) b k cs e a' w'
theorem ahd{c:Code}(h:GJ F n P c Q a w):(Code.loop c).wpIn F n P Q a w:=λb k cs q0 ab V=>by
 obtain⟨e,a',w',be,eL⟩:=h b k cs q0 ab V;exact⟨e,a',w',be,.of_steps (.one (fenced_calm ab V rfl) stepR_loop) eL⟩
theorem ahe{c:Code}(h:c.wpIn F n P (Exit.then (λa' w'=>GJ F n P c Q a' w') Q) a w):GJ F n P c Q a w:=λb k cs q0 ab V=>by
 obtain⟨e,lE,lF,be,eL⟩:=h b (.inLoop c::k) cs q0 ab V;cases e with
 | normal=>
  obtain⟨Mg,Mh,Mi,Mj,Mk⟩:=be b k cs q0 ab V;exact⟨Mg,Mh,Mi,Mj,.of_steps (StepsIn.trans eL (.one (fenced_calm ab V rfl) stepR_inLoop)) Mk⟩
 | exit id=>exact⟨_,lE,lF,be,.pass (x:=.inLoop c) rfl (λ_ _=>.inl (by simp)) eL⟩
 | goto l=>exact⟨_,lE,lF,be,.pass (x:=.inLoop c) rfl (λ_ _=>.inl (by simp)) eL⟩
 | ret=>exact⟨_,lE,lF,be,.pass (x:=.inLoop c) rfl (λ_ _=>.inl (by simp)) eL⟩
 | panic Ml=>exact⟨_,lE,lF,be,.pass (x:=.inLoop c) rfl (λ_ _=>.inl (by simp)) eL⟩
 | outgrown=>exact⟨_,lE,lF,be,.pass (x:=.inLoop c) rfl (λ_ _=>.inl (by simp)) eL⟩
theorem zH{b:Frame}{k:List Item}{cs:List Frame}{c:Code}:step P (lone (b.atR a (.code (.scope c)::k)) cs w)=.next (lone (b.atR a (.code c::.inScope c::k)) cs w):=
 step_lone_go (by rfl)
theorem ahf{b:Frame}{k:List Item}{cs:List Frame}{c:Code}:step P (lone (b.atR a (.inScope c::k)) cs w)=.next (lone (b.atR a k) cs w):=
 step_lone_go (by rfl)
theorem ahg{c:Code}(h:c.wpIn F n P (Exit.noGoto Q) a w):(Code.scope c).wpIn F n P Q a w:=by
 intro b k cs q0 ab V;have h0:(lone (b.atR a (.code (.scope c)::k)) cs w).fenced P F:=fenced_calm ab V rfl;obtain⟨e,lE,lF,be,eL⟩:=h b (.inScope c::k) cs q0 ab V;cases e with
 | normal=>exact⟨.normal,lE,lF,be,.head h0 zH (StepsIn.trans eL (.one (fenced_calm ab V rfl) ahf))⟩
 | exit id=>
  have hx:exitTo id (.inScope c::k)=exitTo id k:=by rfl
  exact⟨.exit id,lE,lF,be,λk' ao=>.head h0 zH (eL.1 k' (by grind)),λaX ao=>let ⟨k₁,h1,h2⟩:=eL.2 aX (by grind);⟨k₁,h1,.head h0 zH h2⟩⟩
 | goto l=>exact be.elim
 | ret=>exact⟨.ret,lE,lF,be,.of_steps (.one h0 zH) eL⟩
 | panic Ml=>exact⟨.panic Ml,lE,lF,be,.of_steps (.one h0 zH) eL⟩
 | outgrown=>exact⟨.outgrown,lE,lF,be,.of_steps (.one h0 zH) eL⟩
end
section
variable {T:Nat->ae} {a1:Nat->Option aJ} {Ψ:Nat->Option eH}
def Mm{A β:Type}(m:M (aa A β))(O:β->Prop)(st:aa A β):Prop:=
 match st with
 | .next s=>m.bC (.next s)
 | .done r=>O r
theorem ahh{C:bQ}{s s':ay}{i:Nat}{a:Act}{w:World}(h:K4 s i=some s')(V:b9 C s a w):b9 C s' a w:=by
 obtain⟨κ,F,V⟩:=V;unfold K4 at h;split at h
 ·rename_i b g n off hs;split at h
  ·rename_i e xs bD;split at h
   ·rename_i az;cases h;have hv:=V.bE i;rw[hs]at hv;obtain⟨aO,aP,bA⟩:=hv.2 az (by rw[bD];rfl);rw[bD]at aO bA;have aN:=V.bn b;unfold cg at aN;rw[bD]at aN;obtain⟨cs,T,c1,c2,c3,c4,c5⟩:=aN.2 aP;have aO:n<xs.length:=aO;obtain⟨a8,d1,d2⟩:=c5 n aO;have d2:bt C.P (.slice e) F w a8 xs[n]:=d2;obtain⟨u,rfl,hu⟩:=Bp (t:=.slice e) rfl d2;have s8:cs.getD ((κ b).off+n) Go.undef=u:=by
     have:=d1 0 (by simp);simp only[ae.size,Nat.mul_one,Nat.add_zero]at this;rw[Array.getD_eq_getD_getElem?,this];rfl
    have fS:eZ s.ad κ (λq=>if q=b then (⟨g,.fN (.st (.slice e)) xs n (.val (.slice e) (xs.getD n []))⟩:bu) else s.ad q) κ:=
     qx az (λh=>by cases h) (λ_=>by rw[bD];exact⟨rfl,rfl,rfl⟩) (λh=>by cases h) (λh=>by cases h)
    have cr:=V.oO (b:=b) (x:=⟨g,.fN (.st (.slice e)) xs n (.val (.slice e) (xs.getD n []))⟩) (w':=w) (by rw[bD];simp[bB.bL,aP]) (by simp[bB.bL,aP]) fS (λh=>by cases h) (λh=>by cases h) (λ_ _=>rfl) rfl (cM.refl w) λH mw bZ he=>
     ⟨aP,cs,T,c1,c2,c3,c4,⟨rfl,aO⟩,λj aC _=>c5 j aC,by rw[s8,show xs.getD n []=xs[n] by simp[aO]];exact (dx rfl).2 ⟨hu,d2⟩,by rw[s8];exact Ju (t:=.slice e) rfl d2⟩
    refine⟨κ,F,{ cr with bE:=λj=>?_,di:=cr.di,dfr:=cr.dfr,bn:=cr.bn,pro:=λl aI L m st aS=>?_ }⟩
    ·show bk _ _ _ _ _ (if j=i then _ else _) _;split
     ·rename_i aC;subst aC;refine⟨⟨by show g<=(if b=b then _ else _:bu).gen;simp,hv.1.2⟩,λ_ _=>?_⟩;show _<(if b=b then _ else _:bu).body.len/\_/\_=Value.pointer (some ⟨_,_+_*(if b=b then _ else _:bu).body.eE,_⟩);simp only[if_true];exact⟨aO,aP,bA⟩
     ·exact cr.bE j
    ·have aS:(if TRS=i then _ else _)=aD.tr l aI L m st:=aS;split at aS
     ·cases aS
     ·exact cr.pro l aI L m st aS
   ·cases h
  ·cases h
 ·cases h
theorem ahi{C:bQ}{s s':ay}{b:Nat}{a:Act}{w:World}(h:K5 s b=some s')(V:b9 C s a w):b9 C s' a w:=by
 obtain⟨κ,F,V⟩:=V;unfold K5 at h;split at h
 ·rename_i e xs n v bD;split at h
  ·rename_i y fl aM;split at h
   ·cases h
   ·rename_i pU;cases h;have pU:b ∉ fl:=by simpa using pU
    obtain⟨F',f1,aX,f2⟩:=ba.kS (mv aM) V;have y5:(s.cb fl).ad b=s.ad b:=by simp[ay.cb,pU]
    have aN:=V.bn b;have Mn:=aX.bn b;unfold cg at aN Mn;rw[y5,bD]at Mn;rw[bD]at aN;obtain⟨h0,cs,T,c1,c2,c3,c4,c5,lp,n1,wJ⟩:=Mn;obtain⟨_,cO,hB,TV,_,_,_,_,_,ahj,_⟩:=aN;rw[c1]at TV;cases TV;have uO:=lW V.bn f1 aM f2 ahj;obtain⟨GA,og⟩:=(dx rfl).1 uO;have fS:eZ (s.cb fl).ad κ (λq=>if q=b then (⟨(s.ad b).gen,.a7 (.st (.slice e)) (xs.set n y)⟩:bu) else (s.cb fl).ad q) κ:=
     qx (by rw[y5]) (λh=>by cases h) (λ_=>by rw[y5,bD];exact⟨rfl,by simp[bB.len],rfl⟩) (λh=>by cases h) (λh=>by cases h)
    refine⟨κ,F',aX.oO (b:=b) (w':=w) (by rw[y5,bD];simp[bB.bL,h0]) (by simp[bB.bL,h0]) fS (λh=>by cases h) (λh=>by cases h) (λ_ _=>rfl) rfl (cM.refl w) λH mw bZ he=>⟨λaA=>(by rw[h0]at aA;cases aA),λ_=>⟨cs,T,c1,c2,by simpa using c3,c4,λj aC=>?_⟩⟩⟩;by_cases qw:j=n
    ·subst qw;refine⟨[cs.getD ((κ b).off+j) Go.undef],λq be=>?_,?_⟩
     ·have be:q=0:=by simpa using be
      subst be;have:(κ b).off+j<cs.size:=by
       have:=c5.2;simp only[ae.size,Nat.mul_one]at c2;omega
      simp[ae.size,this]
     ·rw[List.getElem_set_self];exact og
    ·obtain⟨a8,d1,d2⟩:=lp j (by simpa using aC) qw;exact⟨a8,d1,by rw[List.getElem_set_ne (Ne.symm qw)];exact d2⟩
  ·cases h
 ·cases h
theorem ahk:∀ (ann:cf),(∀ (C:bQ) (_:C.P.follows .mixedOrders=true) (_:dw C.P T) (_:iY C.P a1) (_:lD C.P C.aL Ψ) (_:C.r=none\/ann.dI=true) {β:Type} (c:Code) (s:ay) (k:cP->ay->M β) (O:β->Prop) (Q:Exit->Act->World->Prop) (a:Act) (w:World),kZ C.nt c=true->b9 C s a w->M.b_ (ef C.aL T a1 Ψ ann c s k) O->(∀ u,C.jA u->∀ e s' a' w',b9 (C.gQ u) s' a' w'->M.b_ (k e s') O->Q e.o6 a' w')->c.wpIn (dv C.r) 0 C.P Q a w)/\(ann.n9=true->∀ (C:bQ) (_:C.P.follows .mixedOrders=true) (_:dw C.P T) (_:iY C.P a1) (_:lD C.P C.aL Ψ) (_:C.r=none\/ann.dI=true) {β:Type} (c:Code) (s:ay) (k:cP->ay->M β) (O:β->Prop) (Q:Exit->Act->World->Prop) (a:Act) (w:World),kZ C.nt c=true->b9 C s a w->M.b_ (ef C.aL T a1 Ψ ann (.loop c) s k) O->(∀ u,C.jA u->∀ e s' a' w',b9 (C.gQ u) s' a' w'->M.b_ (k e s') O->Q e.o6 a' w')->GJ (dv C.r) 0 C.P c Q a w):=by
 intro ann;induction ann with
 | ek=>
  refine⟨?_,λ_ C dL hT cc cD fB β c s k O Q a w hc V an ao=>by unfold ef at an;exact (gf an).elim⟩;intro C dL hT cc cD fB β c s k O Q a w hc V an ao;unfold ef at an;split at an
  ·rename_i id ops draw;cases draw with
   | true=>exact agE dL hT (S9 cc cD) cD (λo ag=>List.all_eq_true.1 hc o ag) (λs' a' w' aX eV=>ao C.hh C.u9 .normal s' a' w' aX eV) V an
   | false=>
    refine wpIn_region ?_;have:=LN (Q:=Q) (ops:=ops) hT cc cD (λo ag=>List.all_eq_true.1 hc o ag) (k:=k .normal) (O:=O) (λs' a' w' aX eV=>ao C.hh C.u9 .normal s' a' w' aX eV) ops.toList 0 [] s a w (by simp) (λp hp=>by cases hp) V an;rw[List.range_eq_range'];omega
  ·exact wpIn_skip (ao C.hh C.u9 .normal s a w V an)
  ·exact wpIn_label (ao C.hh C.u9 .normal s a w V an)
  ·exact wpIn_exit (ao C.hh C.u9 (.exit _) s a w V an)
  ·exact wpIn_ret (ao C.hh C.u9 .ret s a w V an)
  ·exact (gf an).elim
 | seq x y g_ k2=>
  have g_:=g_.1;have k2:=k2.1;refine⟨?_,λh=>by simp[cf.n9]at h⟩;intro C dL hT cc cD fB β c s k O Q a w hc V an ao;have lG:C.r=none\/x.dI=true:=fB.imp id λh=>by simp only[cf.dI,Bool.and_eq_true]at h;grind
  have p_:C.r=none\/y.dI=true:=fB.imp id λh=>by simp only[cf.dI,Bool.and_eq_true]at h;grind
  unfold ef at an;split at an
  ·rename_i nG zI;simp only[kZ,Bool.and_eq_true]at hc;refine wpIn_seq (g_ C dL hT cc cD lG nG s _ O _ a w hc.1 V an λu hu e s' a' w' aX eV=>?_);cases e with
   | normal=>exact k2 (C.gQ u) dL hT cc cD p_ zI s' k O Q a' w' hc.2 aX eV λv hv=>by rw[bQ.zE];exact ao _ (hu.then hv)
   | exit id=>exact ao u hu (.exit id) s' a' w' aX eV
   | ret=>exact ao u hu .ret s' a' w' aX eV
  ·exact (gf an).elim
 | join sh x y g_ k2=>
  have g_:=g_.1;have k2:=k2.1;refine⟨?_,λh=>by simp[cf.n9]at h⟩;intro C dL hT cc cD fB β c s k O Q a w hc V an ao;have lG:C.r=none\/x.dI=true:=fB.imp id λh=>by simp only[cf.dI,Bool.and_eq_true]at h;grind
  have p_:C.r=none\/y.dI=true:=fB.imp id λh=>by simp only[cf.dI,Bool.and_eq_true]at h;grind
  unfold ef at an;split at an
  ·rename_i nG zI;simp only[kZ,Bool.and_eq_true]at hc;rw[M.fG]at an;refine wpIn_seq (g_ C dL hT cc cD lG nG s _ _ _ a w hc.1 V an λu hu e s' a' w' aX eV=>?_);cases e with
   | normal=>
    obtain⟨A,nC,h2⟩:=tG eV;have h3:=M.dE.1 h2;exact k2 (C.gQ u) dL hT cc cD p_ zI _ k O Q a' w' hc.2 (dj.xb nC aX) h3 λv hv=>by rw[bQ.zE];exact ao _ (hu.then hv)
   | exit id=>
    simp only[w_,M.fG,M.dE,aa.bl]at eV;exact ao u hu (.exit id) s' a' w' aX eV
   | ret=>
    simp only[w_,M.fG,M.dE,aa.bl]at eV;exact ao u hu .ret s' a' w' aX eV
  ·exact (gf an).elim
 | cond x y g_ k2=>
  have g_:=g_.1;have k2:=k2.1;refine⟨?_,λh=>by simp[cf.n9]at h⟩;intro C dL hT cc cD fB β c s k O Q a w hc V an ao;have lG:C.r=none\/x.dI=true:=fB.imp id λh=>by simp only[cf.dI,Bool.and_eq_true]at h;grind
  have p_:C.r=none\/y.dI=true:=fB.imp id λh=>by simp only[cf.dI,Bool.and_eq_true]at h;grind
  unfold ef at an;split at an
  ·rename_i co nG zI;simp only[kZ,Bool.and_eq_true]at hc;unfold Sl at an;split at an
   ·rename_i t hu;obtain⟨κ,F,eB⟩:=V;have hv:=jU eB co;rw[hu]at hv;refine wpIn_cond_split (eQ.1 hv) (λaH=>?_) (λaH=>?_)
    ·subst aH;exact g_ C dL hT cc cD lG nG s k O Q a w hc.1 ⟨κ,F,eB⟩ an ao
    ·subst aH;exact k2 C dL hT cc cD p_ zI s k O Q a w hc.2 ⟨κ,F,eB⟩ an ao
   ·rename_i g t hu;rw[M.kr]at an;obtain⟨aY,an⟩:=an;obtain⟨κ,F,eB⟩:=V;have hv:=jU eB co;rw[hu]at hv;refine wpIn_cond_split (eQ.1 (hv.1 aY)) (λaH=>?_) (λaH=>?_)
    ·subst aH;exact g_ C dL hT cc cD lG nG s k O Q a w hc.1 ⟨κ,F,eB⟩ an ao
    ·subst aH;exact k2 C dL hT cc cD p_ zI s k O Q a w hc.2 ⟨κ,F,eB⟩ an ao
   ·exact (gf an).elim
  ·exact (gf an).elim
 | block x g_=>
  have g_:=g_.1;refine⟨?_,λh=>by simp[cf.n9]at h⟩;intro C dL hT cc cD fB β c s k O Q a w hc V an ao;have lG:C.r=none\/x.dI=true:=fB;unfold ef at an;split at an
  ·rename_i id nG;refine wpIn_block (g_ C dL hT cc cD lG nG s _ O _ a w hc V an λu hu e s' a' w' aX eV=>?_);cases e with
   | normal=>exact ao u hu .normal s' a' w' aX eV
   | exit FV=>
    simp only[Sk]at eV;simp only[cP.o6,Exit.inBlock];split at eV
    ·rename_i e;rw[if_pos e];exact ao u hu .normal s' a' w' aX eV
    ·rename_i e;rw[if_neg e];exact ao u hu (.exit FV) s' a' w' aX eV
   | ret=>exact ao u hu .ret s' a' w' aX eV
  ·exact (gf an).elim
 | loop sh x g_=>
  have g_:=g_.1;refine⟨?_,λh=>by simp[cf.n9]at h⟩;intro C dL hT cc cD fB β c s k O Q a w hc V an ao;have lG:C.r=none\/x.dI=true:=fB;unfold ef at an;split at an
  ·rename_i nG;obtain⟨A,nC,h2⟩:=tG an;refine aha (I:=λA a w=>∃ u,C.jA u/\b9 (C.gQ u) (sh.st A) a w) (O:=O) (λA a w ⟨v,hv,ee⟩ qJ CM=>?_) h2.1 h2.2 ⟨C.hh,C.u9,dj.xb nC V⟩;refine g_ (C.gQ v) dL hT cc cD lG nG (sh.st A) _ (Mm (ef C.aL T a1 Ψ x nG (sh.st A) (w_ k λs'=>sh.mD s' λiq=>M.pure (aa.next iq))) O) _ a w hc ee ⟨qJ,λst fU=>?_⟩ λu hu e s' a' w' aX eV=>?_
   ·cases st with
    | next iq=>exact fU
    | done r=>exact CM r fU
   ·cases e with
    | normal=>
     obtain⟨iq,L8,h3⟩:=tG eV;have aR:=M.dE.1 h3;exact⟨iq,aR,_,hv.then hu,by rw[<-bQ.zE];exact dj.xb L8 aX⟩
    | exit id=>
     simp only[w_,M.fG,M.dE,Mm]at eV;exact ao _ (hv.then hu) (.exit id) s' a' w' (by rw[<-bQ.zE];omega) eV
    | ret=>
     simp only[w_,M.fG,M.dE,Mm]at eV;exact ao _ (hv.then hu) .ret s' a' w' (by rw[<-bQ.zE];omega) eV
  ·exact (gf an).elim
 | scope x g_=>
  have g_:=g_.1;refine⟨?_,λh=>by simp[cf.n9]at h⟩;intro C dL hT cc cD fB β c s k O Q a w hc V an ao;have lG:C.r=none\/x.dI=true:=fB;unfold ef at an;split at an
  ·rename_i nG;refine ahg (g_ C dL hT cc cD lG nG s _ O _ a w hc V an λu hu e s' a' w' aX eV=>?_);have:=ao u hu e s' a' w' aX eV;cases e<;>exact this
  ·exact (gf an).elim
 | range sh rin rout x y g_ k2=>
  have g_:=g_.1;have k2:=k2.1;refine⟨?_,λh=>by simp[cf.n9]at h⟩;intro C dL hT cc cD fB β c s k O Q a w hc V an ao;unfold ef at an;split at an
  ·rename_i g ps assign body;simp only[kZ,Bool.and_eq_true,List.all_eq_true,decide_eq_true_eq]at hc;obtain⟨axf,TW,TX⟩:=hc;split at an
   ·rename_i qT n ez az;split at an
    ·rename_i ic ahl;split at an
     ·rename_i axg fl hx;split at an
      ·rename_i dF;simp only[Bool.and_eq_true]at dF;obtain⟨dF,lG,p_⟩:=dF;obtain⟨A,nC,h2⟩:=tG an;rw[M.kr,M.fG]at h2;simp only[Sm]at h2;have iw:C.r=none:=fB.resolve_right λh=>by cases h
       have Mo:nB sh rout ic.aI ps.toList C.nt=true:=by
        simp only[nB,Bool.and_eq_true,List.all_eq_true,decide_eq_true_eq]at dF ⊢;grind
       refine ag7 iw V az (cD qT _ ahl) hx Mo nC h2.1 h2.2 (λl=>?_) ao;intro C1 i' ta q1 tp ed bT b1 p7 jY j2;have h:=g_ C1 (i' ▸ dL) (i' ▸ hT) (i' ▸ cc) (by grind) (.inr lG) assign ed (FW λdr=>ef C.aL T a1 Ψ y body dr λe eg=>rout.mD eg λτ=>M.pure (e,τ)) p7
        (Exit.then (λa2 cI=>∃ u dr,C1.jA u/\b9 (C1.gQ u) dr a2 cI/\
         ∀ (gZ:bQ),gZ.P=C.P->gZ.aL=C.aL->gZ.nt=C.nt->gZ.r=some l->∀ (cI:World),b9 gZ dr a2 cI->
          body.wpIn (dv (some l)) 0 C.P (λe a3 eC=>∃ (aS:cP) (v:nE) (eg:ay) (τ:rout.ah),e=aS.o6/\gZ.jA v/\b9 (gZ.gQ v) eg a3 eC/\rout.iL eg=some τ/\p7 (aS,τ)) a2 cI) (λ_ _ _=>False)) bT b1 (q1 ▸ TW) jY (ta ▸ j2)
        λu hu e dr a2 cI cr o8=>?_
       ·grind
       ·cases e with
        | normal=>
         refine⟨u,dr,hu,cr,λgZ xv Mp Mq ahm cI l8=>?_⟩;have h:=k2 gZ (xv ▸ dL) (xv ▸ hT) (xv ▸ cc) (by grind) (.inr p_) body dr (λe eg=>rout.mD eg λτ=>M.pure (e,τ)) p7
          (λe a3 eC=>∃ (aS:cP) (v:nE) (eg:ay) (τ:rout.ah),e=aS.o6/\gZ.jA v/\b9 (gZ.gQ v) eg a3 eC/\rout.iL eg=some τ/\p7 (aS,τ)) a2 cI (Mq ▸ TX) l8 (Mp ▸ o8) λv hv e eg a3 eC oh GK=>by
           obtain⟨τ,hτ,bw⟩:=tG GK;exact⟨e,v,eg,τ,rfl,hv,oh,hτ,M.dE.1 bw⟩
         grind
        | exit id=>exact (gf o8).elim
        | ret=>exact (gf o8).elim
      ·exact (gf an).elim
     ·exact (gf an).elim
    ·exact (gf an).elim
   ·rename_i aI S az;split at an
    ·rename_i dF;simp only[Bool.and_eq_true]at dF;obtain⟨dF,lG,p_⟩:=dF;obtain⟨A,nC,h2⟩:=tG an;rw[M.fG]at h2;have iw:C.r=none:=fB.resolve_right λh=>by cases h
     have Mo:nB sh rout aI ps.toList C.nt=true:=by
      simp only[nB,Bool.and_eq_true,List.all_eq_true,decide_eq_true_eq]at dF ⊢;grind
     refine ag9 iw V az Mo nC h2.1 (λL iv=>by have h3:=M.fG.1 (h2.2 L iv);simp only[Sm]at h3;exact h3) (λl=>?_) ao;intro C1 i' ta q1 tp ed bT b1 p7 jY j2;have h:=g_ C1 (i' ▸ dL) (i' ▸ hT) (i' ▸ cc) (by grind) (.inr lG) assign ed (FW λdr=>ef C.aL T a1 Ψ y body dr λe eg=>rout.mD eg λτ=>M.pure (e,τ)) p7
      (Exit.then (λa2 cI=>∃ u dr,C1.jA u/\b9 (C1.gQ u) dr a2 cI/\
       ∀ (gZ:bQ),gZ.P=C.P->gZ.aL=C.aL->gZ.nt=C.nt->gZ.r=some l->∀ (cI:World),b9 gZ dr a2 cI->
        body.wpIn (dv (some l)) 0 C.P (λe a3 eC=>∃ (aS:cP) (v:nE) (eg:ay) (τ:rout.ah),e=aS.o6/\gZ.jA v/\b9 (gZ.gQ v) eg a3 eC/\rout.iL eg=some τ/\p7 (aS,τ)) a2 cI) (λ_ _ _=>False)) bT b1 (q1 ▸ TW) jY (ta ▸ j2)
      λu hu e dr a2 cI cr o8=>?_
     ·grind
     ·cases e with
      | normal=>
       refine⟨u,dr,hu,cr,λgZ xv Mp Mq ahm cI l8=>?_⟩;have h:=k2 gZ (xv ▸ dL) (xv ▸ hT) (xv ▸ cc) (by grind) (.inr p_) body dr (λe eg=>rout.mD eg λτ=>M.pure (e,τ)) p7
        (λe a3 eC=>∃ (aS:cP) (v:nE) (eg:ay) (τ:rout.ah),e=aS.o6/\gZ.jA v/\b9 (gZ.gQ v) eg a3 eC/\rout.iL eg=some τ/\p7 (aS,τ)) a2 cI (Mq ▸ TX) l8 (Mp ▸ o8) λv hv e eg a3 eC oh GK=>by
         obtain⟨τ,hτ,bw⟩:=tG GK;exact⟨e,v,eg,τ,rfl,hv,oh,hτ,M.dE.1 bw⟩
       grind
      | exit id=>exact (gf o8).elim
      | ret=>exact (gf o8).elim
    ·exact (gf an).elim
   ·exact (gf an).elim
  ·exact (gf an).elim
 | nA x y g_ k2=>
  refine ahc (λ_ C dL hT cc cD fB β c s k O Q a w hc V an ao=>?_) λkey C dL hT cc cD fB β c s k O Q a w hc V an ao=>?_
  ·have lG:C.r=none\/x.dI=true:=fB.imp id λh=>by simp only[cf.dI,Bool.and_eq_true]at h;grind
   have p_:C.r=none\/y.dI=true:=fB.imp id λh=>by simp only[cf.dI,Bool.and_eq_true]at h;grind
   unfold ef at an;simp only at an;split at an
   ·rename_i hu;refine ahe (g_.1 C dL hT cc cD lG c s _ O _ a w hc V an λu xe e s' a' w' aX eV=>?_);cases e with
    | normal=>exact k2.2 hu (C.gQ u) dL hT cc cD p_ c s' k O Q a' w' hc aX eV λv hv=>by rw[bQ.zE];exact ao _ (xe.then hv)
    | exit id=>exact ao u xe (.exit id) s' a' w' aX eV
    | ret=>exact ao u xe .ret s' a' w' aX eV
   ·exact (gf an).elim
  ·cases c with
   | loop nG=>exact ahd (key rfl C dL hT cc cD fB nG s k O Q a w hc V an ao)
   | _=>unfold ef at an;exact (gf an).elim
 | FU=>
  refine⟨?_,λh=>by simp[cf.n9]at h⟩;intro C dL hT cc cD fB β c s k O Q a w hc V an ao;unfold ef at an;split at an
  ·rename_i id ops draw;split at an
   ·rename_i h;rw[Bool.and_eq_true]at h;obtain⟨rfl,h⟩:=h;exact agK dL (fB.resolve_right (by simp[cf.dI])) h hT (S9 cc cD) cD (λo ag=>List.all_eq_true.1 hc o ag) (λs' a' w' aX eV=>ao C.hh C.u9 .normal s' a' w' aX eV) V an
   ·exact (gf an).elim
  ·exact (gf an).elim
 | nv i x aG=>
  have aG:=aG.1;refine⟨?_,λh=>by simp[cf.n9]at h⟩;intro C dL hT cc cD fB β c s k O Q a w hc V an ao;unfold ef at an;split at an
  ·rename_i s' hv;exact aG C dL hT cc cD fB c s' k O Q a w hc (ahh hv V) an ao
  ·exact (gf an).elim
 | FT b x aG=>
  have aG:=aG.1;refine⟨?_,λh=>by simp[cf.n9]at h⟩;intro C dL hT cc cD fB β c s k O Q a w hc V an ao;unfold ef at an;split at an
  ·rename_i s' hv;exact aG C dL hT cc cD fB c s' k O Q a w hc (ahi hv V) an ao
  ·exact (gf an).elim
 | num i n x aG=>
  have aG:=aG.1;refine⟨?_,λh=>by simp[cf.n9]at h⟩;intro C dL hT cc cD fB β c s k O Q a w hc V an ao;unfold ef at an;split at an
  ·rename_i v f hv;rw[M.kr]at an;have h:=an.2;rw[aen hv an.1]at h;exact aG C dL hT cc cD fB c s k O Q a w hc V h ao
  ·exact (gf an).elim
 | split i off n x aG=>
  have aG:=aG.1;refine⟨?_,λh=>by simp[cf.n9]at h⟩;intro C dL hT cc cD fB β c s k O Q a w hc V an ao;unfold ef at an;split at an
  ·rename_i v f hv;rw[M.kr]at an;have h:=Sh an.2 an.1.1 an.1.2;rw[aem hv an.1.1]at h;exact aG C dL hT cc cD fB c s k O Q a w hc V h ao
  ·exact (gf an).elim
theorem TY(ann:cf):∀ (C:bQ) (_:C.P.follows .mixedOrders=true) (_:dw C.P T) (_:iY C.P a1) (_:lD C.P C.aL Ψ) (_:C.r=none\/ann.dI=true) {β:Type} (c:Code) (s:ay) (k:cP->ay->M β) (O:β->Prop) (Q:Exit->Act->World->Prop) (a:Act) (w:World),kZ C.nt c=true->b9 C s a w->M.b_ (ef C.aL T a1 Ψ ann c s k) O->(∀ u,C.jA u->∀ e s' a' w',b9 (C.gQ u) s' a' w'->M.b_ (k e s') O->Q e.o6 a' w')->c.wpIn (dv C.r) 0 C.P Q a w:=(ahk ann).1
end
end Go.Fer
namespace Go.Fer
open Go.RowKit
def C6(T:Nat->ae)(s:ay):List ResultVar->Option (List aD)
 | []=>some []
 | r::l=>match C6 T s l with
  | none=>none
  | some aB=>match r with
   | .tmp t=>some (s.aw t::aB)
   | .cell a ty=>match (yL (T ty) (s.aw a)).run s.ad with
    | some v=>some (v::aB)
    | none=>none
def Mr(t:ae)(n:Nat):Bool:=
 match t with
 | .ax _ _=>n != 1
 | .cy=>n == 0
 | _=>n == 1
def va(T:Nat->ae)(ki:List ResultVar)(tr:ae)(e:cP)(s:ay):M tr.ah:=
 match e with
 | .exit _=>M.fail
 | _=>match C6 T s ki with
  | some avs=>match (iG tr avs).run s.ad with
   | some (y,_)=>M.pure y
   | none=>M.fail
  | none=>M.fail
def zJ(t:ae)(x:t.ah)(n:Nat):List (Nat×aD):=(List.range n).map λi=>(i,kd t x i)
def r_(t:ae):Nat:=if t=.cy then 0 else jS t
def o_(t:ae)(x:t.ah):ay:=R7 (zJ t x (r_ t)) []
def C7(U:dh)(T:Nat->ae)(a1:Nat->Option aJ)(Ψ:Nat->Option eH)(fn:Func)(c:Code)(ann:cf)(ts tr:ae)(x:ts.ah):M tr.ah:=
 ef U T a1 Ψ ann c (o_ ts x) (va T fn.results.toList tr)
def GL(av:aD):aD:=match av with | .val (.bq e) p=>.dy e (p.getD e.cN) | v=>v
def C8(av:aD):Prop:=match av with | .val (.bq _) p=>p.isSome=true | _=>True
def GM(n:Nat)(s:ay):ay:=⟨λi=>if i<n\/eu<i then s.aw i else GL (s.aw i),s.ad⟩
def C9(n:Nat)(s:ay):Prop:=∀ i,¬(i<n\/eu<i)->C8 (s.aw i)
def ahn(U:dh)(T:Nat->ae)(a1:Nat->Option aJ)(Ψ:Nat->Option eH)(fn:Func)(c:Code)(ann:cf)(n:Nat)(ts tr:ae)(x:ts.ah):M tr.ah:=
 M.af (C9 n (o_ ts x)) (ef U T a1 Ψ ann c (GM n (o_ ts x)) (va T fn.results.toList tr))
def C_(fn:Func)(c:Code)(ts tr:ae):Bool:=
 kZ fn.ntmps c && Mr tr fn.results.size && decide (r_ ts <= fn.ntmps) && !(fn.name == "runtime.NumGoroutine") && decide (fn.ntmps <= eu)
def zK:z9'->List aD->Option (List aD)
 | [],[]=>some []
 | none::g,v::aB=>match zK g aB with
  | some l=>some (v::l)
  | none=>none
 | some n::g,v::aB=>match v,zK g aB with
  | .agg m f,some l=>if m=n then some ((List.range n).map f++l) else none
  | _,_=>none
 | _,_=>none
def GN(T:Nat->ae)(ki:List ResultVar)(kk:z9')(bC:dj)(e:cP)(s:ay):M bC.ah:=
 match e with
 | .exit _=>M.fail
 | _=>match C6 T s ki with
  | some avs=>match zK kk avs with
   | some l=>match decide (l.length<=eu) with
    | true=>bC.mD (rT s l) λτ=>M.pure τ
    | false=>M.fail
   | none=>M.fail
  | none=>M.fail
def Ms(U:dh)(T:Nat->ae)(a1:Nat->Option aJ)(Ψ:Nat->Option eH)(fn:Func)(c:Code)(ann:cf)(b2 bC:dj)(kk:z9')(A:b2.ah):M bC.ah:=
 ef U T a1 Ψ ann c (b2.st A) (GN T fn.results.toList kk bC)
def C'(fn:Func)(c:Code)(j1:Nat)(kk:z9'):Bool:=
 kZ fn.ntmps c && decide (fn.results.size = kk.length) && decide (j1 <= fn.ntmps) && !(fn.name == "runtime.NumGoroutine") && decide (fn.ntmps <= eu)
section
variable {C:bQ} {T:Nat->ae} {a1:Nat->Option aJ} {Ψ:Nat->Option eH}
def zL(tmps:Array Value)(r:ResultVar):Sem Value:=
 match r with
 | .tmp t=>pure (tmps.getD t undef)
 | .cell b t=>do loadVar t (<-asAddr (tmps.getD b undef))
theorem TZ(fn:Func)(tmps:Array Value):results fn tmps=(fn.results.mapM (zL tmps) >>= λaB=>pure (if h:aB.size=1 then aB[0] else .tuple aB)):=by
 rfl
theorem T0(hT:dw C.P T){s:ay}{a:Act}{w:World}{κ:Nat->bm}{F:Nat->Prop}(V:ba C s a w κ F):∀ (ki:List ResultVar) {avs:List aD},C6 T s ki=some avs->
  ∃ aB:List Value,(ki.mapM (zL a.tmps)).run C.P w=.ok aB w/\aB.length=ki.length/\avs.length=ki.length/\
   ∀ i (h:i<avs.length) (cZ:i<aB.length),bk C.P s.ad κ F w avs[i] aB[i]:=by
 intro ki;induction ki with
 | nil=>intro avs h;cases h;simp
 | cons r ki aG=>
  intro avs h;simp only[C6]at h;split at h
  ·cases h
  ·rename_i l ai;obtain⟨aB,h1,h2,h3,aR⟩:=aG ai;have one:∃ av v,avs=av::l/\(zL a.tmps r).run C.P w=.ok v w/\bk C.P s.ad κ F w av v:=by
    split at h
    ·rename_i t;cases h;exact⟨_,_,rfl,rfl,V.bE t⟩
    ·rename_i b ty;split at h
     ·rename_i v hv;cases h;obtain⟨u,aO,aP⟩:=Q7 hT V hv (V.bE b);refine⟨v,u,rfl,?_,aP⟩;unfold Instr.loadAt at aO;unfold zL;simp only;generalize a.tmps.getD b Go.undef=z at aO ⊢;cases z with
      | pointer p=>
       cases p with
       | none=>simp[Instr.sureAddr]at aO
       | some p=>simpa [Instr.sureAddr,asAddr]using aO
      | _=>simp[Instr.sureAddr]at aO
     grind
   obtain⟨av,v,rfl,aO,aP⟩:=one;refine⟨v::aB,?_,by grind,by grind,λi G dp=>?_⟩
   ·simp_all
   grind
theorem aho(hT:dw C.P T){fn:Func}{tr:ae}(q4:Mr tr fn.results.size=true){e:cP}{s:ay}{a:Act}{w:World}{O:tr.ah->Prop}(V:b9 C s a w)(an:M.b_ (va T fn.results.toList tr e s) O) :
  (∀ id,e≠.exit id)/\∃ κ F v y,ba C s a w κ F/\(results fn a.tmps).run C.P w=.ok v w/\O y/\∃ F',(∀ r,F' r->C.F0 r\/¬C.K0 r)/\(∀ r,F' r->r<w.heap.size)/\sW C.P tr F' w v y:=by
 obtain⟨κ,F,V⟩:=V;unfold va at an;split at an
 ·exact (gf an).elim
 ·rename_i dZ;refine⟨λid he=>dZ id he,?_⟩;split at an
  ·rename_i avs Mt;split at an
   ·rename_i y l aM;obtain⟨aB,h1,h2,h3,aR⟩:=T0 hT V _ Mt;obtain⟨F',f1,aX,f2⟩:=ba.kS (pW _ aM) V;have dA:=uS (F':=F') V.bn f1 tr aM f2 (by omega) aR;have cH:(results fn a.tmps).run C.P w=.ok (if h:aB.toArray.size=1 then aB.toArray[0] else .tuple aB.toArray) w:=by
     rw[TZ,Sem.run_bind];have:(fn.results.mapM (zL a.tmps)).run C.P w=.ok aB.toArray w:=by
      rw[Array.mapM_eq_mapM_toList,map_eq_pure_bind,Sem.run_bind,h1];rfl
     simp_all
    refine⟨κ,F,_,y,V,cH,M.dE.1 an,F',aX.gL,aX.cL,aB,?_,dA⟩;have bU:aB.length=fn.results.size:=by omega
    rw[<-bU]at q4;clear cH dA h1 aR h2 bU aM;have one:aB.length=1->aB=[if h:aB.toArray.size=1 then aB.toArray[0] else .tuple aB.toArray]:=by
     intro h;match aB,h with
     | [v],_=>rfl
    cases tr<;>simp only[Mr,beq_iff_eq,bne_iff_ne,ne_eq]at q4<;>simp only[yA];case ax=>rw[dif_neg (by simpa using q4)]
    case cy=>
     have:aB=[]:=List.length_eq_zero_iff.1 q4;subst this;exact⟨rfl,rfl⟩
    all_goals exact one q4
   ·exact (gf an).elim
  ·exact (gf an).elim
theorem T1{l:List (Nat×aD)}{i:Nat}:e5 l i=.undef\/(i,e5 l i)∈l:=by
 induction l with
 | nil=>exact .inl rfl
 | cons p l aG=>
  simp only[e5];grind
theorem tL{P : Program}{k : FuncId}{fn : Func}{c : Code}(ar : P.funcs[k]? = some fn)(ab : fn.body = some c)(aA : (fn.name == "runtime.NumGoroutine") = false)(args : Array Value)(w : World) :
  (callFunc k args).run P w=.ok (.enter k args) w:=by
 have aA : ¬ fn.name = "runtime.NumGoroutine" := by grind
 simp[callFunc,ar,ab,aA]
def o'(w:World):List Nat->World
 | []=>w
 | B::ms=>o' (w.putObj B (.deferred none)) ms
theorem T2:∀ (ms:List Nat) (w:World),(o' w ms).heap.size=w.heap.size
 | [],_=>rfl
 | _::ms,_=>(T2 ms _).trans World.putObj_size
theorem Mu:∀ (ms:List Nat) (w:World) {r:Nat},r ∉ ms->(o' w ms).heap[r]?=w.heap[r]?
 | [],_,_,_=>rfl
 | B::ms,w,r,h=>by
  simp only[List.mem_cons,not_or]at h;exact (Mu ms _ h.2).trans (World.putObj_heap_other h.1)
theorem T3:∀ (ms:List Nat) (w:World),cM w (o' w ms)
 | [],w=>cM.refl w
 | B::ms,w=>by
  have h:cM w (w.putObj B (.deferred none)):=⟨rfl,rfl,rfl⟩
  exact h.trans (T3 ms _)
theorem Mv{P:Program}{fn:Func}{tmps:Array Value}{R:Ending->World->Prop}:∀ (ms:List Nat) (w:World),ms.Nodup->(∀ B∈ms,w.heap[B]?=some (.deferred (some [])))->
  (∃ v,(results fn tmps).run P (o' w ms)=.ok v (o' w ms)/\R (.returned v) (o' w ms))->LeavesInM Fence.wide 0 P fn tmps R (ms.map oe) .returning w
 | [],w,_,_,h=>h
 | B::ms,w,aA,aN,h=>by
  simp only[List.nodup_cons]at aA;refine⟨by simp,.inl ⟨B,_,rfl,run_takeDeferred (aN B (by simp)),?_⟩⟩;exact Mv ms _ aA.2 (λahp cZ=>(World.putObj_heap_other λe=>aA.1 (by grind)).trans (aN ahp (List.mem_cons_of_mem _ cZ))) h
theorem b9.T4{u:nE}{s:ay}{a:Act}{w:World}(hu:C.jA u)(ahq:∀ r,C.F0 r->r<C.w0.heap.size)(u3:∀ r,C.K0 r->r<C.w0.heap.size)(h:b9 (C.gQ u) s a w) :
  b9 { C with dfr:=u.ms.map oe++C.dfr } s a (o' w u.ms)/\a.defers=u.ms.map oe++C.dfr/\∀ B∈u.ms,w.heap[B]?=some (.deferred (some [])):=by
 obtain⟨κ,F,h⟩:=h;have axh:∀ B∈u.ms,¬F B:=λB aN ar=>by
  obtain⟨h1,_⟩:=hu.r7 B aN;rcases h.gL B ar with h2 | h2
  ·have:=ahq B h2;have:=(hu.dX B aN).2;omega
  ·exact h2 h1
 have bU:=T2 u.ms w;have hc:=T3 u.ms w;refine⟨⟨κ,F,h.Gx (w0:=C.w0) (w':=o' w u.ms) (K0:=C.K0) (r:=C.r) (λr V=>hu.gR r V) (λr V=>Mu _ _ λan=>?_) (Nat.le_of_eq bU.symm) hc u3 (λr V=>?_) ?_ ?_⟩,h.dfr,λB aN=>?_⟩
 ·rcases V with V | V
  ·grind
  ·exact V (hu.r7 r an).1
 ·exact (Mu _ _ λan=>(hu.dX r an).1 V).trans ((h.eb r (hu.gR r V)).trans (hu.eb r V))
 ·rw[bU];exact Nat.le_trans hu.size h.size
 ·exact (hu.dQ.trans h.dQ).trans hc
 ·exact (h.eb B (hu.r7 B aN).1).trans (hu.r7 B aN).2
theorem T5{P:Program}{U:dh}(dL:P.follows .mixedOrders=true){k:FuncId}{fn:Func}{c:Code}{ann:cf}{ts tr:ae}{sh:ts.ah->M tr.ah}(hT:dw P T)(hU:qv P U)(cc:iY P a1)(cD:lD P U Ψ)(ar:P.funcs[k]?=some fn)(ab:fn.body=some c)
    (cp:C_ fn c ts tr=true) {s0:ts.ah->ay} {pre:ts.ah->Prop} (mG:∀ x C a w,b9 C (o_ ts x) a w->pre x->b9 C (s0 x) a w)
    (ni:∀ x,M.le (M.af (pre x) (ef U T a1 Ψ ann c (s0 x) (va T fn.results.toList tr))) (sh x)):hL P k ts tr sh:=by
  simp only[C_,Bool.and_eq_true,Bool.not_eq_true',decide_eq_true_eq]at cp;obtain⟨⟨⟨⟨Da,q4⟩,ahr⟩,Mw⟩,tD⟩:=cp;refine⟨tL ar ab Mw,λF w args x bb fQ dA qJ=>?_⟩;obtain⟨⟨gm,h1⟩,h2⟩:=ni x qJ;have hlen:args.length=r_ ts/\∀ i,i<r_ ts->∀ (H:Nat->bu) (κ:Nat->bm),bk P H κ F w (kd ts x i) (args.getD i Go.undef):=by
    unfold r_;split
    · rename_i e
      subst e
      have:args=[]:=dA.1
      grind
    · rename_i e
      exact⟨(tf (H:=λ_=>⟨0,.fb⟩) (κ:=λ_=>⟨0,0,0,false⟩) ts dA e).1,λi G H κ=>(tf ts dA e).2 i G⟩
  let C:bQ:={ P:=P,w0:=w,F0:=F,K0:=λr=>r<w.heap.size,nt:=fn.ntmps,r:=none,dfr:=[],hX:=λ_=>none,pr:=⟨0,.cy,λ_=>False,λ_ _ _ _ _=>False⟩,aL:=U }
  let a0:Act:={ tmps:=args.toArray++Array.replicate (fn.ntmps - args.toArray.size) undef,defers:=[] }
  let ahs:Nat->bm:=λ_=>⟨0,0,0,false⟩
  have p4:∀ i,(o_ ts x).aw i=.undef\/(i<r_ ts/\(o_ ts x).aw i=kd ts x i):=λi=>by
    rcases T1 (l:=zJ ts x (r_ ts)) (i:=i) with e | e
    · exact .inl e
    · refine .inr ?_
      generalize a_:e5 (zJ ts x (r_ ts)) i=z at e
      simp only[zJ,List.mem_map,List.mem_range,Prod.mk.injEq]at e
      obtain⟨j,aC,rfl,rfl⟩:=e
      exact⟨aC,a_⟩
  have V:b9 C (o_ ts x) a0 w:=by
    refine⟨ahs, F, { di := ?_, dfr := rfl, bE := λi => ?_, bn := λb => trivial, own := λb ab => (by cases ab), inj := λb aZ ab _ _ => (by cases ab), cL := bb, gL := λr V => .inl V, hy := λr V => V, gX := λr V => V, eb := λr _ => rfl, size := Nat.le_refl _, dQ := cM.refl w,fO:=tD,j9:=λb r h=>(by cases h),jn:=λb r h=>(by cases h),jQ:=λb k h=>(by cases h),j_:=λb k h=>(by cases h),pro:=λl aI L n st e=>?_,jo:=hU,ib:=fQ }⟩
    · grind
    · rcases p4 i with e | ⟨G,e⟩
      · rw[e];simp only[bk]
      · rw[e]
        have:a0.tmps.getD i Go.undef=args.getD i Go.undef:=by
          have dp:i<args.length:=by omega
          simp[a0,Array.getD_eq_getD_getElem?,List.getD_eq_getElem?_getD,Array.getElem?_append,dp]
        grind
    · rcases p4 TRS with h | ⟨h,_⟩
      · grind
      · unfold TRS eu at *;omega
  refine callsIn_wide.1 (callsIn_of_wp_marks (F:=Fence.wide) (n:=0) ar ab trivial ?_);have hw:=TY ann C dL hT cc cD (.inl rfl) (k:=va T fn.results.toList tr) (O:=(ef U T a1 Ψ ann c (s0 x) (va T fn.results.toList tr)).bC) (Q:=bodyPostM Fence.wide 0 P fn λe w'=>∃ v y,e=.returned v/\(sh x).bC y/\sW P tr (uB F w w') w' v y/\Below w.heap.size w w') c (s0 x) a0 w Da (mG x C a0 w V gm) ⟨h1,λ_ h=>h⟩;refine hw λu hu e s' a' w' aX an=>?_;obtain⟨cr,au,aN⟩:=b9.T4 hu bb (λ_ h=>h) aX;obtain⟨dZ,κ,zz,v,y,eB,cH,aM,F',f1,f2,fR⟩:=aho (C:={ C with dfr:=u.ms.map oe++C.dfr }) hT q4 cr an;have tv:LeavesInM Fence.wide 0 P fn a'.tmps (λe w'=>∃ v y,e=.returned v/\(sh x).bC y/\sW P tr (uB F w w') w' v y/\Below w.heap.size w w') a'.defers .returning w':=by
    rw[au];simp only[C,List.append_nil];refine Mv u.ms w' hu.l7 aN ⟨v,cH,v,y,rfl,h2 y aM,?_,eB.dQ.os,eB.dQ.tape,eB.dQ.output,eB.size,eB.eb⟩;obtain⟨aB,aO,aP,bA⟩:=fR;refine⟨aB,aO,aP,eP tr (λr V=>?_) (cG.refl _ _) bA⟩;rcases f1 r V with h | h
    · exact .inl h
    · exact .inr ⟨Nat.le_of_not_lt h,f2 r V⟩
  cases e with
  | normal=>exact tv
  | exit id=>grind
  | ret=>exact tv
theorem aht{P:Program}{U:dh}(dL:P.follows .mixedOrders=true){k:FuncId}{fn:Func}{c:Code}{ann:cf}{ts tr:ae}{sh:ts.ah->M tr.ah}(hT:dw P T)(hU:qv P U)(cc:iY P a1)(cD:lD P U Ψ)(ar:P.funcs[k]?=some fn)(ab:fn.body=some c)
  (cp:C_ fn c ts tr=true) (ni:∀ x,M.le (C7 U T a1 Ψ fn c ann ts tr x) (sh x)):hL P k ts tr sh:=
 T5 dL hT hU cc cD ar ab cp (ann:=ann) (s0:=o_ ts) (pre:=λ_=>True) (λ_ _ _ _ h _=>h) λx hs=>⟨⟨trivial,(ni x hs).1⟩,(ni x hs).2⟩
theorem ahu{C:bQ}{s:ay}{a:Act}{w:World}{n:Nat}(h:b9 C s a w)(hc:C9 n s):b9 C (GM n s) a w:=by
 obtain⟨κ,F,V⟩:=h;refine⟨κ,F,{ V with bE:=λi=>?_,di:=V.di,dfr:=V.dfr,bn:=V.bn,pro:=λl aI L m st e=>?_ }⟩
 ·show bk C.P s.ad κ F w (if i<n\/eu<i then s.aw i else GL (s.aw i)) _;split
  ·exact V.bE i
  ·rename_i G;have hv:=V.bE i;have hp:=hc i G;unfold GL;unfold C8 at hp;split
   ·rename_i e p he;rw[he]at hv hp;have hp:p.isSome=true:=hp;obtain⟨_,hv⟩:=(dx rfl).1 hv;simp only[bt]at hv;rcases hv with⟨_,rfl⟩ | ⟨q,y,a8,be,rfl,aO,aP⟩
    ·cases hp
    ·exact⟨q,a8,(List.cons.inj be).1,aO,aP⟩
   omega
 ·have e:(if TRS<n\/eu<TRS then s.aw TRS else GL (s.aw TRS))=.tr l aI L m st:=e;rw[if_pos (.inr (by decide))]at e;exact V.pro l aI L m st e
theorem ahv{P:Program}{U:dh}(dL:P.follows .mixedOrders=true){k:FuncId}{fn:Func}{c:Code}{ann:cf}{n:Nat}{ts tr:ae}{sh:ts.ah->M tr.ah}(hT:dw P T)(hU:qv P U)(cc:iY P a1)(cD:lD P U Ψ)(ar:P.funcs[k]?=some fn)(ab:fn.body=some c)
  (cp:C_ fn c ts tr=true) (ni:∀ x,M.le (ahn U T a1 Ψ fn c ann n ts tr x) (sh x)):hL P k ts tr sh:=
 T5 dL hT hU cc cD ar ab cp (ann:=ann) (s0:=λx=>GM n (o_ ts x)) (pre:=λx=>C9 n (o_ ts x)) (λ_ _ _ _ h hp=>ahu h hp) ni
theorem Mx{H:Nat->bu}{κ:Nat->bm}{F:Nat->Prop}{w:World}{P:Program}:∀ (g:z9') {avs l:List aD} {us:List Value},zK g avs=some l->avs.length=us.length->(∀ i (h:i<avs.length) (cZ:i<us.length),bk P H κ F w avs[i] us[i])->
  ∃ aB:List Value,Cu g us aB/\l.length=aB.length/\∀ i,i<aB.length->bk P H κ F w (l.getD i .undef) (aB.getD i undef)
 | [],[],l,us,h,ai,_=>by
  cases h;have:us=[]:=List.eq_nil_of_length_eq_zero ai.symm;subst this;exact⟨[],rfl,rfl,λi G=>by cases G⟩
 | [],_::_,_,_,h,_,_=>by cases h
 | none::_,[],_,_,h,_,_=>by cases h
 | some _::_,[],_,_,h,_,_=>by cases h
 | none::g,av::avs,l,[],_,ai,_=>by cases ai
 | some n::g,av::avs,l,[],_,ai,_=>by cases ai
 | none::g,av::avs,l,u::us,h,ai,hv=>by
  simp only[zK]at h;split at h
  ·rename_i l' GF;cases h;obtain⟨aB,h1,h2,h3⟩:=Mx g GF (by grind) λi h cZ=>hv (i+1) (Nat.succ_lt_succ h) (Nat.succ_lt_succ cZ);refine⟨u::aB,⟨aB,rfl,h1⟩,by grind,λi G=>?_⟩;cases i with
   | zero=>exact hv 0 (Nat.zero_lt_succ _) (Nat.zero_lt_succ _)
   | succ i=>grind
  grind
 | some n::g,av::avs,l,u::us,h,ai,hv=>by
  simp only[zK]at h;split at h
  ·rename_i m f l' GF;split at h
   ·rename_i RL;cases h;subst RL;obtain⟨aB,h1,h2,h3⟩:=Mx g GF (by grind) λi h cZ=>hv (i+1) (Nat.succ_lt_succ h) (Nat.succ_lt_succ cZ);obtain⟨cs,aO,aP,bA⟩:bk P H κ F w (.agg m f) u:=hv 0 (Nat.zero_lt_succ _) (Nat.zero_lt_succ _);refine⟨cs++aB,⟨cs.toArray,aB,aO,by omega,λc hc=>?_,by simp,h1⟩,by grind,λi G=>?_⟩
    ·obtain⟨j,aC,rfl⟩:=List.mem_iff_getElem.1 (by omega:c∈cs);grind
    grind
   grind
  grind
def ahw(P:Program)(U:dh)(T:Nat->ae)(fn:Func)(c:Code)(ic:IOC):Prop:=
 ∀ (C:bQ) (A:ic.b2.ah) (Q:Exit->Act->World->Prop) (a:Act) (w:World),C.P=P->C.aL=U->C.nt=fn.ntmps->C.r=none->C.dfr=[]->kZ C.nt c=true->b9 C (ic.b2.st A) a w->(ic.sh A).b8->
  (∀ u,C.jA u->∀ e s' a' w',b9 (C.gQ u) s' a' w'->M.b_ (GN T fn.results.toList ic.kk ic.bC e s') (ic.sh A).bC->Q e.o6 a' w')->c.wpIn (dv C.r) 0 C.P Q a w
theorem ahx{P:Program}{U:dh}{k:FuncId}{fn:Func}{c:Code}{ic:IOC}(hT:dw P T)(ar:P.funcs[k]?=some fn)(ab:fn.body=some c)
  (cp:C' fn c ic.j1 ic.kk=true) (ahy:ahw P U T fn c ic):IoSpec P U k ic:=by
 simp only[C',Bool.and_eq_true,Bool.not_eq_true',decide_eq_true_eq]at cp;obtain⟨⟨⟨⟨Da,q4⟩,ahr⟩,Mw⟩,tD⟩:=cp;refine⟨tL ar ab Mw,λC a w κ F A i' zM iw qW rR hU V qJ=>?_⟩;subst i';subst zM;subst hU;have axi:a.tmps.size=ic.j1:=V.di.trans rR;have eA:∀ i,(a.tmps++Array.replicate (fn.ntmps - a.tmps.size) undef).getD i undef=a.tmps.getD i undef:=λi=>by
  simp only[Array.getD_eq_getD_getElem?,Array.getElem?_append];grind
 have aX:ba { C with nt:=fn.ntmps,dfr:=[],r:=none } (ic.b2.st A) { tmps:=a.tmps++Array.replicate (fn.ntmps - a.tmps.size) undef,defers:=[] } C.w0 κ F:=
  { V with di:=(by grind),dfr:=rfl,fO:=tD,bE:=λi=>(by rw[eA];exact V.bE i),bn:=V.bn }
 refine callsIn_wide.1 (callsIn_of_wp_marks (F:=Fence.wide) (n:=0) ar ab trivial ?_);refine ahy { C with nt:=fn.ntmps,dfr:=[],r:=none } A _ _ C.w0 rfl rfl rfl rfl rfl Da ⟨κ,F,aX⟩ qJ λu hu e s' a' w' aX an=>?_;obtain⟨⟨mF,dK,cr⟩,au,aN⟩:=b9.T4 hu (λr h=>V.cL r (V.hy r h)) V.gX aX;have key:(∀ id,e≠.exit id)/\LeavesInM Fence.wide 0 C.P fn a'.tmps (λe w'=>∃ v τ aB κ' F',e=.returned v/\(ic.sh A).bC τ/\F3 ic.kk v aB/\ba { C with nt:=aB.length } (ic.bC.st τ) { tmps:=aB.toArray,defers:=[] } w' κ' F') a'.defers .returning w':=by
  unfold GN at an;split at an
  ·exact (gf an).elim
  ·rename_i dZ;refine⟨λid he=>dZ id he,?_⟩;split at an
   ·rename_i avs Mt;split at an
    ·rename_i l ai;split at an
     ·rename_i bZ;have bZ:l.length<=eu:=of_decide_eq_true bZ;obtain⟨us,aO,aP,bA,ga⟩:=T0 (C:={ C with nt:=fn.ntmps,dfr:=u.ms.map oe++[],r:=none }) hT cr _ Mt;obtain⟨aB,g1,dR,g3⟩:=Mx ic.kk ai (by omega) ga;obtain⟨τ,hτ,bw⟩:=tG an;have aU:=cr.args (avs:=l) (us:=aB) (by omega) dR g3;obtain⟨GB,TK,_,l8⟩:=dj.zr hτ aU;rw[au];simp only[List.append_nil];have cH:(results fn a'.tmps).run C.P (o' w' u.ms)=.ok (if us.length=1 then us.getD 0 undef else .tuple us.toArray) (o' w' u.ms):=by
       rw[TZ,Sem.run_bind];have:(fn.results.mapM (zL a'.tmps)).run C.P (o' w' u.ms)=.ok us.toArray (o' w' u.ms):=by
        rw[Array.mapM_eq_mapM_toList,map_eq_pure_bind,Sem.run_bind,aO];rfl
       rw[this];simp only[Result.andThen_ok,Sem.run_pure,List.size_toArray];grind
      refine Mv u.ms w' hu.l7 aN ⟨_,cH,_,τ,aB,GB,TK,rfl,M.dE.1 bw,⟨us,?_,rfl,g1⟩,?_⟩
      ·rw[aP];simpa using q4
      ·have e:({ C with nt:=aB.length }:bQ)={ C with nt:=aB.length,dfr:=[],r:=none }:=by
        cases C;simp only at iw qW;subst iw;subst qW;rfl
       rw[e];exact l8
     ·exact (gf an).elim
    ·exact (gf an).elim
   ·exact (gf an).elim
 cases e with
 | normal=>exact key.2
 | exit id=>grind
 | ret=>exact key.2
theorem T6{P:Program}{U:dh}(dL:P.follows .mixedOrders=true){k:FuncId}{fn:Func}{c:Code}{ann:cf}{ic:IOC}(hT:dw P T)(cc:iY P a1)(cD:lD P U Ψ)(ar:P.funcs[k]?=some fn)(ab:fn.body=some c)
  (cp:C' fn c ic.j1 ic.kk=true) (ni:∀ A,M.le (Ms U T a1 Ψ fn c ann ic.b2 ic.bC ic.kk A) (ic.sh A)):IoSpec P U k ic:=
 ahx hT ar ab cp λC A Q a w i' hU _ iw _ Da V qJ ao=>by
  subst i';subst hU;obtain⟨h1,h2⟩:=ni A qJ;exact TY ann C dL hT cc cD (.inl iw) c (ic.b2.st A) (GN T fn.results.toList ic.kk ic.bC) (Ms C.aL T a1 Ψ fn c ann ic.b2 ic.bC ic.kk A).bC Q a w Da V ⟨h1,λ_ h=>h⟩ λu hu e s' a' w' aX an=>ao u hu e s' a' w' aX ⟨an.1,λy aM=>h2 y (an.2 y aM)⟩
end
def q5:List (Nat×ae)->Nat->ae
 | [],_=>.cy
 | p::l,i=>if i=p.1 then p.2 else q5 l i
def T7(P:Program)(l:List (Nat×ae)):Bool:=l.all λp=>ch P p.2 (.inl p.1)
theorem ahz{P:Program}{l:List (Nat×ae)}(h:T7 P l=true):dw P (q5 l):=by
 intro id;induction l with
 | nil=>exact .inl rfl
 | cons p l aG=>
  simp only[T7,List.all_cons,Bool.and_eq_true]at h;simp only[q5];split
  ·rename_i e;subst e;exact .inr h.1
  ·exact aG h.2
end Go.Fer
namespace Go.Fer
open Go.RowKit
theorem T8{P:Program}{U:dh}{k:FuncId}{c:IOC}(h:IoSpec P U k c)(hU:qv P U){ic:ITC}(mk:ic.ts.ah->Nat->(List ic.aI.ah->Prop)->c.b2.ah)(aA:c.j1=jS ic.ts+1)(hF:c.j1<=eu)(tC:ic.ts≠.cy)
    (hsl:∀ x l L i,(c.b2.st (mk x l L)).aw i=.undef\/(i<jS ic.ts/\(c.b2.st (mk x l L)).aw i=kd ic.ts x i)\/(i=jS ic.ts/\(c.b2.st (mk x l L)).aw i=.gK l)\/(i=TRS/\(c.b2.st (mk x l L)).aw i=.tr l ic.aI L [] false))
    (ij:c.b2.bn=[]) (p9:∀ τ,∃ n st l L,(c.bC.st τ).aw TRS=.tr l ic.aI L n st)
    (rJ:∀ x l,ic.pre x->(c.sh (mk x l (λT=>T=ic.seq x))).b8/\∀ τ,(c.sh (mk x l (λT=>T=ic.seq x))).bC τ->∀ l' L' n,(c.bC.st τ).aw TRS=.tr l' ic.aI L' n false->n=ic.seq x):CC P k ic:=by
  refine⟨h.enter,λl I F Y w args x dA gm cp bb fQ ik ee=>?_⟩;obtain⟨ie,Gz⟩:=tf (H:=λ_=>⟨0,.fb⟩) (κ:=λ_=>⟨0,0,0,false⟩) ic.ts dA tC;have tM:∀ b,(c.b2.st (mk x l (λT=>T=ic.seq x))).ad b=⟨0,.fb⟩:=λb=>by
    show et (gP cJ c.b2.bn (d_ cJ c.b2.bE (mk x l (λT=>T=ic.seq x))).2) b=_;generalize (d_ cJ c.b2.bE (mk x l (λT=>T=ic.seq x))).2=z;revert z;rw[ij];intro z;rfl
  have bU:(args++[Value.func (.yield l) #[] #[]]).length=c.j1:=by grind
  have V:ba { P:=P,w0:=w,F0:=F,K0:=λr=>r<w.heap.size/\¬Y r,nt:=c.j1,r:=none,dfr:=[],hX:=λ_=>none,pr:=⟨l,ic.aI,λT=>T=ic.seq x,I⟩,aL:=U } (c.b2.st (mk x l (λT=>T=ic.seq x)))
      { tmps:=(args++[Value.func (.yield l) #[] #[]]).toArray,defers:=[] } w (λ_=>⟨0,0,0,false⟩) F:=
    { di := by omega
      dfr:=rfl
      bE:=λi=>by
        rcases hsl x l (λT=>T=ic.seq x) i with e | ⟨G,e⟩ | ⟨G,e⟩ | ⟨G,e⟩
        · rw[e];trivial
        · rw[e]
          have:=(tf (H:=(c.b2.st (mk x l (λT=>T=ic.seq x))).ad) (κ:=λ_=>⟨0,0,0,false⟩) ic.ts dA tC).2 i G
          have e2:(args++[Value.func (.yield l) #[] #[]]).toArray.getD i undef=args.getD i undef:=by
            rw[Array.getD_eq_getD_getElem?,List.getD_eq_getElem?_getD,List.getElem?_toArray,List.getElem?_append_left (by omega)]
          grind
        · rw[e]
          show (args++[Value.func (.yield l) #[] #[]]).toArray.getD i undef=_
          simp_all
        · rw[e];trivial
      bn:=λb=>by unfold cg;rw[tM b];trivial
      own:=λb ab=>by rw[tM b]at ab;cases ab
      inj:=λb aZ ab _ _=>by rw[tM b]at ab;cases ab
      cL:=bb
      gL:=λr V=>.inl V
      hy:=λr V=>V
      gX:=λr V=>V.1
      eb:=λ_ _=>rfl
      size:=Nat.le_refl _
      dQ:=cM.refl _
      fO:=hF
      j9:=λb r h=>by cases h
      jn:=λb r h=>by cases h
      jQ:=λb k h=>by cases h
      j_:=λb k h=>by cases h
      pro:=λl' kj L' n st e=>by
        rcases hsl x l (λT=>T=ic.seq x) TRS with aS | ⟨G,_⟩ | ⟨G,_⟩ | ⟨_,aS⟩
        · grind
        · unfold TRS eu at *;omega
        · grind
        · rw[aS]at e
          cases e
          exact⟨⟨I,rfl⟩,cp,Y,λr V=>⟨(ik r V).1,(ik r V).2,λk=>k.2 V⟩,λb ab=>(by rw[tM b]at ab;cases ab),lj.yC.2 ee⟩
      jo:=hU,ib:=fQ }
  obtain⟨hs,tv⟩:=rJ x l gm;refine (h.iD _ _ w _ F _ rfl rfl rfl rfl rfl rfl V hs).mono λe w' ⟨v,τ,aB,κ',F',he,hτ,_,aX⟩=>?_;obtain⟨n,st,l',L',p4⟩:=p9 τ;obtain⟨⟨ahA,My⟩,_,fZ,h3,aR,Mz⟩:=aX.pro l' ic.aI L' n st p4;refine⟨v,n,st,F',fZ,he,λfU=>?_,lj.yC.1 Mz,aX.hy,λr cr=>?_,aX.cL,λr h1 h2=>aX.eb r ⟨h1,h2⟩,λr cr=>⟨?_,(h3 r cr).1,(h3 r cr).2.1⟩,aX.size,aX.dQ⟩
  · grind
  · rcases aX.gL r cr with h | h
    · exact .inl h
    · by_cases aM:Y r
      · exact .inr (.inl aM)
      · exact .inr (.inr (Nat.le_of_not_lt λbZ=>h ⟨bZ,aM⟩))
  grind
theorem MA{P:Program}{U:dh}{k:FuncId}{c:IOC}(h:IoSpec P U k c)(hU:qv P U){cs:List ae}{aI:ae}{S:(fM (cs.map .bq)).ah->List aI.ah->Prop}(mk:(fM (cs.map .bq)).ah->Nat->(List aI.ah->Prop)->c.b2.ah)
    (aA:c.j1=jS (fM (cs.map .bq))+1) (hF:c.j1<=eu) (tC:fM (cs.map .bq)≠.cy)
    (hsl:∀ x l L i,(∃ T,S x T)->(c.b2.st (mk x l L)).aw i=.undef\/(i<jS (fM (cs.map .bq))+1/\0<i/\∃ e y,(c.b2.st (mk x l L)).aw i=.dy e y/\kd (fM (cs.map .bq)) x (i - 1)=.val (.bq e) (some y))\/(i=0/\(c.b2.st (mk x l L)).aw i=.gK l)\/(i=TRS/\(c.b2.st (mk x l L)).aw i=.tr l aI L [] false))
    (ij:c.b2.bn=[]) (p9:∀ τ,∃ n st l L,(c.bC.st τ).aw TRS=.tr l aI L n st)
    (rJ:∀ x l,(∃ L,S x L)->(c.sh (mk x l (S x))).b8/\∀ τ,(c.sh (mk x l (S x))).bC τ->∀ l' L' p,(c.bC.st τ).aw TRS=.tr l' aI L' p false->S x p):wu P k ⟨cs,aI,S⟩:=by
  refine⟨h.enter,λF w args x bb fQ dA dZ l T9 Y ik ahB ahC=>?_⟩;have cp:=TT ahB;obtain⟨ie,Gz⟩:=tf (H:=λ_=>⟨0,.fb⟩) (κ:=λ_=>⟨0,0,0,false⟩) (fM (cs.map .bq)) dA tC;have tM:∀ b,(c.b2.st (mk x l (S x))).ad b=⟨0,.fb⟩:=λb=>by
    show et (gP cJ c.b2.bn (d_ cJ c.b2.bE (mk x l (S x))).2) b=_;generalize (d_ cJ c.b2.bE (mk x l (S x))).2=z;revert z;rw[ij];intro z;rfl
  have bU:(Value.func (.yield l) #[] #[]::args).length=c.j1:=by grind
  have V:ba { P:=P,w0:=w,F0:=F,K0:=λr=>r<w.heap.size/\¬Y r,nt:=c.j1,r:=none,dfr:=[],hX:=λ_=>none,pr:=⟨l,aI,S x,T9⟩,aL:=U } (c.b2.st (mk x l (S x)))
      { tmps:=(Value.func (.yield l) #[] #[]::args).toArray,defers:=[] } w (λ_=>⟨0,0,0,false⟩) F:=
    { di := by omega
      dfr:=rfl
      bE:=λi=>by
        rcases hsl x l (S x) i dZ with e | ⟨G,n6,te,y,e,ey⟩ | ⟨G,e⟩ | ⟨G,e⟩
        · rw[e];trivial
        · rw[e]
          have:=(tf (H:=(c.b2.st (mk x l (S x))).ad) (κ:=λ_=>⟨0,0,0,false⟩) (fM (cs.map .bq)) dA tC).2 (i - 1) (by omega)
          have e2:(Value.func (.yield l) #[] #[]::args).toArray.getD i undef=args.getD (i - 1) undef:=by
            obtain⟨j,rfl⟩:∃ j,i=j+1:=⟨i - 1,by omega⟩
            simp
          rw[e2]
          rw[ey]at this
          obtain⟨_,hv⟩:=(dx rfl).1 this
          simp only[bt]at hv
          rcases hv with⟨_,aA⟩ | ⟨q,my,a8,be,BX,aO,aP⟩
          · cases aA
          · cases BX
            exact⟨q,a8,(List.cons.inj be).1,aO,aP⟩
        · rw[e]
          subst G
          rfl
        · rw[e];trivial
      bn:=λb=>by unfold cg;rw[tM b];trivial
      own:=λb ab=>by rw[tM b]at ab;cases ab
      inj:=λb aZ ab _ _=>by rw[tM b]at ab;cases ab
      cL:=bb
      gL:=λr V=>.inl V
      hy:=λr V=>V
      gX:=λr V=>V.1
      eb:=λ_ _=>rfl
      size:=Nat.le_refl _
      dQ:=cM.refl _
      fO:=hF
      j9:=λb r h=>by cases h
      jn:=λb r h=>by cases h
      jQ:=λb k h=>by cases h
      j_:=λb k h=>by cases h
      pro:=λl' kj L' n st e=>by
        rcases hsl x l (S x) TRS dZ with aS | ⟨G,_⟩ | ⟨G,_⟩ | ⟨_,aS⟩
        · grind
        · grind
        · grind
        · rw[aS]at e
          cases e
          exact⟨⟨T9,rfl⟩,cp,Y,λr V=>⟨(ik r V).1,(ik r V).2,λk=>k.2 V⟩,λb ab=>(by rw[tM b]at ab;cases ab),lj.yC.2 ahC⟩
      jo:=hU,ib:=fQ }
  obtain⟨hs,tv⟩:=rJ x l dZ;have eL:#[Value.func (.yield l) #[] #[]]++args.toArray=(Value.func (.yield l) #[] #[]::args).toArray:=by simp
  rw[eL];refine (h.iD _ _ w _ F _ rfl rfl rfl rfl rfl rfl V hs).mono λe w' ⟨v,τ,aB,κ',F',he,hτ,_,aX⟩=>?_;obtain⟨n,st,l',L',p4⟩:=p9 τ;obtain⟨⟨ahA,My⟩,_,fZ,h3,aR,Mz⟩:=aX.pro l' aI L' n st p4;refine⟨v,n,st,F',fZ,he,λfU=>?_,lj.yC.1 Mz,aX.hy,λr cr=>?_,aX.cL,λr h1 h2=>aX.eb r ⟨h1,h2⟩,λr cr=>⟨?_,(h3 r cr).1,(h3 r cr).2.1⟩,aX.size,⟨aX.dQ.os,aX.dQ.tape,aX.dQ.output⟩⟩
  · grind
  · rcases aX.gL r cr with h | h
    · exact .inl h
    · by_cases aM:Y r
      · exact .inr (.inl aM)
      · exact .inr (.inr (Nat.le_of_not_lt λbZ=>h ⟨bZ,aM⟩))
  grind
end Go.Fer
namespace Go.Fer
open Go.RowKit Go.ChangeShapes Go.WideShapes
def ae.hl:ae->Bool
 | .bool | .int _ | .str | .cy=>true
 | .st t=>t.hl
 | .ax a b=>a.hl&&b.hl
 | .slice e=>e.hl
 | _=>false
def ae.Ok:(t:ae)->t.ah->Prop
 | .int k,x=>fy k x
 | .str,x=>x.length<2 ^ 63
 | .st t,x=>t.Ok x
 | .ax a b,x=>a.Ok x.1/\b.Ok x.2
 | .slice e,xs=>xs.length<2 ^ 63/\∀ y∈xs,e.Ok y
 | .array n e,xs=>xs.length=n/\∀ y∈xs,e.Ok y
 | _,_=>True
theorem zN{P:Program}{w:World}{F:Nat->Prop}:∀ (t:ae) {cs:List Value} {x:t.ah},bt P t F w cs x->t.Ok x
 | .bool,_,_,_=>trivial
 | .int _,_,_,h=>h.2
 | .str,_,_,h=>h.2
 | .cy,_,_,_=>trivial
 | .st t,_,_,h=>by simp only[bt]at h;exact zN t h
 | .ax a b,_,_,h=>by
  simp only[bt]at h;obtain⟨c,d,_,h1,h2⟩:=h;exact⟨zN a h1,zN b h2⟩
 | .slice e,_,xs,h=>by
  simp only[bt]at h;obtain⟨a,cap,_,h1,h2,h3,aR⟩:=h;refine⟨by omega,λy aM=>?_⟩;obtain⟨i,G,rfl⟩:=List.mem_iff_getElem.1 aM;cases a with
  | none=>have:=h3 rfl;omega
  | some p=>
   obtain⟨a8,_,k⟩:=(aR p rfl (by omega)).2.2 i G;exact zN e k
 | .array n e,_,xs,h=>by
  simp only[bt]at h;obtain⟨eX,_,h1,h2,h3⟩:=h;refine⟨h2,λy aM=>?_⟩;obtain⟨i,G,rfl⟩:=List.mem_iff_getElem.1 aM;exact zN e (h3 i G (by omega))
 | .bq _,_,_,_=>trivial
 | .map _ _,_,_,_=>trivial
 | .fn _ _,_,_,_=>trivial
 | .b5 _,_,_,_=>trivial
 | .dO,_,_,_=>trivial
section
variable {H:Type} {enc:TypeId×Value->H} {P:Program} {w:World}
theorem bP.cells{t:ae}{id:TypeId}(h:bP P t id):P.cellsOf id=t.size:=by
 obtain⟨i,z,h1,h2,_⟩:=kc h.ka;simp[Program.cellsOf,h1,h2]
theorem T_{a:Addr}{n:Nat}{a8:List Value}(h:w.cells? 0 a n=some a8)(aA:0<n):a.spot=none/\a.block<w.heap.size/\a8.length=n/\∀ j (aC:j<a8.length),w.cell? ⟨a.block,a.off+j,none⟩=some a8[j]:=by
 have ab:=World.cells?_block h aA;have nH:a.spot=none:=by
  unfold World.cells? at h;split at h
  ·obtain⟨m,rfl⟩:∃ m,n=m+1:=⟨n - 1,by omega⟩
   rw[List.range_succ_eq_map]at h;simp only[List.mapM_cons,Option.bind_eq_bind,Option.bind_eq_some_iff]at h;obtain⟨v,hv,_⟩:=h;cases hs:a.spot with
   | none=>rfl
   | some x=>simp[World.cell?,Addr.add,hs]at hv;split at hv<;>cases hv
  ·cases h
 unfold World.cells? at h;split at h
 ·have hlen:a8.length=n:=by
   have:∀ (l:List Nat) (r:List Value),l.mapM (λi=>w.cell? (a.add i))=some r->r.length=l.length:=by
    intro l;induction l with
    | nil=>intro r V;simp at V;subst V;rfl
    | cons x l aG=>
     intro r V;simp only[List.mapM_cons,Option.bind_eq_bind,Option.bind_eq_some_iff,Option.pure_def,Option.some.injEq]at V;obtain⟨v,_,pM,aX,rfl⟩:=V;simp[aG pM aX]
   simpa using this _ _ h
  refine⟨nH,ab,hlen,λj aC=>?_⟩;have:∀ (l:List Nat) (r:List Value),l.mapM (λi=>w.cell? (a.add i))=some r->∀ j (h1:j<l.length) (h2:j<r.length),w.cell? (a.add l[j])=some r[j]:=by
   intro l;induction l with
   | nil=>intro r _ j h1;simp at h1
   | cons x l aG=>
    intro r V j h1 h2;simp only[List.mapM_cons,Option.bind_eq_bind,Option.bind_eq_some_iff,Option.pure_def,Option.some.injEq]at V;obtain⟨v,hv,pM,aX,rfl⟩:=V;cases j with
    | zero=>exact hv
    | succ j=>exact aG pM aX j (by simpa using h1) (by simpa using h2)
  have h1:=this _ _ h j (by simp;omega) aC;rw[<-h1];have yP:a.add ((List.range n)[j]'(by simp;omega))=⟨a.block,a.off+j,none⟩:=by
   cases a;simp only at nH;subst nH;simp[Addr.add]
  rw[yP]
 ·cases h
def qa(w:World):Nat->Prop:=λr=>r<w.heap.size
def ae.oi(n:Nat):(t:ae)->t.ah->Prop
 | .st t,x=>t.oi n x
 | .ax a b,x=>a.oi n x.1/\b.oi n x.2
 | .slice e,xs=>xs.length<=n/\∀ y∈xs,e.oi n y
 | _,_=>True
structure Bg(b:DataW H->Nat):Prop where
 len:∀ e s,e.length<=b (.slice e s)
 Bh:∀ e s d,d∈e->b d<=b (.slice e s)
 Qz:∀ l d,d∈l->b d<=b (.agg l)
variable {b:DataW H->Nat} {N:Nat}
theorem ahD(ab:Bg b)(t:ae):(t.hl=true->∀ {id:TypeId} {bW:Nat} {cs:List Value} {x:DataW H×List MemPlace},bP P t id->DataW.trod enc P w 0 (λ_=>true) true bW id cs=some x->b x.1<=N->∃ y,bt P t (qa w) w cs y/\t.oi N y)/\
  (t.hl=true->∀ {l:List Field} {off n:Nat} {cs:List Value},ch P t (.inr (l,off))=true->(∀ f∈l,∃ x,DataW.trod enc P w 0 (λ_=>true) true n f.type ((cs.drop f.offset).take (P.cellsOf f.type))=some x/\b x.1<=N)->∃ y,bt P t (qa w) w ((cs.drop off).take t.size) y/\t.oi N y):=by
 induction t with
 | bool=>
  refine⟨λ_ {id bW cs x} aH h _=>?_,λ_ {l off n cs} h=>by simp[ch]at h⟩;have hu:P.underlying id=some .bool:=by
   unfold bP at aH;simp only[ch,Bool.and_eq_true]at aH;obtain⟨_,aH⟩:=aH;split at aH
   ·assumption
   ·cases aH
  obtain⟨b,rfl,_⟩:=DataW.trod_bool hu h;exact⟨_,rfl,trivial⟩
 | int k=>
  refine⟨λ_ {id bW cs x} aH h _=>?_,λ_ {l off n cs} h=>by simp[ch]at h⟩;obtain⟨n,rfl,_,hw⟩:=DataW.trod_int aH.int h;simp only[Lit.wf,Bool.and_eq_true,decide_eq_true_eq]at hw;exact⟨n,⟨rfl,hw⟩,trivial⟩
 | str=>
  refine⟨λ_ {id bW cs x} aH h _=>?_,λ_ {l off n cs} h=>by simp[ch]at h⟩;obtain⟨s,rfl,_,hw⟩:=DataW.trod_string aH.str h;refine⟨s.data.toList,⟨by simp,?_⟩,trivial⟩;have:s.data.toList.length=s.size:=by rw[Array.length_toList];rfl
  rw[this];have:maxLen<2 ^ 63:=by decide
  omega
 | cy=>exact⟨λ_ {id bW cs x} aH h _=>by simp[bP,ch]at aH,λ_ {l off n cs} h=>by simp[ch]at h⟩
 | st t aG=>
  refine⟨λai {id bW cs x} aH h mH=>?_,λ_ {l off n cs} h=>by simp[ch]at h⟩;have ai:t.hl=true:=ai;have GO:P.cellsOf id=t.size:=aH.cells;obtain⟨ez,hu⟩:=aH.st;obtain⟨xs,n,_,rfl,hlen,RS,ar⟩:=DataW.trod_struct hu h;unfold bP at aH;simp only[ch,Bool.and_eq_true]at aH;obtain⟨_,aH⟩:=aH;rw[hu]at aH;have iW:∀ f∈ez.toList,∃ x,DataW.trod enc P w 0 (λ_=>true) true n f.type ((cs.drop f.offset).take (P.cellsOf f.type))=some x/\b x.1<=N:=by
   intro f ahE;obtain⟨i,G,rfl⟩:=List.mem_iff_getElem.1 ahE;have dp:i<ez.size:=by simpa using G
   refine⟨xs[i]'(by omega),?_,Nat.le_trans (ab.Qz _ _ (List.mem_map_of_mem (List.getElem_mem _))) mH⟩;rw[ar i _ (by simp[dp])];exact List.getElem?_eq_getElem _
  simp only at aH;split at aH
  ·have aH:=of_decide_eq_true aH;subst aH;have:cs=[]:=by
    have:=hlen.trans GO;simpa [ae.size]using this
   subst this;exact⟨(),rfl,trivial⟩
  ·rename_i f fB;simp only[Bool.and_eq_true,beq_iff_eq,bne_iff_ne]at aH;obtain⟨⟨⟨h0,h1⟩,_⟩,_⟩:=aH;obtain⟨x,hx,ahF⟩:=iW f (by rw[fB];simp);have hc:P.cellsOf f.type=t.size:=bP.cells h1;rw[h0,hc,List.drop_zero,List.take_of_length_le (by omega)]at hx;exact aG.1 ai h1 hx ahF
  ·obtain⟨y,aM⟩:=aG.2 ai aH iW;rw[List.drop_zero,List.take_of_length_le (by omega)]at aM;exact⟨y,aM⟩
 | ax a b fa ei=>
  refine⟨λ_ {id bW cs x} aH h _=>by simp[bP,ch]at aH,λai {l off n cs} aH h=>?_⟩;simp only[ae.hl,Bool.and_eq_true]at ai;have join:∀ {y:a.ah} {z:b.ah},bt P a (qa w) w ((cs.drop off).take a.size) y/\a.oi N y->bt P b (qa w) w ((cs.drop (off+a.size)).take b.size) z/\b.oi N z->∃ y,bt P (.ax a b) (qa w) w ((cs.drop off).take (ae.ax a b).size) y/\(ae.ax a b).oi N y:=by
   intro y z aM a_;refine⟨(y,z),⟨_,_,?_,aM.1,a_.1⟩,aM.2,a_.2⟩;simp only[ae.size];rw[List.take_add,List.drop_drop]
  match l,aH with
  | f::g::[],aH=>
   simp only[ch,Bool.and_eq_true,beq_iff_eq,bne_iff_ne]at aH;obtain⟨⟨⟨⟨h0,h1⟩,_⟩,_⟩,⟨⟨⟨gR,aO⟩,_⟩,_⟩⟩:=aH;obtain⟨x,hx,aA⟩:=h f (by simp);obtain⟨dn,nq,B8⟩:=h g (by simp);rw[h0,bP.cells h1]at hx;rw[gR,bP.cells aO]at nq;obtain⟨y,aM⟩:=fa.1 ai.1 h1 hx aA;obtain⟨z,a_⟩:=ei.1 ai.2 aO nq B8;exact join aM a_
  | f::g::e::ez,aH=>
   simp only[ch,Bool.and_eq_true,beq_iff_eq,bne_iff_ne]at aH;obtain⟨⟨⟨⟨h0,h1⟩,_⟩,_⟩,aO⟩:=aH;obtain⟨x,hx,aA⟩:=h f (by simp);rw[h0,bP.cells h1]at hx;obtain⟨y,aM⟩:=fa.1 ai.1 h1 hx aA;obtain⟨z,a_⟩:=ei.2 ai.2 aO λih qY=>h ih (List.mem_cons_of_mem _ qY);exact join aM a_
 | slice e aG=>
  refine⟨λai {id bW cs x} aH h mH=>?_,λ_ {l off n cs} h=>by simp[ch]at h⟩;have ai:e.hl=true:=ai;obtain⟨i,hu,he,bU⟩:=aH.sl;have GO:=he.cells;rcases DataW.trod_slice hu h with⟨rfl,_⟩ | ⟨a,len,cap,elems,bY,n,rfl,rfl,hx,_,T',wN,jZ,eA,Ua,_⟩
  ·exact⟨[],⟨none,0,rfl,Nat.le_refl _,by decide,λ_=>rfl,λp hp=>by cases hp⟩,Nat.zero_le _,λy aM=>by cases aM⟩
  ·rw[hx]at mH;have kT:0<P.cellsOf i:=by rw[GO];omega
   have key:∀ j,j<len->∃ a8 y,w.cells? 0 (a.add (j*P.cellsOf i)) (P.cellsOf i)=some a8/\bt P e (qa w) w a8 y/\e.oi N y:=by
    intro j aC;have:=eA j aC;rw[List.getElem?_eq_getElem (by omega)]at this;obtain⟨a8,h1,h2⟩:=Option.bind_eq_some_iff.1 this;obtain⟨y,aM⟩:=aG.1 ai he h2 (Nat.le_trans (ab.Bh _ _ _ (List.mem_map_of_mem (List.getElem_mem _))) mH);exact⟨a8,y,h1,aM⟩
   have ahG:0<cap->a.spot=none/\a.block<w.heap.size:=by
    intro hc;have:∃ a8,w.cells? 0 (a.add (0*P.cellsOf i)) (P.cellsOf i)=some a8:=by
     by_cases J1:0<len
     ·obtain⟨a8,_,h1,_⟩:=key 0 J1;exact⟨a8,h1⟩
     ·obtain⟨m1,m2⟩:=Ua rfl;have a_:len=0:=by omega
      subst a_;have:=m2 0 (by omega);rw[List.getElem?_eq_getElem (by omega)]at this;obtain⟨a8,h1,_⟩:=Option.bind_eq_some_iff.1 this;exact⟨a8,h1⟩
    obtain⟨a8,h1⟩:=this;have e1:a.add (0*P.cellsOf i)=a:=by unfold Addr.add;simp
    rw[e1]at h1;obtain⟨aO,aP,_⟩:=T_ h1 kT;exact⟨aO,aP⟩
   have:∃ ys:List e.ah,ys.length=len/\∀ j (aC:j<ys.length),∃ a8,w.cells? 0 (a.add (j*P.cellsOf i)) (P.cellsOf i)=some a8/\bt P e (qa w) w a8 ys[j]/\e.oi N ys[j]:=by
    clear eA jZ h T' Ua mH;induction len with
    | zero=>exact⟨[],rfl,λj aC=>by simp at aC⟩
    | succ m ahH=>
     obtain⟨ys,jV,cz⟩:=ahH λj aC=>key j (by omega);obtain⟨a8,y,h1,h2⟩:=key m (by omega);refine⟨ys++[y],by simp[jV],λj aC=>?_⟩;by_cases wQ:j<ys.length
     ·rw[List.getElem_append_left wQ];exact cz j wQ
     ·have:j=m:=by simp at aC;omega
      subst this;refine⟨a8,h1,?_⟩;rw[List.getElem_append_right (by omega)];simpa [jV]using h2
   have ahI:len<=N:=by have:=ab.len (elems.map (·.1)) (bY.map (·.1));rw[List.length_map,jZ]at this;exact Nat.le_trans this mH
   obtain⟨ys,rfl,jV⟩:=this;have y2:maxLen<2 ^ 63:=by decide
   refine⟨ys,⟨some a,cap,rfl,T',by omega,(by simp),λp hp uE=>?_⟩,ahI,λy aM=>by
    obtain⟨j,aC,rfl⟩:=List.mem_iff_getElem.1 aM;obtain⟨a8,_,h1,h2⟩:=jV j aC;exact h2⟩
   cases hp;obtain⟨aO,aP⟩:=ahG uE;refine⟨aP,aO,λj aC=>?_⟩;obtain⟨a8,d1,d2,_⟩:=jV j aC;obtain⟨m1,m2,m3,m4⟩:=T_ d1 kT;refine⟨a8,⟨aP,rfl,λq be=>?_⟩,d2⟩;have:=m4 q be;have e1:a.add (j*P.cellsOf i)=⟨a.block,a.off+j*e.size,none⟩:=by
    rw[GO];cases a;simp only at aO;subst aO;unfold Addr.add;split
    ·rename_i h0;simp[h0]
    ·rfl
   rw[e1]at this;exact this
 | array n e aG=>exact⟨λh=>by simp[ae.hl]at h,λh=>by simp[ae.hl]at h⟩
 | bq e aG=>exact⟨λh=>by simp[ae.hl]at h,λh=>by simp[ae.hl]at h⟩
 | map k v wm wo=>exact⟨λh=>by simp[ae.hl]at h,λh=>by simp[ae.hl]at h⟩
 | fn a b fa ei=>exact⟨λh=>by simp[ae.hl]at h,λh=>by simp[ae.hl]at h⟩
 | b5 a aG=>exact⟨λh=>by simp[ae.hl]at h,λh=>by simp[ae.hl]at h⟩
 | dO=>exact⟨λh=>by simp[ae.hl]at h,λh=>by simp[ae.hl]at h⟩
theorem Ub(ab:Bg b){t:ae}(ai:t.hl=true){id:TypeId}(aH:bP P t id){base:Nat}{v:Value}{d:DataW H}{ps:List MemPlace}(cp:Value.okWide P w .any base id v)
  (h:DataW.Trod enc P w 0 (λ_=>true) true id v d ps) (mH:b d<=N):∃ y,dP P t (qa w) w v y/\t.oi N y:=by
 obtain⟨n,aA⟩:=h;obtain⟨y,aM,ar⟩:=(ahD ab t).1 ai aH aA mH;refine⟨y,⟨?_,aM⟩,ar⟩;cases t with
 | bool=>
  simp only[bt]at aM;have hu:P.underlying id=some .bool:=by
   unfold bP at aH;simp only[ch,Bool.and_eq_true]at aH;obtain⟨_,aH⟩:=aH;split at aH
   ·assumption
   ·cases aH
  simp only[Value.okWide,hu,Cell.okWide,Cell.ok]at cp;cases v<;>first | rfl | exact cp.elim
 | int k=>
  simp only[Value.okWide,aH.int,Cell.okWide,Cell.ok]at cp;cases v<;>first | rfl | exact cp.elim
 | str=>
  simp only[Value.okWide,aH.str,Cell.okWide,Cell.ok]at cp;cases v<;>first | rfl | exact cp.elim
 | cy=>simp[bP,ch]at aH
 | st t=>
  obtain⟨ez,hu⟩:=aH.st;simp only[Value.okWide,hu]at cp;obtain⟨cs,rfl,hc,_⟩:=cp;exact⟨cs,rfl,hc.trans aH.cells⟩
 | ax a b=>simp[bP,ch]at aH
 | slice e=>
  obtain⟨i,hu,_⟩:=aH.sl;simp only[Value.okWide,hu,Cell.okWide,Cell.ok]at cp;cases v<;>first | rfl | exact cp.elim
 | array n e=>simp[ae.hl]at ai
 | bq e=>simp[ae.hl]at ai
 | map k v=>simp[ae.hl]at ai
 | fn a b=>simp[ae.hl]at ai
 | b5 a=>simp[ae.hl]at ai
 | dO=>simp[ae.hl]at ai
def xw(P:Program):List TypeId->ae->Bool
 | [id],t=>ch P t (.inl id)&&t.hl
 | id::ids,.ax a b=>ch P a (.inl id)&&a.hl&&xw P ids b
 | _,_=>false
theorem Uc(ab:Bg b):∀ (ids:List TypeId) (ts:ae) {base:Nat} {aB:List Value} {a8:List (DataW H)} {ps:List MemPlace},xw P ids ts=true->DataW.TrodAll enc P w 0 (λ_=>true) true ids aB a8 ps->
  (∀ (j:Nat) t v,ids[j]?=some t->aB[j]?=some v->Value.okWide P w .any base t v)->(∀ d∈a8,b d<=N)->∃ x,eY P ts (qa w) w aB x/\ts.oi N x
 | [],ts,_,aB,a8,ps,h,_,_,_=>by simp[xw]at h
 | [id],t,_,aB,a8,ps,h,h5,cp,mH=>by
  simp only[xw,Bool.and_eq_true]at h;obtain⟨v0,MB,d0,MC,Fe,BM,rfl,rfl,rfl,h0,r'⟩:=trodAll_cons h5;obtain⟨rfl,rfl,rfl⟩:=trodAll_nil r';obtain⟨y,⟨xj,r2⟩,ar⟩:=Ub ab h.2 h.1 (cp 0 id v0 rfl rfl) h0 (mH _ (List.mem_cons_self ..));refine⟨y,⟨?_,by simpa [dI]using r2⟩,ar⟩;cases t<;>first | exact⟨v0,rfl,xj⟩ | (simp[ch]at h;done)
 | id::ahJ::ids,ts,base,aB,a8,ps,h,h5,cp,mH=>by
  cases ts with
  | ax a b=>
   simp only[xw,Bool.and_eq_true]at h;obtain⟨v0,MB,d0,MC,Fe,BM,rfl,rfl,rfl,h0,r'⟩:=trodAll_cons h5;obtain⟨y,⟨xj,r2⟩,ar⟩:=Ub ab h.1.2 h.1.1 (cp 0 id v0 rfl rfl) h0 (mH _ (List.mem_cons_self ..));obtain⟨z,⟨ahK,ahL⟩,az⟩:=Uc ab (ahJ::ids) b h.2 r' (λj t v h1 h2=>cp (j+1) t v (by simpa using h1) (by simpa using h2)) λd au=>mH d (List.mem_cons_of_mem _ au);exact⟨(y,z),⟨⟨xj,ahK⟩,_,_,Js _ _,r2,ahL⟩,ar,az⟩
  | _=>simp[xw]at h
theorem Ud(ai:laidOutB P=true){w':World}{Ue:Nat->Bool}:∀ (ids:List TypeId) {aB:List Value} {a8:List (DataW H)} {ps:List MemPlace},(ids.all λt=>P.readableRec t&&decide (t<P.types.size))=true->
  DataW.TrodAll enc P w 0 (λ_=>true) true ids aB a8 ps->(∀ p∈ps,w.sameAt w' p)->(∀ p∈ps,Ue p.block=true)->DataW.TrodAll enc P w' 0 Ue true ids aB a8 ps
 | [],_,_,_,_,h,_,_=>by
  obtain⟨rfl,rfl,rfl⟩:=trodAll_nil h;rfl
 | id::ids,aB,a8,ps,V,h,h1,h2=>by
  simp only[List.all_cons,Bool.and_eq_true,decide_eq_true_eq]at V;obtain⟨v0,MB,d0,MC,Fe,BM,rfl,rfl,rfl,h0,r'⟩:=trodAll_cons h;exact trodAll_cons_mk (Go.WideElems.Trod_stays ai V.1.1 V.1.2 h0 (λp hp=>h1 p (List.mem_append_left _ hp)) (λp hp=>h2 p (List.mem_append_left _ hp)))
   (Ud ai ids V.2 r' (λp hp=>h1 p (List.mem_append_right _ hp)) (λp hp=>h2 p (List.mem_append_right _ hp)))
theorem abP(ab:Bg b){k:FuncId}{fn:Func}{ts:ae}{sh:ts.ah->M (ae.bool).ah}{spec:ChangeSpec}{rt:TypeId}(ahM:laidOutB P=true)(wR:hL P k ts .bool sh)(ahN:∀ x,ts.Ok x->ts.oi N x->M.b_ (sh x) λy=>y=true)
  (dA:xw P fn.params.toList ts=true) (ahO:(fn.params.toList.all λt=>P.readableRec t&&decide (t<P.types.size))=true) (fR:fn.resultTypes=#[rt]) (ahP:P.underlying rt=some .bool)
  (hv:spec.vars=[]) (sS:∀ (H:Type) (a8:List (DataW H)),a8.length=fn.params.size->spec.fn H a8={ results:=[.lit (.bool true)],args:=a8 })
  {base:Nat} {args:Array Value} {a8 gs:List (DataW H)} {before:List MemPlace} (xx:∀ (j:Nat) t v,fn.params[j]?=some t->args[j]?=some v->Value.okWide P w .any base t v)
  (wh:DataW.Whole enc P fn.params.toList spec.vars false w args.toList a8 gs before) (mH:∀ d∈a8,b d<=N) (fQ:nk P (qa w) w:=by exact λb ab=>absurd (show b<0 from ab) (Nat.not_lt_zero b)) :
  Calls P k args w λe p8=>∃ v,e=.returned v/\spec.post enc P fn false true false false w args v p8:=by
 have bZ:=wh.lt;have Uf:=wh;obtain⟨p,q,h5,MD,rfl,s_,_⟩:=wh;have be:gs=[]/\q=[]:=by
  rw[hv]at MD;cases gs with
  | nil=>exact⟨rfl,MD⟩
  | cons _ _=>exact MD.elim
 obtain⟨rfl,rfl⟩:=be;simp only[List.append_nil]at Uf bZ s_;obtain⟨x,hx,ar⟩:=Uc ab fn.params.toList ts dA h5 (λj t v h1 h2=>xx j t v (by simpa using h1) (by simpa using h2)) mH;obtain⟨hs,ag⟩:=ahN x (zN ts hx.2) ar;have uP:a8.length=fn.params.size:=by
  have:∀ (ids:List TypeId) {aB:List Value} {a8:List (DataW H)} {ps:List MemPlace},DataW.TrodAll enc P w 0 (λ_=>true) true ids aB a8 ps->a8.length=ids.length:=by
   intro ids;induction ids with
   | nil=>intro aB a8 ps h;obtain⟨rfl,rfl,rfl⟩:=trodAll_nil h;rfl
   | cons id ids aG=>intro aB a8 ps h;obtain⟨v0,MB,d0,MC,Fe,BM,rfl,rfl,rfl,h0,r'⟩:=trodAll_cons h;simp[aG r']
  simpa using this _ h5
 have hc:=wR.iD (qa w) w args.toList x (λ_ h=>h) fQ hx hs;refine hc.mono λe p8 ⟨v,y,he,aM,V,ab⟩=>?_;have aM:=ag y aM;subst aM;obtain⟨aB,bX,cn⟩:=V;have ahQ:v=.bool true:=by
  simp only[yA]at bX;subst bX;obtain⟨⟨u,hu,ni⟩,ns⟩:=cn;simp only[List.cons.injEq,and_true]at hu;subst hu;simp only[ks]at ni;simp only[Js,ni,abT,bt]at ns;simpa using ns
 subst ahQ;have qL:∀ p'∈p,w.sameAt p8 p':=by
  intro p' hp;have h1:=ab.block _ (bZ p' hp);cases p' with
  | cell b off=>simp only[World.sameAt,World.cell?];simp only[MemPlace.block]at h1;rw[h1]
  | map b=>exact h1
 refine⟨_,he,a8,[],p,[],p,[],Uf,?_,?_,?_,?_,λh=>by cases h⟩
 ·rw[List.append_nil,sS H a8 uP,fR];exact trodAll_cons_mk (shut_bool ahP true) trodAll_mk0
 ·rw[List.append_nil,sS H a8 uP];exact Ud ahM _ ahO h5 qL λp' hp=>by simpa using bZ p' hp
 ·rw[hv,List.append_nil,sS H a8 uP];rfl
 ·refine⟨ab.os,ab.output,λi G=>?_⟩;have h1:=ab.block i G;rw[h1];exact (World.keptBut_refl w λGP=>GP∈p/\(GP∈[]\/GP∈p\/GP∈[])).2.2 i G
end
end Go.Fer
namespace Go.Fer.nV
open Go.Proofs
abbrev t2:ae:=.int .i64
abbrev t3:ae:=.int .i64
abbrev t4:ae:=.bool
abbrev t5:ae:=.int .u8
abbrev ahR:ae:=.int .u8
abbrev ahS:ae:=.st (.ax t2 (.ax t3 (.ax t4 ahR)))
abbrev t9:ae:=.str
abbrev ahT:ae:=.str
abbrev ahU:ae:=.str
abbrev t21:ae:=.int .i32
abbrev xy:ae:=.st (.ax t3 t3)
abbrev zO:ae:=.st (.ax t3 (.ax t3 xy))
abbrev t22:ae:=.slice zO
abbrev t27:ae:=.slice t3
abbrev zP:ae:=.st (.ax t3 (.ax t27 xy))
abbrev GQ:ae:=.slice zP
abbrev xz:ae:=.st GQ
abbrev Db:ae:=.slice xz
abbrev zQ:ae:=.st (.ax t3 (.ax t3 (.ax t3 t3)))
abbrev GR:ae:=.slice zQ
abbrev tN:ae:=.st (.ax t22 (.ax Db (.ax t3 GR)))
abbrev xA:ae:=.st (.ax t3 (.ax t3 (.ax t3 (.ax t3 t27))))
abbrev t28:ae:=.slice xA
abbrev vb:ae:=.st (.ax t27 (.ax xy (.ax t3 (.ax t3 t3))))
abbrev GS:ae:=.slice vb
abbrev q6:ae:=.st (.ax t3 (.ax t3 t3))
abbrev zR:ae:=.slice q6
abbrev t32:ae:=.st (.ax tN (.ax t27 (.ax t28 (.ax GS (.ax zR t3)))))
abbrev qb:ae:=.slice xy
abbrev iM:ae:=.st (.ax t3 (.ax t3 (.ax t3 (.ax t3 (.ax t3 t3)))))
abbrev t34:ae:=.slice iM
abbrev ME:ae:=.st (.ax t3 (.ax t3 (.ax t3 (.ax t3 (.ax t3 (.ax t3 t3))))))
abbrev sR:ae:=.st (.ax qb (.ax t34 (.ax t27 (.ax qb ME))))
abbrev wj:ae:=.st (.ax t32 sR)
abbrev ahV:ae:=.int .i64
abbrev EI:ae:=.slice t9
abbrev ahW:ae:=.st (.ax t3 (.ax t3 (.ax t3 t3)))
abbrev ahX:ae:=.st (.ax t3 (.ax t3 (.ax t3 (.ax t3 (.ax t3 (.ax t3 (.ax t3 t3)))))))
abbrev qc:ae:=.st wj
abbrev t105:ae:=.bq qc
abbrev Ug:ae:=.dO
abbrev MF:ae:=.st (.ax t3 (.ax t4 Ug))
abbrev MG:ae:=.map t9 MF
abbrev Dc:ae:=.slice t27
abbrev xB:ae:=.st (.ax tN Dc)
abbrev Uh:ae:=.bq xB
abbrev MH:ae:=.fn t3 t3
abbrev qd:ae:=.st (.ax iM t3)
abbrev MI:ae:=.slice qd
abbrev MJ:ae:=.array 10 MI
abbrev Dd:ae:=.st (.ax t27 MJ)
abbrev pa:ae:=.bq Dd
abbrev MK:ae:=.slice pa
abbrev q7:ae:=.st (.ax sR (.ax t34 MK))
abbrev vc:ae:=.bq q7
abbrev Ui:ae:=.fn t3 t4
abbrev ahY:ae:=.fn vc t4
abbrev ahZ:ae:=.fn (.ax iM t3) t4
abbrev t138:ae:=.b5 (.ax iM t3)
abbrev Uj:ae:=.fn pa (.ax t3 t4)
abbrev GU:ae:=.map t3 t3
abbrev ML:ae:=.b5 t3
abbrev ah0:ae:=.b5 t3
abbrev Uk:ae:=.st (.ax t3 t3)
abbrev Ul:ae:=.slice Uk
abbrev Um:ae:=.st (.ax t3 (.ax t3 t3))
abbrev Un:ae:=.map Um t3
abbrev t222:ae:=.st (.ax t32 (.ax Ul Un))
abbrev oj:ae:=.bq t222
abbrev ah1:ae:=.fn t27 t4
abbrev t164:ae:=.b5 t27
abbrev Uo:ae:=.st (.ax t3 (.ax t3 t3))
abbrev ah2:ae:=.slice Uo
abbrev t171:ae:=.slice t5
abbrev Up:ae:=.fn vb t4
abbrev Uq:ae:=.fn zQ t4
abbrev MM:ae:=.fn iM t4
abbrev t228:ae:=.int .u64
abbrev ah3:ae:=.slice t3
abbrev ah4:ae:=.bq tN
abbrev ah5:ae:=.bq xz
abbrev ah6:ae:=.array 4 t9
abbrev Ur:ae:=.st (.ax t3 (.ax t3 t3))
abbrev ah7:ae:=.map Ur t3
abbrev GV:ae:=.map t3 iM
abbrev ah8:ae:=.int .u32
abbrev Us:ae:=.int .u64
abbrev Ut:ae:=.fn xA t4
abbrev Uu:ae:=.fn q6 t4
abbrev Uv:ae:=.fn zP t4
abbrev Uw:ae:=.slice t34
abbrev Ux:ae:=.fn zO t4
abbrev Uy:ae:=.fn xz t4
abbrev De:ae:=.fn (.ax qd qd) t3
abbrev ah9:ae:=.int .i64
abbrev ah_:ae:=.slice Dc
abbrev ah':ae:=.int .i64
abbrev Uz:ae:=.int .u64
abbrev aia:ae:=.bq t3
abbrev UA:ae:=.st (.ax iM t3)
abbrev aib:ae:=.slice UA
abbrev UB:ae:=.st (.ax t3 t27)
abbrev aic:ae:=.slice UB
abbrev aid:ae:=.bq t5
abbrev aie:ae:=.array 24 t5
abbrev aif:ae:=.bq Uz
abbrev aih:ae:=.slice zR
abbrev aii:ae:=.array 256 t5
abbrev UC:ae:=.st (.ax t5 t5)
abbrev aij:ae:=.array 16 UC
abbrev UD:ae:=.st t9
abbrev aik:ae:=.bq UD
abbrev ail:ae:=.array 20 Us
abbrev aim:ae:=.array 65 t5
abbrev aio:ae:=.array 32 t5
abbrev aip:ae:=.array 64 t5
abbrev aiq:ae:=.int .u8
def vd:List (Nat×ae):=[(2,t2),(3,t3),(4,t4),(5,t5),(8,ahS),(9,t9),(10,ahT),(11,ahU),(21,t21),(22,t22),(23,Db),(24,GR),(26,tN),(27,t27),(28,t28),(29,GS),(30,zR),(32,t32),(33,qb),(34,t34),(36,ME),(38,sR),(40,wj),(42,zQ),(44,ahV),(48,EI),(58,xy),(63,ahW),(74,ahX),(87,vb),(91,q6),(93,xA),(105,t105),(107,MG),(111,qc),(115,Uh),(121,Dc),(123,xB),(125,iM),(128,MH),(130,vc),(133,Ui),(134,ahY),(137,pa),(138,t138),(140,Uj),(141,MI),(142,MJ),(144,qd),(148,GU),(149,MK),(151,q7),(153,ML),(154,ah0),(157,oj),(162,ah1),(164,t164),(165,ah2),(171,t171),(177,Up),(188,Ug),(190,MF),(196,zO),(197,GQ),(199,xz),(201,zP),(203,Uq),(209,MM),(215,ahZ),(217,Dd),(219,Un),(220,Ul),(222,t222),(224,Um),(227,Uk),(228,t228),(235,Uo),(237,ah3),(249,ah4),(253,ah5),(261,ah6),(269,ah7),(271,Ur),(273,GV),(282,ah8),(285,Us),(289,Ut),(290,Uu),(297,Uv),(298,Uw),(304,Ux),(306,Uy),(311,De),(313,ah9),(336,ah_),(351,ah'),(359,Uz),(363,aia),(368,aib),(372,UA),(374,aic),(380,aid),(386,aie),(398,aif),(402,UB),(403,aih),(408,aii),(410,UC),(411,aij),(414,aik),(416,UD),(418,ail),(419,aim),(423,aio),(424,aip),(432,aiq)]
theorem nI:dw Tryz.prog (q5 vd):=ahz (by kernel_rfl)
theorem GW:Tryz.prog.follows .mixedOrders=true:=by kernel_rfl
def xC(_:Nat):Option aJ:=none
theorem GX:iY Tryz.prog xC:=λk c h=>by cases h
def noU:dh:={ sX:=λ_=>none,sY:=λ_=>none }
theorem l9:qv Tryz.prog noU where
 sX:=λk v h=>by cases h
 sY:=λk v h=>by cases h
end Go.Fer.nV
namespace Go.Fer
open Go.RowKit
def SC.ow(c:SC):aJ:=⟨c.ts,.ax c.tr .cy,λx=>(c.sh x).b8,λx=>((c.sh x).val c.tr.cN,())⟩
end Go.Fer
namespace Go.Fer
theorem M.air{aj:Type}{p:Prop}{m n:M aj}(h:n.b8->p)(k:M.le m n):M.le (M.af p m) n:=λhs=>⟨⟨h hs,(k hs).1⟩,(k hs).2⟩
theorem q8{aj:Type}{o:Option aj}{x:aj}(h:o=some x):o.isSome=true:=by rw[h];rfl
def MN(ts:ae)(x:ts.ah)(n:Nat):Nat->Prop
 | 0=>True
 | k+1=>MN ts x n k/\C8 (kd ts x (n+k))
theorem UE{ts:ae}{x:ts.ah}{n:Nat}:∀ {k:Nat},MN ts x n k->∀ i,i<k->C8 (kd ts x (n+i))
 | 0,_,i,h=>by omega
 | k+1,hc,i,h=>by
  by_cases e:i=k
  ·rw[e];exact hc.2
  ·exact UE hc.1 i (by omega)
theorem UF(ts:ae)(x:ts.ah):∀ (l:List Nat) (i:Nat),e5 (l.map λi=>(i,kd ts x i)) i=if i∈l then kd ts x i else .undef
 | [],i=>by simp[e5]
 | j::l,i=>by
  simp only[List.map_cons,e5];by_cases e:i=j
  ·subst e;simp
  ·rw[if_neg e,UF ts x l i];simp[e]
theorem sa{ts:ae}{x:ts.ah}{n:Nat}(h:MN ts x n (r_ ts - n)):C9 n (o_ ts x):=λi G=>by
 show C8 (e5 (zJ ts x (r_ ts)) i);unfold zJ;rw[UF];split
 ·rename_i an;rw[List.mem_range]at an;have aA:¬i<n:=λh=>G (.inl h);have:=UE h (i - n) (by omega);rwa [show n+(i - n)=i by omega]at this
 ·trivial
end Go.Fer
namespace Go.Fer
open M (aa)
theorem bo{n:Int}(h1:-9223372036854775808<=n)(h2:n<9223372036854775808):IntKind.i64.wrap n=n:=by
 show (if (true&&decide (n % 2 ^ 64>=(2 ^ (64 - 1):Int)))=true then n % 2 ^ 64 - 2 ^ 64 else n % 2 ^ 64)=n;grind
theorem b7(a b:Int):Add.add a b=a+b:=rfl
theorem jC(a b:Nat):Add.add a b=a+b:=rfl
theorem UG{aj:Type}(a b:List aj):Append.append a b=a++b:=rfl
theorem bJ(n:Nat):Int.ofNat n=(n:Int):=rfl
theorem qe{x c d:Bool}:(x||!(if (!x)=true then c else d))=(x||!c):=by grind
theorem UH{x c d:Bool}:(x||(if (!x)=true then c else d))=(x||c):=by grind
theorem vf{x c d:Bool}:(x&&(if x=true then c else d))=(x&&c):=by grind
namespace M
variable {aj β fY A aF:Type}
theorem bh{m:M aj}{p:Prop}{v:aj}(h:p->m=pure v):le m (du p v):=λhp=>by
 rw[h hp];exact⟨trivial,λ_ aM=>aM⟩
theorem sb{m:M aj}{p:Prop}{v:aj}(h:p->b_ m λy=>y=v):le m (du p v):=λhp=>h hp
theorem gp{p:Prop}{v d:aj}:(du p v).val d=v:=by
 unfold val;have h:∃ x,(du p v).bC x:=⟨v,rfl⟩
 rw[dif_pos h];exact h.choose_spec
theorem fp{v d:aj}:(pure v).val d=v:=gp (p:=True)
theorem nJ{p:Prop}{v:aj}:(du p v).b8=p:=rfl
theorem vg{p:Prop}{v:aj}:(du p v).Cg:=λ_ _ h k=>h.trans k.symm
theorem iN{g:Bool}{p:Prop}{v d:aj}:b3 g (du p v) d=du (g=true->p) (if g=true then v else d):=by
 cases g
 ·exact (bF (by simp) _).symm
 ·simp[b3]
theorem kB{g:Bool}{v d:aj}:b3 g (pure v) d=pure (if g=true then v else d):=by cases g<;>rfl
theorem bK{f:A->M β}{x:A}:aa.bl f (.next x:aa A β)=f x:=rfl
theorem pb{f:A->M β}{r:β}:aa.bl f (.done r:aa A β)=pure r:=rfl
end M
def eD{aj β aF:Type}(f:aj->β->aa β aF)(fin:β->aF):List aj->β->aF
 | [],b=>fin b
 | x::l,b=>match f x b with
  | .next aZ=>eD f fin l aZ
  | .done r=>r
def aa.gS{A β aF:Type}(g:β->A):aa β aF->aa A aF
 | .next b=>.next (g b)
 | .done r=>.done r
theorem M.gg{aj β A aF:Type}{body:A->M (aa A aF)}{s0:A}(l:List aj)(mk:Nat->β->A)(f:aj->β->aa β aF)(fin:β->aF)(I:Nat->β->Prop)(b:β)(mG:s0=mk 0 b)(h0:I 0 b)
  (hs:∀ i (h:i<l.length) b,I i b->body (mk i b)=M.pure (aa.gS (mk (i+1)) (f l[i] b))/\∀ aZ,f l[i] b=.next aZ->I (i+1) aZ)
  (ar:∀ b,I l.length b->body (mk l.length b)=M.pure (.done (fin b))):M.loop body s0=M.pure (eD f fin l b):=by
 subst mG;have key:∀ (k:Nat) (r:List aj) (b:β),k<=l.length->r=l.drop k->I k b->M.loop body (mk k b)=M.pure (eD f fin r b):=by
  intro k r;induction r generalizing k with
  | nil=>
   intro b ao V ee;have:k=l.length:=by have:=congrArg List.length V;grind
   subst this;exact M.sT (ar b ee)
  | cons x r aG=>
   intro b ao V ee;have bZ:k<l.length:=by
    grind
   rw[List.drop_eq_getElem_cons bZ]at V;injection V with hx V
   obtain⟨h1,h2⟩:=hs k bZ b ee;rw[<-hx]at h1 h2;simp only[eD];cases qY:f x b with
   | next aZ=>
    rw[qY]at h1;rw[M.Bk h1];grind
   | done pM=>
    rw[qY]at h1;exact M.sT h1
 grind
theorem M.dk{aj β A aF:Type}{body:A->M (aa A aF)}{s0:A}(l:List aj)(mk:Nat->β->A)(f:aj->β->aa β aF)(fin:β->aF)(b:β)(mG:s0=mk 0 b)
  (hs:∀ i (h:i<l.length) b,body (mk i b)=M.pure (aa.gS (mk (i+1)) (f l[i] b)))
  (ar:∀ b,body (mk l.length b)=M.pure (.done (fin b))):M.loop body s0=M.pure (eD f fin l b):=
 M.gg l mk f fin (λ_ _=>True) b mG trivial (λi h b _=>⟨hs i h b,λ_ _=>trivial⟩) λb _=>ar b
section
variable {aj β aF:Type}
theorem q9{p:aj->Bool}{r:aF}{fin:β->aF}:∀ (l:List aj) (b:β),eD (λx b=>if p x=true then .done r else .next b) fin l b=if l.any p=true then r else fin b
 | [],b=>by rfl
 | x::l,b=>by
  simp only[eD,List.any_cons,Bool.or_eq_true];by_cases h:p x=true
  ·simp[h]
  ·have h:p x=false:=by grind
   simp only[h,Bool.false_eq_true,if_false,false_or];exact q9 l b
theorem GY{p:aj->Bool}{r:aF}{fin:β->aF}:∀ (l:List aj) (b:β),eD (λx b=>if p x=true then .next b else .done r) fin l b=if l.all p=true then fin b else r
 | [],b=>by rfl
 | x::l,b=>by
  simp only[eD,List.all_cons,Bool.and_eq_true];by_cases h:p x=true
  ·simp only[h,if_true,true_and];exact GY l b
  grind
theorem dM{h:β->aj->β}{fin:β->aF}:∀ (l:List aj) (b:β),eD (λx b=>.next (h b x)) fin l b=fin (l.foldl h b)
 | [],b=>rfl
 | x::l,b=>by simp only[eD,List.foldl_cons];exact dM l (h b x)
theorem UI{p:aj->Bool}:∀ (l:List aj) (b:List aj),l.foldl (λb x=>if p x=true then b++[x] else b) b=b++l.filter p
 | [],b=>by simp
 | x::l,b=>by
  simp only[List.foldl_cons,List.filter_cons];rw[UI l];grind
theorem xD{fY:Type}{g:aj->fY}:∀ (l:List aj) (b:List fY),l.foldl (λb x=>b++[g x]) b=b++l.map g
 | [],b=>by simp
 | x::l,b=>by simp only[List.foldl_cons,List.map_cons];rw[xD l];simp
end
theorem UJ{aj:Type}{p q:aj->Bool}(h:∀ x,p x=!q x)(l:List aj):l.any p=!l.all q:=by
 grind
theorem kC{aj β aF:Type}{p q:aj->Bool}{r:aF}{fin:β->aF}(l:List aj)(b:β)(h:∀ x,p x=!q x):eD (λx b=>if p x=true then .done r else .next b) fin l b=if l.all q=true then fin b else r:=by
 rw[q9,UJ h];grind
theorem mI{A β aF:Type}{c:Bool}{mk:β->A}{b:β}{r:aF}:(if c=true then M.pure (aa.done r) else M.pure (aa.next (mk b)))=M.pure (aa.gS mk (if c=true then .done r else .next b)):=by cases c<;>rfl
theorem UK{A β aF:Type}{c:Bool}{mk:β->A}{b:β}{r:aF}:(if c=true then M.pure (aa.done r) else M.pure (aa.next (mk b)))=M.pure (aa.gS mk (if c=true then .done r else .next b)):=by cases c<;>rfl
theorem cE{l:Nat}{i:Nat}(h:i<l):decide ((i:Int)<(l:Int))=true:=by grind
theorem cq{l:Nat}{i:Nat}(h:i<l):((0:Int)<=(i:Int)/\(i:Int)<(l:Int))=True:=by grind
theorem cT{aj:Type}{l:List aj}{i:Nat}{d:aj}(h:i<l.length):l.getD (Int.toNat (i:Int)) d=l[i]:=by
 grind
theorem xE{aj:Type}{l:List aj}{i:Int}{d:aj}(h0:0<=i)(h:i<(l.length:Int)):l.getD i.toNat d∈l:=by
 grind
def dT(a b:Int):z1':=(List.range (b - a+1).toNat).map λ(i:Nat)=>a+(i:Int)
theorem xF(a b:Int):(dT a b).length=(b - a+1).toNat:=by simp[dT]
theorem Df{a b:Int}{i:Nat}(h:i<(dT a b).length):(dT a b)[i]=a+i:=by simp[dT]
theorem sc{a b n:Int}:n∈dT a b<->a<=n/\n<=b:=by
 simp only[dT,List.mem_map,List.mem_range];constructor
 ·omega
 ·rintro⟨h1,h2⟩;exact⟨(n - a).toNat,by omega,by omega⟩
end Go.Fer
namespace Go.Fer.nV
open Go.Proofs
abbrev om:Type:=List (Nat×SC)
def oo{aj:Type}:List (Nat×aj)->Nat->Option aj
 | [],_=>none
 | p::l,k=>if k=p.1 then some p.2 else oo l k
theorem Dg{aj:Type}{k:Nat}{c:aj}:∀ {l:List (Nat×aj)},oo l k=some c->(k,c)∈l
 | [],h=>by cases h
 | p::l,h=>by
  unfold oo at h;split at h
  ·rename_i e;cases h;subst e;simp
  ·exact List.mem_cons_of_mem _ (Dg h)
def sd(T:om):List (Nat×eH)->Nat->Option eH
 | [],k=>match oo T k with
  | some c=>some (.c7 c)
  | none=>none
 | p::l,k=>if k=p.1 then some p.2 else sd T l k
def UL(k:Nat)(c:SC):Prop:=hL Tryz.prog k c.ts c.tr c.sh/\(c.du=true->∀ x,(c.sh x).Cg)
structure kD(T:om):Type where
 ok:∀ p∈T,UL p.1 p.2
abbrev ais{T:om}(_:kD T):om:=T
def ait:kD []:=⟨λp h=>by cases h⟩
def kD.cons{T:om}(h:kD T){n:Nat}{c:SC}(k:UL n c):kD ((n,c)::T):=⟨λp hp=>by
 rcases List.mem_cons.1 hp with rfl | hp
 ·exact k
 ·exact h.ok p hp⟩
def Dh(U:dh):List (Nat×eH)->Prop
 | []=>True
 | p::l=>p.2.Ok Tryz.prog U p.1/\Dh U l
theorem kD.GZ{U:dh}{T:om}(h:kD T):∀ {sp:List (Nat×eH)},Dh U sp->lD Tryz.prog U (sd T sp)
 | [],_,k,c,e=>by
  unfold sd at e;split at e
  ·rename_i c' hc;cases e;exact h.ok (k,c') (Dg hc)
  ·cases e
 | p::l,hs,k,c,e=>by
  unfold sd at e;split at e
  ·rename_i ao;cases e;subst ao;exact hs.1
  ·exact kD.GZ h (sp:=l) hs.2 k c e
def zS:ae->List ae
 | .cy=>[]
 | .ax a b=>a::zS b
 | t=>[t]
def UM:ae->ae
 | .bq t=>t
 | t=>t
def UN{ts UO:ae}(e:UO=ts){tr:ae}(sh:ts.ah->M tr.ah):UO.ah->M tr.ah:=e ▸ sh
def MO(pc:Nat)(c:SC):Option EO:=
 if h:((zS c.ts).take pc).all ae.f_=true/\fM ((zS c.ts).take pc++(((zS c.ts).drop pc).map UM).map .bq)=c.ts then some ⟨(zS c.ts).take pc,((zS c.ts).drop pc).map UM,c.tr,UN h.2 c.sh⟩ else none
def UP:z8'->Nat->Option Nat
 | [],_=>none
 | p::l,k=>if k=p.1 then some p.2 else UP l k
def zT(T:om)(cl:z8')(G0:List (Nat×wq)):dh where
 sX:=λk=>match oo T k with
  | some c=>some ⟨c.ts,c.tr,c.sh⟩
  | none=>none
 sY:=λk=>match UP cl k with
  | some pc=>match oo T k with
   | some c=>MO pc c
   | none=>none
  | none=>none
 wv:=oo G0
def Di:List (Nat×wq)->Prop
 | []=>True
 | p::l=>wu Tryz.prog p.1 p.2/\Di l
theorem Di.mem:∀ {l:List (Nat×wq)},Di l->∀ p∈l,wu Tryz.prog p.1 p.2
 | [],_,p,h=>by cases h
 | q::l,h,p,hp=>by
  rcases List.mem_cons.1 hp with rfl | hp
  ·exact h.1
  ·exact Di.mem h.2 p hp
theorem aiu{k pc:Nat}{c:SC}{v:EO}(h:hL Tryz.prog k c.ts c.tr c.sh)(e:MO pc c=some v):v.as.all ae.f_=true/\hL Tryz.prog k (fM (v.as++v.cs.map .bq)) v.tr v.sh:=by
 unfold MO at e;split at e
 ·rename_i cz;cases e;refine⟨cz.1,?_⟩;have key:∀ (ts:ae) (e:ts=c.ts),hL Tryz.prog k ts c.tr (UN e c.sh):=by rintro _ rfl;exact h
  exact key _ cz.2
 ·cases e
theorem kD.u{T:om}(h:kD T)(cl:z8')(G0:List (Nat×wq))(G:Di G0):qv Tryz.prog (zT T cl G0) where
 sX:=λk v e=>by
  simp only[zT]at e;split at e
  ·rename_i c hc;cases e;exact (h.ok (k,c) (Dg hc)).1
  ·cases e
 sY:=λk v e=>by
  simp only[zT]at e;split at e
  ·split at e
   ·rename_i c hc;exact aiu (h.ok (k,c) (Dg hc)).1 e
   ·cases e
  ·cases e
 wv:=λk v e=>G.mem (k,v) (Dg e)
abbrev q_(fn:Func):Code:=fn.body.getD .skip
theorem G1{fn:Func}(h:fn.body.isSome=true):fn.body=some (q_ fn):=by
 unfold q_;cases e:fn.body with
 | none=>rw[e]at h;cases h
 | some b=>rfl
abbrev Dj(fn:Func)(ts tr:ae):Bool:=fn.body.isSome&&C_ fn (q_ fn) ts tr
theorem G2{T:om}(hT:kD T){U:dh}(hU:qv Tryz.prog U){sp:List (Nat×eH)}(nH:Dh U sp){n:Nat}{fn:Func}(ar:Tryz.prog.funcs[n]?=some fn){ts tr:ae}{sh:ts.ah->M tr.ah}{ann:cf}{S:ts.ah->M tr.ah}(hs:∀ x,M.le (S x) (sh x))(cp:Dj fn ts tr=true)(ai:∀ x,C7 U (q5 vd) xC (sd T sp) fn (q_ fn) ann ts tr x=S x):hL Tryz.prog n ts tr sh:=
 have cp:=Bool.and_eq_true _ _ ▸ cp
 aht GW nI hU GX (hT.GZ nH) ar (G1 cp.1) cp.2 λx=>M.le_trans (M.le_of_eq (ai x)) (hs x)
def mk{T:om}(hT:kD T){n:Nat}{fn:Func}(ar:Tryz.prog.funcs[n]?=some fn)(c:aJ)(ann:cf){S:c.ts.ah->M c.tr.ah}(hs:∀ x,M.le (S x) (c.sh x))(cp:Dj fn c.ts c.tr=true:=by kernel_rfl)(ai:∀ x,C7 noU (q5 vd) xC (sd T []) fn (q_ fn) ann c.ts c.tr x=S x:=by intro x;kernel_rfl):kD ((n,c.c7)::T):=
 hT.cons ⟨G2 hT l9 (sp:=[]) trivial ar hs cp ai,λ_ _=>M.vg⟩
def lH{T:om}(hT:kD T)(cl:z8'){n:Nat}{fn:Func}(ar:Tryz.prog.funcs[n]?=some fn)(c:aJ)(ann:cf){S:c.ts.ah->M c.tr.ah}(hs:∀ x,M.le (S x) (c.sh x))(cp:Dj fn c.ts c.tr=true:=by kernel_rfl)(ai:∀ x,C7 (zT T cl []) (q5 vd) xC (sd T []) fn (q_ fn) ann c.ts c.tr x=S x:=by intro x;kernel_rfl):kD ((n,c.c7)::T):=
 hT.cons ⟨G2 hT (hT.u cl [] trivial) (sp:=[]) trivial ar hs cp ai,λ_ _=>M.vg⟩
def pd{T:om}(hT:kD T){U:dh}(hU:qv Tryz.prog U)(sp:List (Nat×eH))(nH:Dh U sp){n:Nat}{fn:Func}(ar:Tryz.prog.funcs[n]?=some fn)(c:aJ)(ann:cf){S:c.ts.ah->M c.tr.ah}(hs:∀ x,M.le (S x) (c.sh x))(cp:Dj fn c.ts c.tr=true:=by kernel_rfl)(ai:∀ x,C7 U (q5 vd) xC (sd T sp) fn (q_ fn) ann c.ts c.tr x=S x:=by intro x;kernel_rfl):kD ((n,c.c7)::T):=
 hT.cons ⟨G2 hT hU nH ar hs cp ai,λ_ _=>M.vg⟩
def jD{T:om}(hT:kD T)(cl:z8'){n:Nat}{fn:Func}(ar:Tryz.prog.funcs[n]?=some fn)(c:aJ)(pc:Nat)(ann:cf){S:c.ts.ah->M c.tr.ah}(hs:∀ x,M.le (S x) (c.sh x))(hc:∀ x,c.pre x->C9 pc (o_ c.ts x):=by intro x h;obtain⟨f,ar,_⟩:=h;exact sa ⟨trivial,q8 ar⟩)(cp:Dj fn c.ts c.tr=true:=by kernel_rfl)
  (ai:∀ x,ef (zT T cl []) (q5 vd) xC (sd T []) ann (q_ fn) (GM pc (o_ c.ts x)) (va (q5 vd) fn.results.toList c.tr)=S x:=by intro x;kernel_rfl):kD ((n,c.c7)::T):=
 have cp:=Bool.and_eq_true _ _ ▸ cp
 hT.cons ⟨ahv (n:=pc) GW nI (hT.u cl [] trivial) GX (hT.GZ (sp:=[]) trivial) ar (G1 cp.1) cp.2 λx=>M.air (hc x) (M.le_trans (M.le_of_eq (ai x)) (hs x)),λ_ _=>M.vg⟩
theorem mkI{T:om}(hT:kD T){U:dh}(sp:List (Nat×eH))(nH:Dh U sp){n:Nat}{fn:Func}(ar:Tryz.prog.funcs[n]?=some fn){c:IOC}(ann:cf){S:c.b2.ah->M c.bC.ah}(hs:∀ x,M.le (S x) (c.sh x))(cp:(fn.body.isSome&&C' fn (q_ fn) c.j1 c.kk)=true:=by kernel_rfl)(ai:∀ x,Ms U (q5 vd) xC (sd T sp) fn (q_ fn) ann c.b2 c.bC c.kk x=S x:=by intro x;kernel_rfl):IoSpec Tryz.prog U n c:=
 have cp:=Bool.and_eq_true _ _ ▸ cp
 T6 GW nI GX (hT.GZ nH) ar (G1 cp.1) cp.2 λx=>M.le_trans (M.le_of_eq (ai x)) (hs x)
theorem MP{U:dh}{n:Nat}{fn:Func}(ar:Tryz.prog.funcs[n]?=some fn){c:IOC}(hs:∀ x,¬(c.sh x).b8)(cp:(fn.body.isSome&&C' fn (q_ fn) c.j1 c.kk)=true:=by kernel_rfl):IoSpec Tryz.prog U n c:=
 have cp:=Bool.and_eq_true _ _ ▸ cp
 T6 GW nI GX (Ψ:=λ_=>none) (λk c h=>by cases h) (ann:=.ek) ar (G1 cp.1) cp.2 λx h=>absurd h (hs x)
end Go.Fer.nV
namespace Go.Fer
open Go.RowKit
theorem aiv{P:Program}{U:dh}{k:FuncId}{ts e:ae}(tC:ts≠.cy){c:IOC}(h:IoSpec P U k c)(hU:qv P U){sh:ts.ah->M (ae.slice e).ah}{b0:Nat}(mk:ts.ah->c.b2.ah)
    (aiw:∀ x,c.b2.st (mk x)=⟨e5 ((List.range (jS ts)).map λi=>(i,kd ts x i)),λ_=>⟨0,.fb⟩⟩) (aA:c.j1=jS ts) (hF:c.j1<=eu) (aix:c.kk=[none]) (val:c.bC.ah->List e.ah)
    (p9:∀ τ,(c.bC.st τ).aw 0=.own b0 0/\(c.bC.st τ).ad b0=⟨0,.a7 e (val τ)⟩)
    (rJ:∀ x,(sh x).b8->(c.sh (mk x)).b8/\∀ τ,(c.sh (mk x)).bC τ->val τ=(sh x).val (ae.slice e).cN):nn (SC.ow ⟨ts,.slice e,sh,true⟩).tr=true/\B2 P k (SC.ow ⟨ts,.slice e,sh,true⟩):=by
  refine⟨rfl,h.enter,?_⟩;intro (x:ts.ah) (hs:(sh x).b8) y aM F w args bb fQ (dA:eY P ts F w args x);cases aM;obtain⟨ie,Gz⟩:=tf (H:=λ_=>⟨0,.fb⟩) (κ:=λ_=>⟨0,0,0,false⟩) ts dA tC;let C:bQ:={ P:=P,w0:=w,F0:=F,K0:=λr=>r<w.heap.size,nt:=c.j1,r:=none,dfr:=[],hX:=λ_=>none,pr:=⟨0,.cy,λ_=>False,λ_ _ _ _ _=>False⟩,aL:=U }
  have Cz:∀ i,e5 ((List.range (jS ts)).map λi=>(i,kd ts x i)) i=.undef\/(i<jS ts/\e5 ((List.range (jS ts)).map λi=>(i,kd ts x i)) i=kd ts x i):=λi=>by
    rcases T1 (l:=(List.range (jS ts)).map λi=>(i,kd ts x i)) (i:=i) with e | e
    · exact .inl e
    · refine .inr ?_
      generalize a_:e5 ((List.range (jS ts)).map λi=>(i,kd ts x i)) i=z at e
      simp only[List.mem_map,List.mem_range,Prod.mk.injEq]at e
      obtain⟨j,aC,rfl,rfl⟩:=e
      exact⟨aC,rfl⟩
  have V:ba C (c.b2.st (mk x)) { tmps:=args.toArray,defers:=[] } w (λ_=>⟨0,0,0,false⟩) F:=by
    rw[aiw];refine { di := ?_, dfr := rfl, bE := λi => ?_, bn := λb => trivial, own := λb ab => (by cases ab), inj := λb aZ ab _ _ => (by cases ab), cL := bb, gL := λr V => .inl V, hy := λr V => V, gX := λr V => V, eb := λr _ => rfl, size := Nat.le_refl _, dQ := cM.refl w,fO:=hF,j9:=λb r h=>(by cases h),jn:=λb r h=>(by cases h),jQ:=λb k h=>(by cases h),j_:=λb k h=>(by cases h),pro:=λl aI L n st e=>?_,jo:=hU,ib:=fQ }
    · grind
    · rcases Cz i with e | ⟨G,e⟩
      · show bk _ _ _ _ _ (e5 _ i) _
        rw[e];trivial
      · show bk _ _ _ _ _ (e5 _ i) _
        rw[e]
        have:=Gz i G
        simpa [Array.getD_eq_getD_getElem?,List.getD_eq_getElem?_getD]using this
    · rcases Cz TRS with h | ⟨h,_⟩
      · grind
      · unfold TRS at h;unfold eu at hF;omega
  obtain⟨LA,tq⟩:=rJ x hs;refine (h.iD C _ w _ F (mk x) rfl rfl rfl rfl rfl rfl V LA).mono λaS w' ⟨v,τ,aB,κ',F',Bn,hτ,Ga,aX⟩=>?_;obtain⟨aiy,xm⟩:=p9 τ;rw[aix]at Ga;obtain⟨us,ff,Lr,MQ⟩:=Ga;obtain⟨u,rfl⟩:∃ u,us=[u]:=by
    match us,ff with
    | [u],_=>simp
  have MR:aB=[u]:=by
    obtain⟨_,MR,h2⟩:=MQ;rw[MR,h2]
  have hv:v=u:=by simpa using Lr
  have hsl:=aX.bE 0;rw[aiy,MR]at hsl;have UQ:u=(κ' b0).slice ((c.bC.st τ).ad b0).body.len:=by
    have:=hsl.2 (by rw[xm]) (by rw[xm];rfl);simp_all
  rw[xm]at UQ;have aN:=aX.bn b0;unfold cg at aN;rw[xm]at aN;obtain⟨h1,h2⟩:=aN;have xx:val τ=(sh x).val (ae.slice e).cN:=tq τ hτ;refine⟨κ' b0,F',by rw[Bn,hv,UQ];simp only[bB.len];rw[xx];rfl,aX.hy,λr UR=>?_,λaA=>?_,λaA=>?_,aX.dQ.os,aX.dQ.tape,aX.dQ.output,aX.size,aX.eb⟩
  · rcases aX.gL r UR with cz | cz
    · exact .inl cz
    · exact .inr ⟨Nat.le_of_not_lt cz,aX.cL r UR⟩
  · have:=h1 aA
    rw[xx]at this
    exact this
  · have ag:=aX.own b0 (by rw[xm];simp[bB.bL,aA])
    obtain⟨cs,T,c1,c2,c3,c4,c5⟩:=h2 aA
    rw[xx]at c3 c5
    exact⟨⟨Nat.le_of_not_lt ag.2.2,ag.1,ag.2.1⟩,cs,T,c1,c2,c3,c4,c5⟩
end Go.Fer
namespace Go.Fer
open M (aa)
abbrev bc:Type:=z2'×List (List (Int×z1'×Int×Int))×Int×z2'
abbrev qf:Type:=bc×List (z1')
abbrev eN(l:z4')(a b:Int):z4':=ln (k:=.int .i64) (v:=.int .i64) l a b
abbrev vh(l:z5')(a:Int×Int×Int)(b:Int):z5':=ln (k:=.st (.ax (.int .i64) (.ax (.int .i64) (.int .i64)))) (v:=.int .i64) l a b
def MS(k3:Int×Int×Int->M Bool)(x:bc×Int):M Bool:=
 M.bind (k3 (x.2,0,IntKind.wrap .i64 (Int.ofNat (List.length x.1.1)-1))) λy=>M.pure y
def G3(k3:Int×Int×Int->M Bool)(aiz:bc×Int->M Bool)(x:bc×Int×Int):M Bool:=
 M.bind (aiz (x.1,x.2.1)) λy=>M.af (y=true->(y=true/\y=true)/\(0<=x.2.1/\x.2.1<Int.ofNat (List.length x.1.2.1))/\True) (M.bind (b3 y (k3 (x.2.2,0,IntKind.wrap .i64 (Int.ofNat (List.length (List.getD x.1.2.1 (Int.toNat x.2.1) []))-1))) false) (λbG=>M.pure (y&&bG)))
def MT(aiA:z2'×List (List (Int×z1'×Int×Int))×Int×z2'->M Bool)(x:z2'×List (List (Int×z1'×Int×Int))×Int×z2'):M Int:=
 M.bind (aiA x) λy=>if (!y)=true then M.pure 70 else M.bind (M.loop (λ(A:Int×bc×Unit)=>if decide (A.1<Int.ofNat (List.length A.2.1.2.2.2))=true then M.bind (M.loop (λ(A:Int×Int×bc×Unit)=>letI d:=A.2.2.1.2.2.2;letI c:=Int.ofNat (List.length d);letI b:=List.getD d (Int.toNat A.1) (0,0,0,0);letI a:=List.getD d (Int.toNat A.2.1) (0,0,0,0);if decide (A.2.1<A.1)=true then M.af (0<=A.2.1/\A.2.1<c) (M.af (0<=A.1/\A.1<c) (if (decide (a.1=b.1)&&decide (a.2.1=b.2.1)&&decide (a.2.2.1=b.2.2.1)&&decide (a.2.2.2≠b.2.2.2))=true then M.bind (M.bind (M.bind (M.bind (M.pure 71) (λr=>M.pure (aa.done r))) (λr=>M.pure (aa.done r))) (λr=>M.pure (aa.done r))) λr=>M.pure (aa.done r) else M.pure (aa.next (A.1,IntKind.wrap .i64 (Add.add A.2.1 1),A.2.2.1,())))) else M.bind (M.pure (aa.next (A.1,A.2.2.1,()))) λr=>M.pure (aa.done r)) (A.1,0,A.2.1,())) (aa.bl (λ(A:Int×bc×Unit)=>M.pure (aa.next (IntKind.wrap .i64 (Add.add A.1 1),A.2.1,())))) else M.bind (M.pure (aa.next ())) λr=>M.pure (aa.done r)) (0,x,())) (aa.bl (λ(A:Unit)=>M.pure 0))
def US(aiB:z1'×Int->M Bool)(k3:Int×Int×Int->M Bool)(x:bc×Int×Int×Int×Int):M Bool:=
 letI e:=x.2.2.2;letI c:=List.getD x.1.2.1 (Int.toNat e.1) [];letI b:=List.getD x.1.1 (Int.toNat x.2.1) (0,0,0,0);letI a:=List.getD c (Int.toNat e.2) (0,[],0,0);letI d:=decide (b.1=a.1);M.af (0<=x.2.1/\x.2.1<Int.ofNat (List.length x.1.1)) (M.af (0<=e.1/\e.1<Int.ofNat (List.length x.1.2.1)) (M.af (0<=e.2/\e.2<Int.ofNat (List.length c)) (M.bind (b3 d (aiB (a.2.1,b.2.1)) false) (λy=>M.bind (b3 (d&&y) (k3 (x.2.2.1,a.2.2.1,IntKind.wrap .i64 (Add.add a.2.2.2 x.1.2.2.1))) false) λbG=>M.pure (d&&y&&bG)))))
def MU(x:z1'):M Bool:=
 M.bind (M.loop (λ(A:z1'×Int×Unit)=>letI c:=A.2.1;letI b:=IntKind.wrap .i64 (c-1);letI a:=Int.ofNat (List.length A.1);if decide (c<a)=true then M.af (0<=c/\c<a) (M.af (0<=b/\b<a) (if decide (List.getD A.1 (Int.toNat c) 0<=List.getD A.1 (Int.toNat b) 0)=true then M.bind (M.bind (M.pure false) (λr=>M.pure (aa.done r))) λr=>M.pure (aa.done r) else M.pure (aa.next (A.1,IntKind.wrap .i64 (Add.add c 1),())))) else M.bind (M.pure (aa.next ())) λr=>M.pure (aa.done r)) (x,1,())) (aa.bl (λ(A:Unit)=>M.pure true))
def aiC(x:Int×Int×Int):M Bool:=
 M.pure (decide (x.1>=x.2.1)&&decide (x.1<=x.2.2))
def MV(k3:Int×Int×Int->M Bool)(x:bc×Int):M Bool:=
 M.bind (k3 (x.2,0,IntKind.wrap .i64 (Int.ofNat (List.length x.1.2.1)-1))) λy=>M.pure y
def MW(aiD:bc×Int->M Bool)(aiE:bc×Int×Int->M Bool)(k3:Int×Int×Int->M Bool)(MX:Int×Int->M Bool)(aiF:Int×z1'×Int×Int->M Bool)(x:z2'×List (List (Int×z1'×Int×Int))×Int×z2'):M Bool:=
 letI c:=decide (Int.ofNat (List.length x.1) > 10)||decide (Int.ofNat (List.length x.2.1) > 6);M.bind (b3 (!c) (k3 (x.2.2.1,0,99)) false) λy=>if (c||!y||decide (Int.ofNat (List.length x.2.2.2) > 30))=true then M.pure false else M.bind (M.loop (λ(A:Int×bc×Unit)=>letI h:=A.1<Int.ofNat (List.length A.2.1.1);letI b:=List.getD A.2.1.1 (Int.toNat A.1) (0,0,0,0);if decide h=true then M.af (0<=A.1/\h) (M.bind (k3 (b.1,0,9)) (λy=>M.bind (b3 (!(!y)) (k3 (b.2.1,0,9)) false) λbG=>M.bind (b3 (!(!y||!bG)) (MX b.2.2) false) λds=>if (!y||!bG||!ds)=true then M.bind (M.bind (M.pure false) (λr=>M.pure (aa.done r))) λr=>M.pure (aa.done r) else M.pure (aa.next (IntKind.wrap .i64 (Add.add A.1 1),A.2.1,())))) else M.bind (M.pure (aa.next (A.2.1,()))) λr=>M.pure (aa.done r)) (0,x,())) (aa.bl (λ(A:bc×Unit)=>M.bind (M.loop (λ(A:Int×bc×Unit)=>letI g:=A.1<Int.ofNat (List.length A.2.1.2.1);if decide g=true then M.bind (M.af (0<=A.1/\g) (if decide (Int.ofNat (List.length (List.getD A.2.1.2.1 (Int.toNat A.1) [])) > 4)=true then M.bind (M.bind (M.bind (M.pure false) (λr=>M.pure (aa.done r))) (λr=>M.pure (aa.done r))) λr=>M.pure (aa.done r) else M.loop (λ(A:Int×Int×bc×Unit)=>letI j:=A.2.2.1;letI e:=0<=A.1/\A.1<Int.ofNat (List.length j.2.1);letI d:=List.getD j.2.1 (Int.toNat A.1) [];letI i:=A.2.1<Int.ofNat (List.length d);M.af e (if decide i=true then M.af e (M.af (0<=A.2.1/\i) (M.bind (aiF (List.getD d (Int.toNat A.2.1) (0,[],0,0))) (λy=>if (!y)=true then M.bind (M.bind (M.bind (M.bind (M.pure false) (λr=>M.pure (aa.done r))) (λr=>M.pure (aa.done r))) (λr=>M.pure (aa.done r))) λr=>M.pure (aa.done r) else M.pure (aa.next (A.1,IntKind.wrap .i64 (Add.add A.2.1 1),j,()))))) else M.bind (M.pure (aa.next (A.1,j,()))) λr=>M.pure (aa.done r))) (A.1,0,A.2.1,()))) (aa.bl (λ(A:Int×bc×Unit)=>M.pure (aa.next (IntKind.wrap .i64 (Add.add A.1 1),A.2.1,())))) else M.bind (M.pure (aa.next (A.2.1,()))) λr=>M.pure (aa.done r)) (0,A.1,())) (aa.bl (λ(A:bc×Unit)=>M.bind (M.loop (λ(A:Int×bc×Unit)=>letI f:=A.1<Int.ofNat (List.length A.2.1.2.2.2);letI a:=List.getD A.2.1.2.2.2 (Int.toNat A.1) (0,0,0,0);if decide f=true then M.af (0<=A.1/\f) (M.bind (aiD (A.2.1,a.1)) (λy=>M.bind (b3 (!(!y)) (aiE (A.2.1,a.2.1,a.2.2.1)) false) λbG=>M.bind (b3 (!(!y||!bG)) (k3 (a.2.2.2,0,1)) false) λds=>if (!y||!bG||!ds)=true then M.bind (M.bind (M.pure false) (λr=>M.pure (aa.done r))) λr=>M.pure (aa.done r) else M.pure (aa.next (IntKind.wrap .i64 (Add.add A.1 1),A.2.1,())))) else M.bind (M.pure (aa.next ())) λr=>M.pure (aa.done r)) (0,A.1,())) (aa.bl (λ(A:Unit)=>M.pure true))))))
def MY(k3:Int×Int×Int->M Bool)(x:Int×Int):M Bool:=
 M.bind (k3 (x.1,0,x.2)) λy=>M.pure (y&&decide (x.2<=999))
def MZ(aiG:z1'->M Bool)(k3:Int×Int×Int->M Bool)(MX:Int×Int->M Bool)(x:Int×z1'×Int×Int):M Bool:=
 M.bind (M.loop (λ(A:Int×(Int×z1'×Int×Int)×Unit)=>letI b:=A.1<Int.ofNat (List.length A.2.1.2.1);if decide b=true then M.af (0<=A.1/\b) (M.bind (k3 (List.getD A.2.1.2.1 (Int.toNat A.1) 0,0,9)) (λy=>if (!y)=true then M.bind (M.bind (M.pure false) (λr=>M.pure (aa.done r))) λr=>M.pure (aa.done r) else M.pure (aa.next (IntKind.wrap .i64 (Add.add A.1 1),A.2.1,())))) else M.bind (M.pure (aa.next (A.2.1,()))) λr=>M.pure (aa.done r)) (0,x,())) (aa.bl (λ(A:(Int×z1'×Int×Int)×Unit)=>M.bind (k3 (A.1.1,0,9)) λy=>letI a:=y&&decide (Int.ofNat (List.length A.1.2.1)<=4);M.bind (b3 a (aiG A.1.2.1) false) λbG=>M.bind (b3 (a&&bG) (MX A.1.2.2) false) λds=>M.pure (a&&bG&&ds)))
def UT(axj:Int×Int->M (Int×Int))(aiH:Int×Int->M (Int×Int))(x:Int×Int):M (Int×Int):=
 M.bind (aiH x) λy=>M.pure y
def UU(aiI:z1'×Int->M Int)(x:z1'×Int):M Bool:=
 M.bind (aiI x) λy=>M.pure (decide (y>=0))
def UW(x:Int×Int):M (Int×Int):=
 M.af ((0:Int)<=32) (M.af ((0:Int)<=32) (M.af ((0:Int)<=32) (M.af ((0:Int)<=32) (M.af ((0:Int)<=32) (M.pure (IntKind.wrap .u64 (Add.add (IntKind.wrap .u64 (Add.add (IntKind.wrap .u64 (iV .u64 x.1 32*iV .u64 x.2 32)) (iV .u64 (IntKind.wrap .u64 (Add.add (IntKind.wrap .u64 (iV .u64 x.1 32*lk .u64 x.2 4294967295)) (iV .u64 (IntKind.wrap .u64 (lk .u64 x.1 4294967295*lk .u64 x.2 4294967295)) 32))) 32))) (iV .u64 (IntKind.wrap .u64 (Add.add (lk .u64 (IntKind.wrap .u64 (Add.add (IntKind.wrap .u64 (iV .u64 x.1 32*lk .u64 x.2 4294967295)) (iV .u64 (IntKind.wrap .u64 (lk .u64 x.1 4294967295*lk .u64 x.2 4294967295)) 32))) 4294967295) (IntKind.wrap .u64 (lk .u64 x.1 4294967295*iV .u64 x.2 32)))) 32)),IntKind.wrap .u64 (x.1*x.2)))))))
def M0(x:z1'×Int):M Int:=
 M.bind (M.loop (λ(A:z1'×Int×Int×Int×Unit)=>letI a:=A.2.2.2.1;if decide (a<A.2.2.1)=true then M.af (0<=a/\a<Int.ofNat (List.length A.1)) (if decide (A.2.1=List.getD A.1 (Int.toNat a) 0)=true then M.bind (M.bind (M.pure a) (λr=>M.pure (aa.done r))) λr=>M.pure (aa.done r) else M.pure (aa.next (A.1,A.2.1,A.2.2.1,IntKind.wrap .i64 (Add.add a 1),()))) else M.bind (M.pure (aa.next ())) λr=>M.pure (aa.done r)) (x.1,x.2,Int.ofNat (List.length x.1),0,())) (aa.bl (λ(A:Unit)=>M.pure (-1)))
def M1(aiJ:z2'×List (List (Int×z1'×Int×Int))×Int×z2'->M Bool)(x:z2'×List (List (Int×z1'×Int×Int))×Int×z2'):M Int:=
 M.bind (aiJ x) λy=>if (!y)=true then M.pure 70 else M.bind (M.loop (λ(A:z2'×Int×Int×z5'×Unit)=>letI c:=A.2.2.1;letI a:=List.getD A.1 (Int.toNat c) (0,0,0,0);letI b:=Option.map (λx=>x.2) (List.find? (λp=>decide (a.1=p.1.1)&&(decide (a.2.1=p.1.2.1)&&decide (a.2.2.1=p.1.2.2))) A.2.2.2.1);if decide (c<A.2.1)=true then M.af (0<=c/\c<Int.ofNat (List.length A.1)) (if (Option.isSome b&&decide (Option.getD b 0≠a.2.2.2))=true then M.bind (M.bind (M.pure 71) (λr=>M.pure (aa.done r))) λr=>M.pure (aa.done r) else M.pure (aa.next (A.1,A.2.1,IntKind.wrap .i64 (Add.add c 1),vh A.2.2.2.1 (a.1,a.2.1,a.2.2.1) a.2.2.2,()))) else M.bind (M.pure (aa.next ())) λr=>M.pure (aa.done r)) (x.2.2.2,Int.ofNat (List.length x.2.2.2),0,[],())) (aa.bl (λ(A:Unit)=>M.pure 0))
def M2(l_:bc×Bool->M (Option qf×Int))(h8:bc×Int->M Bool)(x:bc×Int):M ((Int×Int)×Int):=
 letI a:=Int.toNat x.2;M.af (h8 x).b8 (M.af (l_ (x.1,M.val (h8 x) false)).b8 (if decide ((M.val (l_ (x.1,M.val (h8 x) false)) (none,0)).2≠0)=true then M.pure ((0,0),(M.val (l_ (x.1,M.val (h8 x) false)) (none,0)).2) else M.af (Option.isSome (M.val (l_ (x.1,M.val (h8 x) false)) (none,0)).1=true) (M.af (0<=x.2/\x.2<Int.ofNat (List.length (Option.getD (M.val (l_ (x.1,M.val (h8 x) false)) (none,0)).1 (([],[],0,[]),[])).2)) (M.af ((0:Int)<=0/\0<Int.ofNat (List.length (List.getD (Option.getD (M.val (l_ (x.1,M.val (h8 x) false)) (none,0)).1 (([],[],0,[]),[])).2 a []))) (M.af (0<=IntKind.wrap .i64 (Int.ofNat (List.length (List.getD (Option.getD (M.val (l_ (x.1,M.val (h8 x) false)) (none,0)).1 (([],[],0,[]),[])).2 a []))-1)/\IntKind.wrap .i64 (Int.ofNat (List.length (List.getD (Option.getD (M.val (l_ (x.1,M.val (h8 x) false)) (none,0)).1 (([],[],0,[]),[])).2 a []))-1)<Int.ofNat (List.length (List.getD (Option.getD (M.val (l_ (x.1,M.val (h8 x) false)) (none,0)).1 (([],[],0,[]),[])).2 a []))) (M.pure ((List.getD (List.getD (Option.getD (M.val (l_ (x.1,M.val (h8 x) false)) (none,0)).1 (([],[],0,[]),[])).2 a []) (Int.toNat 0) 0,List.getD (List.getD (Option.getD (M.val (l_ (x.1,M.val (h8 x) false)) (none,0)).1 (([],[],0,[]),[])).2 a []) (Int.toNat (IntKind.wrap .i64 (Int.ofNat (List.length (List.getD (Option.getD (M.val (l_ (x.1,M.val (h8 x) false)) (none,0)).1 (([],[],0,[]),[])).2 a []))-1))) 0),0)))))))
def M3(l_:bc×Bool->M (Option qf×Int))(h8:bc×Int->M Bool)(xG:bc×Int×Int->M Bool)(aiK:Option qf×Int×Int×Int->M Int)(x:bc×Int×Int×Int):M (Int×Int):=
 letI b:=(x.1,x.2.2);letI a:=(x.1,x.2.1);M.af (h8 a).b8 (M.af (M.val (h8 a) false=true->(M.val (h8 a) false=true/\M.val (h8 a) false=true/\M.val (h8 a) false=true/\True)/\(xG b).b8/\True) (M.af (True/\(M.val (h8 a) false=true->M.val (h8 a) false=true)) (M.af (l_ (x.1,M.val (h8 a) false&&M.val (xG b) false)).b8 (if decide ((M.val (l_ (x.1,M.val (h8 a) false&&M.val (xG b) false)) (none,0)).2≠0)=true then M.pure (0,(M.val (l_ (x.1,M.val (h8 a) false&&M.val (xG b) false)) (none,0)).2) else M.bind (aiK ((M.val (l_ (x.1,M.val (h8 a) false&&M.val (xG b) false)) (none,0)).1,x.2)) λy=>M.pure (y,0)))))
def UX(oq:Int×Int×Int->M Bool)(aiL:z2'×(Int×Int×Int×Int->M Bool)->M Bool)(aiM:List (List (Int×z1'×Int×Int))×(List (Int×z1'×Int×Int)->M Bool)->M Bool)(M4:z2'×(Int×Int×Int×Int->M Bool)->M Bool)(aiN:List (Int×z1'×Int×Int)×Option (Int×z1'×Int×Int->M Bool)->M Bool)(aiO:(Int×Int×Int×Int)×Option bc->M Bool)(aiP:Int×Int×Int×Int->M Bool)(aiQ:Int×z1'×Int×Int->M Bool)(x:z2'×List (List (Int×z1'×Int×Int))×Int×z2'):M Bool:=
 letI c:=decide (Int.ofNat (List.length x.1)<=10);M.bind (b3 c (aiL (x.1,aiP)) false) λy=>letI a:=c&&y&&decide (Int.ofNat (List.length x.2.1)<=6);M.bind (b3 a (aiM (x.2.1,λx=>aiN (x,some aiQ))) false) λbG=>M.bind (b3 (a&&bG) (oq (x.2.2.1,0,99)) false) λds=>letI b:=a&&bG&&ds&&decide (Int.ofNat (List.length x.2.2.2)<=30);M.bind (b3 b (M4 (x.2.2.2,λha=>aiO (ha,some x))) false) λgB=>M.pure (b&&gB)
def M5(Dk:z2'×List (List (Int×z1'×Int×Int))×Int×z2'->M Int)(M4:z2'×(Int×Int×Int×Int->M Bool)->M Bool)(aiR:(Int×Int×Int×Int)×Option Int×Option bc×Option Int->M Bool)(x:bc×Bool):M (Option qf×Int):=
 M.bind (Dk x.1) λy=>if decide (y≠0)=true then M.pure (none,y) else if (!x.2)=true then M.pure (none,1) else M.bind (M.loop (λ(A:z2'×Int×Int×bc×z2'×List (List (Int×z1'×Int×Int))×Int×z2'×List (z1')×Unit)=>letI i:=A.2.2.1;letI g:=List.getD A.1 (Int.toNat i) (0,0,0,0);letI c:=A.2.2.2.2;if decide (i<A.2.1)=true then M.bind (M.af (0<=i/\i<Int.ofNat (List.length A.1)) (M.bind (M.loop (λ(A:z2'×Int×Int×bc×Int×(Int×Int×Int×Int)×z1'×Int×z2'×List (List (Int×z1'×Int×Int))×Int×z2'×List (z1')×Unit)=>letI d:=A.2.2.2;letI a:=d.2.2.2;letI j:=a.2.2;letI e:=j.2.2;if decide (a.2.1<=d.2.2.1.2.2.2)=true then M.bind (M.bind (M4 (d.1.2.2.2,λx=>aiR (x,some d.2.1,some d.1,some a.2.1))) (λy=>if y=true then M.af (b6 (Add.add (List.length a.1) (Add.add 0 1))) (M.pure (aa.next (A.1,A.2.1,A.2.2.1,d.1,d.2.1,d.2.2.1,a.1++[a.2.1],a.2.1,j.1,j.2.1,e.1,e.2.1,e.2.2.1,()))) else M.pure (aa.next (A.1,A.2.1,A.2.2.1,d.1,d.2.1,d.2.2.1,a.1,a.2.1,j.1,j.2.1,e.1,e.2.1,e.2.2.1,())))) (aa.bl (λ(A:z2'×Int×Int×bc×Int×(Int×Int×Int×Int)×z1'×Int×z2'×List (List (Int×z1'×Int×Int))×Int×z2'×List (z1')×Unit)=>letI k:=A.2.2.2;letI b:=k.2.2.2;M.pure (aa.next (A.1,A.2.1,A.2.2.1,k.1,k.2.1,k.2.2.1,b.1,IntKind.wrap .i64 (Add.add b.2.1 1),b.2.2.1,b.2.2.2.1,b.2.2.2.2.1,b.2.2.2.2.2.1,b.2.2.2.2.2.2.1,())))) else M.bind (M.pure (aa.next (A.1,A.2.1,A.2.2.1,d.1,a.1,j.1,j.2.1,e.1,e.2.1,e.2.2.1,()))) λr=>M.pure (aa.done r)) (A.1,A.2.1,i,A.2.2.2.1,i,g,[],g.2.2.1,c.1,c.2.1,c.2.2.1,c.2.2.2.1,c.2.2.2.2.1,())) (aa.bl (λ(A:z2'×Int×Int×bc×z1'×z2'×List (List (Int×z1'×Int×Int))×Int×z2'×List (z1')×Unit)=>letI f:=A.2.2.2.2;if decide (Int.ofNat (List.length f.1)=0)=true then M.bind (M.bind (M.bind (M.pure (none,3)) (λr=>M.pure (aa.done r))) (λr=>M.pure (aa.done r))) λr=>M.pure (aa.done r) else M.af True (M.af (b6 (Add.add (List.length f.2.2.2.2.2.1) (Add.add 0 1))) (M.af True (M.pure (aa.next (A.1,A.2.1,A.2.2.1,A.2.2.2.1,f.2.1,f.2.2.1,f.2.2.2.1,f.2.2.2.2.1,f.2.2.2.2.2.1++[f.1],()))))))))) (aa.bl (λ(A:z2'×Int×Int×bc×z2'×List (List (Int×z1'×Int×Int))×Int×z2'×List (z1')×Unit)=>letI h:=A.2.2.2.2;M.pure (aa.next (A.1,A.2.1,IntKind.wrap .i64 (Add.add A.2.2.1 1),A.2.2.2.1,h.1,h.2.1,h.2.2.1,h.2.2.2.1,h.2.2.2.2.1,())))) else M.bind (M.pure (aa.next (c.1,c.2.1,c.2.2.1,c.2.2.2.1,c.2.2.2.2.1,()))) λr=>M.pure (aa.done r)) (x.1.1,Int.ofNat (List.length x.1.1),0,x.1,x.1.1,x.1.2.1,x.1.2.2.1,x.1.2.2.2,[],())) (aa.bl (λ(A:z2'×List (List (Int×z1'×Int×Int))×Int×z2'×List (z1')×Unit)=>M.pure (some ((A.1,A.2.1,A.2.2.1,A.2.2.2.1),A.2.2.2.2.1),0)))
def aiS(oq:Int×Int×Int->M Bool)(x:bc×Int):M Bool:=
 M.bind (oq (x.2,0,IntKind.wrap .i64 (Int.ofNat (List.length x.1.1)-1))) λy=>M.pure y
def UY(oq:Int×Int×Int->M Bool)(x:bc×Int×Int):M Bool:=
 letI a:=Int.ofNat (List.length x.1.2.1);M.bind (oq (x.2.1,0,IntKind.wrap .i64 (a-1))) λy=>M.af (y=true->(y=true/\y=true)/\(0<=x.2.1/\x.2.1<a)/\True) (M.bind (b3 y (oq (x.2.2,0,IntKind.wrap .i64 (Int.ofNat (List.length (List.getD x.1.2.1 (Int.toNat x.2.1) []))-1))) false) (λbG=>M.pure (y&&bG)))
def M6(G4:bc×Int×Int×Int×Int->M Bool)(aiT:Int×Int->M Int)(x:Option qf×Int×Int×Int):M Int:=
 letI b:=(Option.getD x.1 (([],[],0,[]),[])).2;letI e:=List.getD b (Int.toNat x.2.1) [];M.bind (M.af (Option.isSome x.1=true) (M.af (0<=x.2.1/\x.2.1<Int.ofNat (List.length b)) (M.loop (λ(A:Option qf×Int×Int×Int×Int×z1'×Int×Int×Unit)=>letI c:=A.2.2.2;letI a:=c.2.2;letI f:=a.2.2.1;if decide (f<a.2.1)=true then M.bind (M.af (0<=f/\f<Int.ofNat (List.length a.1)) (M.af (Option.isSome A.1=true) (M.bind (G4 ((Option.getD A.1 (([],[],0,[]),[])).1,A.2.1,List.getD a.1 (Int.toNat f) 0,A.2.2.1,c.1)) (λy=>if y=true then M.pure (aa.next (A.1,A.2.1,A.2.2.1,c.1,IntKind.wrap .i64 (Add.add c.2.1 1),a.1,a.2.1,f,())) else M.pure (aa.next (A.1,A.2.1,A.2.2.1,c.1,c.2.1,a.1,a.2.1,f,())))))) (aa.bl (λ(A:Option qf×Int×Int×Int×Int×z1'×Int×Int×Unit)=>letI g:=A.2.2.2;M.pure (aa.next (A.1,A.2.1,A.2.2.1,g.1,g.2.1,g.2.2.1,g.2.2.2.1,IntKind.wrap .i64 (Add.add g.2.2.2.2.1 1),())))) else M.bind (M.pure (aa.next (A.1,A.2.1,c.2.1,()))) λr=>M.pure (aa.done r)) (x.1,x.2.1,x.2.2.1,x.2.2.2,0,e,Int.ofNat (List.length e),0,())))) (aa.bl (λ(A:Option qf×Int×Int×Unit)=>letI d:=(Option.getD A.1 (([],[],0,[]),[])).2;M.af (Option.isSome A.1=true) (M.af (0<=A.2.1/\A.2.1<Int.ofNat (List.length d)) (M.bind (aiT (A.2.2.1,Int.ofNat (List.length (List.getD d (Int.toNat A.2.1) [])))) (λy=>M.pure y)))))
def aiU(x:z1'):M Bool:=
 M.bind (M.loop (λ(A:z1'×Int×Unit)=>letI c:=A.2.1;letI b:=IntKind.wrap .i64 (c-1);letI a:=Int.ofNat (List.length A.1);if decide (c<a)=true then M.af (0<=c/\c<a) (M.af (0<=b/\b<a) (if decide (List.getD A.1 (Int.toNat c) 0<=List.getD A.1 (Int.toNat b) 0)=true then M.bind (M.bind (M.pure false) (λr=>M.pure (aa.done r))) λr=>M.pure (aa.done r) else M.pure (aa.next (A.1,IntKind.wrap .i64 (Add.add c 1),())))) else M.bind (M.pure (aa.next ())) λr=>M.pure (aa.done r)) (x,1,())) (aa.bl (λ(A:Unit)=>M.pure true))
def aiV(x:Int×Int×Int):M Bool:=
 M.pure (decide (x.2.1<=x.1)&&decide (x.1<=x.2.2))
def UZ(Dl:Int->M Bool)(M7:Int×Int->M Bool)(x:Int×Int×Int×Int):M Bool:=
 M.bind (Dl x.1) λy=>M.bind (b3 y (Dl x.2.1) false) λbG=>M.bind (b3 (y&&bG) (M7 x.2.2) false) λds=>M.pure (y&&bG&&ds)
def U0(oq:Int×Int×Int->M Bool)(x:Int):M Bool:=
 M.bind (oq (x,0,9)) λy=>M.pure y
def aiW(oq:Int×Int×Int->M Bool)(x:Int×Int):M Bool:=
 M.bind (oq (x.1,0,x.2)) λy=>M.pure (y&&decide (x.2<=999))
def U1(aiX:z1'->M Bool)(aiY:z1'×(Int->M Bool)->M Bool)(Dl:Int->M Bool)(M7:Int×Int->M Bool)(x:Int×z1'×Int×Int):M Bool:=
 M.bind (Dl x.1) λy=>letI a:=y&&decide (Int.ofNat (List.length x.2.1)<=4);M.bind (b3 a (aiY (x.2.1,Dl)) false) λbG=>M.bind (b3 (a&&bG) (aiX x.2.1) false) λds=>M.bind (b3 (a&&bG&&ds) (M7 x.2.2) false) λgB=>M.pure (a&&bG&&ds&&gB)
def U2(aiZ:List (Int×z1'×Int×Int)×(Int×z1'×Int×Int->M Bool)->M Bool)(x:List (Int×z1'×Int×Int)×Option (Int×z1'×Int×Int->M Bool)):M Bool:=
 letI a:=decide (Int.ofNat (List.length x.1)<=4);M.bind (b3 a (aiZ (x.1,Option.getD x.2 λx=>{ b8:=False,bC:=λx=>False })) false) λy=>M.pure (a&&y)
def U3(h8:bc×Int->M Bool)(xG:bc×Int×Int->M Bool)(oq:Int×Int×Int->M Bool)(x:(Int×Int×Int×Int)×Option bc):M Bool:=
 letI a:=Option.getD x.2 ([],[],0,[]);M.bind (h8 (a,x.1.1)) λy=>M.bind (b3 y (xG (a,x.1.2.1,x.1.2.2.1)) false) λbG=>M.bind (b3 (y&&bG) (oq (x.1.2.2.2,0,1)) false) λds=>M.pure (y&&bG&&ds)
def U4(G4:bc×Int×Int×Int×Int->M Bool)(x:(Int×Int×Int×Int)×Option Int×Option bc×Option Int):M Bool:=
 letI e:=Option.getD x.2.1 0;letI c:=decide (x.1.1≠e);letI b:=(Option.getD x.2.2.1 ([],[],0,[]),e,Option.getD x.2.2.2 0,x.1.2.1,x.1.2.2.1);letI a:=(!c)=true;letI d:=a->a/\True/\True;M.af d (M.af d (M.af (a->(a/\a/\a/\a/\a/\True)/\(G4 b).b8/\True) (M.af d (M.af (a->(a/\True)/\True/\True) (M.af (a->(a/\a)/\True/\True) (M.af (True/\(c=false->a)) (M.pure (c||decide (M.val (G4 b) false=decide (x.1.2.2.2=1))))))))))
def U5(oq:Int×Int×Int->M Bool)(hn:z1'×Int->M Bool)(x:bc×Int×Int×Int×Int):M Bool:=
 letI e:=x.2.2.2;letI c:=List.getD x.1.2.1 (Int.toNat e.1) [];letI b:=List.getD x.1.1 (Int.toNat x.2.1) (0,0,0,0);letI a:=List.getD c (Int.toNat e.2) (0,[],0,0);letI d:=decide (b.1=a.1);M.af (0<=x.2.1/\x.2.1<Int.ofNat (List.length x.1.1)) (M.af (0<=e.1/\e.1<Int.ofNat (List.length x.1.2.1)) (M.af (0<=e.2/\e.2<Int.ofNat (List.length c)) (M.bind (b3 d (hn (a.2.1,b.2.1)) false) (λy=>M.bind (b3 (d&&y) (oq (x.2.2.1,a.2.2.1,IntKind.wrap .i64 (Add.add a.2.2.2 x.1.2.2.1))) false) λbG=>M.pure (d&&y&&bG)))))
def U6(x:Int×Int):M Int:=
 if decide (x.1=x.2)=true then M.pure 1 else if decide (x.1=0)=true then M.pure 2 else M.pure 3
def M8(M9:z2'×List (List (Int×z1'×Int×Int))×Int×z2'->M Int)(x:z2'×List (List (Int×z1'×Int×Int))×Int×z2'):M Bool:=
 if (decide (Int.ofNat (List.length x.1) > 40)||decide (Int.ofNat (List.length x.2.1) > 40)||decide (Int.ofNat (List.length x.2.2.2) > 60))=true then M.pure true else M.bind (M.loop (λ(A:Int×bc×Unit)=>letI e:=A.1<Int.ofNat (List.length A.2.1.2.1);if decide e=true then M.bind (M.af (0<=A.1/\e) (if decide (Int.ofNat (List.length (List.getD A.2.1.2.1 (Int.toNat A.1) [])) > 20)=true then M.bind (M.bind (M.bind (M.pure true) (λr=>M.pure (aa.done r))) (λr=>M.pure (aa.done r))) λr=>M.pure (aa.done r) else M.loop (λ(A:Int×Int×bc×Unit)=>letI g:=A.2.2.1;letI c:=0<=A.1/\A.1<Int.ofNat (List.length g.2.1);letI a:=List.getD g.2.1 (Int.toNat A.1) [];letI f:=A.2.1<Int.ofNat (List.length a);M.af c (if decide f=true then M.af c (M.af (0<=A.2.1/\f) (if decide (Int.ofNat (List.length (List.getD a (Int.toNat A.2.1) (0,[],0,0)).2.1) > 20)=true then M.bind (M.bind (M.bind (M.bind (M.pure true) (λr=>M.pure (aa.done r))) (λr=>M.pure (aa.done r))) (λr=>M.pure (aa.done r))) λr=>M.pure (aa.done r) else M.pure (aa.next (A.1,IntKind.wrap .i64 (Add.add A.2.1 1),g,())))) else M.bind (M.pure (aa.next (A.1,g,()))) λr=>M.pure (aa.done r))) (A.1,0,A.2.1,()))) (aa.bl (λ(A:Int×bc×Unit)=>M.pure (aa.next (IntKind.wrap .i64 (Add.add A.1 1),A.2.1,())))) else M.bind (M.pure (aa.next (A.2.1,()))) λr=>M.pure (aa.done r)) (0,x,())) (aa.bl (λ(A:bc×Unit)=>M.bind (M9 A.1) λy=>if decide (y≠0)=true then M.pure false else M.bind (M.loop (λ(A:Int×bc×Unit)=>letI d:=(List.getD A.2.1.1 (Int.toNat A.1) (0,0,0,0)).2.2;letI b:=A.1<Int.ofNat (List.length A.2.1.1);if decide b=true then M.af (0<=A.1/\b) (M.af (0<=A.1/\b) (if decide (IntKind.wrap .i64 (d.2-d.1)>=50)=true then M.bind (M.bind (M.pure true) (λr=>M.pure (aa.done r))) λr=>M.pure (aa.done r) else M.pure (aa.next (IntKind.wrap .i64 (Add.add A.1 1),A.2.1,())))) else M.bind (M.pure (aa.next (A.2.1,()))) λr=>M.pure (aa.done r)) (0,A.1,())) (aa.bl (λ(A:bc×Unit)=>M.pure (decide (Int.ofNat (List.length A.1.1) > 6)||decide (Int.ofNat (List.length A.1.2.1) > 4)||decide (Int.ofNat (List.length A.1.2.2.2) > 10))))))
def ai0(x:Unit):M bc:=
 M.pure ([(1,2,300,310),(1,3,305,305),(2,1,50,60),(1,2,320,330)],[[(1,[2,3],300,306),(2,[1],40,58)],[(1,[2],310,326)]],5,[(0,1,0,0)])
abbrev da:Type:=Int×Int×Int×Int×z1'
abbrev dq:Type:=z1'×(Int×Int)×Int×Int×Int
abbrev Dm:Type:=Int×Int×Int
abbrev br:Type:=bc×z1'×List da×List dq×List Dm×Int
abbrev Sto:Type:=br×z4'×z5'
def U7(ai1:br×Bool->M (Int×Int))(x:br):M (Int×Int):=
 M.bind (ai1 (x,true)) λy=>M.pure y
def U8(ot:br×Bool->M (Option Sto×Int))(ai2:Option Sto->Prop)(ai3:Option Sto->List (z1'))(M_:Option Sto×z1'->M (z3'×Bool))(ai4:Option Sto×z3'->M Bool)(M':Option Sto×z3'->M Int)(x:br):M (Int×Int):=
 M.bind (ot (x,true)) λy=>if decide (y.2≠0)=true then M.pure (0,y.2) else M.af (ai2 y.1) (M.bind (jy (λ(A:Option (br×z4'×z5')×Int×Unit) (y:z1')=>M.bind (M.bind (M_ (A.1,y)) (λbG=>M.bind (b3 (!(!bG.2)) (ai4 (A.1,bG.1)) false) λds=>if (!bG.2||!ds)=true then M.pure (cP.normal,A.1,A.2.1,()) else M.bind (M' (A.1,bG.1)) λgB=>if (decide (A.2.1=-1)||decide (gB<A.2.1))=true then M.pure (cP.normal,A.1,gB,()) else M.pure (cP.normal,A.1,A.2.1,()))) λp=>M.pure (p.1,p.2.1,p.2.2.1,())) (ai3 y.1) (y.1,-1,())) (λp=>letI a:=decide (p.2.2.1=-1)=true;rY (if a then M.pure (0,3) else M.pure (p.2.2.1,0)) (λid=>if id=0 then if a then M.pure (0,3) else M.pure (p.2.2.1,0) else M.fail) M.fail p.1))
def U9(ot:br×Bool->M (Option Sto×Int))(Dn:br×Int->M Bool)(Na:z1'×Int×Unit->M (z1'×Unit))(zU:Option Sto×z1'->M Bool)(x:br×Int):M (z1'×Int):=
 M.af (Dn x).b8 (M.af (ot (x.1,M.val (Dn x) false)).b8 (if decide ((M.val (ot (x.1,M.val (Dn x) false)) (none,0)).2≠0)=true then M.pure ([],(M.val (ot (x.1,M.val (Dn x) false)) (none,0)).2) else M.bind (Na ([-1],Int.ofNat (List.length x.1.2.2.2.1),())) λy=>M.bind (M.loop (λ(A:Int×Option ((bc×z1'×List da×List dq×z3'×Int)×z4'×z5')×Int×Int×z1'×z1'×Unit)=>letI b:=A.2.2.2;letI a:=List.set b.2.2.1 (Int.toNat A.1) b.1;if decide (b.1<A.2.2.1)=true then M.bind (M.af (0<=A.1/\A.1<Int.ofNat (List.length b.2.2.1)) (M.bind (zU (A.2.1,a)) (λy=>if y=true then M.af (b6 (Add.add (List.length b.2.1) (Add.add 0 1))) (M.pure (aa.next (A.1,A.2.1,A.2.2.1,b.1,b.2.1++[b.1],a,()))) else M.pure (aa.next (A.1,A.2.1,A.2.2.1,b.1,b.2.1,a,()))))) (aa.bl (λ(A:Int×Option ((bc×z1'×List da×List (z1'×(Int×Int)×Int×Int×Int)×z3'×Int)×z4'×z5')×Int×Int×z1'×z1'×Unit)=>M.pure (aa.next (A.1,A.2.1,A.2.2.1,IntKind.wrap .i64 (Add.add A.2.2.2.1 1),A.2.2.2.2.1,A.2.2.2.2.2.1,())))) else M.bind (M.pure (aa.next (b.2.1,()))) λr=>M.pure (aa.done r)) (x.2,(M.val (ot (x.1,M.val (Dn x) false)) (none,0)).1,Int.ofNat (List.length x.1.2.2.1),0,[],y.1,())) (aa.bl (λ(A:z1'×Unit)=>M.pure (A.1,0)))))
def U_(Dk:z2'×List (List (Int×z1'×Int×Int))×Int×z2'->M Int)(ai5:br->M Bool)(x:br):M Int:=
 M.bind (Dk x.1) λy=>if decide (y≠0)=true then M.pure y else M.bind (ai5 x) λy=>if (!y)=true then M.pure 80 else M.pure 0
def U'(M9:z2'×List (List (Int×z1'×Int×Int))×Int×z2'->M Int)(nK:Int×Int×Int->M Bool)(Va:br×Int×Int×Int×Int×z1'->M Bool)(ai6:z1'×(Int×Int)×Int×Int×Int->M Bool)(x:br):M Int:=
 letI a:=decide (Int.ofNat (List.length x.2.1)≠Int.ofNat (List.length x.1.1))||decide (Int.ofNat (List.length x.2.2.1) > 8)||decide (Int.ofNat (List.length x.2.2.2.1) > 6)||decide (Int.ofNat (List.length x.2.2.2.2.1) > 8);M.bind (M9 x.1) λy=>if decide (y≠0)=true then M.pure y else M.bind (b3 (!a) (nK (x.2.2.2.2.2,0,99)) false) λy=>if (a||!y)=true then M.pure 80 else M.bind (M.loop (λ(A:Int×(bc×z1'×List (Int×Int×Int×Int×z1')×List dq×z3'×Int)×Unit)=>letI g:=A.1<Int.ofNat (List.length A.2.1.2.1);if decide g=true then M.af (0<=A.1/\g) (M.bind (nK (List.getD A.2.1.2.1 (Int.toNat A.1) 0,0,10)) (λy=>if (!y)=true then M.bind (M.bind (M.pure 80) (λr=>M.pure (aa.done r))) λr=>M.pure (aa.done r) else M.pure (aa.next (IntKind.wrap .i64 (Add.add A.1 1),A.2.1,())))) else M.bind (M.pure (aa.next (A.2.1,()))) λr=>M.pure (aa.done r)) (0,x,())) (aa.bl (λ(A:(bc×z1'×List da×List dq×z3'×Int)×Unit)=>M.bind (M.loop (λ(A:Int×(bc×z1'×List da×List dq×z3'×Int)×Unit)=>letI f:=A.1<Int.ofNat (List.length A.2.1.2.2.1);letI c:=(A.2.1,List.getD A.2.1.2.2.1 (Int.toNat A.1) (0,0,0,0,[]));if decide f=true then M.af (0<=A.1/\f) (M.af (Va c).b8 (if (!(M.val (Va c) false))=true then M.bind (M.bind (M.pure 80) (λr=>M.pure (aa.done r))) λr=>M.pure (aa.done r) else M.pure (aa.next (IntKind.wrap .i64 (Add.add A.1 1),A.2.1,())))) else M.bind (M.pure (aa.next (A.2.1,()))) λr=>M.pure (aa.done r)) (0,A.1,())) (aa.bl (λ(A:(bc×z1'×List da×List (z1'×(Int×Int)×Int×Int×Int)×z3'×Int)×Unit)=>M.bind (M.loop (λ(A:Int×(bc×z1'×List da×List (z1'×(Int×Int)×Int×Int×Int)×z3'×Int)×Unit)=>letI e:=A.1<Int.ofNat (List.length A.2.1.2.2.2.1);if decide e=true then M.af (0<=A.1/\e) (M.bind (ai6 (List.getD A.2.1.2.2.2.1 (Int.toNat A.1) ([],(0,0),0,0,0))) (λy=>if (!y)=true then M.bind (M.bind (M.pure 80) (λr=>M.pure (aa.done r))) λr=>M.pure (aa.done r) else M.pure (aa.next (IntKind.wrap .i64 (Add.add A.1 1),A.2.1,())))) else M.bind (M.pure (aa.next (A.2.1,()))) λr=>M.pure (aa.done r)) (0,A.1,())) (aa.bl (λ(A:(br)×Unit)=>M.bind (M.loop (λ(A:Int×(bc×z1'×List da×List dq×z3'×Int)×Unit)=>letI d:=A.1<Int.ofNat (List.length A.2.1.2.2.2.2.1);letI b:=List.getD A.2.1.2.2.2.2.1 (Int.toNat A.1) (0,0,0);if decide d=true then M.af (0<=A.1/\d) (M.bind (nK (b.1,0,99)) (λy=>M.bind (b3 (!(!y)) (nK (b.2.1,0,IntKind.wrap .i64 (Int.ofNat (List.length A.2.1.1.1)-1))) false) λbG=>M.bind (b3 (!(!y||!bG)) (nK (b.2.2,1,10)) false) λds=>if (!y||!bG||!ds)=true then M.bind (M.bind (M.pure 80) (λr=>M.pure (aa.done r))) λr=>M.pure (aa.done r) else M.pure (aa.next (IntKind.wrap .i64 (Add.add A.1 1),A.2.1,())))) else M.bind (M.pure (aa.next ())) λr=>M.pure (aa.done r)) (0,A.1,())) (aa.bl (λ(A:Unit)=>M.pure 0))))))))
def Vb(ot:br×Bool->M (Option Sto×Int))(zU:Option Sto×z1'->M Bool)(zV:br×z1'->M Bool)(lI:Option Sto×z1'->M Int)(x:br×z1'):M (Int×Int):=
 M.af (zV x).b8 (M.af (ot (x.1,M.val (zV x) false)).b8 (if decide ((M.val (ot (x.1,M.val (zV x) false)) (none,0)).2≠0)=true then M.pure (0,(M.val (ot (x.1,M.val (zV x) false)) (none,0)).2) else M.bind (zU ((M.val (ot (x.1,M.val (zV x) false)) (none,0)).1,x.2)) λy=>if (!y)=true then M.pure (0,3) else M.bind (lI ((M.val (ot (x.1,M.val (zV x) false)) (none,0)).1,x.2)) λy=>M.pure (y,0)))
def Vc(ot:br×Bool->M (Option Sto×Int))(ai7:Option Sto->M (z1'))(lI:Option Sto×z1'->M Int)(x:br×Bool):M (Int×Int):=
 M.bind (ot x) λy=>if decide (y.2≠0)=true then M.pure (0,y.2) else M.bind (ai7 y.1) λbG=>M.bind (lI (y.1,bG)) λy=>M.pure (y,0)
def Nb(Dp:br->M Int)(G5:bc×Int->M ((Int×Int)×Int))(vj:bc×Int×Int×Int->M (Int×Int))(zW:z4'×Int->M (z4'))(x:br×Bool):M (Option Sto×Int):=
 letI eO:=x.1.1.2;letI f1:=x.1.2.2;M.bind (Dp x.1) λy=>if decide (y≠0)=true then M.pure (none,y) else if (!x.2)=true then M.pure (none,1) else M.bind (if decide (Int.ofNat (List.length x.1.2.1) > 0)=true then M.bind (G5 (x.1.1,0)) λy=>if decide (y.2≠0)=true then M.bind (M.pure (none,y.2)) λr=>M.pure (aa.done r) else M.pure (aa.next (x.1,[],x.1.1.1,eO.1,eO.2.1,eO.2.2,x.1.2.1,f1.1,f1.2.1,f1.2.2.1,f1.2.2.2,())) else M.pure (aa.next (x.1,[],x.1.1.1,eO.1,eO.2.1,eO.2.2,x.1.2.1,f1.1,f1.2.1,f1.2.2.1,f1.2.2.2,()))) (aa.bl (λ(A:(bc×z1'×List da×List (z1'×(Int×Int)×Int×Int×Int)×z3'×Int)×z5'×z2'×List (List (Int×z1'×Int×Int))×Int×z2'×z1'×List da×List (z1'×(Int×Int)×Int×Int×Int)×z3'×Int×Unit)=>letI t:=A.2.2.2.2.2;M.bind (M.loop (λ(A:Int×Int×(bc×z1'×List da×List dq×z3'×Int)×z5'×z2'×List (List (Int×z1'×Int×Int))×Int×z2'×z1'×List da×List (z1'×(Int×Int)×Int×Int×Int)×z3'×Int×Unit)=>letI c1:=A.2.2;letI h:=c1.2.2.2.2;letI g1:=h.2.2.2;if decide (A.2.1<A.1)=true then M.bind (M.loop (λ(A:Int×Int×Int×List (List (Int×z1'×Int×Int))×Int×Int×(bc×z1'×List da×List (z1'×(Int×Int)×Int×Int×Int)×z3'×Int)×z5'×z2'×List (List (Int×z1'×Int×Int))×Int×z2'×z1'×List da×List dq×z3'×Int×Unit)=>letI i1:=A.2.2.2;letI j:=i1.2.2;letI c:=j.2.2.2;letI o:=c.2.2.2.2;if decide (j.1<i1.2.1)=true then M.bind (M.af (0<=j.1/\j.1<Int.ofNat (List.length i1.1)) (M.loop (λ(A:Int×Int×Int×Int×List (List (Int×z1'×Int×Int))×Int×Int×Int×Int×(bc×z1'×List da×List dq×z3'×Int)×z5'×z2'×List (List (Int×z1'×Int×Int))×Int×z2'×z1'×List (Int×Int×Int×Int×z1')×List dq×z3'×Int×Unit)=>letI m1:=A.2.2;letI k:=m1.2.2;letI o1:=k.2.2;letI a:=o1.2.2;letI w:=a.2.2.2;letI f:=w.2.2.2;letI d1:=f.2.2.2;if decide (a.1<o1.2.1)=true then M.bind (M.bind (vj (a.2.1.1,A.1,A.2.1,a.1)) (λy=>if decide (y.1=1)=true then M.af True (M.af (True/\True/\True) (M.af True (M.pure (aa.next (A.1,A.2.1,m1.1,m1.2.1,k.1,k.2.1,o1.1,o1.2.1,a.1,a.2.1,vh a.2.2.1 (A.1,A.2.1,a.1) (IntKind.wrap .i64 (Add.add (Option.getD (Option.map (λx=>x.2) (List.find? (λp=>decide (A.1=p.1.1)&&(decide (A.2.1=p.1.2.1)&&decide (a.1=p.1.2.2))) a.2.2.1)) 0) 1)),w.1,w.2.1,w.2.2.1,f.1,f.2.1,f.2.2.1,d1.1,d1.2.1,d1.2.2.1,()))))) else M.pure (aa.next (A.1,A.2.1,m1.1,m1.2.1,k.1,k.2.1,o1.1,o1.2.1,a.1,a.2.1,a.2.2.1,w.1,w.2.1,w.2.2.1,f.1,f.2.1,f.2.2.1,d1.1,d1.2.1,d1.2.2.1,())))) (aa.bl (λ(A:Int×Int×Int×Int×List (List (Int×z1'×Int×Int))×Int×Int×Int×Int×br×z5'×z2'×List (List (Int×z1'×Int×Int))×Int×z2'×z1'×List da×List dq×z3'×Int×Unit)=>letI e1:=A.2.2.2.2.2;letI g:=e1.2.2.2.2;letI z:=g.2.2.2.2.2;M.pure (aa.next (A.1,A.2.1,A.2.2.1,A.2.2.2.1,A.2.2.2.2.1,e1.1,e1.2.1,e1.2.2.1,IntKind.wrap .i64 (Add.add e1.2.2.2.1 1),g.1,g.2.1,g.2.2.1,g.2.2.2.1,g.2.2.2.2.1,z.1,z.2.1,z.2.2.1,z.2.2.2.1,z.2.2.2.2.1,z.2.2.2.2.2.1,())))) else M.bind (M.pure (aa.next (A.1,m1.1,m1.2.1,k.1,k.2.1,o1.1,a.2.1,a.2.2.1,w.1,w.2.1,w.2.2.1,f.1,f.2.1,f.2.2.1,d1.1,d1.2.1,d1.2.2.1,()))) λr=>M.pure (aa.done r)) (A.1,j.1,A.2.1,A.2.2.1,i1.1,i1.2.1,j.1,Int.ofNat (List.length (List.getD i1.1 (Int.toNat j.1) [])),0,j.2.1,j.2.2.1,c.1,c.2.1,c.2.2.1,c.2.2.2.1,o.1,o.2.1,o.2.2.1,o.2.2.2.1,o.2.2.2.2.1,()))) (aa.bl (λ(A:Int×Int×Int×List (List (Int×z1'×Int×Int))×Int×Int×(bc×z1'×List da×List dq×z3'×Int)×z5'×z2'×List (List (Int×z1'×Int×Int))×Int×z2'×z1'×List da×List (z1'×(Int×Int)×Int×Int×Int)×z3'×Int×Unit)=>letI h1:=A.2.2.2.2;letI i:=h1.2.2.2.2;letI aO:=i.2.2.2.2;M.pure (aa.next (A.1,A.2.1,A.2.2.1,A.2.2.2.1,h1.1,IntKind.wrap .i64 (Add.add h1.2.1 1),h1.2.2.1,h1.2.2.2.1,i.1,i.2.1,i.2.2.1,i.2.2.2.1,aO.1,aO.2.1,aO.2.2.1,aO.2.2.2.1,aO.2.2.2.2.1,())))) else M.bind (M.pure (aa.next (A.2.1,A.2.2.1,j.2.1,j.2.2.1,c.1,c.2.1,c.2.2.1,c.2.2.2.1,o.1,o.2.1,o.2.2.1,o.2.2.2.1,o.2.2.2.2.1,()))) λr=>M.pure (aa.done r)) (A.2.1,A.1,A.2.1,c1.1.1.2.1,Int.ofNat (List.length c1.1.1.2.1),0,c1.1,c1.2.1,c1.2.2.1,c1.2.2.2.1,h.1,h.2.1,h.2.2.1,g1.1,g1.2.1,g1.2.2.1,g1.2.2.2.1,())) (aa.bl (λ(A:Int×Int×(bc×z1'×List da×List (z1'×(Int×Int)×Int×Int×Int)×z3'×Int)×z5'×z2'×List (List (Int×z1'×Int×Int))×Int×z2'×z1'×List da×List (z1'×(Int×Int)×Int×Int×Int)×z3'×Int×Unit)=>letI ju:=A.2.2.2;letI m:=ju.2.2.2;M.pure (aa.next (A.1,IntKind.wrap .i64 (Add.add A.2.1 1),A.2.2.1,ju.1,ju.2.1,ju.2.2.1,m.1,m.2.1,m.2.2.1,m.2.2.2.1,m.2.2.2.2.1,m.2.2.2.2.2.1,m.2.2.2.2.2.2.1,())))) else M.bind (M.pure (aa.next (c1.1,c1.2.1,c1.2.2.1,c1.2.2.2.1,h.1,h.2.1,h.2.2.1,g1.1,g1.2.1,g1.2.2.1,g1.2.2.2.1,()))) λr=>M.pure (aa.done r)) (Int.ofNat (List.length A.1.2.1),0,A.1,A.2.1,A.2.2.1,A.2.2.2.1,A.2.2.2.2.1,t.1,t.2.1,t.2.2.1,t.2.2.2.1,t.2.2.2.2.1,t.2.2.2.2.2.1,())) (aa.bl (λ(A:(bc×z1'×List (Int×Int×Int×Int×z1')×List dq×z3'×Int)×z5'×z2'×List (List (Int×z1'×Int×Int))×Int×z2'×z1'×List (Int×Int×Int×Int×z1')×List dq×z3'×Int×Unit)=>letI u:=A.2.2.2.2.2;M.bind (M.loop (λ(A:z1'×Int×Int×(bc×z1'×List da×List dq×z3'×Int)×z5'×z2'×List (List (Int×z1'×Int×Int))×Int×z2'×z1'×List (Int×Int×Int×Int×z1')×List dq×z3'×Int×z4'×Unit)=>letI l:=A.2.2;letI xH:=l.2.2.2;letI n:=List.getD A.1 (Int.toNat l.1) 0;letI d:=xH.2.2.2;letI bT:=d.2.2.2.2;if decide (l.1<A.2.1)=true then M.af (0<=l.1/\l.1<Int.ofNat (List.length A.1)) (M.af True (M.af (zW ([(l.1,0)],n)).b8 (M.af (b6 (Add.add (List.length bT.2.2.1) (List.length (M.val (zW ([(l.1,0)],n)) [])))) (M.af True (M.pure (aa.next (A.1,A.2.1,IntKind.wrap .i64 (Add.add l.1 1),l.2.1,l.2.2.1,xH.1,xH.2.1,xH.2.2.1,d.1,d.2.1,d.2.2.1,d.2.2.2.1,bT.1,bT.2.1,bT.2.2.1++M.val (zW ([(l.1,0)],n)) [],()))))))) else M.bind (M.pure (aa.next (l.2.1,l.2.2.1,xH.1,xH.2.1,xH.2.2.1,d.1,d.2.1,d.2.2.1,d.2.2.2.1,bT.1,bT.2.1,bT.2.2.1,()))) λr=>M.pure (aa.done r)) (A.1.2.1,Int.ofNat (List.length A.1.2.1),0,A.1,A.2.1,A.2.2.1,A.2.2.2.1,A.2.2.2.2.1,u.1,u.2.1,u.2.2.1,u.2.2.2.1,u.2.2.2.2.1,u.2.2.2.2.2.1,[],())) (aa.bl (λ(A:(bc×z1'×List da×List (z1'×(Int×Int)×Int×Int×Int)×z3'×Int)×z5'×z2'×List (List (Int×z1'×Int×Int))×Int×z2'×z1'×List da×List dq×z3'×Int×z4'×Unit)=>letI q:=A.2.2.2.2.2;M.bind (M.loop (λ(A:z3'×Int×Int×z5'×z2'×List (List (Int×z1'×Int×Int))×Int×z2'×z1'×List (Int×Int×Int×Int×z1')×List dq×z3'×Int×z4'×Unit)=>letI s:=A.2.2;letI dG:=s.2.2.2;letI e:=dG.2.2;letI dd:=e.2.2.2.2;letI b:=List.getD A.1 (Int.toNat s.1) (0,0,0);letI c_:=(b.2.1,b.1);if decide (s.1<A.2.1)=true then M.af (0<=s.1/\s.1<Int.ofNat (List.length A.1)) (M.af True (M.af (zW ([c_],b.2.2)).b8 (M.af (b6 (Add.add (List.length dd.2.2.1) (List.length (M.val (zW ([c_],b.2.2)) [])))) (M.af True (M.pure (aa.next (A.1,A.2.1,IntKind.wrap .i64 (Add.add s.1 1),s.2.1,s.2.2.1,dG.1,dG.2.1,e.1,e.2.1,e.2.2.1,e.2.2.2.1,dd.1,dd.2.1,dd.2.2.1++M.val (zW ([c_],b.2.2)) [],()))))))) else M.bind (M.pure (aa.next (s.2.1,s.2.2.1,dG.1,dG.2.1,e.1,e.2.1,e.2.2.1,e.2.2.2.1,dd.1,dd.2.1,dd.2.2.1,()))) λr=>M.pure (aa.done r)) (A.1.2.2.2.2.1,Int.ofNat (List.length A.1.2.2.2.2.1),0,A.2.1,A.2.2.1,A.2.2.2.1,A.2.2.2.2.1,q.1,q.2.1,q.2.2.1,q.2.2.2.1,q.2.2.2.2.1,q.2.2.2.2.2.1,q.2.2.2.2.2.2.1,())) (aa.bl (λ(A:z5'×z2'×List (List (Int×z1'×Int×Int))×Int×z2'×z1'×List (Int×Int×Int×Int×z1')×List dq×z3'×Int×z4'×Unit)=>letI v:=A.2.2.2.2.2;M.pure (some (((A.2.1,A.2.2.1,A.2.2.2.1,A.2.2.2.2.1),v.1,v.2.1,v.2.2.1,v.2.2.2.1,v.2.2.2.2.1),v.2.2.2.2.2.1,A.1),0)))))))))
def Nc(G6:(z1'×(Int×Int)×Int×Int×Int)×Int×Int×Int×Int×z1'->M Int)(x:Option Sto×z1'):M (z3'×Bool):=
 M.bind (M.loop (λ(A:Option ((bc×z1'×List da×List dq×z3'×Int)×z4'×z5')×z1'×Int×Int×z3'×Unit)=>letI l:=A.2;letI g:=Option.isSome A.1=true;letI e:=l.2.2;letI j:=Int.toNat e.1;letI b:=List.getD l.1 j 0;letI a:=(Option.getD A.1 ((([],[],0,[]),[],[],[],[],0),[],[])).1.2.2;letI f:=List.getD a.1 (Int.toNat b) (0,0,0,0,[]);letI d:=List.getD a.2.1 j ([],(0,0),0,0,0);if decide (e.1<l.2.1)=true then M.bind (M.af (0<=e.1/\e.1<Int.ofNat (List.length l.1)) (if decide (List.getD l.1 j (0:Int)<0)=true then M.pure (aa.next (A.1,l.1,l.2.1,e.1,e.2.1,())) else M.af g (M.af (0<=e.1/\e.1<Int.ofNat (List.length a.2.1)) (M.af g (M.af (0<=b/\b<Int.ofNat (List.length a.1)) (M.bind (M.bind (G6 (d,f)) (λy=>if decide (y=0)=true then M.bind (M.bind (M.bind (M.bind (M.pure ([],false)) (λr=>M.pure (aa.done r))) (λr=>M.pure (aa.done r))) (λr=>M.pure (aa.done r))) λr=>M.pure (aa.done r) else if decide (y=2)=true then M.af g (M.pure (aa.next (A.1,IntKind.wrap .i64 (d.2.2.2.1-a.2.2.2),l.1,l.2.1,e.1,e.2.1,f,()))) else M.pure (aa.next (A.1,d.2.2.2.1,l.1,l.2.1,e.1,e.2.1,f,())))) (aa.bl (λ(A:Option ((bc×z1'×List da×List (z1'×(Int×Int)×Int×Int×Int)×z3'×Int)×z4'×z5')×Int×z1'×Int×Int×z3'×(Int×Int×Int×Int×z1')×Unit)=>letI h:=A.2.2.2.2;if decide (A.2.1<0)=true then M.bind (M.bind (M.bind (M.pure ([],false)) (λr=>M.pure (aa.done r))) (λr=>M.pure (aa.done r))) λr=>M.pure (aa.done r) else M.loop (λ(A:Option ((bc×z1'×List da×List dq×z3'×Int)×z4'×z5')×Int×z1'×Int×Int×z1'×Int×Int×z3'×(Int×Int×Int×Int×z1')×Unit)=>letI k:=A.2.2.2;letI c:=k.2.2;letI i:=c.2.2;if decide (i.1<c.2.1)=true then M.af (0<=i.1/\i.1<Int.ofNat (List.length c.1)) (M.af (b6 (Add.add (List.length i.2.1) (Add.add 0 1))) (M.pure (aa.next (A.1,A.2.1,A.2.2.1,k.1,k.2.1,c.1,c.2.1,IntKind.wrap .i64 (Add.add i.1 1),i.2.1++[(i.2.2.1.2.2.2.1,List.getD c.1 (Int.toNat i.1) 0,A.2.1)],i.2.2.1,())))) else M.bind (M.pure (aa.next (A.1,A.2.2.1,k.1,k.2.1,i.2.1,()))) λr=>M.pure (aa.done r)) (A.1,A.2.1,A.2.2.1,A.2.2.2.1,h.1,h.2.2.1.2.2.2.2,Int.ofNat (List.length h.2.2.1.2.2.2.2),0,h.2.1,h.2.2.1,()))))))))) (aa.bl (λ(A:Option (br×z4'×z5')×z1'×Int×Int×z3'×Unit)=>M.pure (aa.next (A.1,A.2.1,A.2.2.1,IntKind.wrap .i64 (Add.add A.2.2.2.1 1),A.2.2.2.2.1,())))) else M.bind (M.pure (aa.next (e.2.1,()))) λr=>M.pure (aa.done r)) (x.1,x.2,Int.ofNat (List.length x.2),0,[],())) (aa.bl (λ(A:z3'×Unit)=>M.pure (A.1,true)))
def Nd(G7:Option Sto×(Int×Int)×Int×Int×Int->M Bool)(x:Option Sto×z3'):M Bool:=
 M.bind (M.loop (λ(A:Option ((bc×z1'×List da×List dq×z3'×Int)×z4'×z5')×z3'×Int×Int×Unit)=>letI b:=A.2.2.2.1;if decide (b<A.2.2.1)=true then M.bind (M.af (0<=b/\b<Int.ofNat (List.length A.2.1)) (M.bind (M.af (Option.isSome A.1=true) (M.loop (λ(A:Option ((br)×z4'×z5')×Bool×z3'×Int×Int×Int×Int×(Int×Int×Int)×Unit)=>letI a:=A.2.2.2.2;if decide (a.2.2.1<a.2.1)=true then M.bind (b3 (!A.2.1) (G7 (A.1,(a.2.2.1,0),a.2.2.2.1)) false) λy=>M.pure (aa.next (A.1,A.2.1||y,A.2.2.1,A.2.2.2.1,a.1,a.2.1,IntKind.wrap .i64 (Add.add a.2.2.1 1),a.2.2.2.1,())) else M.bind (M.pure (aa.next (A.1,A.2.1,A.2.2.1,A.2.2.2.1,a.1,()))) λr=>M.pure (aa.done r)) (A.1,false,A.2.1,A.2.2.1,b,Int.ofNat (List.length (Option.getD A.1 ((([],[],0,[]),[],[],[],[],0),[],[])).1.2.1),0,List.getD A.2.1 (Int.toNat b) (0,0,0),()))) (aa.bl (λ(A:Option ((bc×z1'×List da×List (z1'×(Int×Int)×Int×Int×Int)×z3'×Int)×z4'×z5')×Bool×z3'×Int×Int×Unit)=>if (!A.2.1)=true then M.bind (M.bind (M.bind (M.pure false) (λr=>M.pure (aa.done r))) (λr=>M.pure (aa.done r))) λr=>M.pure (aa.done r) else M.pure (aa.next (A.1,A.2.2.1,A.2.2.2.1,A.2.2.2.2.1,())))))) (aa.bl (λ(A:Option ((bc×z1'×List (Int×Int×Int×Int×z1')×List dq×z3'×Int)×z4'×z5')×z3'×Int×Int×Unit)=>M.pure (aa.next (A.1,A.2.1,A.2.2.1,IntKind.wrap .i64 (Add.add A.2.2.2.1 1),())))) else M.bind (M.pure (aa.next ())) λr=>M.pure (aa.done r)) (x.1,x.2,Int.ofNat (List.length x.2),0,())) (aa.bl (λ(A:Unit)=>M.pure true))
def Nf(Na:z1'×Int×Unit->M (z1'×Unit))(Ng:Option Sto×z3'×Int×z4'×z1'×Unit->M (Bool×z4'×z1'×Unit))(x:Option Sto×z3'):M Int:=
 M.af (Option.isSome x.1=true) (M.bind (Na ([-1],Int.ofNat (List.length (Option.getD x.1 ((([],[],0,[]),[],[],[],[],0),[],[])).2.1),())) (λy=>M.bind (M.loop (λ(A:Option ((bc×z1'×List da×List (z1'×(Int×Int)×Int×Int×Int)×z3'×Int)×z4'×z5')×z3'×Int×Int×Int×z1'×Unit)=>letI a:=A.2.2.2;if decide (a.2.1<a.1)=true then M.bind (M.bind (Ng (A.1,A.2.1,a.2.1,[],a.2.2.1,())) (λy=>if (!y.1)=true then M.pure (aa.next (A.1,A.2.1,IntKind.wrap .i64 (Add.add A.2.2.1 1),a.1,a.2.1,y.2.2.1,())) else M.pure (aa.next (A.1,A.2.1,A.2.2.1,a.1,a.2.1,y.2.2.1,())))) (aa.bl (λ(A:Option ((bc×z1'×List (Int×Int×Int×Int×z1')×List dq×z3'×Int)×z4'×z5')×z3'×Int×Int×Int×z1'×Unit)=>M.pure (aa.next (A.1,A.2.1,A.2.2.1,A.2.2.2.1,IntKind.wrap .i64 (Add.add A.2.2.2.2.1 1),A.2.2.2.2.2.1,())))) else M.bind (M.pure (aa.next (A.2.2.1,()))) λr=>M.pure (aa.done r)) (x.1,x.2,0,Int.ofNat (List.length x.2),0,y.1,())) (aa.bl (λ(A:Int×Unit)=>M.pure A.1))))
def Vd(km:Int×Int×Int->M Bool)(x:br×Int):M Bool:=
 M.bind (km (x.2,0,IntKind.wrap .i64 (Int.ofNat (List.length x.1.2.2.2.1)-1))) λy=>M.pure y
def ai8(xI:Int×Int->M (Int×Int))(x:z1'×Int):M (z1'):=
 M.bind (if decide (x.2<0)=true then M.af False (M.af False (M.pure (aa.next (x.1,x.2,())))) else M.pure (aa.next (x.1,x.2,()))) (aa.bl (λ(A:z1'×Int×Unit)=>M.bind (xI (IntKind.wrap .u64 (Int.ofNat (List.length A.1)),IntKind.wrap .u64 A.2.1)) λy=>M.bind (if (decide (y.1 > 0)||decide (y.2 > 9223372036854775807))=true then M.af False (M.af False (M.pure (aa.next (A.1,y.2,())))) else M.pure (aa.next (A.1,y.2,()))) (aa.bl (λ(A:z1'×Int×Unit)=>letI b:=IntKind.wrap .i64 A.2.1;letI f:=Int.toNat b;letI e:=List.take (List.length (List.replicate f (0:Int))-0) A.1;M.af (0<=b/\b=b/\b6 f) (M.af True (M.bind (M.loop (λ(A:Int×z1'×Unit)=>letI g:=Int.toNat A.1;letI c:=List.take g A.2.1;letI a:=Int.ofNat (List.length A.2.1);letI d:=Int.toNat a-g;if decide (A.1<a)=true then M.af (0<=A.1/\A.1<=a/\a<=a) (M.af ((0:Int)<=0/\0<=A.1/\A.1<=a) (M.af True (M.pure (aa.next (IntKind.wrap .i64 (Add.add A.1 (Int.ofNat (if d<=List.length c then d else List.length c))),c++List.take d c++List.drop (Add.add g (List.length (List.take d c))) A.2.1,()))))) else M.bind (M.pure (aa.next (A.2.1,()))) λr=>M.pure (aa.done r)) (Int.ofNat (if List.length (List.replicate f (0:Int))-0<=List.length A.1 then List.length (List.replicate f (0:Int))-0 else List.length A.1),[]++e++List.drop (Add.add 0 (List.length e)) (List.replicate f (0:Int)),())) (aa.bl (λ(A:z1'×Unit)=>M.pure A.1))))))))
def Ve(M_:Option Sto×z1'->M (z3'×Bool))(M':Option Sto×z3'->M Int)(x:Option Sto×z1'):M Bool:=
 M.bind (M_ x) λy=>M.bind (b3 y.2 (M' (x.1,y.1)) 0) λbG=>M.pure (y.2&&decide (bG=0))
def Vf(Dq:Int->M Bool)(Nh:z1'×(Int->M Bool)->M Bool)(ai9:List da×(Int×Int×Int×Int×z1'->M Bool)->M Bool)(ai_:List dq×(z1'×(Int×Int)×Int×Int×Int->M Bool)->M Bool)(ai':z3'×(Int×Int×Int->M Bool)->M Bool)(aja:(Int×Int×Int×Int×z1')×Option bc->M Bool)(ajb:(Int×Int×Int)×Option bc->M Bool)(ajc:z1'×(Int×Int)×Int×Int×Int->M Bool)(ajd:Int->M Bool)(x:br):M Bool:=
 letI e:=x.2.2.2;letI b:=decide (Int.ofNat (List.length x.2.1)=Int.ofNat (List.length x.1.1));M.bind (b3 b (Nh (x.2.1,ajd)) false) λy=>letI d:=b&&!y&&decide (Int.ofNat (List.length x.2.2.1)<=8);M.bind (b3 d (ai9 (x.2.2.1,λha=>aja (ha,some x.1))) false) λbG=>letI a:=d&&!bG&&decide (Int.ofNat (List.length e.1)<=6);M.bind (b3 a (ai_ (e.1,ajc)) false) λds=>letI c:=a&&!ds&&decide (Int.ofNat (List.length e.2.1)<=8);M.bind (b3 c (ai' (e.2.1,λha=>ajb (ha,some x.1))) false) λgB=>M.bind (b3 (c&&!gB) (Dq e.2.2) false) λma=>M.pure (c&&!gB&&ma)
def aje(x:Int×Int×Int):M Bool:=
 M.pure (decide (x.2.1<=x.1)&&decide (x.1<=x.2.2))
def Vg(nK:Int×Int×Int->M Bool)(G8:z1'×Int->M Bool)(x:br×Int×Int×Int×Int×z1'):M Bool:=
 letI c:=x.2.2.2.2;letI b:=Int.ofNat (List.length x.1.1.2.1);letI a:=(c.2,IntKind.wrap .i64 (Int.ofNat (List.length (List.getD x.1.1.2.1 (Int.toNat c.1) []))-1));M.bind (nK (x.2.1,0,99)) λy=>M.bind (b3 (!(!y)) (nK (x.2.2.1,0,99)) false) λbG=>M.bind (b3 (!(!y||!bG)) (nK (x.2.2.2.1,0,99)) false) λds=>M.bind (b3 (!(!y||!bG||!ds)) (nK (c.1,0,IntKind.wrap .i64 (b-1))) false) λgB=>if (!y||!bG||!ds||!gB)=true then M.pure false else M.af (0<=c.1/\c.1<b) (M.af (G8 a).b8 (M.pure (M.val (G8 a) false)))
def Vh(nK:Int×Int×Int->M Bool)(G8:z1'×Int->M Bool)(x:z1'×(Int×Int)×Int×Int×Int):M Bool:=
 M.bind (nK (Int.ofNat (List.length x.1),1,8)) λy=>M.bind (b3 y (G8 (x.1,99)) false) λbG=>letI a:=y&&bG&&decide (0<=x.2.1.1)&&decide (x.2.1.1<=x.2.1.2)&&decide (x.2.1.2<=99);M.bind (b3 a (nK (x.2.2.1,0,99)) false) λds=>M.bind (b3 (a&&ds) (nK (x.2.2.2.1,0,99)) false) λgB=>M.bind (b3 (a&&ds&&gB) (nK (x.2.2.2.2,0,100000)) false) λma=>M.pure (a&&ds&&gB&&ma)
def Vi(km:Int×Int×Int->M Bool)(x:br×Int):M Bool:=
 M.bind (km (x.2,0,IntKind.wrap .i64 (Int.ofNat (List.length x.1.2.2.1)-1))) λy=>M.pure y
def Vj(km:Int×Int×Int->M Bool)(hn:z1'×Int->M Bool)(x:(z1'×(Int×Int)×Int×Int×Int)×Int×Int×Int×Int×z1'):M Int:=
 M.bind (hn (x.1.1,x.2.1)) λy=>M.bind (b3 (!(!y)) (km (x.2.2.1,x.1.2.1)) false) λbG=>if (!y||!bG)=true then M.pure 0 else if decide (x.2.2.2.1=x.1.2.2.1)=true then M.pure 1 else if decide (x.2.2.2.1=0)=true then M.pure 2 else M.pure 0
def Ni(ajf:z1'×Int->M (z1'))(zU:Option Sto×z1'->M Bool)(lI:Option Sto×z1'->M Int)(ajg:Option Sto->Prop)(ajh:Option Sto->List (z1'))(x:Option Sto):M (z1'):=
 M.af (Option.isSome x=true) (M.bind (ajf ([-1],Int.ofNat (List.length (Option.getD x ((([],[],0,[]),[],[],[],[],0),[],[])).1.2.2.2.1))) (λy=>M.af (ajg x) (M.bind (jy (λ(A:Option ((bc×z1'×List da×List (z1'×(Int×Int)×Int×Int×Int)×z3'×Int)×z4'×z5')×z1'×Unit) (y:z1')=>letI b:=(A.1,y);letI a:=(A.1,A.2.1);M.bind (M.af (lI b).b8 (M.af (lI a).b8 (M.af (decide (M.val (lI b) 0 > M.val (lI a) 0)=true->(decide (M.val (lI b) 0 > M.val (lI a) 0)=true/\decide (M.val (lI b) 0 > M.val (lI a) 0)=true/\True)/\(zU b).b8/\True) (M.af (True/\(decide (M.val (lI b) 0 > M.val (lI a) 0)=true->decide (M.val (lI b) 0 > M.val (lI a) 0)=true)) (if (decide (M.val (lI b) 0 > M.val (lI a) 0)&&M.val (zU b) false)=true then M.pure (cP.normal,A.1,y,()) else M.pure (cP.normal,A.1,A.2.1,())))))) λp=>M.pure (p.1,p.2.1,p.2.2.1,())) (ajh x) (x,y,())) (λp=>rY (M.pure p.2.2.1) (λid=>if id=0 then M.pure p.2.2.1 else M.fail) M.fail p.1))))
def Vk(aji:br×Int->M Bool)(hn:z1'×Int->M Bool)(x:br×z1'):M Bool:=
 M.bind (M.loop (λ(A:z1'×z1'×Int×Int×(bc×z1'×List da×List (z1'×(Int×Int)×Int×Int×Int)×z3'×Int)×Unit)=>letI e:=A.2.2;letI b:=e.2.1;letI c:=Int.toNat b;letI f:=List.getD A.2.1 c 0;letI a:=decide (List.getD A.2.1 c (0:Int)≠-1);if decide (b<e.1)=true then M.af (0<=b/\b<Int.ofNat (List.length A.2.1)) (M.bind (b3 a (aji (e.2.2.1,f)) false) (λy=>letI d:=(a&&!(!y))=true;M.af (d->(d/\True/\d)/\((0:Int)<=0/\0<=b/\b<=Int.ofNat (List.length A.1))/\True) (M.bind (b3 (a&&!(!y)) (hn (List.take c A.1,f)) false) (λbG=>if (a&&(!y||bG))=true then M.bind (M.bind (M.pure false) (λr=>M.pure (aa.done r))) λr=>M.pure (aa.done r) else M.pure (aa.next (A.1,A.2.1,e.1,IntKind.wrap .i64 (Add.add b 1),e.2.2.1,())))))) else M.bind (M.pure (aa.next (A.1,e.2.2.1,()))) λr=>M.pure (aa.done r)) (x.2,x.2,Int.ofNat (List.length x.2),0,x.1,())) (aa.bl (λ(A:z1'×(bc×z1'×List da×List dq×z3'×Int)×Unit)=>M.pure (decide (Int.ofNat (List.length A.1)=Int.ofNat (List.length A.2.1.2.2.2.1)))))
def Nj(x:Option Sto×z1'):M Int:=
 M.bind (M.loop (λ(A:Option ((bc×z1'×List da×List dq×z3'×Int)×z4'×z5')×Int×z1'×Int×Int×Unit)=>letI c:=A.2.2;letI b:=(Option.getD A.1 ((([],[],0,[]),[],[],[],[],0),[],[])).1.2.2.2.1;letI a:=c.2.2.1;if decide (a<c.2.1)=true then M.bind (M.af (0<=a/\a<Int.ofNat (List.length c.1)) (if decide (List.getD c.1 (Int.toNat a) (0:Int)≠-1)=true then M.af (Option.isSome A.1=true) (M.af (0<=a/\a<Int.ofNat (List.length b)) (M.pure (aa.next (A.1,IntKind.wrap .i64 (Add.add A.2.1 (List.getD b (Int.toNat a) ([],(0,0),0,0,0)).2.2.2.2),c.1,c.2.1,a,())))) else M.pure (aa.next (A.1,A.2.1,c.1,c.2.1,a,())))) (aa.bl (λ(A:Option ((bc×z1'×List (Int×Int×Int×Int×z1')×List dq×z3'×Int)×z4'×z5')×Int×z1'×Int×Int×Unit)=>M.pure (aa.next (A.1,A.2.1,A.2.2.1,A.2.2.2.1,IntKind.wrap .i64 (Add.add A.2.2.2.2.1 1),())))) else M.bind (M.pure (aa.next (A.2.1,()))) λr=>M.pure (aa.done r)) (x.1,0,x.2,Int.ofNat (List.length x.2),0,())) (aa.bl (λ(A:Int×Unit)=>M.pure A.1))
def ajj(xI:Int×Int->M (Int×Int))(x:z4'×Int):M (z4'):=
 M.bind (if decide (x.2<0)=true then M.af False (M.af False (M.pure (aa.next (x.1,x.2,())))) else M.pure (aa.next (x.1,x.2,()))) (aa.bl (λ(A:z4'×Int×Unit)=>M.bind (xI (IntKind.wrap .u64 (Int.ofNat (List.length A.1)),IntKind.wrap .u64 A.2.1)) λy=>M.bind (if (decide (y.1 > 0)||decide (y.2 > 9223372036854775807))=true then M.af False (M.af False (M.pure (aa.next (A.1,y.2,())))) else M.pure (aa.next (A.1,y.2,()))) (aa.bl (λ(A:z4'×Int×Unit)=>letI b:=IntKind.wrap .i64 A.2.1;letI f:=Int.toNat b;letI d:=List.take (List.length (List.replicate f ((0:Int),(0:Int)))-0) A.1;M.af (0<=b/\b=b/\b6 f) (M.af True (M.bind (M.loop (λ(A:Int×z4'×Unit)=>letI g:=Int.toNat A.1;letI c:=List.take g A.2.1;letI a:=Int.ofNat (List.length A.2.1);letI e:=Int.toNat a-g;if decide (A.1<a)=true then M.af (0<=A.1/\A.1<=a/\a<=a) (M.af ((0:Int)<=0/\0<=A.1/\A.1<=a) (M.af True (M.pure (aa.next (IntKind.wrap .i64 (Add.add A.1 (Int.ofNat (if e<=List.length c then e else List.length c))),c++List.take e c++List.drop (Add.add g (List.length (List.take e c))) A.2.1,()))))) else M.bind (M.pure (aa.next (A.2.1,()))) λr=>M.pure (aa.done r)) (Int.ofNat (if List.length (List.replicate f ((0:Int),(0:Int)))-0<=List.length A.1 then List.length (List.replicate f ((0:Int),(0:Int)))-0 else List.length A.1),[]++d++List.drop (Add.add 0 (List.length d)) (List.replicate f ((0:Int),(0:Int))),())) (aa.bl (λ(A:z4'×Unit)=>M.pure A.1))))))))
def Vl(x:Option Sto×(Int×Int)×Int×Int×Int):M Bool:=
 letI c:=decide (x.2.1.2<=x.2.2.2.2);letI a:=c=true;letI b:=a->a/\True/\True;M.af (a->a/\Option.isSome x.1=true/\True) (M.af b (M.af b (M.af b (M.af b (M.af b (M.af (a->(a/\a/\a/\True)/\True/\True) (M.af (a->(a/\a)/\True/\True) (M.af (a->(a/\True)/\True/\True) (M.af (True/\(a->a)) (M.pure (c&&decide (Option.getD (Option.map (λx=>x.2) (List.find? (λp=>decide (x.2.1.1=p.1.1)&&(decide (x.2.2.1=p.1.2.1)&&decide (x.2.2.2.1=p.1.2.2))) (Option.getD x.1 ((([],[],0,[]),[],[],[],[],0),[],[])).2.2)) (0:Int) > 0))))))))))))
def ajk(x:Int×Int×Int):M Bool:=
 M.pure (decide (x.2.1<=x.1)&&decide (x.1<=x.2.2))
def Vm(km:Int×Int×Int->M Bool)(vk:Int->M Bool)(Nk:z1'×(Int->M Bool)->M Bool)(ajl:Int×Option bc×Option (Int×Int×Int×Int×z1')->M Bool)(x:(Int×Int×Int×Int×z1')×Option bc):M Bool:=
 letI b:=Option.getD x.2 ([],[],0,[]);M.bind (vk x.1.1) λy=>M.bind (b3 (!(!y)) (vk x.1.2.1) false) λbG=>M.bind (b3 (!(!y||!bG)) (vk x.1.2.2.1) false) λds=>letI a:=!y||!bG||!ds;M.bind (b3 (!a) (km (x.1.2.2.2.1,0,IntKind.wrap .i64 (Int.ofNat (List.length b.2.1)-1))) false) λgB=>M.bind (b3 (!(a||!gB)) (Nk (x.1.2.2.2.2,λha=>ajl (ha,some b,some x.1))) false) λma=>M.pure (a||!gB||!ma)
def Vn(km:Int×Int×Int->M Bool)(x:Int):M Bool:=
 M.bind (km (x,0,99)) λy=>M.pure y
def Vo(x:z1'×(Int->M Bool)):M Bool:=
 M.bind (M.loop (λ(A:z1'×(Int->M Bool)×z1'×Int×Int×Unit)=>letI e:=A.2.2;letI a:=e.2.2.1;letI d:=List.getD e.1 (Int.toNat a) 0;letI c:=IntKind.wrap .i64 (a-1);if decide (a<e.2.1)=true then M.af (0<=a/\a<Int.ofNat (List.length e.1)) (M.bind (A.2.1 d) (λy=>letI b:=(!(!y)&&decide (a > 0))=true;M.af (b->(b/\b)/\(0<=c/\c<Int.ofNat (List.length A.1))/\True) (if (!y||decide (a > 0)&&decide (d<=List.getD A.1 (Int.toNat c) 0))=true then M.bind (M.bind (M.pure false) (λr=>M.pure (aa.done r))) λr=>M.pure (aa.done r) else M.pure (aa.next (A.1,A.2.1,e.1,e.2.1,IntKind.wrap .i64 (Add.add a 1),()))))) else M.bind (M.pure (aa.next ())) λr=>M.pure (aa.done r)) (x.1,x.2,x.1,Int.ofNat (List.length x.1),0,())) (aa.bl (λ(A:Unit)=>M.pure true))
def Vp(km:Int×Int×Int->M Bool)(x:Int×Option bc×Option (Int×Int×Int×Int×z1')):M Bool:=
 letI b:=(Option.getD x.2.1 ([],[],0,[])).2.1;letI a:=(Option.getD x.2.2 (0,0,0,0,[])).2.2.2.1;M.af (0<=a/\a<Int.ofNat (List.length b)) (M.bind (km (x.1,0,IntKind.wrap .i64 (Int.ofNat (List.length (List.getD b (Int.toNat a) []))-1))) (λy=>M.pure y))
def Vq(km:Int×Int×Int->M Bool)(vk:Int->M Bool)(Nk:z1'×(Int->M Bool)->M Bool)(Dq:Int->M Bool)(x:z1'×(Int×Int)×Int×Int×Int):M Bool:=
 M.bind (km (Int.ofNat (List.length x.1),1,8)) λy=>M.bind (b3 (!(!y)) (Nk (x.1,vk)) false) λbG=>M.bind (b3 (!(!y||!bG)) (vk x.2.1.1) false) λds=>M.bind (b3 (!(!y||!bG||!ds)) (vk x.2.1.2) false) λgB=>letI a:=!y||!bG||!ds||!gB||decide (x.2.1.1 > x.2.1.2);M.bind (b3 (!a) (vk x.2.2.1) false) λma=>M.bind (b3 (!(a||!ma)) (Dq x.2.2.2.1) false) λDr=>M.bind (b3 (!(a||!ma||!Dr)) (km (x.2.2.2.2,0,100000)) false) λNl=>M.pure (a||!ma||!Dr||!Nl)
def Vr(km:Int×Int×Int->M Bool)(x:Int):M Bool:=
 M.bind (km (x,0,99)) λy=>M.pure y
def Vs(km:Int×Int×Int->M Bool)(Dq:Int->M Bool)(x:(Int×Int×Int)×Option bc):M Bool:=
 M.bind (Dq x.1.1) λy=>M.bind (b3 (!(!y)) (km (x.1.2.1,0,IntKind.wrap .i64 (Int.ofNat (List.length (Option.getD x.2 ([],[],0,[])).1)-1))) false) λbG=>M.bind (b3 (!(!y||!bG)) (km (x.1.2.2,1,10)) false) λds=>M.pure (!y||!bG||!ds)
def Vt(km:Int×Int×Int->M Bool)(x:Int):M Bool:=
 M.bind (km (x,0,10)) λy=>M.pure (!y)
def Vu(x:z1'×Int):M Bool:=
 M.bind (M.loop (λ(A:z1'×Int×Int×Unit)=>letI e:=A.2.2.1;letI j:=decide (e > 0);letI i:=List.getD A.1 (Int.toNat e) 0;letI h:=IntKind.wrap .i64 (e-1);letI d:=Int.ofNat (List.length A.1);letI k:=0<=e/\e<d;letI b:=decide (List.getD A.1 (Int.toNat e) (0:Int)<0);letI f:=(!b)=true;letI a:=b||decide (i > A.2.1);letI g:=(!a)=true;letI c:=(!a&&j)=true;letI l:=c->c/\True/\True;if decide (e<d)=true then M.af k (M.af (f->(f/\f)/\k/\True) (M.af (f->f/\True/\True) (M.af (f->(f/\f)/\True/\True) (M.af (True/\(b=false->f)) (M.af (g->(g/\True)/\True/\True) (M.af (g->True/\True/\g) (M.af (c->(c/\c)/\k/\True) (M.af l (M.af (c->(c/\True)/\True/\True) (M.af (c->(c/\c)/\(0<=h/\h<d)/\True) (M.af l (M.af (c->(c/\c)/\True/\True) (M.af (g->(g/\(j=true->c))/\True/\True) (M.af (True/\(a=false->g)) (if (a||j&&decide (i<=List.getD A.1 (Int.toNat h) 0))=true then M.bind (M.bind (M.pure false) (λr=>M.pure (aa.done r))) λr=>M.pure (aa.done r) else M.pure (aa.next (A.1,A.2.1,IntKind.wrap .i64 (Add.add e 1),()))))))))))))))))) else M.bind (M.pure (aa.next ())) λr=>M.pure (aa.done r)) (x.1,x.2,0,())) (aa.bl (λ(A:Unit)=>M.pure true))
def G9(xJ:Option Sto×z1'×Int×Nat×(Nat×(List (z1')->Prop)×List (z1')×Bool)×Unit->M (Bool×(Nat×(List (z1')->Prop)×List (z1')×Bool)×Unit))(x:Option Sto×Nat×(Nat×(List (z1')->Prop)×List (z1')×Bool)×Unit):M ((Nat×(List (z1')->Prop)×List (z1')×Bool)×Unit):=
 M.bind (xJ (x.1,[],1,x.2.1,x.2.2.1,())) λy=>M.pure (y.2.1,())
def G_(xJ:Option Sto×z1'×Int×Nat×(Nat×(List (z1')->Prop)×List (z1')×Bool)×Unit->M (Bool×(Nat×(List (z1')->Prop)×List (z1')×Bool)×Unit))(x:Option Sto×Nat×(Nat×(List (z1')->Prop)×List (z1')×Bool)×Unit):M ((Nat×(List (z1')->Prop)×List (z1')×Bool)×Unit):=
 M.bind (xJ (x.1,[],0,x.2.1,x.2.2.1,())) λy=>M.pure (y.2.1,())
def Nn(G7:Option Sto×(Int×Int)×Int×Int×Int->M Bool)(Ng:Option Sto×z3'×Int×z4'×z1'×Unit->M (Bool×z4'×z1'×Unit))(x:Option Sto×z3'×Int×z4'×z1'×Unit):M (Bool×z4'×z1'×Unit):=
 letI k:=(Option.getD x.1 ((([],[],0,[]),[],[],[],[],0),[],[])).2.1;M.bind (M.af (Option.isSome x.1=true) (M.loop (λ(A:Option ((bc×z1'×List da×List (z1'×(Int×Int)×Int×Int×Int)×z3'×Int)×z4'×z5')×z3'×Int×z4'×Int×Int×z4'×z1'×Unit)=>letI o:=A.2.1;letI i:=A.2.2;letI c:=i.2.2.2;letI m:=c.2.2.1;letI l:=Int.toNat c.1;letI j:=Option.map (λx=>x.2) (List.find? (λp=>decide (c.1=p.1)) c.2.1);letI g:=0<=c.1/\c.1<Int.ofNat (List.length m);letI f:=(A.1,List.getD i.2.1 l (0,0),List.getD o (Int.toNat i.1) (0,0,0));letI d:=eN c.2.1 c.1 (IntKind.wrap .i64 (Add.add (Option.getD j 0) 1));letI b:=decide (List.getD m l (0:Int)=-1);letI h:=(!b)=true;letI a:=decide (Option.getD j (0:Int) > 0);letI e:=(!a)=true;letI q:=e->e/\True/\True;if decide (c.1<i.2.2.1)=true then M.bind (M.af (0<=c.1/\c.1<Int.ofNat (List.length i.2.1)) (M.af (e->(e/\e)/\(0<=i.1/\i.1<Int.ofNat (List.length o))/\True) (M.af q (M.af (e->(e/\e/\e/\True)/\(G7 f).b8/\True) (M.af q (M.af (True/\(a=false->e)) (if (a||!(M.val (G7 f) false))=true then M.pure (aa.next (A.1,o,i.1,i.2.1,i.2.2.1,c.1,c.2.1,m,())) else M.af g (M.af (h->(h/\h)/\g/\True) (if h then M.af (h/\h/\h/\h/\h/\True) (M.bind (Ng (A.1,o,List.getD m l 0,d,m,())) (λy=>if (b||y.1)=true then M.af (0<=c.1/\c.1<Int.ofNat (List.length y.2.2.1)) (M.bind (M.bind (M.bind (M.pure (true,y.2.1,List.set y.2.2.1 l i.1,())) (λr=>M.pure (aa.done r))) (λr=>M.pure (aa.done r))) (λr=>M.pure (aa.done r))) else M.pure (aa.next (A.1,o,i.1,i.2.1,i.2.2.1,c.1,y.2.1,y.2.2.1,())))) else M.af (True/\(b=false->false=true)) (if (b||false)=true then M.af g (M.bind (M.bind (M.bind (M.pure (true,d,List.set m l i.1,())) (λr=>M.pure (aa.done r))) (λr=>M.pure (aa.done r))) (λr=>M.pure (aa.done r))) else M.pure (aa.next (A.1,o,i.1,i.2.1,i.2.2.1,c.1,d,m,())))))))))))) (aa.bl (λ(A:Option ((bc×z1'×List da×List dq×z3'×Int)×z4'×z5')×z3'×Int×z4'×Int×Int×z4'×z1'×Unit)=>letI n:=A.2.2.2;M.pure (aa.next (A.1,A.2.1,A.2.2.1,n.1,n.2.1,IntKind.wrap .i64 (Add.add n.2.2.1 1),n.2.2.2.1,n.2.2.2.2.1,())))) else M.bind (M.pure (aa.next (c.2.1,m,()))) λr=>M.pure (aa.done r)) (x.1,x.2.1,x.2.2.1,k,Int.ofNat (List.length k),0,x.2.2.2.1,x.2.2.2.2.1,()))) (aa.bl (λ(A:z4'×z1'×Unit)=>M.pure (false,A.1,A.2.1,())))
def No(G6:(z1'×(Int×Int)×Int×Int×Int)×Int×Int×Int×Int×z1'->M Int)(xJ:Option Sto×z1'×Int×Nat×(Nat×(List (z1')->Prop)×List (z1')×Bool)×Unit->M (Bool×(Nat×(List (z1')->Prop)×List (z1')×Bool)×Unit))(hn:z1'×Int->M Bool)(x:Option Sto×z1'×Int×Nat×(Nat×(List (z1')->Prop)×List (z1')×Bool)×Unit):M (Bool×(Nat×(List (z1')->Prop)×List (z1')×Bool)×Unit):=
 letI p:=Option.isSome x.1=true;letI o:=Int.ofNat (List.length x.2.1);letI i:=x.2.2.2.2.1;letI e:=(Option.getD x.1 ((([],[],0,[]),[],[],[],[],0),[],[])).1.2.2;M.af p (if decide (o=Int.ofNat (List.length e.2.1))=true then M.bind (M.af (x.2.2.2.1=i.1/\i.2.2.2=false/\(∃ (T:List (z1')),i.2.1 (i.2.2.1++x.2.1::T))) (M.any (λx=>True))) λy=>M.pure (y,(i.1,i.2.1,i.2.2.1++[x.2.1],!y),()) else M.bind (M.af p (M.loop (λ(A:Option Sto×z1'×Int×Nat×Int×List da×Int×Int×(Nat×(List (z1')->Prop)×List (z1')×Bool)×Unit)=>letI q:=A.2.1;letI l:=A.2.2;letI j:=(Option.getD A.1 ((([],[],0,[]),[],[],[],[],0),[],[])).1.2.2.2.1;letI c:=l.2.2;letI m:=List.take (Int.toNat c.1) q;letI k:=c.2.2.2;letI d:=(List.getD j (Int.toNat c.1) ([],(0,0),0,0,0),List.getD c.2.1 (Int.toNat k.1) (0,0,0,0,[]));letI a:=(q,k.1);if decide (k.1<c.2.2.1)=true then M.bind (M.af (0<=k.1/\k.1<Int.ofNat (List.length c.2.1)) (M.af (hn a).b8 (M.af ((!(M.val (hn a) false))=true->(!(M.val (hn a) false))=true/\Option.isSome A.1=true/\True) (M.af ((!(M.val (hn a) false))=true->(!(M.val (hn a) false))=true/\True/\True) (M.af ((!(M.val (hn a) false))=true->(!(M.val (hn a) false))=true/\True/\True) (M.af ((!(M.val (hn a) false))=true->(!(M.val (hn a) false))=true/\True/\True) (M.af ((!(M.val (hn a) false))=true->((!(M.val (hn a) false))=true/\(!(M.val (hn a) false))=true)/\(0<=c.1/\c.1<Int.ofNat (List.length j))/\True) (M.af ((!(M.val (hn a) false))=true->(!(M.val (hn a) false))=true/\True/\True) (M.af ((!(M.val (hn a) false))=true->((!(M.val (hn a) false))=true/\(!(M.val (hn a) false))=true/\True)/\(G6 d).b8/\True) (M.af ((!(M.val (hn a) false))=true->((!(M.val (hn a) false))=true/\True)/\True/\True) (M.af (True/\(M.val (hn a) false=false->(!(M.val (hn a) false))=true)) (if (M.val (hn a) false||decide (M.val (G6 d) (0:Int)=0))=true then M.pure (aa.next (A.1,q,l.1,l.2.1,c.1,c.2.1,c.2.2.1,k.1,k.2.1,())) else M.af ((0:Int)<=0/\0<=c.1/\c.1=c.1/\c.1<=Int.ofNat (List.length q)) (M.af (0<Add.add 0 1/\b6 (Add.add (List.length m) (Add.add 0 1))) (M.bind (xJ (A.1,m++[k.1],l.1,l.2.1,k.2.1,())) (λy=>if (!y.1)=true then M.bind (M.bind (M.bind (M.pure (false,y.2.1,())) (λr=>M.pure (aa.done r))) (λr=>M.pure (aa.done r))) λr=>M.pure (aa.done r) else M.pure (aa.next (A.1,q,l.1,l.2.1,c.1,c.2.1,c.2.2.1,k.1,y.2.1,()))))))))))))))))) (aa.bl (λ(A:Option Sto×z1'×Int×Nat×Int×List da×Int×Int×(Nat×(List (z1')->Prop)×List (z1')×Bool)×Unit)=>letI n:=A.2.2.2.2;M.pure (aa.next (A.1,A.2.1,A.2.2.1,A.2.2.2.1,n.1,n.2.1,n.2.2.1,IntKind.wrap .i64 (Add.add n.2.2.2.1 1),n.2.2.2.2.1,())))) else M.bind (M.pure (aa.next (A.1,q,l.1,l.2.1,c.1,k.2.1,()))) λr=>M.pure (aa.done r)) (x.1,x.2.1,x.2.2.1,x.2.2.2.1,o,e.1,Int.ofNat (List.length e.1),0,i,()))) (aa.bl (λ(A:Option Sto×z1'×Int×Nat×Int×(Nat×(List (z1')->Prop)×List (z1')×Bool)×Unit)=>letI s:=A.2.2;letI h:=s.2.2;letI g:=List.take (Int.toNat h.1) A.2.1;letI f:=decide (s.1=0);letI b:=(!f)=true;M.af (b->(b/\True/\b/\b)/\((0:Int)<=0/\0<=h.1/\h.1=h.1/\h.1<=Int.ofNat (List.length A.2.1))/\True) (if b then M.af (b/\b) (M.af (0<Add.add 0 1/\b6 (Add.add (List.length g) (Add.add 0 1))) (if b then M.af (b/\b/\b/\True) (M.bind (xJ (A.1,g++[-1],s.1,s.2.1,h.2.1,())) (λy=>M.pure (f||y.1,y.2.1,()))) else M.af (True/\(f=false->false=true)) (M.pure (f||false,h.2.1,())))) else if b then M.af (b/\false=true/\b/\b/\True) (M.bind (xJ (A.1,g++[-1],s.1,s.2.1,h.2.1,())) (λy=>M.pure (f||y.1,y.2.1,()))) else M.af (True/\(f=false->false=true)) (M.pure (f||false,h.2.1,()))))))
def ajm(xI:Int×Int->M (Int×Int))(x:z1'×Int×Unit):M (z1'×Unit):=
 M.bind (if decide (x.2.1<0)=true then M.af False (M.af False (M.pure (aa.next (x.1,x.2.1,())))) else M.pure (aa.next (x.1,x.2.1,()))) (aa.bl (λ(A:z1'×Int×Unit)=>M.bind (xI (IntKind.wrap .u64 (Int.ofNat (List.length A.1)),IntKind.wrap .u64 A.2.1)) λy=>M.bind (if (decide (y.1 > 0)||decide (y.2 > 9223372036854775807))=true then M.af False (M.af False (M.pure (aa.next (A.1,y.2,())))) else M.pure (aa.next (A.1,y.2,()))) (aa.bl (λ(A:z1'×Int×Unit)=>letI b:=IntKind.wrap .i64 A.2.1;letI f:=Int.toNat b;letI e:=List.take (List.length (List.replicate f (0:Int))-0) A.1;M.af (0<=b/\b=b/\b6 f) (M.af True (M.bind (M.loop (λ(A:Int×z1'×Unit)=>letI g:=Int.toNat A.1;letI c:=List.take g A.2.1;letI a:=Int.ofNat (List.length A.2.1);letI d:=Int.toNat a-g;if decide (A.1<a)=true then M.af (0<=A.1/\A.1<=a/\a<=a) (M.af ((0:Int)<=0/\0<=A.1/\A.1<=a) (M.af True (M.pure (aa.next (IntKind.wrap .i64 (Add.add A.1 (Int.ofNat (if d<=List.length c then d else List.length c))),c++List.take d c++List.drop (Add.add g (List.length (List.take d c))) A.2.1,()))))) else M.bind (M.pure (aa.next (A.2.1,()))) λr=>M.pure (aa.done r)) (Int.ofNat (if List.length (List.replicate f (0:Int))-0<=List.length A.1 then List.length (List.replicate f (0:Int))-0 else List.length A.1),[]++e++List.drop (Add.add 0 (List.length e)) (List.replicate f (0:Int)),())) (aa.bl (λ(A:z1'×Unit)=>M.pure (A.1,())))))))))
end Go.Fer
namespace Go.Fer.H
open M (aa)
set_option maxRecDepth 100000
abbrev aV:Type:=Int×Int×Int×Int×Int×Int
abbrev pf:Type:=Int×Int×Int×Int×Int×Int×Int
abbrev aQ:Type:=z4'×List aV×z1'×z4'×pf
abbrev bj:Type:=aV×Int
abbrev dt:Type:=z1'×List (List bj)
abbrev dD:Type:=aQ×List aV×List (Option dt)
abbrev gT:Type:=z4'×List aV×z1'×z4'×Int×Int×Int×Int×Int×Int×Int×List aV×List (Option dt)×Unit
abbrev eN(l:z4')(a b:Int):z4':=ln (k:=.int .i64) (v:=.int .i64) l a b
abbrev gU:ae:=.st (.ax (.int .i64) (.ax (.int .i64) (.ax (.int .i64) (.ax (.int .i64) (.ax (.int .i64) (.int .i64))))))
abbrev kE(l:List (Int×aV))(a:Int)(b:aV):List (Int×aV):=ln (k:=.int .i64) (v:=gU) l a b
abbrev ajn:List UInt8:=0::1::(List.replicate 2 2++(List.replicate 4 3++(List.replicate 8 4++(List.replicate 16 5++(List.replicate 32 6++(List.replicate 64 7++List.replicate 128 8))))))
abbrev _root_.Prod.cK{fq fr fs ft fv fg fh:Type}(x:fq×fr×fs×ft×fv×fg×fh):fg:=x.2.2.2.2.2.1
abbrev _root_.Prod.e6{fq fr fs ft fv fg fh fD:Type}(x:fq×fr×fs×ft×fv×fg×fh×fD):fh:=x.2.2.2.2.2.2.1
abbrev _root_.Prod.gq{fq fr fs ft fv fg fh fD fV:Type}(x:fq×fr×fs×ft×fv×fg×fh×fD×fV):fD:=x.2.2.2.2.2.2.2.1
abbrev _root_.Prod.h9{fq fr fs ft fv fg fh fD fV gr:Type}(x:fq×fr×fs×ft×fv×fg×fh×fD×fV×gr):fV:=x.2.2.2.2.2.2.2.2.1
abbrev _root_.Prod.jE{fq fr fs ft fv fg fh fD fV gr gV:Type}(x:fq×fr×fs×ft×fv×fg×fh×fD×fV×gr×gV):gr:=x.2.2.2.2.2.2.2.2.2.1
abbrev _root_.Prod.kF{fq fr fs ft fv fg fh fD fV gr gV ho:Type}(x:fq×fr×fs×ft×fv×fg×fh×fD×fV×gr×gV×ho):gV:=x.2.2.2.2.2.2.2.2.2.2.1
abbrev _root_.Prod.hq{fq fr fs ft fv fg fh fD fV gr gV ho hV:Type}(x:fq×fr×fs×ft×fv×fg×fh×fD×fV×gr×gV×ho×hV):ho:=x.2.2.2.2.2.2.2.2.2.2.2.1
abbrev _root_.Prod.mJ{fq fr fs ft fv fg fh fD fV gr gV ho hV ix:Type}(x:fq×fr×fs×ft×fv×fg×fh×fD×fV×gr×gV×ho×hV×ix):hV:=x.2.2.2.2.2.2.2.2.2.2.2.2.1
abbrev _root_.Prod.pg{fq fr fs ft fv fg fh fD fV gr gV ho hV ix jc:Type}(x:fq×fr×fs×ft×fv×fg×fh×fD×fV×gr×gV×ho×hV×ix×jc):ix:=x.2.2.2.2.2.2.2.2.2.2.2.2.2.1
abbrev _root_.Prod.se{fq fr fs ft fv fg fh fD fV gr gV ho hV ix jc j3:Type}(x:fq×fr×fs×ft×fv×fg×fh×fD×fV×gr×gV×ho×hV×ix×jc×j3):jc:=x.2.2.2.2.2.2.2.2.2.2.2.2.2.2.1
abbrev _root_.Prod.xK{fq fr fs ft fv fg fh fD fV gr gV ho hV ix jc j3 kG:Type}(x:fq×fr×fs×ft×fv×fg×fh×fD×fV×gr×gV×ho×hV×ix×jc×j3×kG):j3:=x.2.2.2.2.2.2.2.2.2.2.2.2.2.2.2.1
abbrev _root_.Prod.Np{fq fr fs ft fv fg fh fD fV gr gV ho hV ix jc j3 kG lJ:Type}(x:fq×fr×fs×ft×fv×fg×fh×fD×fV×gr×gV×ho×hV×ix×jc×j3×kG×lJ):kG:=x.2.2.2.2.2.2.2.2.2.2.2.2.2.2.2.2.1
abbrev _root_.Prod.Nq{fq fr fs ft fv fg fh fD fV gr gV ho hV ix jc j3 kG lJ mK:Type}(x:fq×fr×fs×ft×fv×fg×fh×fD×fV×gr×gV×ho×hV×ix×jc×j3×kG×lJ×mK):lJ:=x.2.2.2.2.2.2.2.2.2.2.2.2.2.2.2.2.2.1
abbrev _root_.Prod.Nr{fq fr fs ft fv fg fh fD fV gr gV ho hV ix jc j3 kG lJ mK ou:Type}(x:fq×fr×fs×ft×fv×fg×fh×fD×fV×gr×gV×ho×hV×ix×jc×j3×kG×lJ×mK×ou):mK:=x.2.2.2.2.2.2.2.2.2.2.2.2.2.2.2.2.2.2.1
abbrev _root_.Prod.Ns{fq fr fs ft fv fg fh fD fV gr gV ho hV ix jc j3 kG lJ mK ou qg:Type}(x:fq×fr×fs×ft×fv×fg×fh×fD×fV×gr×gV×ho×hV×ix×jc×j3×kG×lJ×mK×ou×qg):ou:=x.2.2.2.2.2.2.2.2.2.2.2.2.2.2.2.2.2.2.2.1
abbrev _root_.Prod.Nt{fq fr fs ft fv fg fh fD fV gr gV ho hV ix jc j3 kG lJ mK ou qg sf:Type}(x:fq×fr×fs×ft×fv×fg×fh×fD×fV×gr×gV×ho×hV×ix×jc×j3×kG×lJ×mK×ou×qg×sf):qg:=x.2.2.2.2.2.2.2.2.2.2.2.2.2.2.2.2.2.2.2.2.1
abbrev _root_.Prod.ajo{fq fr fs ft fv fg fh fD fV gr gV ho hV ix jc j3 kG lJ mK ou qg sf vl:Type}(x:fq×fr×fs×ft×fv×fg×fh×fD×fV×gr×gV×ho×hV×ix×jc×j3×kG×lJ×mK×ou×qg×sf×vl):sf:=x.2.2.2.2.2.2.2.2.2.2.2.2.2.2.2.2.2.2.2.2.2.1
abbrev _root_.Prod.Nu{fq fr fs ft fv fg fh fD fV gr gV ho hV ix jc j3 kG lJ mK ou qg sf vl zX:Type}(x:fq×fr×fs×ft×fv×fg×fh×fD×fV×gr×gV×ho×hV×ix×jc×j3×kG×lJ×mK×ou×qg×sf×vl×zX):vl:=x.2.2.2.2.2.2.2.2.2.2.2.2.2.2.2.2.2.2.2.2.2.2.1
abbrev _root_.Prod.ra{fq fr fs ft fv fg fh fD fV gr gV ho hV ix jc j3 kG lJ mK ou qg sf vl zX G':Type}(x:fq×fr×fs×ft×fv×fg×fh×fD×fV×gr×gV×ho×hV×ix×jc×j3×kG×lJ×mK×ou×qg×sf×vl×zX×G'):zX:=x.2.2.2.2.2.2.2.2.2.2.2.2.2.2.2.2.2.2.2.2.2.2.2.1
abbrev _root_.Prod.Ds{fq fr fs ft fv fg fh fD fV gr gV ho hV ix jc j3 kG lJ mK ou qg sf vl zX G' ajp:Type}(x:fq×fr×fs×ft×fv×fg×fh×fD×fV×gr×gV×ho×hV×ix×jc×j3×kG×lJ×mK×ou×qg×sf×vl×zX×G'×ajp):G':=x.2.2.2.2.2.2.2.2.2.2.2.2.2.2.2.2.2.2.2.2.2.2.2.2.1
def Vv(tO:aQ×(Option dD->M Bool)->M (Option dD×Int))(Dt:Option dt×Int×Int->M (bj×Bool))(Du:(z1'->Prop)->M (z1'))(ajq:z4'->M (z1'->Prop))(ajr:Option dD×Option Int×Option Int->M Bool)(x:aQ×Int×Int):M (z1'×Int):=
 M.bind (tO (x.1,λha=>ajr (ha,some x.2.1,some x.2.2))) λy=>letI a:=(Option.getD y.1 (([],[],[],[],0,0,0,0,0,0,0),[],[])).2.2;if decide (y.2≠0)=true then M.pure ([],y.2) else M.bind (M.af (Option.isSome y.1=true) (M.loop (λ(A:List (Option dt)×Int×Int×Int×Int×z4'×Unit)=>letI b:=A.2.2;if decide (b.1<A.2.1)=true then M.bind (M.af (0<=b.1/\b.1<Int.ofNat (List.length A.1)) (M.bind (Dt (List.getD A.1 (Int.toNat b.1) none,b.2.1,b.2.2.1)) (λy=>if y.2=true then M.pure (aa.next (A.1,A.2.1,b.1,b.2.1,b.2.2.1,eN A.cK y.1.1.2.2.2.2.2 (IntKind.wrap .i64 (Add.add (Option.getD (Option.map (λx=>x.2) (List.find? (λp=>decide (y.1.1.2.2.2.2.2=p.1)) A.cK)) 0) 1)),())) else M.pure (aa.next (A.1,A.2.1,b.1,b.2.1,b.2.2.1,eN A.cK (-1) (IntKind.wrap .i64 (Add.add (Option.getD (Option.map (λx=>x.2) (List.find? (λp=>decide (-1=p.1)) A.cK)) 0) 1)),()))))) (aa.bl (λ(A:List (Option dt)×Int×Int×Int×Int×z4'×Unit)=>M.pure (aa.next (A.1,A.2.1,IntKind.wrap .i64 (Add.add A.2.2.1 1),A.2.2.2.1,A.2.2.2.2.1,A.cK,())))) else M.bind (M.pure (aa.next (A.cK,()))) λr=>M.pure (aa.done r)) (a,Int.ofNat (List.length a),0,x.2.1,x.2.2,[],()))) (aa.bl (λ(A:z4'×Unit)=>M.bind (ajq A.1) λy=>M.bind (Du y) λy=>M.pure (y,0)))
def Vw(Nv:aQ×Int×(Int->M Int)->M ((Int×Int)×Int))(ajs:Int×Option aQ->M Int)(x:aQ×Int):M ((Int×Int)×Int):=
 M.bind (Nv (x.1,x.2,λha=>ajs (ha,some x.1))) λy=>M.pure y
def Vx(Nv:aQ×Int×(Int->M Int)->M ((Int×Int)×Int))(ajt:Int->M Int)(x:aQ×Int):M ((Int×Int)×Int):=
 M.bind (Nv (x.1,x.2,ajt)) λy=>M.pure y
def Vy(tO:aQ×(Option dD->M Bool)->M (Option dD×Int))(Dv:Option dD×(Option dt->M (Int×Bool))->M ((Int×Int)×Bool))(aju:Option dD×Option Int->M Bool)(ajv:Option dt×Option Int×Option aQ->M (Int×Bool))(x:aQ×Int):M ((Int×Int)×Int):=
 M.bind (tO (x.1,λha=>aju (ha,some x.2))) λy=>if decide (y.2≠0)=true then M.pure ((0,0),y.2) else M.bind (Dv (y.1,λha=>ajv (ha,some x.2,some x.1))) λy=>M.pure (y.1,0)
def Vz(tO:aQ×(Option dD->M Bool)->M (Option dD×Int))(Dv:Option dD×(Option dt->M (Int×Bool))->M ((Int×Int)×Bool))(ajw:Option dD×Option Int->M Bool)(ajx:Option dt×Option (Option dD)×Option Int×Option aQ->M (Int×Bool))(x:aQ×Int):M ((Int×Int)×Int):=
 M.bind (tO (x.1,λha=>ajw (ha,some x.2))) λy=>if decide (y.2≠0)=true then M.pure ((0,0),y.2) else M.bind (Dv (y.1,λha=>ajx (ha,some y.1,some x.2,some x.1))) λy=>M.pure (y.1,0)
def VA(ajy:aQ->M Bool)(Nw:List aV->M (List aV×Bool))(x:aQ):M Int:=
 M.bind (ajy x) λy=>if (!y)=true then M.pure 90 else M.bind (Nw x.2.1) λy=>if (!y.2)=true then M.pure 91 else M.pure 0
def VB(ajz:aQ->M Bool)(VC:aV×Int×Int×Int×Int×Int×Int->M Bool)(x:aQ):M Int:=
 M.bind (ajz x) λy=>if (!y)=true then M.pure 90 else M.bind (M.loop (λ(A:Int×aQ×Unit)=>if decide (A.1<Int.ofNat (List.length A.2.1.2.1))=true then M.bind (M.loop (λ(A:Int×Int×aQ×Unit)=>letI c:=A.2.2.1;letI b:=Int.ofNat (List.length c.2.1);letI a:=(List.getD c.2.1 (Int.toNat A.2.1) (0,0,0,0,0,0),List.getD c.2.1 (Int.toNat A.1) (0,0,0,0,0,0));if decide (A.2.1<A.1)=true then M.af (0<=A.2.1/\A.2.1<b) (M.af (0<=A.1/\A.1<b) (M.af (VC a).b8 (if M.val (VC a) false=true then M.bind (M.bind (M.bind (M.bind (M.pure 91) (λr=>M.pure (aa.done r))) (λr=>M.pure (aa.done r))) (λr=>M.pure (aa.done r))) λr=>M.pure (aa.done r) else M.pure (aa.next (A.1,IntKind.wrap .i64 (Add.add A.2.1 1),c,()))))) else M.bind (M.pure (aa.next (A.1,c,()))) λr=>M.pure (aa.done r)) (A.1,0,A.2.1,())) (aa.bl (λ(A:Int×aQ×Unit)=>M.pure (aa.next (IntKind.wrap .i64 (Add.add A.1 1),A.2.1,())))) else M.bind (M.pure (aa.next ())) λr=>M.pure (aa.done r)) (0,x,())) (aa.bl (λ(A:Unit)=>M.pure 0))
def VD(tO:aQ×(Option dD->M Bool)->M (Option dD×Int))(Dt:Option dt×Int×Int->M (bj×Bool))(zY:aQ×Int×Int->M Int)(ajA:Option dD×Option Int->M Bool)(x:aQ×Int):M (z1'×z1'×Int):=
 M.bind (tO (x.1,λha=>ajA (ha,some x.2))) λy=>if decide (y.2≠0)=true then M.pure ([],[],y.2) else M.bind (M.loop (λ(A:Option dD×Int×aQ×Int×z1'×z1'×Unit)=>letI b:=(Option.getD A.1 (([],[],[],[],0,0,0,0,0,0,0),[],[])).2.2;if decide (A.2.1<10)=true then M.bind (M.bind (M.af (Option.isSome A.1=true) (M.loop (λ(A:Option dD×Int×Int×Int×List (Option dt)×Int×Int×aQ×Int×z1'×z1'×Unit)=>letI d:=A.2.2.2;if decide (A.e6<A.cK)=true then M.bind (M.af (0<=A.e6/\A.e6<Int.ofNat (List.length d.2.1)) (M.bind (Dt (List.getD d.2.1 (Int.toNat A.e6) none,A.2.1,A.h9)) (λy=>letI a:=y.2=true;letI c:=a->a/\True/\True;M.af c (M.af (a->(a/\a/\a/\True)/\(zY (A.gq,y.1.2,A.h9)).b8/\True) (M.af c (M.af c (M.af (a->(a/\a)/\True/\True) (M.af (True/\(a->a)) (if (y.2&&decide (M.val (zY (A.gq,y.1.2,A.h9)) 0>=A.gq.h9))=true then M.pure (aa.next (A.1,A.2.1,IntKind.wrap .i64 (Add.add A.2.2.1 1),d.1,d.2.1,A.cK,A.e6,A.gq,A.h9,A.jE,A.kF,())) else M.pure (aa.next (A.1,A.2.1,A.2.2.1,d.1,d.2.1,A.cK,A.e6,A.gq,A.h9,A.jE,A.kF,()))))))))))) (aa.bl (λ(A:Option dD×Int×Int×Int×List (Option dt)×Int×Int×aQ×Int×z1'×z1'×Unit)=>M.pure (aa.next (A.1,A.2.1,A.2.2.1,A.2.2.2.1,A.2.2.2.2.1,A.cK,IntKind.wrap .i64 (Add.add A.e6 1),A.gq,A.h9,A.jE,A.kF,())))) else M.bind (M.pure (aa.next (A.1,A.2.1,A.2.2.1,d.1,A.gq,A.h9,A.jE,A.kF,()))) λr=>M.pure (aa.done r)) (A.1,A.2.1,0,A.2.1,b,Int.ofNat (List.length b),0,A.2.2.1,A.2.2.2.1,A.2.2.2.2.1,A.cK,()))) (aa.bl (λ(A:Option dD×Int×Int×Int×aQ×Int×z1'×z1'×Unit)=>letI e:=A.2.2;M.bind (if decide (e.1 > 0)=true then M.af (b6 (Add.add (List.length A.gq) (Add.add 0 1))) (M.pure (aa.next (A.1,A.2.1,e.1,e.2.1,e.2.2.1,A.cK,A.e6,A.gq++[A.2.1],()))) else M.pure (aa.next (A.1,A.2.1,e.1,e.2.1,e.2.2.1,A.cK,A.e6,A.gq,()))) (aa.bl (λ(A:Option dD×Int×Int×Int×aQ×Int×z1'×z1'×Unit)=>letI f:=A.2.2.2;M.af (Option.isSome A.1=true) (if decide (A.2.2.1=Int.ofNat (List.length (Option.getD A.1 (([],[],[],[],0,0,0,0,0,0,0),[],[])).2.2))=true then M.af (b6 (Add.add (List.length A.e6) (Add.add 0 1))) (M.pure (aa.next (A.1,f.1,f.2.1,A.cK,A.e6++[A.2.1],A.gq,()))) else M.pure (aa.next (A.1,f.1,f.2.1,A.cK,A.e6,A.gq,())))))))) (aa.bl (λ(A:Option dD×Int×aQ×Int×z1'×z1'×Unit)=>M.pure (aa.next (A.1,IntKind.wrap .i64 (Add.add A.2.1 1),A.2.2.1,A.2.2.2.1,A.2.2.2.2.1,A.cK,())))) else M.bind (M.pure (aa.next (A.2.2.2.2.1,A.cK,()))) λr=>M.pure (aa.done r)) (y.1,0,x.1,x.2,[],[],())) (aa.bl (λ(A:z1'×z1'×Unit)=>M.pure (A.1,A.2.1,0)))
def VE(zZ:aQ->M Int)(ajB:List aV×Unit->M (Bool×List aV×Unit))(ajC:(Int×Int×Int×Int×Int×Int->M Bool)×List aV×Unit->M ((Nat×Nat)×List aV×Unit))(Nx:z1'×gT->M (gT))(ajD:aV×Option aQ->M Bool)(x:aQ×(Option dD->M Bool)):M (Option dD×Int):=
 M.bind (zZ x.1) λy=>if decide (y≠0)=true then M.pure (none,y) else M.bind (ajB (x.1.2.1,())) λy=>M.af True (M.af True (M.bind (ajC (λha=>ajD (ha,some x.1),y.2.1,())) (λy=>M.af True (M.bind (M.bind (x.2 (some (x.1,List.drop y.1.1 (List.take y.1.2 y.2.1),[]))) (λbG=>if (!bG)=true then M.bind (M.pure (none,1)) λr=>M.pure (aa.done r) else M.pure (aa.next (x.1.1,x.1.2.1,x.1.2.2.1,x.1.2.2.2.1,x.1.2.2.2.2.1,x.1.cK,x.1.e6,x.1.gq,x.1.h9,x.1.jE,x.1.2.2.2.2.2.2.2.2.2.2,y.1,y.2.1,[],())))) (aa.bl (λ(A:z4'×List aV×z1'×z4'×Int×Int×Int×Int×Int×Int×Int×(Nat×Nat)×List aV×List (Option dt)×Unit)=>M.bind (Nx ([],A.1,A.2.1,A.2.2.1,A.2.2.2.1,A.2.2.2.2.1,A.cK,A.e6,A.gq,A.h9,A.jE,A.kF,List.drop A.hq.1 (List.take A.hq.2 A.mJ),A.pg,())) λy=>M.af True (if decide (Int.ofNat (List.length y.mJ)=0)=true then M.pure (none,3) else M.pure (some ((y.1,y.2.1,y.2.2.1,y.2.2.2.1,y.2.2.2.2.1,y.cK,y.e6,y.gq,y.h9,y.jE,y.kF),y.hq,y.mJ),0))))))))
def VF(jd:Int×Int×Int->M Bool)(Dw:Int->M Bool)(x:Option dD×Option Int×Option Int):M Bool:=
 M.bind (jd (Option.getD x.2.1 0,0,9)) λy=>M.bind (b3 y (Dw (Option.getD x.2.2 0)) false) λbG=>M.pure (y&&bG)
def ajE(x:Int×Int×Int):M Bool:=
 M.pure (decide (x.2.1<=x.1)&&decide (x.1<=x.2.2))
def VG(jd:Int×Int×Int->M Bool)(x:Int):M Bool:=
 M.bind (jd (x,0,9999)) λy=>M.pure y
def VH(x:Option dt×Int×Int):M (bj×Bool):=
 letI b:=List.getD (Option.getD x.1 ([],[[],[],[],[],[],[],[],[],[],[]])).2 (Int.toNat x.2.1) [];M.bind (M.af (Option.isSome x.1=true) (M.af (0<=x.2.1/\x.2.1<Int.ofNat 10) (M.loop (λ(A:Int×Bool×List bj×Int×Int×bj×bj×Unit)=>letI d:=A.2.2;letI c:=d.2.2.1;letI a:=List.getD d.1 (Int.toNat c) ((0,0,0,0,0,0),0);if decide (c<d.2.1)=true then M.bind (M.af (0<=c/\c<Int.ofNat (List.length d.1)) (if decide (a.2<=A.1)=true then M.pure (aa.next (A.1,decide (a.1.2.2.2.1=1),d.1,d.2.1,c,A.cK,a,())) else M.pure (aa.next (A.1,A.2.1,d.1,d.2.1,c,A.cK,A.e6,())))) (aa.bl (λ(A:Int×Bool×List bj×Int×Int×bj×bj×Unit)=>M.pure (aa.next (A.1,A.2.1,A.2.2.1,A.2.2.2.1,IntKind.wrap .i64 (Add.add A.2.2.2.2.1 1),A.cK,A.e6,())))) else M.bind (M.pure (aa.next (A.2.1,A.cK,A.e6,()))) λr=>M.pure (aa.done r)) (x.2.2,false,b,Int.ofNat (List.length b),0,((0,0,0,0,0,0),0),((0,0,0,0,0,0),0),())))) (aa.bl (λ(A:Bool×bj×bj×Unit)=>M.pure (A.2.2.1,A.1)))
def VI(Ny:z1'×Unit->M (z1'×Unit))(ajF:(z1'->Prop)×Unit->M (z1'×Unit))(x:z1'->Prop):M (z1'):=
 M.bind (ajF (x,())) λy=>M.bind (Ny (y.1,())) λy=>M.pure y.1
def ajG(ajH:Option (z4')->z1'->Prop)(x:z4'):M (z1'->Prop):=
 M.pure (ajH (some x))
def VJ(tO:aQ×(Option dD->M Bool)->M (Option dD×Int))(Dv:Option dD×(Option dt->M (Int×Bool))->M ((Int×Int)×Bool))(ajI:Option dD×Option Int->M Bool)(ajJ:Option dt×Option (Option dD)×Option Int×Option (Int->M Int)->M (Int×Bool))(x:aQ×Int×(Int->M Int)):M ((Int×Int)×Int):=
 M.bind (tO (x.1,λha=>ajI (ha,some x.2.1))) λy=>if decide (y.2≠0)=true then M.pure ((0,0),y.2) else M.bind (Dv (y.1,λha=>ajJ (ha,some y.1,some x.2.1,some x.2.2))) λy=>if (!y.2)=true then M.pure ((0,0),3) else M.pure (y.1,0)
def VK(Ha:pf×Int->M Int)(x:Int×Option aQ):M Int:=
 M.bind (Ha ((Option.getD x.2 ([],[],[],[],0,0,0,0,0,0,0)).2.2.2.2,x.1)) λy=>M.pure y
def VL(x:pf×Int):M Int:=
 letI c:=x.1.2;letI b:=IntKind.wrap .i64 (x.2-x.1.1);letI a:=IntKind.wrap .i64 (c.2.1*IntKind.wrap .i64 (Int.tdiv (IntKind.wrap .i64 (IntKind.wrap .i64 (Add.add (if b > 0 then b else 0) c.1)-1)) c.1));if decide (x.2>=c.2.2.2.1)=true then M.pure x.1.cK else M.af (c.1≠0) (M.pure (if a<c.2.2.1 then a else c.2.2.1))
def ajK(x:Int):M Int:=
 M.pure x
def VM(Dw:Int->M Bool)(x:Option dD×Option Int):M Bool:=
 M.bind (Dw (Option.getD x.2 0)) λy=>M.pure y
def VN(x:Option dD×(Option dt->M (Int×Bool))):M ((Int×Int)×Bool):=
 letI b:=(Option.getD x.1 (([],[],[],[],0,0,0,0,0,0,0),[],[])).2.2;M.bind (M.af (Option.isSome x.1=true) (M.loop (λ(A:(Option dt->M (Int×Bool))×Bool×List (Option dt)×Int×Int×(Int×Int)×Unit)=>letI c:=A.2.2;letI a:=c.2.2.1;if decide (a<c.2.1)=true then M.bind (M.af (0<=a/\a<Int.ofNat (List.length c.1)) (M.bind (A.1 (List.getD c.1 (Int.toNat a) none)) (λy=>if (!y.2)=true then M.pure (aa.next (A.1,A.2.1,c.1,c.2.1,a,A.cK,())) else if (!A.2.1)=true then M.pure (aa.next (A.1,true,c.1,c.2.1,a,(y.1,y.1),())) else M.pure (aa.next (A.1,A.2.1,c.1,c.2.1,a,(if y.1<A.cK.1 then y.1 else A.cK.1,if y.1 > A.cK.2 then y.1 else A.cK.2),()))))) (aa.bl (λ(A:(Option dt->M (Int×Bool))×Bool×List (Option dt)×Int×Int×(Int×Int)×Unit)=>M.pure (aa.next (A.1,A.2.1,A.2.2.1,A.2.2.2.1,IntKind.wrap .i64 (Add.add A.2.2.2.2.1 1),A.cK,())))) else M.bind (M.pure (aa.next (A.2.1,A.cK,()))) λr=>M.pure (aa.done r)) (x.2,false,b,Int.ofNat (List.length b),0,(0,0),()))) (aa.bl (λ(A:Bool×(Int×Int)×Unit)=>M.pure (A.2.1,A.1)))
def VO(Dt:Option dt×Int×Int->M (bj×Bool))(x:Option dt×Option Int×Option aQ):M (Int×Bool):=
 M.bind (M.loop (λ(A:Option dt×Int×aQ×Int×Int×Unit)=>letI a:=A.2.2.2;if decide (a.2.1<10)=true then M.bind (M.bind (Dt (A.1,a.2.1,A.2.1)) (λy=>if y.2=true then M.pure (aa.next (A.1,A.2.1,A.2.2.1,IntKind.wrap .i64 (Add.add a.1 A.2.2.1.2.2.2.2.2.2.2.2.2.2),a.2.1,())) else M.pure (aa.next (A.1,A.2.1,A.2.2.1,a.1,a.2.1,())))) (aa.bl (λ(A:Option dt×Int×aQ×Int×Int×Unit)=>M.pure (aa.next (A.1,A.2.1,A.2.2.1,A.2.2.2.1,IntKind.wrap .i64 (Add.add A.2.2.2.2.1 1),())))) else M.bind (M.pure (aa.next (a.1,()))) λr=>M.pure (aa.done r)) (x.1,Option.getD x.2.1 0,Option.getD x.2.2 ([],[],[],[],0,0,0,0,0,0,0),0,0,())) (aa.bl (λ(A:Int×Unit)=>M.pure (A.1,true)))
def VP(z1:Int->M Bool)(x:Option dD×Option Int):M Bool:=
 M.bind (z1 (Option.getD x.2 0)) λy=>M.pure y
def VQ(jd:Int×Int×Int->M Bool)(x:Int):M Bool:=
 M.bind (jd (x,0,99)) λy=>M.pure y
def VR(Ha:pf×Int->M Int)(Nz:Option dD×Option dt->M (List bj->Prop))(x:Option dt×Option (Option dD)×Option Int×Option aQ):M (Int×Bool):=
 M.bind (Nz (Option.getD x.2.1 none,x.1)) λy=>M.bind (M.any y) λL=>M.bind (jy (λ(A:Int×aQ×Int×Unit) (y:aV×Int)=>letI a:=(A.2.1.2.2.2.2,y.2);M.bind (if decide (y.1.2.2.2.2.2=A.1)=true then M.af (Ha a).b8 (M.pure (cP.normal,IntKind.wrap .i64 (Add.add A.2.2.1 (M.val (Ha a) 0)),())) else M.pure (cP.normal,A.2.2.1,())) λp=>M.pure (p.1,A.1,A.2.1,p.2.1,())) L (Option.getD x.2.2.1 0,Option.getD x.2.2.2 ([],[],[],[],0,0,0,0,0,0,0),0,())) λp=>rY (M.pure (p.2.2.2.1,true)) (λid=>if id=0 then M.pure (p.2.2.2.1,true) else M.fail) M.fail p.1
def ajL(ajM:Option (Option dt)×Option (Option dD)->List bj->Prop)(x:Option dD×Option dt):M (List bj->Prop):=
 M.pure (ajM (some x.2,some x.1))
def VS(jd:Int×Int×Int->M Bool)(NA:List aV×(Int×Int×Int×Int×Int×Int->M Bool)->M Bool)(ajN:Int×Int×Int×Int×Int×Int×Int->M Bool)(Nh:z1'×(Int->M Bool)->M Bool)(ajO:aV×Option aQ->M Bool)(ajP:Int->M Bool)(x:aQ):M Bool:=
 letI k:=Int.ofNat (List.length x.1);letI d:=decide (k > 3)||decide (Int.ofNat (List.length x.2.1) > 12)||decide (Int.ofNat (List.length x.2.2.1) > 12)||decide (Int.ofNat (List.length x.2.2.2.1) > 4);M.bind (b3 (!d) (ajN x.2.2.2.2) false) λy=>if (d||!y)=true then M.pure false else M.bind (M.loop (λ(A:z4'×Int×Int×aQ×Unit)=>letI l:=A.2.2.1;letI e:=List.getD A.1 (Int.toNat l) (0,0);if decide (l<A.2.1)=true then M.af (0<=l/\l<Int.ofNat (List.length A.1)) (M.bind (jd (e.1,-30,e.2)) (λy=>if (!y||decide (e.2 > 30))=true then M.bind (M.bind (M.pure false) (λr=>M.pure (aa.done r))) λr=>M.pure (aa.done r) else M.pure (aa.next (A.1,A.2.1,IntKind.wrap .i64 (Add.add l 1),A.2.2.2.1,())))) else M.bind (M.pure (aa.next (A.2.2.2.1,()))) λr=>M.pure (aa.done r)) (x.1,k,0,x,())) (aa.bl (λ(A:aQ×Unit)=>M.bind (M.loop (λ(A:z4'×Int×Int×aQ×Unit)=>letI m:=A.2.2.2.1;letI f:=A.2.2.1;letI j:=decide (f > 0);letI i:=IntKind.wrap .i64 (f-1);letI b:=List.getD A.1 (Int.toNat f) (0,0);letI a:=!(M.val (jd (b.1,0,b.2)) false)||decide (b.2 > 9999);letI h:=(!a)=true;letI c:=(!a&&j)=true;letI g:=c->c/\True/\True;if decide (f<A.2.1)=true then M.af (0<=f/\f<Int.ofNat (List.length A.1)) (M.af (jd (b.1,0,b.2)).b8 (M.af ((!(!(M.val (jd (b.1,0,b.2)) false)))=true->(!(!(M.val (jd (b.1,0,b.2)) false)))=true/\True/\True) (M.af ((!(!(M.val (jd (b.1,0,b.2)) false)))=true->((!(!(M.val (jd (b.1,0,b.2)) false)))=true/\True)/\True/\True) (M.af (True/\((!(M.val (jd (b.1,0,b.2)) false))=false->(!(!(M.val (jd (b.1,0,b.2)) false)))=true)) (M.af (h->(h/\True)/\True/\True) (M.af (h->True/\True/\h) (M.af g (M.af g (M.af (c->(c/\True)/\True/\True) (M.af (c->(c/\c)/\(0<=i/\i<Int.ofNat (List.length m.2.2.2.1))/\True) (M.af g (M.af g (M.af (c->(c/\c)/\True/\True) (M.af (h->(h/\(j=true->c))/\True/\True) (M.af (True/\(a=false->h)) (if (a||j&&decide (b.1<=(List.getD m.2.2.2.1 (Int.toNat i) (0,0)).2))=true then M.bind (M.bind (M.pure false) (λr=>M.pure (aa.done r))) λr=>M.pure (aa.done r) else M.pure (aa.next (A.1,A.2.1,IntKind.wrap .i64 (Add.add f 1),m,())))))))))))))))))) else M.bind (M.pure (aa.next (m,()))) λr=>M.pure (aa.done r)) (A.1.2.2.2.1,Int.ofNat (List.length A.1.2.2.2.1),0,A.1,())) (aa.bl (λ(A:aQ×Unit)=>M.bind (NA (A.1.2.1,λx=>ajO (x,some A.1))) λy=>M.bind (b3 (!y) (Nh (A.1.2.2.1,ajP)) false) λbG=>M.pure (!y&&!bG)))))
def ajQ(Du:(z1'->Prop)->M (z1'))(NB:List (Int×aV)->M (z1'->Prop))(x:List aV):M (List aV×Bool):=
 M.bind (M.loop (λ(A:List aV×Int×Int×List (Int×aV)×Unit)=>letI e:=A.2.2;letI b:=List.getD A.1 (Int.toNat e.1) (0,0,0,0,0,0);letI c:=Option.map (λx=>x.2) (List.find? (λp=>decide (b.1=p.1)) e.2.1);letI a:=Option.getD c (0,0,0,0,0,0);if decide (e.1<A.2.1)=true then M.af (0<=e.1/\e.1<Int.ofNat (List.length A.1)) (if (Option.isSome c&&!(decide (a.1=b.1)&&(decide (a.2.1=b.2.1)&&(decide (a.2.2.1=b.2.2.1)&&(decide (a.2.2.2.1=b.2.2.2.1)&&(decide (a.2.2.2.2.1=b.2.2.2.2.1)&&decide (a.2.2.2.2.2=b.2.2.2.2.2)))))))=true then M.bind (M.bind (M.pure ([],false)) (λr=>M.pure (aa.done r))) λr=>M.pure (aa.done r) else M.pure (aa.next (A.1,A.2.1,IntKind.wrap .i64 (Add.add e.1 1),kE e.2.1 b.1 b,()))) else M.bind (M.pure (aa.next (e.2.1,()))) λr=>M.pure (aa.done r)) (x,Int.ofNat (List.length x),0,[],())) (aa.bl (λ(A:List (Int×aV)×Unit)=>M.bind (M.bind (NB A.1) (λy=>M.bind (Du y) λy=>M.loop (λ(A:z1'×Int×Int×List aV×List (Int×aV)×Unit)=>letI d:=A.2.2;if decide (d.1<A.2.1)=true then M.af (0<=d.1/\d.1<Int.ofNat (List.length A.1)) (M.af (b6 (Add.add (List.length d.2.1) (Add.add 0 1))) (M.pure (aa.next (A.1,A.2.1,IntKind.wrap .i64 (Add.add d.1 1),d.2.1++[Option.getD (Option.map (λx=>x.2) (List.find? (λp=>decide (List.getD A.1 (Int.toNat d.1) 0=p.1)) d.2.2.1)) (0,0,0,0,0,0)],d.2.2.1,())))) else M.bind (M.pure (aa.next (d.2.1,()))) λr=>M.pure (aa.done r)) (y,Int.ofNat (List.length y),0,[],A.1,()))) (aa.bl (λ(A:List aV×Unit)=>M.pure (A.1,true)))))
def VT(fE:Int×Int×Int->M Bool)(ajR:Int×Int×Int×Int×Int×Int×Int->M Bool)(VU:aQ×Int×Int×Int×Int×Int×Int->M Bool)(x:aQ):M Bool:=
 letI e:=decide (Int.ofNat (List.length x.1) > 3)||decide (Int.ofNat (List.length x.2.1) > 12)||decide (Int.ofNat (List.length x.2.2.1) > 12)||decide (Int.ofNat (List.length x.2.2.2.1) > 4);M.bind (b3 (!e) (ajR x.2.2.2.2) false) λy=>if (e||!y)=true then M.pure false else M.bind (M.loop (λ(A:Int×aQ×Unit)=>letI f:=A.1<Int.ofNat (List.length A.2.1.1);letI o:=0<=A.1/\f;letI b:=List.getD A.2.1.1 (Int.toNat A.1) (0,0);if decide f=true then M.af o (M.af o (M.af (fE (b.1,-30,b.2)).b8 (M.af ((!(!(M.val (fE (b.1,-30,b.2)) false)))=true->(!(!(M.val (fE (b.1,-30,b.2)) false)))=true/\True/\True) (M.af ((!(!(M.val (fE (b.1,-30,b.2)) false)))=true->((!(!(M.val (fE (b.1,-30,b.2)) false)))=true/\(!(!(M.val (fE (b.1,-30,b.2)) false)))=true)/\o/\True) (M.af ((!(!(M.val (fE (b.1,-30,b.2)) false)))=true->(!(!(M.val (fE (b.1,-30,b.2)) false)))=true/\True/\True) (M.af ((!(!(M.val (fE (b.1,-30,b.2)) false)))=true->(!(!(M.val (fE (b.1,-30,b.2)) false)))=true/\True/\True) (M.af ((!(!(M.val (fE (b.1,-30,b.2)) false)))=true->((!(!(M.val (fE (b.1,-30,b.2)) false)))=true/\True)/\True/\True) (M.af (True/\((!(M.val (fE (b.1,-30,b.2)) false))=false->(!(!(M.val (fE (b.1,-30,b.2)) false)))=true)) (if (!(M.val (fE (b.1,-30,b.2)) false)||decide (b.2 > 30))=true then M.bind (M.bind (M.pure false) (λr=>M.pure (aa.done r))) λr=>M.pure (aa.done r) else M.pure (aa.next (IntKind.wrap .i64 (Add.add A.1 1),A.2.1,()))))))))))) else M.bind (M.pure (aa.next (A.2.1,()))) λr=>M.pure (aa.done r)) (0,x,())) (aa.bl (λ(A:aQ×Unit)=>M.bind (M.loop (λ(A:Int×aQ×Unit)=>letI m:=A.1<Int.ofNat (List.length A.2.1.2.1);letI h:=(A.2.1,List.getD A.2.1.2.1 (Int.toNat A.1) (0,0,0,0,0,0));if decide m=true then M.af (0<=A.1/\m) (M.af (VU h).b8 (if (!(M.val (VU h) false))=true then M.bind (M.bind (M.pure false) (λr=>M.pure (aa.done r))) λr=>M.pure (aa.done r) else M.pure (aa.next (IntKind.wrap .i64 (Add.add A.1 1),A.2.1,())))) else M.bind (M.pure (aa.next (A.2.1,()))) λr=>M.pure (aa.done r)) (0,A.1,())) (aa.bl (λ(A:aQ×Unit)=>M.bind (M.loop (λ(A:Int×aQ×Unit)=>letI l:=A.1<Int.ofNat (List.length A.2.1.2.2.1);if decide l=true then M.af (0<=A.1/\l) (M.bind (fE (List.getD A.2.1.2.2.1 (Int.toNat A.1) 0,0,99)) (λy=>if (!y)=true then M.bind (M.bind (M.pure false) (λr=>M.pure (aa.done r))) λr=>M.pure (aa.done r) else M.pure (aa.next (IntKind.wrap .i64 (Add.add A.1 1),A.2.1,())))) else M.bind (M.pure (aa.next (A.2.1,()))) λr=>M.pure (aa.done r)) (0,A.1,())) (aa.bl (λ(A:aQ×Unit)=>M.bind (M.loop (λ(A:Int×aQ×Unit)=>letI p:=A.2.1.2.2.2.1;letI n:=decide (A.1 > 0);letI k:=IntKind.wrap .i64 (A.1-1);letI g:=Int.ofNat (List.length p);letI c:=List.getD p (Int.toNat A.1) (0,0);letI a:=!(M.val (fE (c.1,0,c.2)) false)||decide (c.2 > 9999);letI j:=(!a)=true;letI d:=(!a&&n)=true;letI i:=d->d/\True/\True;if decide (A.1<g)=true then M.af (0<=A.1/\A.1<g) (M.af (fE (c.1,0,c.2)).b8 (M.af ((!(!(M.val (fE (c.1,0,c.2)) false)))=true->(!(!(M.val (fE (c.1,0,c.2)) false)))=true/\True/\True) (M.af ((!(!(M.val (fE (c.1,0,c.2)) false)))=true->((!(!(M.val (fE (c.1,0,c.2)) false)))=true/\True)/\True/\True) (M.af (True/\((!(M.val (fE (c.1,0,c.2)) false))=false->(!(!(M.val (fE (c.1,0,c.2)) false)))=true)) (M.af (j->(j/\True)/\True/\True) (M.af (j->True/\True/\j) (M.af i (M.af i (M.af (d->(d/\True)/\True/\True) (M.af (d->(d/\d)/\(0<=k/\k<g)/\True) (M.af i (M.af i (M.af (d->(d/\d)/\True/\True) (M.af (j->(j/\(n=true->d))/\True/\True) (M.af (True/\(a=false->j)) (if (a||n&&decide (c.1<=(List.getD p (Int.toNat k) (0,0)).2))=true then M.bind (M.bind (M.pure false) (λr=>M.pure (aa.done r))) λr=>M.pure (aa.done r) else M.pure (aa.next (IntKind.wrap .i64 (Add.add A.1 1),A.2.1,())))))))))))))))))) else M.bind (M.pure (aa.next ())) λr=>M.pure (aa.done r)) (0,A.1,())) (aa.bl (λ(A:Unit)=>M.pure true))))))))
def VV(x:aV×Int×Int×Int×Int×Int×Int):M Bool:=
 letI a:=decide (x.1.1=x.2.1);M.pure (a&&!(a&&(decide (x.1.2.1=x.2.2.1)&&(decide (x.1.2.2.1=x.2.2.2.1)&&(decide (x.1.2.2.2.1=x.2.2.2.2.1)&&(decide (x.1.2.2.2.2.1=x.cK)&&decide (x.1.2.2.2.2.2=x.2.2.2.2.2.2)))))))
def VW(k3:Int×Int×Int->M Bool)(x:Int×Int×Int):M Bool:=
 M.bind (k3 x) λy=>M.pure y
def ajS(Dw:Int->M Bool)(x:Option dD×Option Int):M Bool:=
 M.bind (Dw (Option.getD x.2 0)) λy=>M.pure y
def VX(x:aQ×Int×Int):M Int:=
 M.bind (M.loop (λ(A:Int×Int×Int×z4'×Int×Int×Unit)=>letI c:=A.2.2.2;letI b:=IntKind.wrap .i64 (A.2.1-1);letI a:=List.getD c.1 (Int.toNat A.cK) (0,0);if decide (A.cK<c.2.1)=true then M.af (0<=A.cK/\A.cK<Int.ofNat (List.length c.1)) (M.pure (aa.next (A.1,A.2.1,IntKind.wrap .i64 (A.2.2.1-(if IntKind.wrap .i64 (Add.add (IntKind.wrap .i64 ((if b<a.2 then b else a.2)-(if A.1 > a.1 then A.1 else a.1))) 1) > 0 then IntKind.wrap .i64 (Add.add (IntKind.wrap .i64 ((if b<a.2 then b else a.2)-(if A.1 > a.1 then A.1 else a.1))) 1) else 0)),c.1,c.2.1,IntKind.wrap .i64 (Add.add A.cK 1),()))) else M.bind (M.pure (aa.next (A.2.2.1,()))) λr=>M.pure (aa.done r)) (x.2.1,x.2.2,IntKind.wrap .i64 (x.2.2-x.2.1),x.1.2.2.2.1,Int.ofNat (List.length x.1.2.2.2.1),0,())) (aa.bl (λ(A:Int×Unit)=>M.pure A.1))
def VY(x:z4'):M (z4'):=
 M.bind (M.any (λb=>b=true->x=[])) λy=>if y=true then M.pure [] else M.af (b6 (Add.add 0 (List.length x))) (M.pure ([]++x))
def VZ(hn:z1'×Int->M Bool)(x:aV×Option aQ):M Bool:=
 M.bind (hn ((Option.getD x.2 ([],[],[],[],0,0,0,0,0,0,0)).2.2.1,x.1.1)) λy=>M.pure y
def V0(NA:List aV×(Int×Int×Int×Int×Int×Int->M Bool)->M Bool)(ajT:aV×Option Int->M Bool)(x:Option dD×Option Int):M Bool:=
 M.af (Option.isSome x.1=true) (M.bind (NA ((Option.getD x.1 (([],[],[],[],0,0,0,0,0,0,0),[],[])).2.1,λha=>ajT (ha,some (Option.getD x.2 0)))) (λy=>M.pure y))
def ajU(NC:List aV×(Int×Int×Int×Int×Int×Int->M Bool)->M Int)(x:List aV×(Int×Int×Int×Int×Int×Int->M Bool)):M Bool:=
 M.bind (NC x) λy=>M.pure (decide (y>=0))
def ajV(x:aV×Option Int):M Bool:=
 M.pure (decide (x.1.1=Option.getD x.2 0)&&decide (x.1.2.2.2.1=1))
def V1(Nz:Option dD×Option dt->M (List bj->Prop))(x:Option dt×Option (Option dD)×Option Int×Option (Int->M Int)):M (Int×Bool):=
 M.bind (Nz (Option.getD x.2.1 none,x.1)) λy=>M.bind (M.any y) λL=>M.bind (jy (λ(A:Int×(Int->M Int)×Int×Bool×Unit) (y:aV×Int)=>M.bind (if decide (y.1.1=A.1)=true then M.bind (A.2.1 y.2) λy=>M.pure (cP.ret,y,true,()) else M.pure (cP.normal,A.2.2.1,A.2.2.2.1,())) λp=>M.pure (p.1,A.1,A.2.1,p.2.1,p.2.2.1,())) L (Option.getD x.2.2.1 0,Option.getD x.2.2.2 λx=>{ b8:=False,bC:=λx=>False },0,false,())) λp=>rY (M.pure (0,false)) (λid=>if id=0 then M.pure (0,false) else M.fail) (M.pure (p.2.2.2.1,p.2.2.2.2.1)) p.1
def V2(jd:Int×Int×Int->M Bool)(x:Int×Int×Int×Int×Int×Int×Int):M Bool:=
 M.bind (M.loop (λ(A:Int×Int×pf×z1'×Unit)=>letI a:=A.2;if decide (a.1<A.1)=true then M.af (0<=a.1/\a.1<Int.ofNat (List.length a.2.2.1)) (M.bind (jd (List.getD a.2.2.1 (Int.toNat a.1) 0,0,100000)) (λy=>if (!y)=true then M.bind (M.bind (M.pure false) (λr=>M.pure (aa.done r))) λr=>M.pure (aa.done r) else M.pure (aa.next (A.1,IntKind.wrap .i64 (Add.add a.1 1),a.2.1,a.2.2.1,())))) else M.bind (M.pure (aa.next (a.2.1,()))) λr=>M.pure (aa.done r)) (Int.ofNat (Add.add (Add.add (Add.add (Add.add 0 1) 1) 1) 1),0,x,[x.2.2.1,x.2.2.2.1,x.cK,x.2.2.2.2.2.2],())) (aa.bl (λ(A:pf×Unit)=>M.bind (jd (A.1.1,0,9999)) λy=>M.bind (b3 y (jd (A.1.2.1,1,9999)) false) λbG=>M.bind (b3 (y&&bG) (jd (A.1.2.2.2.2.1,1,9999)) false) λds=>M.pure (y&&bG&&ds)))
def V3(ajW:aQ×Int×Int×Int×Int×Int×Int->M Bool)(x:aV×Option aQ):M Bool:=
 M.bind (ajW (Option.getD x.2 ([],[],[],[],0,0,0,0,0,0,0),x.1)) λy=>M.pure (!y)
def V4(jd:Int×Int×Int->M Bool)(z1:Int->M Bool)(x:aQ×Int×Int×Int×Int×Int×Int):M Bool:=
 letI c:=x.2.2.2.2;letI a:=decide (c.1=1)||decide (c.1=2)&&decide (c.2.2=0);M.bind (b3 a (z1 x.2.1) false) λy=>M.bind (b3 (a&&y) (z1 c.2.2) false) λbG=>M.bind (b3 (a&&y&&bG) (jd (x.2.2.1,0,IntKind.wrap .i64 (Int.ofNat (List.length x.1.1)-1))) false) λds=>letI b:=a&&y&&bG&&ds;M.bind (b3 b (jd (x.2.2.2.1,0,9999)) false) λgB=>M.bind (b3 (b&&gB) (jd (x.cK,0,9)) false) λma=>M.pure (b&&gB&&ma)
def V5(z1:Int->M Bool)(x:Int):M Bool:=
 M.bind (z1 x) λy=>M.pure (!y)
def ajX(ajY:Option (List (Int×aV))->z1'->Prop)(x:List (Int×aV)):M (z1'->Prop):=
 M.pure (ajY (some x))
def V6(fE:Int×Int×Int->M Bool)(x:Int×Int×Int×Int×Int×Int×Int):M Bool:=
 M.bind (fE (x.1,0,9999)) λy=>M.bind (b3 y (fE (x.2.1,1,9999)) false) λbG=>M.bind (b3 (y&&bG) (fE (x.2.2.2.2.1,1,9999)) false) λds=>M.bind (b3 (y&&bG&&ds) (fE (x.2.2.1,0,100000)) false) λgB=>letI a:=y&&bG&&ds&&gB;M.bind (b3 a (fE (x.2.2.2.1,0,100000)) false) λma=>M.bind (b3 (a&&ma) (fE (x.cK,0,100000)) false) λDr=>M.bind (b3 (a&&ma&&Dr) (fE (x.2.2.2.2.2.2,0,100000)) false) λNl=>M.pure (a&&ma&&Dr&&Nl)
def V7(fE:Int×Int×Int->M Bool)(x:aQ×Int×Int×Int×Int×Int×Int):M Bool:=
 letI b:=x.2.2.2.2;M.bind (fE (x.2.1,0,99)) λy=>M.bind (b3 (!(!y)) (fE (x.2.2.1,0,IntKind.wrap .i64 (Int.ofNat (List.length x.1.1)-1))) false) λbG=>M.bind (b3 (!(!y||!bG)) (fE (x.2.2.2.1,0,9999)) false) λds=>letI a:=!y||!bG||!ds;M.bind (b3 (!a) (fE (x.cK,0,9)) false) λgB=>M.bind (b3 (!(a||!gB)) (fE (b.2.2,0,99)) false) λma=>if (a||!gB||!ma)=true then M.pure false else M.pure (decide (b.1=1)||decide (b.1=2)&&decide (b.2.2=0))
def V8(axk:Int->M Int)(ajZ:Int->M Int)(x:Int):M Int:=
 M.bind (ajZ x) λy=>M.pure y
def aj0(x:List aV×(Int×Int×Int×Int×Int×Int->M Bool)):M Int:=
 M.bind (M.loop (λ(A:List aV×(Int×Int×Int×Int×Int×Int->M Bool)×Int×Int×Unit)=>letI a:=A.2.2.2.1;if decide (a<A.2.2.1)=true then M.af (0<=a/\a<Int.ofNat (List.length A.1)) (M.bind (A.2.1 (List.getD A.1 (Int.toNat a) (0,0,0,0,0,0))) (λy=>if y=true then M.bind (M.bind (M.pure a) (λr=>M.pure (aa.done r))) λr=>M.pure (aa.done r) else M.pure (aa.next (A.1,A.2.1,A.2.2.1,IntKind.wrap .i64 (Add.add a 1),())))) else M.bind (M.pure (aa.next ())) λr=>M.pure (aa.done r)) (x.1,x.2,Int.ofNat (List.length x.1),0,())) (aa.bl (λ(A:Unit)=>M.pure (-1)))
def Dx(x:Int):M Int:=
 M.bind (if decide (x>=4294967296)=true then M.af ((0:Int)<=32) (M.pure (aa.next (iV .u64 x 32,32,()))) else M.pure (aa.next (x,0,()))) (aa.bl (λ(A:Int×Int×Unit)=>M.bind (if decide (A.1>=65536)=true then M.af ((0:Int)<=16) (M.pure (aa.next (iV .u64 A.1 16,IntKind.wrap .i64 (Add.add A.2.1 16),()))) else M.pure (aa.next (A.1,A.2.1,()))) (aa.bl (λ(A:Int×Int×Unit)=>M.bind (if decide (A.1>=256)=true then M.af ((0:Int)<=8) (M.pure (aa.next (iV .u64 A.1 8,IntKind.wrap .i64 (Add.add A.2.1 8),()))) else M.pure (aa.next (A.1,A.2.1,()))) (aa.bl (λ(A:Int×Int×Unit)=>letI a:=IntKind.wrap .u8 A.1;M.af (0<=a/\a<Int.ofNat 256) (M.pure (IntKind.wrap .i64 (Add.add A.2.1 (IntKind.wrap .i64 (Int.ofNat (List.getD ajn (Int.toNat a) 0).1.1.1)))))))))))
def V9(x:z1'):M (z1'):=
 M.bind (M.any (λb=>b=true->x=[])) λy=>if y=true then M.pure [] else M.af (b6 (Add.add 0 (List.length x))) (M.pure ([]++x))
def V_(aj1:Int×Int->M Int)(x:bj×aV×Int):M Int:=
 M.bind (aj1 (x.1.2,x.2.2)) λy=>M.pure y
def V'(Wa:Int->M Bool)(x:Int×Int):M Int:=
 M.bind (Wa x.1) λy=>M.bind (Wa x.2) λbG=>if y=true then if bG=true then M.pure 0 else M.pure (-1) else if bG=true then M.pure 1 else if decide (x.1<x.2)=true then M.pure (-1) else if decide (x.1 > x.2)=true then M.pure 1 else M.pure 0
def Wb(x:Int):M Bool:=
 M.pure (decide (x≠x))
def Wc(x:(z1'->Prop)×Unit):M (z1'×Unit):=
 M.bind (M.any x.1) λL=>M.bind (jy (λ(A:z1'×Unit) (y:Int)=>M.bind (M.af (b6 (Add.add (List.length A.1) (Add.add 0 1))) (M.pure (cP.normal,A.1++[y],()))) λp=>M.pure (p.1,p.2.1,())) L ([],())) λp=>rY (M.pure (p.2.1,())) (λid=>if id=0 then M.pure (p.2.1,()) else M.fail) M.fail p.1
def Wd(aj2:(z1'->Prop)×Unit->M (z1'×Unit))(x:(z1'->Prop)×Unit):M (z1'×Unit):=
 M.bind (aj2 (x.1,())) λy=>M.pure (y.1,())
def We(NC:List aV×(Int×Int×Int×Int×Int×Int->M Bool)->M Int)(x:(Int×Int×Int×Int×Int×Int->M Bool)×List aV×Unit):M ((Nat×Nat)×List aV×Unit):=
 M.bind (NC (x.2.1,x.1)) λy=>if decide (y=-1)=true then M.pure ((0,List.length x.2.1),x.2.1,()) else M.bind (M.loop (λ(A:(Int×Int×Int×Int×Int×Int->M Bool)×Int×Int×List aV×Unit)=>letI g:=A.2.1;letI f:=A.2.2;letI e:=List.getD f.2.1 (Int.toNat f.1) (0,0,0,0,0,0);letI c:=Int.ofNat (List.length f.2.1);if decide (f.1<c)=true then M.bind (M.af (0<=f.1/\f.1<c) (M.bind (A.1 e) (λy=>if (!y)=true then M.af (0<=g/\g<c) (M.pure (aa.next (A.1,IntKind.wrap .i64 (Add.add g 1),f.1,List.set f.2.1 (Int.toNat g) e,()))) else M.pure (aa.next (A.1,g,f.1,f.2.1,()))))) (aa.bl (λ(A:(Int×Int×Int×Int×Int×Int->M Bool)×Int×Int×List aV×Unit)=>M.pure (aa.next (A.1,A.2.1,IntKind.wrap .i64 (Add.add A.2.2.1 1),A.2.2.2.1,())))) else M.bind (M.pure (aa.next (g,f.2.1,()))) λr=>M.pure (aa.done r)) (x.1,y,IntKind.wrap .i64 (Add.add y 1),x.2.1,())) (aa.bl (λ(A:Int×List aV×Unit)=>letI d:=Int.toNat A.1;letI b:=Int.ofNat (List.length A.2.1);letI a:=List.take d A.2.1++List.replicate (Int.toNat b-d) (0,0,0,0,0,0)++List.drop (Add.add d (List.length (List.replicate (Int.toNat b-d) ((0,0,0,0,0,0):aV)))) A.2.1;M.af (0<=A.1/\A.1<=b/\b<=b) (M.af True (M.af ((0:Int)<=0/\0<=A.1/\A.1<=Int.ofNat (List.length a)) (M.pure ((Int.toNat 0,d),a,()))))))
def Hb(zY:aQ×Int×Int->M Int)(x:Nat×Option dt×Option dD×(Nat×(List bj->Prop)×List bj×Bool)×Unit):M ((Nat×(List bj->Prop)×List bj×Bool)×Unit):=
 M.af (Option.isSome x.2.1=true) (M.loop (λ(A:Nat×Option dD×List (List bj)×Int×(Nat×(List bj->Prop)×List bj×Bool)×Unit)=>letI g:=A.2.2.2;if decide (g.1<10)=true then M.bind (M.af (0<=g.1/\g.1<Int.ofNat 10) (M.loop (λ(A:Nat×Option dD×List bj×Int×List (List bj)×Int×(Nat×(List bj->Prop)×List bj×Bool)×Unit)=>letI h:=A.e6;letI f:=A.2.2;letI d:=Int.ofNat (List.length f.1);letI i:=0<=f.2.1/\f.2.1<d;letI c:=IntKind.wrap .i64 (Add.add f.2.1 1);letI b:=List.getD f.1 (Int.toNat f.2.1) ((0,0,0,0,0,0),0);letI a:=((Option.getD A.2.1 (([],[],[],[],0,0,0,0,0,0,0),[],[])).1,b.2,(List.getD f.1 (Int.toNat c) ((0,0,0,0,0,0),0)).2);if decide (c<d)=true then M.af i (M.af (Option.isSome A.2.1=true) (M.af i (M.af (0<=c/\c<d) (M.af (zY a).b8 (M.bind (M.af (A.1=h.1/\h.2.2.2=false/\(∃ (T:List bj),h.2.1 (h.2.2.1++(b.1,M.val (zY a) 0)::T))) (M.any (λx=>True))) (λy=>letI e:=(h.1,h.2.1,h.2.2.1++[(b.1,M.val (zY a) 0)],!y);if (!y)=true then M.bind (M.bind (M.bind (M.pure (e,())) (λr=>M.pure (aa.done r))) (λr=>M.pure (aa.done r))) λr=>M.pure (aa.done r) else M.pure (aa.next (A.1,A.2.1,f.1,IntKind.wrap .i64 (Add.add f.2.1 2),f.2.2.1,A.cK,e,())))))))) else M.bind (M.pure (aa.next (A.1,A.2.1,f.2.2.1,A.cK,h,()))) λr=>M.pure (aa.done r)) (A.1,A.2.1,List.getD A.2.2.1 (Int.toNat g.1) [],0,A.2.2.1,g.1,g.2.1,()))) (aa.bl (λ(A:Nat×Option dD×List (List bj)×Int×(Nat×(List bj->Prop)×List bj×Bool)×Unit)=>M.pure (aa.next (A.1,A.2.1,A.2.2.1,IntKind.wrap .i64 (Add.add A.2.2.2.1 1),A.2.2.2.2.1,())))) else M.bind (M.pure (g.2.1,())) λr=>M.pure (aa.done r)) (x.1,x.2.2.1,(Option.getD x.2.1 ([],[[],[],[],[],[],[],[],[],[],[]])).2,0,x.2.2.2.1,()))
def Wf(x:Int×Int×(bj×aV×Int->M Int)×List bj×Unit):M (List bj×Unit):=
 M.loop (λ(A:Int×Int×(bj×aV×Int->M Int)×Int×List bj×Unit)=>letI i:=A.2.2.2;if decide (i.1<A.2.1)=true then M.bind (M.loop (λ(A:Int×Int×(bj×aV×Int->M Int)×Int×Int×List bj×Unit)=>letI k:=A.2.2;letI d:=Int.ofNat (List.length A.cK);letI c:=k.2.2.1;letI j:=0<=c/\c<d;letI g:=decide (c > A.1);letI f:=List.getD A.cK (Int.toNat c) ((0,0,0,0,0,0),0);letI b:=IntKind.wrap .i64 (c-1);letI e:=List.getD A.cK (Int.toNat b) ((0,0,0,0,0,0),0);letI h:=List.set A.cK (Int.toNat c) e;letI a:=g=true;letI l:=a->a/\True/\True;M.af (a->(a/\a)/\j/\True) (M.af l (M.af (a->(a/\True)/\True/\True) (M.af (a->(a/\a)/\(0<=b/\b<d)/\True) (M.af l (M.af (a->a/\a/\a/\True) (M.bind (b3 g (k.1 (f,e)) 0) (λy=>if (g&&decide (y<0))=true then M.af (0<=b/\b<d) (M.af j (M.af j (M.af (0<=b/\b<Int.ofNat (List.length h)) (M.pure (aa.next (A.1,A.2.1,k.1,k.2.1,b,List.set h (Int.toNat b) f,())))))) else M.bind (M.pure (aa.next (A.1,A.2.1,k.1,k.2.1,A.cK,()))) λr=>M.pure (aa.done r))))))))) (A.1,A.2.1,A.2.2.1,i.1,i.1,i.2.1,())) (aa.bl (λ(A:Int×Int×(bj×aV×Int->M Int)×Int×List bj×Unit)=>M.pure (aa.next (A.1,A.2.1,A.2.2.1,IntKind.wrap .i64 (Add.add A.2.2.2.1 1),A.2.2.2.2.1,())))) else M.bind (M.pure (i.2.1,())) λr=>M.pure (aa.done r)) (x.1,x.2.1,x.2.2.1,IntKind.wrap .i64 (Add.add x.1 1),x.2.2.2.1,())
def ND(x:Nat×z4'×(Nat×(z1'->Prop)×z1'×Bool)×Unit):M ((Nat×(z1'->Prop)×z1'×Bool)×Unit):=
 M.bind (M.pure ()) λy=>M.loop (λ(A:Nat×(Nat×(z1'->Prop)×z1'×Bool)×(Option (Int×Int)×z4')×Unit)=>letI c:=A.2.1;letI b:=A.2.2.1;M.bind (FK b.2) λy=>if Option.isSome y=true then M.bind (M.af (Option.isSome (nz b.1 b.2 y)=true) (M.pure ())) λbG=>M.bind (M.af (A.1=c.1/\c.2.2.2=false/\(∃ (T:z1'),c.2.1 (c.2.2.1++Option.getD (Option.map (λx=>x.1) (nz b.1 b.2 y)) 0::T))) (M.any (λx=>True))) λds=>letI a:=(c.1,c.2.1,c.2.2.1++[Option.getD (Option.map (λx=>x.1) (nz b.1 b.2 y)) 0],!ds);if (!ds)=true then M.bind (M.pure (a,())) λr=>M.pure (aa.done r) else M.pure (aa.next (A.1,a,(nz b.1 b.2 y,Cl b.2 y),())) else M.bind (M.pure (c,())) λr=>M.pure (aa.done r)) (x.1,x.2.2.1,(none,x.2.1),())
def NF(x:Nat×List (Int×aV)×(Nat×(z1'->Prop)×z1'×Bool)×Unit):M ((Nat×(z1'->Prop)×z1'×Bool)×Unit):=
 M.bind (M.pure ()) λy=>M.loop (λ(A:Nat×(Nat×(z1'->Prop)×z1'×Bool)×(Option pf×List (Int×aV))×Unit)=>letI c:=A.2.1;letI b:=A.2.2.1;M.bind (FK b.2) λy=>if Option.isSome y=true then M.bind (M.af (Option.isSome (nz b.1 b.2 y)=true) (M.pure ())) λbG=>M.bind (M.af (A.1=c.1/\c.2.2.2=false/\(∃ (T:z1'),c.2.1 (c.2.2.1++Option.getD (Option.map (λx=>x.1) (nz b.1 b.2 y)) 0::T))) (M.any (λx=>True))) λds=>letI a:=(c.1,c.2.1,c.2.2.1++[Option.getD (Option.map (λx=>x.1) (nz b.1 b.2 y)) 0],!ds);if (!ds)=true then M.bind (M.pure (a,())) λr=>M.pure (aa.done r) else M.pure (aa.next (A.1,a,(nz b.1 b.2 y,Cl b.2 y),())) else M.bind (M.pure (c,())) λr=>M.pure (aa.done r)) (x.1,x.2.2.1,(none,x.2.1),())
def aj3(Du:(z1'->Prop)->M (z1'))(NB:List (Int×aV)->M (z1'->Prop))(x:List aV×Unit):M (Bool×List aV×Unit):=
 M.bind (M.loop (λ(A:List aV×Int×Int×List (Int×aV)×Unit)=>letI e:=A.2.2;letI b:=List.getD A.1 (Int.toNat e.1) (0,0,0,0,0,0);letI c:=Option.map (λx=>x.2) (List.find? (λp=>decide (b.1=p.1)) e.2.1);letI a:=Option.getD c (0,0,0,0,0,0);if decide (e.1<A.2.1)=true then M.af (0<=e.1/\e.1<Int.ofNat (List.length A.1)) (if (Option.isSome c&&!(decide (a.1=b.1)&&(decide (a.2.1=b.2.1)&&(decide (a.2.2.1=b.2.2.1)&&(decide (a.2.2.2.1=b.2.2.2.1)&&(decide (a.2.2.2.2.1=b.2.2.2.2.1)&&decide (a.2.2.2.2.2=b.2.2.2.2.2)))))))=true then M.bind (M.bind (M.pure (false,[],())) (λr=>M.pure (aa.done r))) λr=>M.pure (aa.done r) else M.pure (aa.next (A.1,A.2.1,IntKind.wrap .i64 (Add.add e.1 1),kE e.2.1 b.1 b,()))) else M.bind (M.pure (aa.next (e.2.1,()))) λr=>M.pure (aa.done r)) (x.1,Int.ofNat (List.length x.1),0,[],())) (aa.bl (λ(A:List (Int×aV)×Unit)=>M.bind (M.bind (NB A.1) (λy=>M.bind (Du y) λy=>M.loop (λ(A:z1'×Int×Int×List aV×List (Int×aV)×Unit)=>letI d:=A.2.2;if decide (d.1<A.2.1)=true then M.af (0<=d.1/\d.1<Int.ofNat (List.length A.1)) (M.af (b6 (Add.add (List.length d.2.1) (Add.add 0 1))) (M.pure (aa.next (A.1,A.2.1,IntKind.wrap .i64 (Add.add d.1 1),d.2.1++[Option.getD (Option.map (λx=>x.2) (List.find? (λp=>decide (List.getD A.1 (Int.toNat d.1) 0=p.1)) d.2.2.1)) (0,0,0,0,0,0)],d.2.2.1,())))) else M.bind (M.pure (aa.next (d.2.1,()))) λr=>M.pure (aa.done r)) (y,Int.ofNat (List.length y),0,[],A.1,()))) (aa.bl (λ(A:List aV×Unit)=>M.pure (true,A.1,())))))
abbrev k4:Type:=List bj×List bj×List bj×List bj×List bj×List bj×List bj×List bj×List bj×List bj×gT
def mb:Nat->k4->List bj
 | 0,r=>r.1
 | 1,r=>r.2.1
 | 2,r=>r.2.2.1
 | 3,r=>r.2.2.2.1
 | 4,r=>r.2.2.2.2.1
 | 5,r=>r.2.2.2.2.2.1
 | 6,r=>r.2.2.2.2.2.2.1
 | 7,r=>r.2.2.2.2.2.2.2.1
 | 8,r=>r.2.2.2.2.2.2.2.2.1
 | 9,r=>r.2.2.2.2.2.2.2.2.2.1
 | _,_=>[]
def Hc:Nat->List bj->k4->k4
 | 0,v,r=>(v,r.2)
 | 1,v,r=>(r.1,v,r.2.2)
 | 2,v,r=>(r.1,r.2.1,v,r.2.2.2)
 | 3,v,r=>(r.1,r.2.1,r.2.2.1,v,r.2.2.2.2)
 | 4,v,r=>(r.1,r.2.1,r.2.2.1,r.2.2.2.1,v,r.2.2.2.2.2)
 | 5,v,r=>(r.1,r.2.1,r.2.2.1,r.2.2.2.1,r.2.2.2.2.1,v,r.2.2.2.2.2.2)
 | 6,v,r=>(r.1,r.2.1,r.2.2.1,r.2.2.2.1,r.2.2.2.2.1,r.2.2.2.2.2.1,v,r.2.2.2.2.2.2.2)
 | 7,v,r=>(r.1,r.2.1,r.2.2.1,r.2.2.2.1,r.2.2.2.2.1,r.2.2.2.2.2.1,r.2.2.2.2.2.2.1,v,r.2.2.2.2.2.2.2.2)
 | 8,v,r=>(r.1,r.2.1,r.2.2.1,r.2.2.2.1,r.2.2.2.2.1,r.2.2.2.2.2.1,r.2.2.2.2.2.2.1,r.2.2.2.2.2.2.2.1,v,r.2.2.2.2.2.2.2.2.2)
 | 9,v,r=>(r.1,r.2.1,r.2.2.1,r.2.2.2.1,r.2.2.2.2.1,r.2.2.2.2.2.1,r.2.2.2.2.2.2.1,r.2.2.2.2.2.2.2.1,r.2.2.2.2.2.2.2.2.1,v,r.2.2.2.2.2.2.2.2.2.2)
 | _,_,r=>r
abbrev Wg(r:k4):gT:=r.2.2.2.2.2.2.2.2.2.2
def NG{X:Type}(l:List bj)(x:bj)(i k:Int)(aI B:M X):M X:=
 letI z:=decide (i > 0);letI y:=IntKind.wrap .i64 (i-1);letI n:=decide (x.1.2.2.2.1≠k);letI m:=(!n)=true;letI b:=(!n&&z)=true;letI c:=b->b/\True/\True;M.af (m->(m/\True)/\True/\True) (M.af (m->True/\True/\m) (M.af c (M.af (b->(b/\True)/\True/\True) (M.af (b->(b/\b)/\(0<=y/\y<Int.ofNat (List.length l))/\True) (M.af c (M.af c (M.af (b->(b/\b)/\True/\True) (M.af (m->(m/\(z=true->b))/\True/\True) (M.af (True/\(n=false->m)) (if (n||z&&decide (x.2=(List.getD l (Int.toNat y) ((0,0,0,0,0,0),0)).2))=true then aI else B))))))))))
def Hd(k:Nat)(A:Int×Int×Int×z1'×k4):M (aa (Int×Int×Int×z1'×k4) (aa (Int×z1'×k4) (aa (z1'×k4) (Option dt×Bool×gT)))):=
 letI i:=A.2.2.1;letI l:=mb k A.2.2.2.2;letI x:=List.getD l (Int.toNat i) ((0,0,0,0,0,0),0);if decide (i<A.2.1)=true then M.af (0<=i/\i<Int.ofNat (List.length l)) (M.bind (M.af ((2:Int)≠0) (if decide (Int.tmod i (2:Int)=1)=true then M.pure (aa.next (i,2,A.1,A.2.1,i,x,A.2.2.2)) else M.pure (aa.next (i,1,A.1,A.2.1,i,x,A.2.2.2)))) (aa.bl (λ(τ:Int×Int×Int×Int×Int×bj×z1'×k4)=>letI r:=τ.2.2.2.2.2.2.2;NG (mb k r) τ.2.2.2.2.2.1 τ.1 τ.2.1 (M.bind (M.bind (M.bind (M.pure (none,false,Wg r)) (λr=>M.pure (aa.done r))) (λr=>M.pure (aa.done r))) λr=>M.pure (aa.done r)) (M.pure (aa.next (τ.2.2.1,τ.2.2.2.1,IntKind.wrap .i64 (Add.add τ.2.2.2.2.1 1),τ.2.2.2.2.2.2)))))) else M.bind (M.pure (aa.next (A.1,A.2.2.2))) λr=>M.pure (aa.done r)
def Dy(Wh:(bj×aV×Int->M Int)×List bj×Unit->M (List bj×Unit))(Wi:bj×aV×Int->M Int):Nat->Nat->z1'×k4->M (aa (z1'×k4) (Option dt×Bool×gT))
 | 0,_,s=>M.pure (.next s)
 | n+1,k,s=>M.bind (M.af (0<=Int.ofNat k/\Int.ofNat k<Int.ofNat 10) (M.bind (Wh (Wi,mb k s.2,())) (λy=>M.loop (Hd k) (Int.ofNat k,Int.ofNat (List.length y.1),0,s.1,Hc k y.1 s.2)))) (aa.bl (λ(τ:Int×z1'×k4)=>M.af (IntKind.wrap .i64 (Add.add τ.1 1)=Int.ofNat (k+1)) (Dy Wh Wi n (k+1) τ.2)))
def He{X:Type}(f:Nat->M X)(v:Int):Nat->M X
 | 0=>f 0
 | n+1=>if v=Int.ofNat (Add.add n 1) then f (n+1) else He f v n
def Wj{X:Type}(A:z1'×List aV×Int×Int×z1'×k4)(u:Nat):M (aa (z1'×List aV×Int×Int×z1'×k4) X):=
 letI a:=List.getD A.2.1 (Int.toNat A.2.2.2.1) (0,0,0,0,0,0);letI r:=A.2.2.2.2.2;letI p:=0<=Int.ofNat u/\Int.ofNat u<Int.ofNat 10;M.af True (M.af p (M.af (0<=a.2.1/\a.2.1<Int.ofNat (List.length A.1)) (M.af (b6 (Add.add (List.length (mb u r)) (Add.add 0 1))) (M.af True (M.af p (M.pure (aa.next (A.1,A.2.1,A.2.2.1,A.2.2.2.1,A.2.2.2.2.1,Hc u (mb u r++[((a.1,a.2.1,a.2.2.1,a.2.2.2.1,Int.ofNat u,a.2.2.2.2.2),IntKind.wrap .i64 (Add.add a.2.2.1 (List.getD A.1 (Int.toNat a.2.1) 0)))]) r))))))))
def Wk(aj4:z1'->M (z1'))(aj5:(bj×aV×Int->M Int)×List bj×Unit->M (List bj×Unit))(aj6:bj×aV×Int->M Int)(x:z1'×gT):M (Option dt×Bool×gT):=
 M.bind (M.bind (aj4 x.1) (λy=>M.pure (aa.next (x.1,y,x.2.1,x.2.2.1,x.2.2.2.1,x.2.2.2.2.1,x.cK,x.e6,x.gq,x.h9,x.jE,x.kF,x.hq,x.mJ,x.pg,[],[],[],[],[],[],[],[],[],[],())))) (aa.bl (λ(A:z1'×z1'×z4'×List aV×z1'×z4'×Int×Int×Int×Int×Int×Int×Int×List aV×List (Option dt)×List bj×List bj×List bj×List bj×List bj×List bj×List bj×List bj×List bj×List bj×Unit)=>M.bind (M.af True (M.loop (λ(A:z1'×List aV×Int×Int×z1'×k4)=>letI a:=List.getD A.2.1 (Int.toNat A.2.2.2.1) (0,0,0,0,0,0);letI u:=a.2.2.2.2.1;if decide (A.2.2.2.1<A.2.2.1)=true then M.bind (M.af (0<=A.2.2.2.1/\A.2.2.2.1<Int.ofNat (List.length A.2.1)) (M.af (0<=u/\u<Int.ofNat 10) (He (Wj A) u 9))) (aa.bl (λ(A:z1'×List aV×Int×Int×z1'×k4)=>M.pure (aa.next (A.1,A.2.1,A.2.2.1,IntKind.wrap .i64 (Add.add A.2.2.2.1 1),A.2.2.2.2)))) else M.bind (M.pure (aa.next A.2.2.2.2)) λr=>M.pure (aa.done r)) (A.1,A.pg,Int.ofNat (List.length A.pg),0,A.2.1,A.xK,A.Np,A.Nq,A.Nr,A.Ns,A.Nt,A.ajo,A.Nu,A.ra,A.Ds,A.2.2.1,A.2.2.2.1,A.2.2.2.2.1,A.cK,A.e6,A.gq,A.h9,A.jE,A.kF,A.hq,A.mJ,A.pg,A.se,()))) (aa.bl (λ(A:z1'×k4)=>M.bind (M.af True (M.af (0=Int.ofNat 0) (Dy aj5 aj6 10 0 A))) (aa.bl (λ(A:z1'×k4)=>M.pure (some (A.1,[mb 0 A.2,mb 1 A.2,mb 2 A.2,mb 3 A.2,mb 4 A.2,mb 5 A.2,mb 6 A.2,mb 7 A.2,mb 8 A.2,mb 9 A.2]),true,Wg A.2)))))))
def Wl(aj7:Int×Int×(bj×aV×Int->M Int)×List bj×Unit->M (List bj×Unit))(x:Int×Int×Int×(bj×aV×Int->M Int)×List bj×Unit):M (List bj×Unit):=
 M.loop (λ(A:Int×Int×Int×(bj×aV×Int->M Int)×Bool×Bool×List bj×Unit)=>if decide (IntKind.wrap .i64 (A.2.1-A.1)<=12)=true then M.bind (aj7 (A.1,A.2.1,A.2.2.2.1,A.e6,())) λy=>M.bind (M.pure (y.1,())) λr=>M.pure (aa.done r) else M.fail) (x.1,x.2.1,x.2.2.1,x.2.2.2.1,true,true,x.2.2.2.2.1,())
def Wm(Nx:z1'×gT->M (gT))(aj8:z1'×gT->M (Option dt×Bool×gT))(x:z1'×gT):M (gT):=
 letI d:=Int.ofNat (List.length x.2.1);letI a:=Int.ofNat (List.length x.1);M.af True (if decide (a=d)=true then M.bind (M.bind (aj8 (x.1,x.2.1,x.2.2.1,x.2.2.2.1,x.2.2.2.2.1,x.cK,x.e6,x.gq,x.h9,x.jE,x.kF,x.hq,x.mJ,x.pg,())) (λy=>if y.2.1=true then M.af True (M.af (b6 (Add.add (List.length y.se) (Add.add 0 1))) (M.af True (M.pure (aa.next (y.2.2.1,y.2.2.2.1,y.2.2.2.2.1,y.cK,y.e6,y.gq,y.h9,y.jE,y.kF,y.hq,y.mJ,y.pg,y.se++[y.1],()))))) else M.pure (aa.next (y.2.2.1,y.2.2.2.1,y.2.2.2.2.1,y.cK,y.e6,y.gq,y.h9,y.jE,y.kF,y.hq,y.mJ,y.pg,y.se,())))) (aa.bl (λ(A:gT)=>M.pure (A.1,A.2.1,A.2.2.1,A.2.2.2.1,A.2.2.2.2.1,A.cK,A.e6,A.gq,A.h9,A.jE,A.kF,A.hq,A.mJ,()))) else M.af True (M.af (0<=a/\a<d) (M.loop (λ(A:z1'×Int×Int×gT)=>letI c:=A.2.2;letI b:=A.2.1;letI e:=List.take (Int.toNat b) A.1;M.af True (M.af (0<=b/\b<Int.ofNat (List.length c.2.1)) (if decide (c.1<=(List.getD c.2.1 (Int.toNat b) (0,0)).2)=true then M.af ((0:Int)<=0/\0<=b/\b=b/\b<=Int.ofNat (List.length A.1)) (M.af (0<Add.add 0 1/\b6 (Add.add (List.length e) (Add.add 0 1))) (M.bind (Nx (e++[c.1],c.2.1,c.2.2.1,A.cK,A.e6,A.gq,A.h9,A.jE,A.kF,A.hq,A.mJ,A.pg,A.se,A.xK,())) (λy=>M.pure (aa.next (A.1,b,IntKind.wrap .i64 (Add.add c.1 1),y.1,y.2.1,y.2.2.1,y.2.2.2.1,y.2.2.2.2.1,y.cK,y.e6,y.gq,y.h9,y.jE,y.kF,y.hq,y.mJ,()))))) else M.bind (M.pure (c.2.1,c.2.2.1,A.cK,A.e6,A.gq,A.h9,A.jE,A.kF,A.hq,A.mJ,A.pg,A.se,A.xK,())) λr=>M.pure (aa.done r)))) (x.1,a,(List.getD x.2.1 (Int.toNat a) (0,0)).1,x.2.1,x.2.2.1,x.2.2.2.1,x.2.2.2.2.1,x.cK,x.e6,x.gq,x.h9,x.jE,x.kF,x.hq,x.mJ,x.pg,()))))
def Wn(aj9:Int->M Int)(aj_:Int×Int×Int×(bj×aV×Int->M Int)×List bj×Unit->M (List bj×Unit))(x:(bj×aV×Int->M Int)×List bj×Unit):M (List bj×Unit):=
 letI a:=Int.ofNat (List.length x.2.1);M.bind (aj9 (IntKind.wrap .u64 a)) λy=>M.bind (aj_ (0,a,y,x.1,x.2.1,())) λy=>M.pure (y.1,())
end Go.Fer.H
