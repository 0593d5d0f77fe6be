/- Part 4 of the proof of Slips: shallow programs of Go functions, and what they compute. No condition. -/
import Derived.Test.YtplfnoecifjgeaaGreatDoorSlipsC
import Derived.RangeFuncBound
import Derived.Scope
import Derived.RangeFuncLeaves
import Derived.OpenShut
import Derived.WideKeyArgs
import Derived.ChangeSame
import Derived.Test.YtplfnoecifjgeaaGreatDoorProg
import Derived.KernelRfl
noncomputable section
set_option linter.unusedVariables false
set_option linter.unusedSimpArgs false
namespace Go.Fer
open Go.RowKit
theorem ahw{C:bS}(iD:C.r=none){β:Type}{s:az}{a:Act}{w:World}(aa:b' C s a w){g:Operand}{ps:Array Tmp}{assign body:Code}{q4 n:Nat}{eF:Nat->aF}(aA:aW C.aM s.ax g=.rI q4 n eF){ic:ITC}(Ug:CV C.P q4 ic)
    {x:ic.ts.ai} {fl:List Nat} (hx:(iN ic.ts ((List.range n).map eF)).run s.ae=some (x,fl)) {sh rin rout:dp} (dJ:nJ sh rout ic.aK ps.toList C.nt=true) {nN:sh.ai} (nK:sh.iR (s.cd fl)=some nN) (gq:ic.pre x)
    {run:az->M (cT×rout.ai)} {k:cT->az->M β} {O:β->Prop} (ao:M.ca (jE (λA y=>tE sh rin rout ic.aK ps.toList A y run) (ic.seq x) nN) λp=>M.ca (k p.1 (sh.st p.2)) O)
    (Dg:∀ l,GN C.P C.aM C.nt assign body l run) {Q:Exit->Act->World->Prop}
    (aj:∀ u,C.jG u->∀ e s' a' w',b' (C.gT u) s' a' w'->M.ca (k e s') O->Q e.pc a' w'):(Code.rangeFunc g ps assign body).wpIn (dy C.r) 0 C.P Q a w:=by
  obtain⟨κ,F,aa⟩:=aa;obtain⟨zQ,f1,gr,f2⟩:=bc.k0 (p2 _ hx) aa;obtain⟨κ,dP,f3,cu⟩:=dp.zK nK gr;have hv:=j1 aa g;rw[aA]at hv;obtain⟨aC,pW,h8,axB⟩:=hv;have ahx:fb C.P ic.ts zQ w aC x:=u1 aa.bq f1 ic.ts hx f2 (by grind) λi G ds=>by
    grind
  have o6:∀ A:sh.ai,(sh.st A).ax TRS=.undef:=λA=>by
    simp only[nJ,Bool.and_eq_true,Bool.not_eq_true']at dJ;exact xq sh.bG cL A TRS dJ.1.1.1.2
  rw[iD];refine wpIn_rangeFunc λfn _=>?_;have aN:w.heap.size<((w.alloc (.deferred (some []))).alloc (.loop (eU fn a.tmps ps assign body w.heap.size .ready .normal))).heap.size:=by simp;omega
  have an:w.heap.size+1<((w.alloc (.deferred (some []))).alloc (.loop (eU fn a.tmps ps assign body w.heap.size .ready .normal))).heap.size:=by simp
  have Dj:((w.alloc (.deferred (some []))).alloc (.loop (eU fn a.tmps ps assign body w.heap.size .ready .normal))).heap[w.heap.size+1]?=some (.loop (eU fn a.tmps ps assign body w.heap.size .ready .normal)):=by
    have:=pV (w.alloc (.deferred (some []))) (.loop (eU fn a.tmps ps assign body w.heap.size .ready .normal));simp_all
  have Dk:((w.alloc (.deferred (some []))).alloc (.loop (eU fn a.tmps ps assign body w.heap.size .ready .normal))).heap[w.heap.size]?=some (.deferred (some [])):=
    (oT _ _ (by simp)).trans (pV w _)
  have tR:∀ r,r<w.heap.size->((w.alloc (.deferred (some []))).alloc (.loop (eU fn a.tmps ps assign body w.heap.size .ready .normal))).heap[r]?=w.heap[r]?:=λr h=>T' h;have Dl:(Instr.enterLoop fn a.tmps ps assign body none).run C.P w=.ok (w.heap.size+1,[ot w.heap.size]) ((w.alloc (.deferred (some []))).alloc (.loop (eU fn a.tmps ps assign body w.heap.size .ready .normal))):=run_enterLoop_outer fn a.tmps ps assign body;have xD:cN w ((w.alloc (.deferred (some []))).alloc (.loop (eU fn a.tmps ps assign body w.heap.size .ready .normal))):=⟨rfl,rfl,rfl⟩
  have Ms:((w.alloc (.deferred (some []))).alloc (.loop (eU fn a.tmps ps assign body w.heap.size .ready .normal))).heap.size=w.heap.size+2:=by simp
  generalize (w.alloc (.deferred (some []))).alloc (.loop (eU fn a.tmps ps assign body w.heap.size .ready .normal))=bY at aN an Dj Dk tR Dl xD Ms;have p9:cJ dP w bY:=⟨by omega,λr h=>tR r (cu.cM r h)⟩
  have dF:fb C.P ic.ts dP bY aC x:=(ahx.mono f3 (cJ.refl _ _)).mono (λ_ h=>h) p9;have ei:bc { C with w0:=bY,F0:=dP,K0:=λ_=>False } (sh.st nN) a bY κ dP:=
    cu.vj cu.dn cu.dfr cu.fR cu.bG (λl' kr L' iO ib e=>by have e:(sh.st nN).ax TRS=.tr l' kr L' iO ib:=e;grind)
      (λr h=>tR r (by
        rcases h with h | ⟨b,ad,rfl⟩
        · exact cu.cM r h
        · exact (cu.own b ad).1)) (by omega) (λ_ h=>.inl h) (λ_ h=>h) (λ_ h=>h.elim) (λ_ h=>h.elim) (λ_ _ h=>h) (Nat.le_refl _) (cN.refl _)
  have Mt:=Uf (Ua (S:=λT=>T=ic.seq x) (C:=C) (CI:={ C with w0:=bY,F0:=dP,K0:=λ_=>False }) (sh:=sh) (rin:=rin) (rout:=rout) (ps:=ps) (assign:=assign) (body:=body) (a:=a) (fn:=fn) (l:=w.heap.size+1) (B:=w.heap.size) (run:=run) (k:=k) (O:=O)
    rfl (by omega) (by rw[aa.dn];omega) (by rw[aa.dn];grind))
  have hsl:∀ b,((sh.st nN).ae b).body.bN (κ b)=true->¬((κ b).ae=w.heap.size+1\/(κ b).ae=w.heap.size):=λb ad h=>by
    have:=(cu.own b ad).1;omega
  have vk:=Ug.iK (w.heap.size+1) _ dP (λr=>(∃ b,((sh.st nN).ae b).body.bN (κ b)=true/\(κ b).ae=r)\/r=w.heap.size+1\/r=w.heap.size) bY aC x dF gq Mt (λr h=>ei.cM r h) ei.im
    (λr h=>by
      rcases h with⟨b,ad,rfl⟩ | rfl | rfl
      · exact⟨(ei.own b ad).1,(ei.own b ad).2.1⟩
      · exact⟨an,λh=>by have:=cu.cM _ h;omega⟩
      · exact⟨aN,λh=>by have:=cu.cM _ h;omega⟩)
    ⟨.normal,nN,κ,ei,Dj,Dk,λb ad=>⟨.inl ⟨b,ad,rfl⟩,hsl b ad⟩,.inr (.inl rfl),.inr (.inr rfl),λh=>by have:=cu.cM _ h;omega,λh=>by have:=cu.cM _ h;omega,rfl,λ_=>⟨rfl,λR jH=>by grind⟩,λh=>by cases h⟩
  refine⟨w.heap.size+1,[ot w.heap.size],bY,{ target:=.fn (.func q4) #[],args:=aC.toArray++#[.func (.yield (w.heap.size+1)) #[] #[]] },bY,q4,(aC++[Value.func (.yield (w.heap.size+1)) #[] #[]]).toArray,bY,Dl,?_,λ_ _=>trivial,?_,λh=>(by cases h),callsIn_wide.2 (vk.mono λe eo ⟨v,iO,st,F',f',he,fF,hinv,g1,dW,g3,g4,g5,g6,g7⟩=>?_)⟩
  · have e:a.eval (.const (.func (.yield (w.heap.size+1)) #[] #[]))=.func (.yield (w.heap.size+1)) #[] #[]:=rfl
    simp[resolve,pW,Deferred.ofValue,e]
  · have:=Ug.enter (aC++[Value.func (.yield (w.heap.size+1)) #[] #[]]).toArray bY
    simpa [invoke]using this
  subst he;obtain⟨e,A,κ',mh,h1,h2,h3,aT,bx,c_,fN,_,iZ,pR⟩:=hinv;refine⟨se e,_,run_endLoop h1 (by cases st<;>simp[eU]),?_⟩;have GS:w.heap.size+1<eo.heap.size:=(Array.getElem?_eq_some_iff.1 h1).1;generalize aZ:Obj.loop _=bT;have hq:M.ca (k e (sh.st A)) O:=by
    cases st with
    | true=>grind
    | false=>
      obtain⟨rfl,e8⟩:=iZ rfl;exact (e8 [] (show iO++[]=ic.seq x by grind)).2 _ rfl
  have vb:∀ r,C.K0 r->r<w.heap.size:=λr h=>Nat.lt_of_lt_of_le (aa.g_ r h) aa.size;have tO:∀ r,C.K0 r->(eo.putObj (w.heap.size+1) bT).heap[r]?=C.w0.heap[r]?:=λr h=>by
    have bX:=vb r h;rw[World.putObj_heap_other (by omega),g4 r (by omega) λaO=>?_,tR r bX]
    · exact aa.eg r h
    · rcases aO with⟨b,ad,rfl⟩ | rfl | rfl
      · exact (cu.own b ad).2.2 h
      · omega
      · omega
  have xE:cN C.w0 (eo.putObj (w.heap.size+1) bT):=by
    have:=(aa.dV.trans xD).trans g7;exact⟨this.os,this.tape,this.output⟩
  have zY:C.jG ⟨eo.putObj (w.heap.size+1) bT,λr=>C.K0 r\/r=w.heap.size,[w.heap.size]⟩:=
    { sd := λB aN => by
        have:B=w.heap.size:=by grind
        subst this;exact⟨.inr rfl,(World.putObj_heap_other (by omega)).trans h2⟩
      ea:=λB aN=>by
        have:B=w.heap.size:=by grind
        subst this;exact⟨λh=>by grind,aa.size⟩
      mg:=by simp
      gU:=λ_ h=>.inl h
      eg:=tO
      size:=by have:=aa.size;simp;omega
      dV:=xE }
  have nL:b' (C.gT ⟨eo.putObj (w.heap.size+1) bT,λr=>C.K0 r\/r=w.heap.size,[w.heap.size]⟩) (sh.st A) { a with defers:=[ot w.heap.size]++a.defers } (eo.putObj (w.heap.size+1) bT):=by
    have Mu:∀ r,F' r->C.F0 r\/¬(C.K0 r\/r=w.heap.size):=λr aY=>by
      rcases dW r aY with h | h | h
      · rcases cu.gO r h with da | da
        · exact .inl da
        · exact .inr λaj=>aj.elim da λe=>by have:=cu.cM r h;omega
      · rcases h with⟨b,ad,rfl⟩ | rfl | rfl
        · exact .inr λaj=>aj.elim (cu.own b ad).2.2 λe=>hsl b ad (.inr e)
        · exact (c_ aY).elim
        · exact (fN aY).elim
      grind
    refine⟨κ',F',mh.vj (r:=C.r) mh.dn (by show [ot w.heap.size]++a.defers=_;rw[aa.dfr];rfl) mh.fR mh.bG (λl' kr L' iO ib e=>by have e:(sh.st A).ax TRS=.tr l' kr L' iO ib:=e;grind)
      (λr h=>World.putObj_heap_other λe=>by
        grind) (by simp) Mu (λr h=>g1 r (cu.hE r h)) (λr h=>?_) (λ_ _=>rfl) (λb ad h=>?_) (Nat.le_refl _) (cN.refl _)⟩
    · simp only[World.putObj_size]
      grind
    · rcases h with h | h
      · rcases (g5 _ (h3 b ad).1).1 with aO | aO
        · rcases aO with⟨a1,cQ,e⟩ | e | e
          · exact (cu.own a1 cQ).2.2 (e ▸ h)
          · exact (h3 b ad).2 (.inl e)
          · exact (h3 b ad).2 (.inr e)
        grind
      grind
  have bf:=aj _ zY e _ _ _ nL hq;cases e with
  | normal=>exact bf
  | exit id=>exact wpIn_exit bf
  | ret=>exact wpIn_ret bf
theorem ahy{C:bS}(iD:C.r=none){β:Type}{s:az}{a:Act}{w:World}(aa:b' C s a w){g:Operand}{ps:Array Tmp}{assign body:Code}{aK:af}{S:List aK.ai->Prop}(aA:aW C.aM s.ax g=.val (.b9 aK) S)
    {sh rin rout:dp} (dJ:nJ sh rout aK ps.toList C.nt=true) {nN:sh.ai} (nK:sh.iR s=some nN) (dY:∃ L,S L)
    {run:az->M (cT×rout.ai)} {k:cT->az->M β} {O:β->Prop} (ao:∀ L,S L->M.ca (jE (λA y=>tE sh rin rout aK ps.toList A y run) L nN) λp=>M.ca (k p.1 (sh.st p.2)) O)
    (Dg:∀ l,GN C.P C.aM C.nt assign body l run) {Q:Exit->Act->World->Prop}
    (aj:∀ u,C.jG u->∀ e s' a' w',b' (C.gT u) s' a' w'->M.ca (k e s') O->Q e.pc a' w'):(Code.rangeFunc g ps assign body).wpIn (dy C.r) 0 C.P Q a w:=by
  obtain⟨κ,F,aa⟩:=aa;obtain⟨κ,dP,f3,cu⟩:=dp.zK nK aa;have hv:=j1 aa g;rw[aA]at hv;have pW:=eX _ f3 (cJ.refl _ _) ((dC rfl).1 hv).2;simp only[bu]at pW;obtain⟨u,hu,_,ahz⟩:=pW;have hu:=(List.cons.inj hu).1;have o6:∀ A:sh.ai,(sh.st A).ax TRS=.undef:=λA=>by
    simp only[nJ,Bool.and_eq_true,Bool.not_eq_true']at dJ;exact xq sh.bG cL A TRS dJ.1.1.1.2
  rw[iD];refine wpIn_rangeFunc λfn _=>?_;have aN:w.heap.size<((w.alloc (.deferred (some []))).alloc (.loop (eU fn a.tmps ps assign body w.heap.size .ready .normal))).heap.size:=by simp;omega
  have an:w.heap.size+1<((w.alloc (.deferred (some []))).alloc (.loop (eU fn a.tmps ps assign body w.heap.size .ready .normal))).heap.size:=by simp
  have Dj:((w.alloc (.deferred (some []))).alloc (.loop (eU fn a.tmps ps assign body w.heap.size .ready .normal))).heap[w.heap.size+1]?=some (.loop (eU fn a.tmps ps assign body w.heap.size .ready .normal)):=by
    have:=pV (w.alloc (.deferred (some []))) (.loop (eU fn a.tmps ps assign body w.heap.size .ready .normal));simp_all
  have Dk:((w.alloc (.deferred (some []))).alloc (.loop (eU fn a.tmps ps assign body w.heap.size .ready .normal))).heap[w.heap.size]?=some (.deferred (some [])):=
    (oT _ _ (by simp)).trans (pV w _)
  have tR:∀ r,r<w.heap.size->((w.alloc (.deferred (some []))).alloc (.loop (eU fn a.tmps ps assign body w.heap.size .ready .normal))).heap[r]?=w.heap[r]?:=λr h=>T' h;have Dl:(Instr.enterLoop fn a.tmps ps assign body none).run C.P w=.ok (w.heap.size+1,[ot w.heap.size]) ((w.alloc (.deferred (some []))).alloc (.loop (eU fn a.tmps ps assign body w.heap.size .ready .normal))):=run_enterLoop_outer fn a.tmps ps assign body;have xD:cN w ((w.alloc (.deferred (some []))).alloc (.loop (eU fn a.tmps ps assign body w.heap.size .ready .normal))):=⟨rfl,rfl,rfl⟩
  have Ms:((w.alloc (.deferred (some []))).alloc (.loop (eU fn a.tmps ps assign body w.heap.size .ready .normal))).heap.size=w.heap.size+2:=by simp
  generalize (w.alloc (.deferred (some []))).alloc (.loop (eU fn a.tmps ps assign body w.heap.size .ready .normal))=bY at aN an Dj Dk tR Dl xD Ms;have p9:cJ dP w bY:=⟨by omega,λr h=>tR r (cu.cM r h)⟩
  have ei:bc { C with w0:=bY,F0:=dP,K0:=λ_=>False } (sh.st nN) a bY κ dP:=
    cu.vj cu.dn cu.dfr cu.fR cu.bG (λl' kr L' iO ib e=>by have e:(sh.st nN).ax TRS=.tr l' kr L' iO ib:=e;grind)
      (λr h=>tR r (by
        rcases h with h | ⟨b,ad,rfl⟩
        · exact cu.cM r h
        · exact (cu.own b ad).1)) (by omega) (λ_ h=>.inl h) (λ_ h=>h) (λ_ h=>h.elim) (λ_ h=>h.elim) (λ_ _ h=>h) (Nat.le_refl _) (cN.refl _)
  have Mt:=Ua (S:=S) (C:=C) (CI:={ C with w0:=bY,F0:=dP,K0:=λ_=>False }) (sh:=sh) (rin:=rin) (rout:=rout) (ps:=ps) (assign:=assign) (body:=body) (a:=a) (fn:=fn) (l:=w.heap.size+1) (B:=w.heap.size) (run:=run) (k:=k) (O:=O)
    rfl (by omega) (by rw[aa.dn];omega) (by rw[aa.dn];grind)
  have hsl:∀ b,((sh.st nN).ae b).body.bN (κ b)=true->¬((κ b).ae=w.heap.size+1\/(κ b).ae=w.heap.size):=λb ad h=>by
    have:=(cu.own b ad).1;omega
  obtain⟨q4,cH,ahA,r8,Lz⟩:=ahz dP bY (λ_ h=>h) p9 (λr h=>ei.cM r h) ei.im dY;have vk:=Lz (w.heap.size+1) _ (λr=>(∃ b,((sh.st nN).ae b).body.bN (κ b)=true/\(κ b).ae=r)\/r=w.heap.size+1\/r=w.heap.size)
    (λr h=>by
      rcases h with⟨b,ad,rfl⟩ | rfl | rfl
      · exact⟨(ei.own b ad).1,(ei.own b ad).2.1⟩
      · exact⟨an,λh=>by have:=cu.cM _ h;omega⟩
      · exact⟨aN,λh=>by have:=cu.cM _ h;omega⟩)
    Mt ⟨.normal,nN,κ,ei,Dj,Dk,λb ad=>⟨.inl ⟨b,ad,rfl⟩,hsl b ad⟩,.inr (.inl rfl),.inr (.inr rfl),λh=>by have:=cu.cM _ h;omega,λh=>by have:=cu.cM _ h;omega,rfl,λ_=>⟨rfl,λR jH=>ao R jH⟩,λh=>by cases h⟩
  refine⟨w.heap.size+1,[ot w.heap.size],bY,{ target:=.fn (.func q4) cH,args:=#[.func (.yield (w.heap.size+1)) #[] #[]] },bY,q4,#[Value.func (.yield (w.heap.size+1)) #[] #[]]++cH,bY,Dl,?_,λ_ _=>trivial,?_,λh=>(by cases h),callsIn_wide.2 (vk.mono λe eo ⟨v,pre,st,F',f',he,fF,hinv,g1,dW,g3,g4,g5,g6,Mv⟩=>?_)⟩
  · have e:a.eval (.const (.func (.yield (w.heap.size+1)) #[] #[]))=.func (.yield (w.heap.size+1)) #[] #[]:=rfl
    simp[resolve,hu,ahA,Deferred.ofValue,e]
  · have:=r8 (#[Value.func (.yield (w.heap.size+1)) #[] #[]]++cH) bY
    simpa [invoke]using this
  have g7:cN bY eo:=⟨Mv.1,Mv.2.1,Mv.2.2⟩
  subst he;obtain⟨e,A,κ',mh,h1,h2,h3,aT,bx,c_,fN,_,iZ,pR⟩:=hinv;refine⟨se e,_,run_endLoop h1 (by cases st<;>simp[eU]),?_⟩;have GS:w.heap.size+1<eo.heap.size:=(Array.getElem?_eq_some_iff.1 h1).1;generalize aZ:Obj.loop _=bT;have hq:M.ca (k e (sh.st A)) O:=by
    cases st with
    | true=>grind
    | false=>
      obtain⟨rfl,e8⟩:=iZ rfl;exact (e8 [] (show S (pre++[]) by grind)).2 _ rfl
  have vb:∀ r,C.K0 r->r<w.heap.size:=λr h=>Nat.lt_of_lt_of_le (aa.g_ r h) aa.size;have tO:∀ r,C.K0 r->(eo.putObj (w.heap.size+1) bT).heap[r]?=C.w0.heap[r]?:=λr h=>by
    have bX:=vb r h;rw[World.putObj_heap_other (by omega),g4 r (by omega) λaO=>?_,tR r bX]
    · exact aa.eg r h
    · rcases aO with⟨b,ad,rfl⟩ | rfl | rfl
      · exact (cu.own b ad).2.2 h
      · omega
      · omega
  have xE:cN C.w0 (eo.putObj (w.heap.size+1) bT):=by
    have:=(aa.dV.trans xD).trans g7;exact⟨this.os,this.tape,this.output⟩
  have zY:C.jG ⟨eo.putObj (w.heap.size+1) bT,λr=>C.K0 r\/r=w.heap.size,[w.heap.size]⟩:=
    { sd := λB aN => by
        have:B=w.heap.size:=by grind
        subst this;exact⟨.inr rfl,(World.putObj_heap_other (by omega)).trans h2⟩
      ea:=λB aN=>by
        have:B=w.heap.size:=by grind
        subst this;exact⟨λh=>by grind,aa.size⟩
      mg:=by simp
      gU:=λ_ h=>.inl h
      eg:=tO
      size:=by have:=aa.size;simp;omega
      dV:=xE }
  have nL:b' (C.gT ⟨eo.putObj (w.heap.size+1) bT,λr=>C.K0 r\/r=w.heap.size,[w.heap.size]⟩) (sh.st A) { a with defers:=[ot w.heap.size]++a.defers } (eo.putObj (w.heap.size+1) bT):=by
    have Mu:∀ r,F' r->C.F0 r\/¬(C.K0 r\/r=w.heap.size):=λr aY=>by
      rcases dW r aY with h | h | h
      · rcases cu.gO r h with da | da
        · exact .inl da
        · exact .inr λaj=>aj.elim da λe=>by have:=cu.cM r h;omega
      · rcases h with⟨b,ad,rfl⟩ | rfl | rfl
        · exact .inr λaj=>aj.elim (cu.own b ad).2.2 λe=>hsl b ad (.inr e)
        · exact (c_ aY).elim
        · exact (fN aY).elim
      grind
    refine⟨κ',F',mh.vj (r:=C.r) mh.dn (by show [ot w.heap.size]++a.defers=_;rw[aa.dfr];rfl) mh.fR mh.bG (λl' kr L' iO ib e=>by have e:(sh.st A).ax TRS=.tr l' kr L' iO ib:=e;grind)
      (λr h=>World.putObj_heap_other λe=>by
        grind) (by simp) Mu (λr h=>g1 r (cu.hE r h)) (λr h=>?_) (λ_ _=>rfl) (λb ad h=>?_) (Nat.le_refl _) (cN.refl _)⟩
    · simp only[World.putObj_size]
      grind
    · rcases h with h | h
      · rcases (g5 _ (h3 b ad).1).1 with aO | aO
        · rcases aO with⟨a1,cQ,e⟩ | e | e
          · exact (cu.own a1 cQ).2.2 (e ▸ h)
          · exact (h3 b ad).2 (.inl e)
          · exact (h3 b ad).2 (.inr e)
        grind
      grind
  have bf:=aj _ zY e _ _ _ nL hq;cases e with
  | normal=>exact bf
  | exit id=>exact wpIn_exit bf
  | ret=>exact wpIn_ret bf
end Go.Fer
namespace Go.Fer
open Go.RowKit
open M (ab)
section
variable {F:Fence} {n:Nat} {P:Program} {Q:Exit->Act->World->Prop} {a:Act} {w:World}
theorem ahB{c:Code}{GX β:Type}{body:GX->M (ab GX β)}{O:β->Prop}(I:GX->Act->World->Prop)
  (round:∀ A a w,I A a w->(body A).b1->(∀ r,(body A).bD (.done r)->O r)->c.wpIn F n P (Exit.then (λa' w'=>∃ iA,(body A).bD (.next iA)/\I iA a' w') Q) a w)
  {A:GX} (hs:M.Bz body A) (ah:∀ r,M.yQ body A r->O r) (ei:I A a w):(Code.loop c).wpIn F n P Q a w:=by
 intro b k cs ra ad aa;have key:∀ A,M.Bz body A->(∀ r,M.yQ body A r->O r)->∀ a w,I A a w->
   ∃ e a' w',Q e a' w'/\ArrivesIn (Machine.fenced P F) P (lone (b.atR a (.code c::.inLoop c::k)) cs w) b k cs e a' w':=by
  intro A hs;induction hs with
  | mk A h _ aJ=>
   intro ah a w ei;obtain⟨e,lN,lO,bf,eT⟩:=round A a w ei h (λr aa=>ah r (.done _ _ aa)) b (.inLoop c::k) cs ra ad aa;cases e with
   | normal=>
    obtain⟨iA,qe,ahC⟩:=bf;obtain⟨Mw,Mx,My,Mz,MA⟩:=aJ iA qe (λr aa=>ah r (.next _ _ _ qe aa)) lN lO ahC;exact⟨Mw,Mx,My,Mz,.of_steps (StepsIn.trans eT (.one (fenced_calm ad aa rfl) stepR_inLoop)) MA⟩
   | exit id=>exact⟨_,lN,lO,bf,.pass (x:=.inLoop c) rfl (λ_ _=>.inl (by simp)) eT⟩
   | goto l=>exact⟨_,lN,lO,bf,.pass (x:=.inLoop c) rfl (λ_ _=>.inl (by simp)) eT⟩
   | ret=>exact⟨_,lN,lO,bf,.pass (x:=.inLoop c) rfl (λ_ _=>.inl (by simp)) eT⟩
   | panic MB=>exact⟨_,lN,lO,bf,.pass (x:=.inLoop c) rfl (λ_ _=>.inl (by simp)) eT⟩
   | outgrown=>exact⟨_,lN,lO,bf,.pass (x:=.inLoop c) rfl (λ_ _=>.inl (by simp)) eT⟩
 obtain⟨e,a',w',bf,eT⟩:=key A hs ah a w ei;exact⟨e,a',w',bf,.of_steps (.one (fenced_calm ad aa rfl) stepR_loop) eT⟩
theorem ahD{p q:Prop}(bf:q)(h:q->p):p/\q:=⟨h bf,bf⟩
def GY(F:Fence)(n:Nat)(P:Program)(c:Code)(Q:Exit->Act->World->Prop)(a:Act)(w:World):Prop:=
 ∀ (b:Frame) (k:List Item) (cs:List Frame),b.roundOf=F.round->F.fn b.fn->F.room (cs.length+1+n)->
  ∃ e a' w',Q e a' w'/\ArrivesIn (Machine.fenced P F) P (lone (b.atR a (.code c::.inLoop c::k)) cs w) b k cs e a' w'
theorem ahE{c:Code}(h:GY F n P c Q a w):(Code.loop c).wpIn F n P Q a w:=λb k cs ra ad aa=>by
 obtain⟨e,a',w',bf,eT⟩:=h b k cs ra ad aa;exact⟨e,a',w',bf,.of_steps (.one (fenced_calm ad aa rfl) stepR_loop) eT⟩
theorem ahF{c:Code}(h:c.wpIn F n P (Exit.then (λa' w'=>GY F n P c Q a' w') Q) a w):GY F n P c Q a w:=λb k cs ra ad aa=>by
 obtain⟨e,lN,lO,bf,eT⟩:=h b (.inLoop c::k) cs ra ad aa;cases e with
 | normal=>
  obtain⟨Mw,Mx,My,Mz,MA⟩:=bf b k cs ra ad aa;exact⟨Mw,Mx,My,Mz,.of_steps (StepsIn.trans eT (.one (fenced_calm ad aa rfl) stepR_inLoop)) MA⟩
 | exit id=>exact⟨_,lN,lO,bf,.pass (x:=.inLoop c) rfl (λ_ _=>.inl (by simp)) eT⟩
 | goto l=>exact⟨_,lN,lO,bf,.pass (x:=.inLoop c) rfl (λ_ _=>.inl (by simp)) eT⟩
 | ret=>exact⟨_,lN,lO,bf,.pass (x:=.inLoop c) rfl (λ_ _=>.inl (by simp)) eT⟩
 | panic MB=>exact⟨_,lN,lO,bf,.pass (x:=.inLoop c) rfl (λ_ _=>.inl (by simp)) eT⟩
 | outgrown=>exact⟨_,lN,lO,bf,.pass (x:=.inLoop c) rfl (λ_ _=>.inl (by simp)) eT⟩
theorem zZ{b:Frame}{k:List Item}{cs:List Frame}{c:Code}:step P (lone (b.atR a (.code (.scope c)::k)) cs w)=.next (lone (b.atR a (.code c::.inScope c::k)) cs w):=
 step_lone_go (by rfl)
theorem ahG{b:Frame}{k:List Item}{cs:List Frame}{c:Code}:step P (lone (b.atR a (.inScope c::k)) cs w)=.next (lone (b.atR a k) cs w):=
 step_lone_go (by rfl)
theorem ahH{c:Code}(h:c.wpIn F n P (Exit.noGoto Q) a w):(Code.scope c).wpIn F n P Q a w:=by
 intro b k cs ra ad aa;have h0:(lone (b.atR a (.code (.scope c)::k)) cs w).fenced P F:=fenced_calm ad aa rfl;obtain⟨e,lN,lO,bf,eT⟩:=h b (.inScope c::k) cs ra ad aa;cases e with
 | normal=>exact⟨.normal,lN,lO,bf,.head h0 zZ (StepsIn.trans eT (.one (fenced_calm ad aa rfl) ahG))⟩
 | exit id=>
  have hx:exitTo id (.inScope c::k)=exitTo id k:=by rfl
  exact⟨.exit id,lN,lO,bf,λk' aj=>.head h0 zZ (eT.1 k' (by grind)),λaY aj=>let ⟨k₁,h1,h2⟩:=eT.2 aY (by grind);⟨k₁,h1,.head h0 zZ h2⟩⟩
 | goto l=>exact bf.elim
 | ret=>exact⟨.ret,lN,lO,bf,.of_steps (.one h0 zZ) eT⟩
 | panic MB=>exact⟨.panic MB,lN,lO,bf,.of_steps (.one h0 zZ) eT⟩
 | outgrown=>exact⟨.outgrown,lN,lO,bf,.of_steps (.one h0 zZ) eT⟩
end
section
variable {T:Nat->af} {a6:Nat->Option aL} {Ψ:Nat->Option eN}
def MC{A β:Type}(m:M (ab A β))(O:β->Prop)(st:ab A β):Prop:=
 match st with
 | .next s=>m.bD (.next s)
 | .done r=>O r
theorem ahI{C:bS}{s s':az}{i:Nat}{a:Act}{w:World}(h:Li s i=some s')(aa:b' C s a w):b' C s' a w:=by
 obtain⟨κ,F,aa⟩:=aa;unfold Li at h;split at h
 ·rename_i b g n off hs;split at h
  ·rename_i e xs bE;split at h
   ·rename_i aA;cases h;have hv:=aa.bG i;rw[hs]at hv;obtain⟨aP,aQ,bB⟩:=hv.2 aA (by rw[bE];rfl);rw[bE]at aP bB;have aN:=aa.bq b;unfold cj at aN;rw[bE]at aN;obtain⟨cs,T,c1,c2,c3,c4,c5⟩:=aN.2 aQ;have aP:n<xs.length:=aP;obtain⟨a_,d1,d2⟩:=c5 n aP;have d2:bu C.P (.slice e) F w a_ xs[n]:=d2;obtain⟨u,rfl,hu⟩:=BG (t:=.slice e) rfl d2;have tf:cs.getD ((κ b).off+n) Go.undef=u:=by
     have:=d1 0 (by simp);simp only[af.size,Nat.mul_one,Nat.add_zero]at this;rw[Array.getD_eq_getD_getElem?,this];rfl
    have fV:fe s.ae κ (λq=>if q=b then (⟨g,.fQ (.st (.slice e)) xs n (.val (.slice e) (xs.getD n []))⟩:bw) else s.ae q) κ:=
     qG aA (λh=>by cases h) (λ_=>by rw[bE];exact⟨rfl,rfl,rfl⟩) (λh=>by cases h) (λh=>by cases h)
    have cu:=aa.oV (b:=b) (x:=⟨g,.fQ (.st (.slice e)) xs n (.val (.slice e) (xs.getD n []))⟩) (w':=w) (by rw[bE];simp[bC.bN,aQ]) (by simp[bC.bN,aQ]) fV (λh=>by cases h) (λh=>by cases h) (λ_ _=>rfl) rfl (cN.refl w) λH mE bX he=>
     ⟨aQ,cs,T,c1,c2,c3,c4,⟨rfl,aP⟩,λj aD _=>c5 j aD,by rw[tf,show xs.getD n []=xs[n] by simp[aP]];exact (dC rfl).2 ⟨hu,d2⟩,by rw[tf];exact JL (t:=.slice e) rfl d2⟩
    refine⟨κ,F,{ cu with bG:=λj=>?_,dn:=cu.dn,dfr:=cu.dfr,bq:=cu.bq,pro:=λl aK L m st aV=>?_ }⟩
    ·show bl _ _ _ _ _ (if j=i then _ else _) _;split
     ·rename_i aD;subst aD;refine⟨⟨by show g<=(if b=b then _ else _:bw).gen;simp,hv.1.2⟩,λ_ _=>?_⟩;show _<(if b=b then _ else _:bw).body.len/\_/\_=Value.pointer (some ⟨_,_+_*(if b=b then _ else _:bw).body.eK,_⟩);simp only[if_true];exact⟨aP,aQ,bB⟩
     ·exact cu.bG j
    ·have aV:(if TRS=i then _ else _)=aF.tr l aK L m st:=aV;split at aV
     ·cases aV
     ·exact cu.pro l aK L m st aV
   ·cases h
  ·cases h
 ·cases h
theorem ahJ{C:bS}{s s':az}{b:Nat}{a:Act}{w:World}(h:Lj s b=some s')(aa:b' C s a w):b' C s' a w:=by
 obtain⟨κ,F,aa⟩:=aa;unfold Lj at h;split at h
 ·rename_i e xs n v bE;split at h
  ·rename_i y fl aO;split at h
   ·cases h
   ·rename_i p0;cases h;have p0:b ∉ fl:=by simpa using p0
    obtain⟨F',f1,aY,f2⟩:=bc.k0 (mD aO) aa;have zk:(s.cd fl).ae b=s.ae b:=by simp[az.cd,p0]
    have aN:=aa.bq b;have MD:=aY.bq b;unfold cj at aN MD;rw[zk,bE]at MD;rw[bE]at aN;obtain⟨h0,cs,T,c1,c2,c3,c4,c5,lA,n_,wU⟩:=MD;obtain⟨_,cS,hH,Uh,_,_,_,_,_,ahK,_⟩:=aN;rw[c1]at Uh;cases Uh;have uX:=l5 aa.bq f1 aO f2 ahK;obtain⟨GP,ou⟩:=(dC rfl).1 uX;have fV:fe (s.cd fl).ae κ (λq=>if q=b then (⟨(s.ae b).gen,.a8 (.st (.slice e)) (xs.set n y)⟩:bw) else (s.cd fl).ae q) κ:=
     qG (by rw[zk]) (λh=>by cases h) (λ_=>by rw[zk,bE];exact⟨rfl,by simp[bC.len],rfl⟩) (λh=>by cases h) (λh=>by cases h)
    refine⟨κ,F',aY.oV (b:=b) (w':=w) (by rw[zk,bE];simp[bC.bN,h0]) (by simp[bC.bN,h0]) fV (λh=>by cases h) (λh=>by cases h) (λ_ _=>rfl) rfl (cN.refl w) λH mE bX he=>⟨λaB=>(by rw[h0]at aB;cases aB),λ_=>⟨cs,T,c1,c2,by simpa using c3,c4,λj aD=>?_⟩⟩⟩;by_cases qF:j=n
    ·subst qF;refine⟨[cs.getD ((κ b).off+j) Go.undef],λq bf=>?_,?_⟩
     ·have bf:q=0:=by simpa using bf
      subst bf;have:(κ b).off+j<cs.size:=by
       have:=c5.2;simp only[af.size,Nat.mul_one]at c2;omega
      simp[af.size,this]
     ·rw[List.getElem_set_self];exact ou
    ·obtain⟨a_,d1,d2⟩:=lA j (by simpa using aD) qF;exact⟨a_,d1,by rw[List.getElem_set_ne (Ne.symm qF)];exact d2⟩
  ·cases h
 ·cases h
theorem ahL:∀ (ann:ch),(∀ (C:bS) (_:C.P.follows .mixedOrders=true) (_:dz C.P T) (_:jc C.P a6) (_:lM C.P C.aM Ψ) (_:C.r=none\/ann.dO=true) {β:Type} (c:Code) (s:az) (k:cT->az->M β) (O:β->Prop) (Q:Exit->Act->World->Prop) (a:Act) (w:World),k7 C.nt c=true->b' C s a w->M.ca (ej C.aM T a6 Ψ ann c s k) O->(∀ u,C.jG u->∀ e s' a' w',b' (C.gT u) s' a' w'->M.ca (k e s') O->Q e.pc a' w')->c.wpIn (dy C.r) 0 C.P Q a w)/\(ann.oh=true->∀ (C:bS) (_:C.P.follows .mixedOrders=true) (_:dz C.P T) (_:jc C.P a6) (_:lM C.P C.aM Ψ) (_:C.r=none\/ann.dO=true) {β:Type} (c:Code) (s:az) (k:cT->az->M β) (O:β->Prop) (Q:Exit->Act->World->Prop) (a:Act) (w:World),k7 C.nt c=true->b' C s a w->M.ca (ej C.aM T a6 Ψ ann (.loop c) s k) O->(∀ u,C.jG u->∀ e s' a' w',b' (C.gT u) s' a' w'->M.ca (k e s') O->Q e.pc a' w')->GY (dy C.r) 0 C.P c Q a w):=by
 intro ann;induction ann with
 | ew=>
  refine⟨?_,λ_ C dQ hT cf cF fD β c s k O Q a w hc aa ao aj=>by unfold ej at ao;exact (gi ao).elim⟩;intro C dQ hT cf cF fD β c s k O Q a w hc aa ao aj;unfold ej at ao;split at ao
  ·rename_i id ops draw;cases draw with
   | true=>exact ag5 dQ hT (Tw cf cF) cF (λo ah=>List.all_eq_true.1 hc o ah) (λs' a' w' aY e8=>aj C.hl C.vh .normal s' a' w' aY e8) aa ao
   | false=>
    refine wpIn_region ?_;have:=L4 (Q:=Q) (ops:=ops) hT cf cF (λo ah=>List.all_eq_true.1 hc o ah) (k:=k .normal) (O:=O) (λs' a' w' aY e8=>aj C.hl C.vh .normal s' a' w' aY e8) ops.toList 0 [] s a w (by simp) (λp hp=>by cases hp) aa ao;rw[List.range_eq_range'];omega
  ·exact wpIn_skip (aj C.hl C.vh .normal s a w aa ao)
  ·exact wpIn_label (aj C.hl C.vh .normal s a w aa ao)
  ·exact wpIn_exit (aj C.hl C.vh (.exit _) s a w aa ao)
  ·exact wpIn_ret (aj C.hl C.vh .ret s a w aa ao)
  ·exact (gi ao).elim
 | seq x y hd k_=>
  have hd:=hd.1;have k_:=k_.1;refine⟨?_,λh=>by simp[ch.oh]at h⟩;intro C dQ hT cf cF fD β c s k O Q a w hc aa ao aj;have lP:C.r=none\/x.dO=true:=fD.imp id λh=>by simp only[ch.dO,Bool.and_eq_true]at h;grind
  have qf:C.r=none\/y.dO=true:=fD.imp id λh=>by simp only[ch.dO,Bool.and_eq_true]at h;grind
  unfold ej at ao;split at ao
  ·rename_i nO z1;simp only[k7,Bool.and_eq_true]at hc;refine wpIn_seq (hd C dQ hT cf cF lP nO s _ O _ a w hc.1 aa ao λu hu e s' a' w' aY e8=>?_);cases e with
   | normal=>exact k_ (C.gT u) dQ hT cf cF qf z1 s' k O Q a' w' hc.2 aY e8 λv hv=>by rw[bS.zW];exact aj _ (hu.then hv)
   | exit id=>exact aj u hu (.exit id) s' a' w' aY e8
   | ret=>exact aj u hu .ret s' a' w' aY e8
  ·exact (gi ao).elim
 | join sh x y hd k_=>
  have hd:=hd.1;have k_:=k_.1;refine⟨?_,λh=>by simp[ch.oh]at h⟩;intro C dQ hT cf cF fD β c s k O Q a w hc aa ao aj;have lP:C.r=none\/x.dO=true:=fD.imp id λh=>by simp only[ch.dO,Bool.and_eq_true]at h;grind
  have qf:C.r=none\/y.dO=true:=fD.imp id λh=>by simp only[ch.dO,Bool.and_eq_true]at h;grind
  unfold ej at ao;split at ao
  ·rename_i nO z1;simp only[k7,Bool.and_eq_true]at hc;rw[M.fJ]at ao;refine wpIn_seq (hd C dQ hT cf cF lP nO s _ _ _ a w hc.1 aa ao λu hu e s' a' w' aY e8=>?_);cases e with
   | normal=>
    obtain⟨A,nK,h2⟩:=tN e8;have h3:=M.dI.1 h2;exact k_ (C.gT u) dQ hT cf cF qf z1 _ k O Q a' w' hc.2 (dp.xl nK aY) h3 λv hv=>by rw[bS.zW];exact aj _ (hu.then hv)
   | exit id=>
    simp only[xj,M.fJ,M.dI,ab.bm]at e8;exact aj u hu (.exit id) s' a' w' aY e8
   | ret=>
    simp only[xj,M.fJ,M.dI,ab.bm]at e8;exact aj u hu .ret s' a' w' aY e8
  ·exact (gi ao).elim
 | cond x y hd k_=>
  have hd:=hd.1;have k_:=k_.1;refine⟨?_,λh=>by simp[ch.oh]at h⟩;intro C dQ hT cf cF fD β c s k O Q a w hc aa ao aj;have lP:C.r=none\/x.dO=true:=fD.imp id λh=>by simp only[ch.dO,Bool.and_eq_true]at h;grind
  have qf:C.r=none\/y.dO=true:=fD.imp id λh=>by simp only[ch.dO,Bool.and_eq_true]at h;grind
  unfold ej at ao;split at ao
  ·rename_i co nO z1;simp only[k7,Bool.and_eq_true]at hc;unfold SL at ao;split at ao
   ·rename_i t hu;obtain⟨κ,F,eH⟩:=aa;have hv:=j1 eH co;rw[hu]at hv;refine wpIn_cond_split (eY.1 hv) (λaI=>?_) (λaI=>?_)
    ·subst aI;exact hd C dQ hT cf cF lP nO s k O Q a w hc.1 ⟨κ,F,eH⟩ ao aj
    ·subst aI;exact k_ C dQ hT cf cF qf z1 s k O Q a w hc.2 ⟨κ,F,eH⟩ ao aj
   ·rename_i g t hu;rw[M.kD]at ao;obtain⟨aZ,ao⟩:=ao;obtain⟨κ,F,eH⟩:=aa;have hv:=j1 eH co;rw[hu]at hv;refine wpIn_cond_split (eY.1 (hv.1 aZ)) (λaI=>?_) (λaI=>?_)
    ·subst aI;exact hd C dQ hT cf cF lP nO s k O Q a w hc.1 ⟨κ,F,eH⟩ ao aj
    ·subst aI;exact k_ C dQ hT cf cF qf z1 s k O Q a w hc.2 ⟨κ,F,eH⟩ ao aj
   ·exact (gi ao).elim
  ·exact (gi ao).elim
 | block x hd=>
  have hd:=hd.1;refine⟨?_,λh=>by simp[ch.oh]at h⟩;intro C dQ hT cf cF fD β c s k O Q a w hc aa ao aj;have lP:C.r=none\/x.dO=true:=fD;unfold ej at ao;split at ao
  ·rename_i id nO;refine wpIn_block (hd C dQ hT cf cF lP nO s _ O _ a w hc aa ao λu hu e s' a' w' aY e8=>?_);cases e with
   | normal=>exact aj u hu .normal s' a' w' aY e8
   | exit F_=>
    simp only[SK]at e8;simp only[cT.pc,Exit.inBlock];split at e8
    ·rename_i e;rw[if_pos e];exact aj u hu .normal s' a' w' aY e8
    ·rename_i e;rw[if_neg e];exact aj u hu (.exit F_) s' a' w' aY e8
   | ret=>exact aj u hu .ret s' a' w' aY e8
  ·exact (gi ao).elim
 | loop sh x hd=>
  have hd:=hd.1;refine⟨?_,λh=>by simp[ch.oh]at h⟩;intro C dQ hT cf cF fD β c s k O Q a w hc aa ao aj;have lP:C.r=none\/x.dO=true:=fD;unfold ej at ao;split at ao
  ·rename_i nO;obtain⟨A,nK,h2⟩:=tN ao;refine ahB (I:=λA a w=>∃ u,C.jG u/\b' (C.gT u) (sh.st A) a w) (O:=O) (λA a w ⟨v,hv,ei⟩ qS C5=>?_) h2.1 h2.2 ⟨C.hl,C.vh,dp.xl nK aa⟩;refine hd (C.gT v) dQ hT cf cF lP nO (sh.st A) _ (MC (ej C.aM T a6 Ψ x nO (sh.st A) (xj k λs'=>sh.mL s' λiA=>M.pure (ab.next iA))) O) _ a w hc ei ⟨qS,λst fF=>?_⟩ λu hu e s' a' w' aY e8=>?_
   ·cases st with
    | next iA=>exact fF
    | done r=>exact C5 r fF
   ·cases e with
    | normal=>
     obtain⟨iA,Mn,h3⟩:=tN e8;have aT:=M.dI.1 h3;exact⟨iA,aT,_,hv.then hu,by rw[<-bS.zW];exact dp.xl Mn aY⟩
    | exit id=>
     simp only[xj,M.fJ,M.dI,MC]at e8;exact aj _ (hv.then hu) (.exit id) s' a' w' (by rw[<-bS.zW];omega) e8
    | ret=>
     simp only[xj,M.fJ,M.dI,MC]at e8;exact aj _ (hv.then hu) .ret s' a' w' (by rw[<-bS.zW];omega) e8
  ·exact (gi ao).elim
 | scope x hd=>
  have hd:=hd.1;refine⟨?_,λh=>by simp[ch.oh]at h⟩;intro C dQ hT cf cF fD β c s k O Q a w hc aa ao aj;have lP:C.r=none\/x.dO=true:=fD;unfold ej at ao;split at ao
  ·rename_i nO;refine ahH (hd C dQ hT cf cF lP nO s _ O _ a w hc aa ao λu hu e s' a' w' aY e8=>?_);have:=aj u hu e s' a' w' aY e8;cases e<;>exact this
  ·exact (gi ao).elim
 | range sh rin rout x y hd k_=>
  have hd:=hd.1;have k_:=k_.1;refine⟨?_,λh=>by simp[ch.oh]at h⟩;intro C dQ hT cf cF fD β c s k O Q a w hc aa ao aj;unfold ej at ao;split at ao
  ·rename_i g ps assign body;simp only[k7,Bool.and_eq_true,List.all_eq_true,decide_eq_true_eq]at hc;obtain⟨axC,Ui,Uj⟩:=hc;split at ao
   ·rename_i q4 n eF aA;split at ao
    ·rename_i ic ahM;split at ao
     ·rename_i axD fl hx;split at ao
      ·rename_i dJ;simp only[Bool.and_eq_true]at dJ;obtain⟨dJ,lP,qf⟩:=dJ;obtain⟨A,nK,h2⟩:=tN ao;rw[M.kD,M.fJ]at h2;simp only[SM]at h2;have iD:C.r=none:=fD.resolve_right λh=>by cases h
       have ME:nJ sh rout ic.aK ps.toList C.nt=true:=by
        simp only[nJ,Bool.and_eq_true,List.all_eq_true,decide_eq_true_eq]at dJ ⊢;grind
       refine ahw iD aa aA (cF q4 _ ahM) hx ME nK h2.1 h2.2 (λl=>?_) aj;intro C1 jg tk rb tx eh bR bY qc j5 j_;have h:=hd C1 (jg ▸ dQ) (jg ▸ hT) (jg ▸ cf) (by grind) (.inr lP) assign eh (Ga λdu=>ej C.aM T a6 Ψ y body du λe ek=>rout.mL ek λτ=>M.pure (e,τ)) qc
        (Exit.then (λa2 cy=>∃ u du,C1.jG u/\b' (C1.gT u) du a2 cy/\
         ∀ (hb:bS),hb.P=C.P->hb.aM=C.aM->hb.nt=C.nt->hb.r=some l->∀ (cy:World),b' hb du a2 cy->
          body.wpIn (dy (some l)) 0 C.P (λe a3 eo=>∃ (aV:cT) (v:nM) (ek:az) (τ:rout.ai),e=aV.pc/\hb.jG v/\b' (hb.gT v) ek a3 eo/\rout.iR ek=some τ/\qc (aV,τ)) a2 cy) (λ_ _ _=>False)) bR bY (rb ▸ Ui) j5 (tk ▸ j_)
        λu hu e du a2 cy cu pf=>?_
       ·grind
       ·cases e with
        | normal=>
         refine⟨u,du,hu,cu,λhb xF MF MG ahN cy mh=>?_⟩;have h:=k_ hb (xF ▸ dQ) (xF ▸ hT) (xF ▸ cf) (by grind) (.inr qf) body du (λe ek=>rout.mL ek λτ=>M.pure (e,τ)) qc
          (λe a3 eo=>∃ (aV:cT) (v:nM) (ek:az) (τ:rout.ai),e=aV.pc/\hb.jG v/\b' (hb.gT v) ek a3 eo/\rout.iR ek=some τ/\qc (aV,τ)) a2 cy (MG ▸ Uj) mh (MF ▸ pf) λv hv e ek a3 eo ov GZ=>by
           obtain⟨τ,hτ,bx⟩:=tN GZ;exact⟨e,v,ek,τ,rfl,hv,ov,hτ,M.dI.1 bx⟩
         grind
        | exit id=>exact (gi pf).elim
        | ret=>exact (gi pf).elim
      ·exact (gi ao).elim
     ·exact (gi ao).elim
    ·exact (gi ao).elim
   ·rename_i aK S aA;split at ao
    ·rename_i dJ;simp only[Bool.and_eq_true]at dJ;obtain⟨dJ,lP,qf⟩:=dJ;obtain⟨A,nK,h2⟩:=tN ao;rw[M.fJ]at h2;have iD:C.r=none:=fD.resolve_right λh=>by cases h
     have ME:nJ sh rout aK ps.toList C.nt=true:=by
      simp only[nJ,Bool.and_eq_true,List.all_eq_true,decide_eq_true_eq]at dJ ⊢;grind
     refine ahy iD aa aA ME nK h2.1 (λL gh=>by have h3:=M.fJ.1 (h2.2 L gh);simp only[SM]at h3;exact h3) (λl=>?_) aj;intro C1 jg tk rb tx eh bR bY qc j5 j_;have h:=hd C1 (jg ▸ dQ) (jg ▸ hT) (jg ▸ cf) (by grind) (.inr lP) assign eh (Ga λdu=>ej C.aM T a6 Ψ y body du λe ek=>rout.mL ek λτ=>M.pure (e,τ)) qc
      (Exit.then (λa2 cy=>∃ u du,C1.jG u/\b' (C1.gT u) du a2 cy/\
       ∀ (hb:bS),hb.P=C.P->hb.aM=C.aM->hb.nt=C.nt->hb.r=some l->∀ (cy:World),b' hb du a2 cy->
        body.wpIn (dy (some l)) 0 C.P (λe a3 eo=>∃ (aV:cT) (v:nM) (ek:az) (τ:rout.ai),e=aV.pc/\hb.jG v/\b' (hb.gT v) ek a3 eo/\rout.iR ek=some τ/\qc (aV,τ)) a2 cy) (λ_ _ _=>False)) bR bY (rb ▸ Ui) j5 (tk ▸ j_)
      λu hu e du a2 cy cu pf=>?_
     ·grind
     ·cases e with
      | normal=>
       refine⟨u,du,hu,cu,λhb xF MF MG ahN cy mh=>?_⟩;have h:=k_ hb (xF ▸ dQ) (xF ▸ hT) (xF ▸ cf) (by grind) (.inr qf) body du (λe ek=>rout.mL ek λτ=>M.pure (e,τ)) qc
        (λe a3 eo=>∃ (aV:cT) (v:nM) (ek:az) (τ:rout.ai),e=aV.pc/\hb.jG v/\b' (hb.gT v) ek a3 eo/\rout.iR ek=some τ/\qc (aV,τ)) a2 cy (MG ▸ Uj) mh (MF ▸ pf) λv hv e ek a3 eo ov GZ=>by
         obtain⟨τ,hτ,bx⟩:=tN GZ;exact⟨e,v,ek,τ,rfl,hv,ov,hτ,M.dI.1 bx⟩
       grind
      | exit id=>exact (gi pf).elim
      | ret=>exact (gi pf).elim
    ·exact (gi ao).elim
   ·exact (gi ao).elim
  ·exact (gi ao).elim
 | nI x y hd k_=>
  refine ahD (λ_ C dQ hT cf cF fD β c s k O Q a w hc aa ao aj=>?_) λkey C dQ hT cf cF fD β c s k O Q a w hc aa ao aj=>?_
  ·have lP:C.r=none\/x.dO=true:=fD.imp id λh=>by simp only[ch.dO,Bool.and_eq_true]at h;grind
   have qf:C.r=none\/y.dO=true:=fD.imp id λh=>by simp only[ch.dO,Bool.and_eq_true]at h;grind
   unfold ej at ao;simp only at ao;split at ao
   ·rename_i hu;refine ahF (hd.1 C dQ hT cf cF lP c s _ O _ a w hc aa ao λu xo e s' a' w' aY e8=>?_);cases e with
    | normal=>exact k_.2 hu (C.gT u) dQ hT cf cF qf c s' k O Q a' w' hc aY e8 λv hv=>by rw[bS.zW];exact aj _ (xo.then hv)
    | exit id=>exact aj u xo (.exit id) s' a' w' aY e8
    | ret=>exact aj u xo .ret s' a' w' aY e8
   ·exact (gi ao).elim
  ·cases c with
   | loop nO=>exact ahE (key rfl C dQ hT cf cF fD nO s k O Q a w hc aa ao aj)
   | _=>unfold ej at ao;exact (gi ao).elim
 | F9=>
  refine⟨?_,λh=>by simp[ch.oh]at h⟩;intro C dQ hT cf cF fD β c s k O Q a w hc aa ao aj;unfold ej at ao;split at ao
  ·rename_i id ops draw;split at ao
   ·rename_i h;rw[Bool.and_eq_true]at h;obtain⟨rfl,h⟩:=h;exact ag' dQ (fD.resolve_right (by simp[ch.dO])) h hT (Tw cf cF) cF (λo ah=>List.all_eq_true.1 hc o ah) (λs' a' w' aY e8=>aj C.hl C.vh .normal s' a' w' aY e8) aa ao
   ·exact (gi ao).elim
  ·exact (gi ao).elim
 | nD i x aJ=>
  have aJ:=aJ.1;refine⟨?_,λh=>by simp[ch.oh]at h⟩;intro C dQ hT cf cF fD β c s k O Q a w hc aa ao aj;unfold ej at ao;split at ao
  ·rename_i s' hv;exact aJ C dQ hT cf cF fD c s' k O Q a w hc (ahI hv aa) ao aj
  ·exact (gi ao).elim
 | F8 b x aJ=>
  have aJ:=aJ.1;refine⟨?_,λh=>by simp[ch.oh]at h⟩;intro C dQ hT cf cF fD β c s k O Q a w hc aa ao aj;unfold ej at ao;split at ao
  ·rename_i s' hv;exact aJ C dQ hT cf cF fD c s' k O Q a w hc (ahJ hv aa) ao aj
  ·exact (gi ao).elim
 | num i n x aJ=>
  have aJ:=aJ.1;refine⟨?_,λh=>by simp[ch.oh]at h⟩;intro C dQ hT cf cF fD β c s k O Q a w hc aa ao aj;unfold ej at ao;split at ao
  ·rename_i v f hv;rw[M.kD]at ao;have h:=ao.2;rw[aeP hv ao.1]at h;exact aJ C dQ hT cf cF fD c s k O Q a w hc aa h aj
  ·exact (gi ao).elim
 | split i off n x aJ=>
  have aJ:=aJ.1;refine⟨?_,λh=>by simp[ch.oh]at h⟩;intro C dQ hT cf cF fD β c s k O Q a w hc aa ao aj;unfold ej at ao;split at ao
  ·rename_i v f hv;rw[M.kD]at ao;have h:=SH ao.2 ao.1.1 ao.1.2;rw[aeO hv ao.1.1]at h;exact aJ C dQ hT cf cF fD c s k O Q a w hc aa h aj
  ·exact (gi ao).elim
theorem Uk(ann:ch):∀ (C:bS) (_:C.P.follows .mixedOrders=true) (_:dz C.P T) (_:jc C.P a6) (_:lM C.P C.aM Ψ) (_:C.r=none\/ann.dO=true) {β:Type} (c:Code) (s:az) (k:cT->az->M β) (O:β->Prop) (Q:Exit->Act->World->Prop) (a:Act) (w:World),k7 C.nt c=true->b' C s a w->M.ca (ej C.aM T a6 Ψ ann c s k) O->(∀ u,C.jG u->∀ e s' a' w',b' (C.gT u) s' a' w'->M.ca (k e s') O->Q e.pc a' w')->c.wpIn (dy C.r) 0 C.P Q a w:=(ahL ann).1
end
end Go.Fer
namespace Go.Fer
open Go.RowKit
def Dm(T:Nat->af)(s:az):List ResultVar->Option (List aF)
 | []=>some []
 | r::l=>match Dm T s l with
  | none=>none
  | some aC=>match r with
   | .tmp t=>some (s.ax t::aC)
   | .cell a ty=>match (y2 (T ty) (s.ax a)).run s.ae with
    | some v=>some (v::aC)
    | none=>none
def MH(t:af)(n:Nat):Bool:=
 match t with
 | .ay _ _=>n != 1
 | .cA=>n == 0
 | _=>n == 1
def vl(T:Nat->af)(kq:List ResultVar)(tr:af)(e:cT)(s:az):M tr.ai:=
 match e with
 | .exit _=>M.fail
 | _=>match Dm T s kq with
  | some avs=>match (iN tr avs).run s.ae with
   | some (y,_)=>M.pure y
   | none=>M.fail
  | none=>M.fail
def z6(t:af)(x:t.ai)(n:Nat):List (Nat×aF):=(List.range n).map λi=>(i,kl t x i)
def sg(t:af):Nat:=if t=.cA then 0 else jZ t
def ph(t:af)(x:t.ai):az:=Su (z6 t x (sg t)) []
def Dn(U:dm)(T:Nat->af)(a6:Nat->Option aL)(Ψ:Nat->Option eN)(fn:Func)(c:Code)(ann:ch)(ts tr:af)(x:ts.ai):M tr.ai:=
 ej U T a6 Ψ ann c (ph ts x) (vl T fn.results.toList tr)
def G0(av:aF):aF:=match av with | .val (.br e) p=>.dD e (p.getD e.cP) | v=>v
def Dp(av:aF):Prop:=match av with | .val (.br _) p=>p.isSome=true | _=>True
def G1(n:Nat)(s:az):az:=⟨λi=>if i<n\/eC<i then s.ax i else G0 (s.ax i),s.ae⟩
def Dq(n:Nat)(s:az):Prop:=∀ i,¬(i<n\/eC<i)->Dp (s.ax i)
def ahO(U:dm)(T:Nat->af)(a6:Nat->Option aL)(Ψ:Nat->Option eN)(fn:Func)(c:Code)(ann:ch)(n:Nat)(ts tr:af)(x:ts.ai):M tr.ai:=
 M.ag (Dq n (ph ts x)) (ej U T a6 Ψ ann c (G1 n (ph ts x)) (vl T fn.results.toList tr))
def Dr(fn:Func)(c:Code)(ts tr:af):Bool:=
 k7 fn.ntmps c && MH tr fn.results.size && decide (sg ts <= fn.ntmps) && !(fn.name == "runtime.NumGoroutine") && decide (fn.ntmps <= eC)
def z7:z9'->List aF->Option (List aF)
 | [],[]=>some []
 | none::g,v::aC=>match z7 g aC with
  | some l=>some (v::l)
  | none=>none
 | some n::g,v::aC=>match v,z7 g aC with
  | .agg m f,some l=>if m=n then some ((List.range n).map f++l) else none
  | _,_=>none
 | _,_=>none
def G2(T:Nat->af)(kq:List ResultVar)(ks:z9')(bD:dp)(e:cT)(s:az):M bD.ai:=
 match e with
 | .exit _=>M.fail
 | _=>match Dm T s kq with
  | some avs=>match z7 ks avs with
   | some l=>match decide (l.length<=eC) with
    | true=>bD.mL (r1 s l) λτ=>M.pure τ
    | false=>M.fail
   | none=>M.fail
  | none=>M.fail
def MI(U:dm)(T:Nat->af)(a6:Nat->Option aL)(Ψ:Nat->Option eN)(fn:Func)(c:Code)(ann:ch)(b6 bD:dp)(ks:z9')(A:b6.ai):M bD.ai:=
 ej U T a6 Ψ ann c (b6.st A) (G2 T fn.results.toList ks bD)
def Ds(fn:Func)(c:Code)(j9:Nat)(ks:z9'):Bool:=
 k7 fn.ntmps c && decide (fn.results.size = ks.length) && decide (j9 <= fn.ntmps) && !(fn.name == "runtime.NumGoroutine") && decide (fn.ntmps <= eC)
section
variable {C:bS} {T:Nat->af} {a6:Nat->Option aL} {Ψ:Nat->Option eN}
def z8(tmps:Array Value)(r:ResultVar):Sem Value:=
 match r with
 | .tmp t=>pure (tmps.getD t undef)
 | .cell b t=>do loadVar t (<-asAddr (tmps.getD b undef))
theorem Ul(fn:Func)(tmps:Array Value):results fn tmps=(fn.results.mapM (z8 tmps) >>= λaC=>pure (if h:aC.size=1 then aC[0] else .tuple aC)):=by
 rfl
theorem Um(hT:dz C.P T){s:az}{a:Act}{w:World}{κ:Nat->bo}{F:Nat->Prop}(aa:bc C s a w κ F):∀ (kq:List ResultVar) {avs:List aF},Dm T s kq=some avs->
  ∃ aC:List Value,(kq.mapM (z8 a.tmps)).run C.P w=.ok aC w/\aC.length=kq.length/\avs.length=kq.length/\
   ∀ i (h:i<avs.length) (da:i<aC.length),bl C.P s.ae κ F w avs[i] aC[i]:=by
 intro kq;induction kq with
 | nil=>intro avs h;cases h;simp
 | cons r kq aJ=>
  intro avs h;simp only[Dm]at h;split at h
  ·cases h
  ·rename_i l an;obtain⟨aC,h1,h2,h3,aT⟩:=aJ an;have one:∃ av v,avs=av::l/\(z8 a.tmps r).run C.P w=.ok v w/\bl C.P s.ae κ F w av v:=by
    split at h
    ·rename_i t;cases h;exact⟨_,_,rfl,rfl,aa.bG t⟩
    ·rename_i b ty;split at h
     ·rename_i v hv;cases h;obtain⟨u,aP,aQ⟩:=Ru hT aa hv (aa.bG b);refine⟨v,u,rfl,?_,aQ⟩;unfold Instr.loadAt at aP;unfold z8;simp only;generalize a.tmps.getD b Go.undef=z at aP ⊢;cases z with
      | pointer p=>
       cases p with
       | none=>simp[Instr.sureAddr]at aP
       | some p=>simpa [Instr.sureAddr,asAddr]using aP
      | _=>simp[Instr.sureAddr]at aP
     grind
   obtain⟨av,v,rfl,aP,aQ⟩:=one;refine⟨v::aC,?_,by grind,by grind,λi G ds=>?_⟩
   ·simp_all
   grind
theorem ahP(hT:dz C.P T){fn:Func}{tr:af}(re:MH tr fn.results.size=true){e:cT}{s:az}{a:Act}{w:World}{O:tr.ai->Prop}(aa:b' C s a w)(ao:M.ca (vl T fn.results.toList tr e s) O) :
  (∀ id,e≠.exit id)/\∃ κ F v y,bc C s a w κ F/\(results fn a.tmps).run C.P w=.ok v w/\O y/\∃ F',(∀ r,F' r->C.F0 r\/¬C.K0 r)/\(∀ r,F' r->r<w.heap.size)/\s7 C.P tr F' w v y:=by
 obtain⟨κ,F,aa⟩:=aa;unfold vl at ao;split at ao
 ·exact (gi ao).elim
 ·rename_i dY;refine⟨λid he=>dY id he,?_⟩;split at ao
  ·rename_i avs MJ;split at ao
   ·rename_i y l aO;obtain⟨aC,h1,h2,h3,aT⟩:=Um hT aa _ MJ;obtain⟨F',f1,aY,f2⟩:=bc.k0 (p2 _ aO) aa;have dF:=u1 (F':=F') aa.bq f1 tr aO f2 (by omega) aT;have cK:(results fn a.tmps).run C.P w=.ok (if h:aC.toArray.size=1 then aC.toArray[0] else .tuple aC.toArray) w:=by
     rw[Ul,Sem.run_bind];have:(fn.results.mapM (z8 a.tmps)).run C.P w=.ok aC.toArray w:=by
      rw[Array.mapM_eq_mapM_toList,map_eq_pure_bind,Sem.run_bind,h1];rfl
     simp_all
    refine⟨κ,F,_,y,aa,cK,M.dI.1 ao,F',aY.gO,aY.cM,aC,?_,dF⟩;have bV:aC.length=fn.results.size:=by omega
    rw[<-bV]at re;clear cK dF h1 aT h2 bV aO;have one:aC.length=1->aC=[if h:aC.toArray.size=1 then aC.toArray[0] else .tuple aC.toArray]:=by
     intro h;match aC,h with
     | [v],_=>rfl
    cases tr<;>simp only[MH,beq_iff_eq,bne_iff_ne,ne_eq]at re<;>simp only[yR];case ay=>rw[dif_neg (by simpa using re)]
    case cA=>
     have:aC=[]:=List.length_eq_zero_iff.1 re;subst this;exact⟨rfl,rfl⟩
    all_goals exact one re
   ·exact (gi ao).elim
  ·exact (gi ao).elim
theorem Un{l:List (Nat×aF)}{i:Nat}:ff l i=.undef\/(i,ff l i)∈l:=by
 induction l with
 | nil=>exact .inl rfl
 | cons p l aJ=>
  simp only[ff];grind
theorem tS{P : Program}{k : FuncId}{fn : Func}{c : Code}(au : P.funcs[k]? = some fn)(ad : fn.body = some c)(aB : (fn.name == "runtime.NumGoroutine") = false)(args : Array Value)(w : World) :
  (callFunc k args).run P w=.ok (.enter k args) w:=by
 have aB : ¬ fn.name = "runtime.NumGoroutine" := by grind
 simp[callFunc,au,ad,aB]
def pj(w:World):List Nat->World
 | []=>w
 | B::ms=>pj (w.putObj B (.deferred none)) ms
theorem Uo:∀ (ms:List Nat) (w:World),(pj w ms).heap.size=w.heap.size
 | [],_=>rfl
 | _::ms,_=>(Uo ms _).trans World.putObj_size
theorem MK:∀ (ms:List Nat) (w:World) {r:Nat},r ∉ ms->(pj w ms).heap[r]?=w.heap[r]?
 | [],_,_,_=>rfl
 | B::ms,w,r,h=>by
  simp only[List.mem_cons,not_or]at h;exact (MK ms _ h.2).trans (World.putObj_heap_other h.1)
theorem Up:∀ (ms:List Nat) (w:World),cN w (pj w ms)
 | [],w=>cN.refl w
 | B::ms,w=>by
  have h:cN w (w.putObj B (.deferred none)):=⟨rfl,rfl,rfl⟩
  exact h.trans (Up ms _)
theorem ML{P:Program}{fn:Func}{tmps:Array Value}{R:Ending->World->Prop}:∀ (ms:List Nat) (w:World),ms.Nodup->(∀ B∈ms,w.heap[B]?=some (.deferred (some [])))->
  (∃ v,(results fn tmps).run P (pj w ms)=.ok v (pj w ms)/\R (.returned v) (pj w ms))->LeavesInM Fence.wide 0 P fn tmps R (ms.map ot) .returning w
 | [],w,_,_,h=>h
 | B::ms,w,aB,aN,h=>by
  simp only[List.nodup_cons]at aB;refine⟨by simp,.inl ⟨B,_,rfl,run_takeDeferred (aN B (by simp)),?_⟩⟩;exact ML ms _ aB.2 (λahQ da=>(World.putObj_heap_other λe=>aB.1 (by grind)).trans (aN ahQ (List.mem_cons_of_mem _ da))) h
theorem b'.Uq{u:nM}{s:az}{a:Act}{w:World}(hu:C.jG u)(ahR:∀ r,C.F0 r->r<C.w0.heap.size)(vb:∀ r,C.K0 r->r<C.w0.heap.size)(h:b' (C.gT u) s a w) :
  b' { C with dfr:=u.ms.map ot++C.dfr } s a (pj w u.ms)/\a.defers=u.ms.map ot++C.dfr/\∀ B∈u.ms,w.heap[B]?=some (.deferred (some [])):=by
 obtain⟨κ,F,h⟩:=h;have axE:∀ B∈u.ms,¬F B:=λB aN au=>by
  obtain⟨h1,_⟩:=hu.sd B aN;rcases h.gO B au with h2 | h2
  ·have:=ahR B h2;have:=(hu.ea B aN).2;omega
  ·exact h2 h1
 have bV:=Uo u.ms w;have hc:=Up u.ms w;refine⟨⟨κ,F,h.GM (w0:=C.w0) (w':=pj w u.ms) (K0:=C.K0) (r:=C.r) (λr aa=>hu.gU r aa) (λr aa=>MK _ _ λao=>?_) (Nat.le_of_eq bV.symm) hc vb (λr aa=>?_) ?_ ?_⟩,h.dfr,λB aN=>?_⟩
 ·rcases aa with aa | aa
  ·grind
  ·exact aa (hu.sd r ao).1
 ·exact (MK _ _ λao=>(hu.ea r ao).1 aa).trans ((h.eg r (hu.gU r aa)).trans (hu.eg r aa))
 ·rw[bV];exact Nat.le_trans hu.size h.size
 ·exact (hu.dV.trans h.dV).trans hc
 ·exact (h.eg B (hu.sd B aN).1).trans (hu.sd B aN).2
theorem Ur{P:Program}{U:dm}(dQ:P.follows .mixedOrders=true){k:FuncId}{fn:Func}{c:Code}{ann:ch}{ts tr:af}{sh:ts.ai->M tr.ai}(hT:dz P T)(hL:qE P U)(cf:jc P a6)(cF:lM P U Ψ)(au:P.funcs[k]?=some fn)(ad:fn.body=some c)
    (ct:Dr fn c ts tr=true) {s0:ts.ai->az} {pre:ts.ai->Prop} (mO:∀ x C a w,b' C (ph ts x) a w->pre x->b' C (s0 x) a w)
    (nq:∀ x,M.le (M.ag (pre x) (ej U T a6 Ψ ann c (s0 x) (vl T fn.results.toList tr))) (sh x)):hR P k ts tr sh:=by
  simp only[Dr,Bool.and_eq_true,Bool.not_eq_true',decide_eq_true_eq]at ct;obtain⟨⟨⟨⟨Dt,re⟩,ahS⟩,MM⟩,tK⟩:=ct;refine⟨tS au ad MM,λF w args x bd fT dF qS=>?_⟩;obtain⟨⟨gq,h1⟩,h2⟩:=nq x qS;have hlen:args.length=sg ts/\∀ i,i<sg ts->∀ (H:Nat->bw) (κ:Nat->bo),bl P H κ F w (kl ts x i) (args.getD i Go.undef):=by
    unfold sg;split
    · rename_i e
      subst e
      have:args=[]:=dF.1
      grind
    · rename_i e
      exact⟨(tp (H:=λ_=>⟨0,.fm⟩) (κ:=λ_=>⟨0,0,0,false⟩) ts dF e).1,λi G H κ=>(tp ts dF e).2 i G⟩
  let C:bS:={ P:=P,w0:=w,F0:=F,K0:=λr=>r<w.heap.size,nt:=fn.ntmps,r:=none,dfr:=[],h6:=λ_=>none,pr:=⟨0,.cA,λ_=>False,λ_ _ _ _ _=>False⟩,aM:=U }
  let a0:Act:={ tmps:=args.toArray++Array.replicate (fn.ntmps - args.toArray.size) undef,defers:=[] }
  let ahT:Nat->bo:=λ_=>⟨0,0,0,false⟩
  have p_:∀ i,(ph ts x).ax i=.undef\/(i<sg ts/\(ph ts x).ax i=kl ts x i):=λi=>by
    rcases Un (l:=z6 ts x (sg ts)) (i:=i) with e | e
    · exact .inl e
    · refine .inr ?_
      generalize ba:ff (z6 ts x (sg ts)) i=z at e
      simp only[z6,List.mem_map,List.mem_range,Prod.mk.injEq]at e
      obtain⟨j,aD,rfl,rfl⟩:=e
      exact⟨aD,ba⟩
  have aa:b' C (ph ts x) a0 w:=by
    refine⟨ahT, F, { dn := ?_, dfr := rfl, bG := λi => ?_, bq := λb => trivial, own := λb ad => (by cases ad), inj := λb a1 ad _ _ => (by cases ad), cM := bd, gO := λr aa => .inl aa, hE := λr aa => aa, g_ := λr aa => aa, eg := λr _ => rfl, size := Nat.le_refl _, dV := cN.refl w,fR:=tK,kg:=λb r h=>(by cases h),jv:=λb r h=>(by cases h),jX:=λb k h=>(by cases h),kh:=λb k h=>(by cases h),pro:=λl aK L n st e=>?_,jw:=hL,im:=fT }⟩
    · grind
    · rcases p_ i with e | ⟨G,e⟩
      · rw[e];simp only[bl]
      · rw[e]
        have:a0.tmps.getD i Go.undef=args.getD i Go.undef:=by
          have ds:i<args.length:=by omega
          simp[a0,Array.getD_eq_getD_getElem?,List.getD_eq_getElem?_getD,Array.getElem?_append,ds]
        grind
    · rcases p_ TRS with h | ⟨h,_⟩
      · grind
      · unfold TRS eC at *;omega
  refine callsIn_wide.1 (callsIn_of_wp_marks (F:=Fence.wide) (n:=0) au ad trivial ?_);have hw:=Uk ann C dQ hT cf cF (.inl rfl) (k:=vl T fn.results.toList tr) (O:=(ej U T a6 Ψ ann c (s0 x) (vl T fn.results.toList tr)).bD) (Q:=bodyPostM Fence.wide 0 P fn λe w'=>∃ v y,e=.returned v/\(sh x).bD y/\s7 P tr (uK F w w') w' v y/\Below w.heap.size w w') c (s0 x) a0 w Dt (mO x C a0 w aa gq) ⟨h1,λ_ h=>h⟩;refine hw λu hu e s' a' w' aY ao=>?_;obtain⟨cu,aw,aN⟩:=b'.Uq hu bd (λ_ h=>h) aY;obtain⟨dY,κ,zQ,v,y,eH,cK,aO,F',f1,f2,fU⟩:=ahP (C:={ C with dfr:=u.ms.map ot++C.dfr }) hT re cu ao;have tC:LeavesInM Fence.wide 0 P fn a'.tmps (λe w'=>∃ v y,e=.returned v/\(sh x).bD y/\s7 P tr (uK F w w') w' v y/\Below w.heap.size w w') a'.defers .returning w':=by
    rw[aw];simp only[C,List.append_nil];refine ML u.ms w' hu.mg aN ⟨v,cK,v,y,rfl,h2 y aO,?_,eH.dV.os,eH.dV.tape,eH.dV.output,eH.size,eH.eg⟩;obtain⟨aC,aP,aQ,bB⟩:=fU;refine⟨aC,aP,aQ,eX tr (λr aa=>?_) (cJ.refl _ _) bB⟩;rcases f1 r aa with h | h
    · exact .inl h
    · exact .inr ⟨Nat.le_of_not_lt h,f2 r aa⟩
  cases e with
  | normal=>exact tC
  | exit id=>grind
  | ret=>exact tC
theorem ahU{P:Program}{U:dm}(dQ:P.follows .mixedOrders=true){k:FuncId}{fn:Func}{c:Code}{ann:ch}{ts tr:af}{sh:ts.ai->M tr.ai}(hT:dz P T)(hL:qE P U)(cf:jc P a6)(cF:lM P U Ψ)(au:P.funcs[k]?=some fn)(ad:fn.body=some c)
  (ct:Dr fn c ts tr=true) (nq:∀ x,M.le (Dn U T a6 Ψ fn c ann ts tr x) (sh x)):hR P k ts tr sh:=
 Ur dQ hT hL cf cF au ad ct (ann:=ann) (s0:=ph ts) (pre:=λ_=>True) (λ_ _ _ _ h _=>h) λx hs=>⟨⟨trivial,(nq x hs).1⟩,(nq x hs).2⟩
theorem ahV{C:bS}{s:az}{a:Act}{w:World}{n:Nat}(h:b' C s a w)(hc:Dq n s):b' C (G1 n s) a w:=by
 obtain⟨κ,F,aa⟩:=h;refine⟨κ,F,{ aa with bG:=λi=>?_,dn:=aa.dn,dfr:=aa.dfr,bq:=aa.bq,pro:=λl aK L m st e=>?_ }⟩
 ·show bl C.P s.ae κ F w (if i<n\/eC<i then s.ax i else G0 (s.ax i)) _;split
  ·exact aa.bG i
  ·rename_i G;have hv:=aa.bG i;have hp:=hc i G;unfold G0;unfold Dp at hp;split
   ·rename_i e p he;rw[he]at hv hp;have hp:p.isSome=true:=hp;obtain⟨_,hv⟩:=(dC rfl).1 hv;simp only[bu]at hv;rcases hv with⟨_,rfl⟩ | ⟨q,y,a_,bf,rfl,aP,aQ⟩
    ·cases hp
    ·exact⟨q,a_,(List.cons.inj bf).1,aP,aQ⟩
   omega
 ·have e:(if TRS<n\/eC<TRS then s.ax TRS else G0 (s.ax TRS))=.tr l aK L m st:=e;rw[if_pos (.inr (by decide))]at e;exact aa.pro l aK L m st e
theorem ahW{P:Program}{U:dm}(dQ:P.follows .mixedOrders=true){k:FuncId}{fn:Func}{c:Code}{ann:ch}{n:Nat}{ts tr:af}{sh:ts.ai->M tr.ai}(hT:dz P T)(hL:qE P U)(cf:jc P a6)(cF:lM P U Ψ)(au:P.funcs[k]?=some fn)(ad:fn.body=some c)
  (ct:Dr fn c ts tr=true) (nq:∀ x,M.le (ahO U T a6 Ψ fn c ann n ts tr x) (sh x)):hR P k ts tr sh:=
 Ur dQ hT hL cf cF au ad ct (ann:=ann) (s0:=λx=>G1 n (ph ts x)) (pre:=λx=>Dq n (ph ts x)) (λ_ _ _ _ h hp=>ahV h hp) nq
theorem MN{H:Nat->bw}{κ:Nat->bo}{F:Nat->Prop}{w:World}{P:Program}:∀ (g:z9') {avs l:List aF} {us:List Value},z7 g avs=some l->avs.length=us.length->(∀ i (h:i<avs.length) (da:i<us.length),bl P H κ F w avs[i] us[i])->
  ∃ aC:List Value,CN g us aC/\l.length=aC.length/\∀ i,i<aC.length->bl P H κ F w (l.getD i .undef) (aC.getD i undef)
 | [],[],l,us,h,an,_=>by
  cases h;have:us=[]:=List.eq_nil_of_length_eq_zero an.symm;subst this;exact⟨[],rfl,rfl,λi G=>by cases G⟩
 | [],_::_,_,_,h,_,_=>by cases h
 | none::_,[],_,_,h,_,_=>by cases h
 | some _::_,[],_,_,h,_,_=>by cases h
 | none::g,av::avs,l,[],_,an,_=>by cases an
 | some n::g,av::avs,l,[],_,an,_=>by cases an
 | none::g,av::avs,l,u::us,h,an,hv=>by
  simp only[z7]at h;split at h
  ·rename_i l' GU;cases h;obtain⟨aC,h1,h2,h3⟩:=MN g GU (by grind) λi h da=>hv (i+1) (Nat.succ_lt_succ h) (Nat.succ_lt_succ da);refine⟨u::aC,⟨aC,rfl,h1⟩,by grind,λi G=>?_⟩;cases i with
   | zero=>exact hv 0 (Nat.zero_lt_succ _) (Nat.zero_lt_succ _)
   | succ i=>grind
  grind
 | some n::g,av::avs,l,u::us,h,an,hv=>by
  simp only[z7]at h;split at h
  ·rename_i m f l' GU;split at h
   ·rename_i R9;cases h;subst R9;obtain⟨aC,h1,h2,h3⟩:=MN g GU (by grind) λi h da=>hv (i+1) (Nat.succ_lt_succ h) (Nat.succ_lt_succ da);obtain⟨cs,aP,aQ,bB⟩:bl P H κ F w (.agg m f) u:=hv 0 (Nat.zero_lt_succ _) (Nat.zero_lt_succ _);refine⟨cs++aC,⟨cs.toArray,aC,aP,by omega,λc hc=>?_,by simp,h1⟩,by grind,λi G=>?_⟩
    ·obtain⟨j,aD,rfl⟩:=List.mem_iff_getElem.1 (by omega:c∈cs);grind
    grind
   grind
  grind
def ahX(P:Program)(U:dm)(T:Nat->af)(fn:Func)(c:Code)(ic:IOC):Prop:=
 ∀ (C:bS) (A:ic.b6.ai) (Q:Exit->Act->World->Prop) (a:Act) (w:World),C.P=P->C.aM=U->C.nt=fn.ntmps->C.r=none->C.dfr=[]->k7 C.nt c=true->b' C (ic.b6.st A) a w->(ic.sh A).b1->
  (∀ u,C.jG u->∀ e s' a' w',b' (C.gT u) s' a' w'->M.ca (G2 T fn.results.toList ic.ks ic.bD e s') (ic.sh A).bD->Q e.pc a' w')->c.wpIn (dy C.r) 0 C.P Q a w
theorem ahY{P:Program}{U:dm}{k:FuncId}{fn:Func}{c:Code}{ic:IOC}(hT:dz P T)(au:P.funcs[k]?=some fn)(ad:fn.body=some c)
  (ct:Ds fn c ic.j9 ic.ks=true) (ahZ:ahX P U T fn c ic):IoSpec P U k ic:=by
 simp only[Ds,Bool.and_eq_true,Bool.not_eq_true',decide_eq_true_eq]at ct;obtain⟨⟨⟨⟨Dt,re⟩,ahS⟩,MM⟩,tK⟩:=ct;refine⟨tS au ad MM,λC a w κ F A jg z_ iD q7 rZ hL aa qS=>?_⟩;subst jg;subst z_;subst hL;have axF:a.tmps.size=ic.j9:=aa.dn.trans rZ;have eG:∀ i,(a.tmps++Array.replicate (fn.ntmps - a.tmps.size) undef).getD i undef=a.tmps.getD i undef:=λi=>by
  simp only[Array.getD_eq_getD_getElem?,Array.getElem?_append];grind
 have aY:bc { C with nt:=fn.ntmps,dfr:=[],r:=none } (ic.b6.st A) { tmps:=a.tmps++Array.replicate (fn.ntmps - a.tmps.size) undef,defers:=[] } C.w0 κ F:=
  { aa with dn:=(by grind),dfr:=rfl,fR:=tK,bG:=λi=>(by rw[eG];exact aa.bG i),bq:=aa.bq }
 refine callsIn_wide.1 (callsIn_of_wp_marks (F:=Fence.wide) (n:=0) au ad trivial ?_);refine ahZ { C with nt:=fn.ntmps,dfr:=[],r:=none } A _ _ C.w0 rfl rfl rfl rfl rfl Dt ⟨κ,F,aY⟩ qS λu hu e s' a' w' aY ao=>?_;obtain⟨⟨mN,dP,cu⟩,aw,aN⟩:=b'.Uq hu (λr h=>aa.cM r (aa.hE r h)) aa.g_ aY;have key:(∀ id,e≠.exit id)/\LeavesInM Fence.wide 0 C.P fn a'.tmps (λe w'=>∃ v τ aC κ' F',e=.returned v/\(ic.sh A).bD τ/\Gg ic.ks v aC/\bc { C with nt:=aC.length } (ic.bD.st τ) { tmps:=aC.toArray,defers:=[] } w' κ' F') a'.defers .returning w':=by
  unfold G2 at ao;split at ao
  ·exact (gi ao).elim
  ·rename_i dY;refine⟨λid he=>dY id he,?_⟩;split at ao
   ·rename_i avs MJ;split at ao
    ·rename_i l an;split at ao
     ·rename_i bX;have bX:l.length<=eC:=of_decide_eq_true bX;obtain⟨us,aP,aQ,bB,gf⟩:=Um (C:={ C with nt:=fn.ntmps,dfr:=u.ms.map ot++[],r:=none }) hT cu _ MJ;obtain⟨aC,g1,dW,g3⟩:=MN ic.ks an (by omega) gf;obtain⟨τ,hτ,bx⟩:=tN ao;have aU:=cu.args (avs:=l) (us:=aC) (by omega) dW g3;obtain⟨GQ,T8,_,mh⟩:=dp.zK hτ aU;rw[aw];simp only[List.append_nil];have cK:(results fn a'.tmps).run C.P (pj w' u.ms)=.ok (if us.length=1 then us.getD 0 undef else .tuple us.toArray) (pj w' u.ms):=by
       rw[Ul,Sem.run_bind];have:(fn.results.mapM (z8 a'.tmps)).run C.P (pj w' u.ms)=.ok us.toArray (pj w' u.ms):=by
        rw[Array.mapM_eq_mapM_toList,map_eq_pure_bind,Sem.run_bind,aP];rfl
       rw[this];simp only[Result.andThen_ok,Sem.run_pure,List.size_toArray];grind
      refine ML u.ms w' hu.mg aN ⟨_,cK,_,τ,aC,GQ,T8,rfl,M.dI.1 bx,⟨us,?_,rfl,g1⟩,?_⟩
      ·rw[aQ];simpa using re
      ·have e:({ C with nt:=aC.length }:bS)={ C with nt:=aC.length,dfr:=[],r:=none }:=by
        cases C;simp only at iD q7;subst iD;subst q7;rfl
       rw[e];exact mh
     ·exact (gi ao).elim
    ·exact (gi ao).elim
   ·exact (gi ao).elim
 cases e with
 | normal=>exact key.2
 | exit id=>grind
 | ret=>exact key.2
theorem Us{P:Program}{U:dm}(dQ:P.follows .mixedOrders=true){k:FuncId}{fn:Func}{c:Code}{ann:ch}{ic:IOC}(hT:dz P T)(cf:jc P a6)(cF:lM P U Ψ)(au:P.funcs[k]?=some fn)(ad:fn.body=some c)
  (ct:Ds fn c ic.j9 ic.ks=true) (nq:∀ A,M.le (MI U T a6 Ψ fn c ann ic.b6 ic.bD ic.ks A) (ic.sh A)):IoSpec P U k ic:=
 ahY hT au ad ct λC A Q a w jg hL _ iD _ Dt aa qS aj=>by
  subst jg;subst hL;obtain⟨h1,h2⟩:=nq A qS;exact Uk ann C dQ hT cf cF (.inl iD) c (ic.b6.st A) (G2 T fn.results.toList ic.ks ic.bD) (MI C.aM T a6 Ψ fn c ann ic.b6 ic.bD ic.ks A).bD Q a w Dt aa ⟨h1,λ_ h=>h⟩ λu hu e s' a' w' aY ao=>aj u hu e s' a' w' aY ⟨ao.1,λy aO=>h2 y (ao.2 y aO)⟩
end
def rf:List (Nat×af)->Nat->af
 | [],_=>.cA
 | p::l,i=>if i=p.1 then p.2 else rf l i
def Ut(P:Program)(l:List (Nat×af)):Bool:=l.all λp=>cm P p.2 (.inl p.1)
theorem ah0{P:Program}{l:List (Nat×af)}(h:Ut P l=true):dz P (rf l):=by
 intro id;induction l with
 | nil=>exact .inl rfl
 | cons p l aJ=>
  simp only[Ut,List.all_cons,Bool.and_eq_true]at h;simp only[rf];split
  ·rename_i e;subst e;exact .inr h.1
  ·exact aJ h.2
end Go.Fer
namespace Go.Fer
open Go.RowKit
theorem Uu{P:Program}{U:dm}{k:FuncId}{c:IOC}(h:IoSpec P U k c)(hL:qE P U){ic:ITC}(mk:ic.ts.ai->Nat->(List ic.aK.ai->Prop)->c.b6.ai)(aB:c.j9=jZ ic.ts+1)(hM:c.j9<=eC)(tJ:ic.ts≠.cA)
    (hsl:∀ x l L i,(c.b6.st (mk x l L)).ax i=.undef\/(i<jZ ic.ts/\(c.b6.st (mk x l L)).ax i=kl ic.ts x i)\/(i=jZ ic.ts/\(c.b6.st (mk x l L)).ax i=.gN l)\/(i=TRS/\(c.b6.st (mk x l L)).ax i=.tr l ic.aK L [] false))
    (iw:c.b6.bq=[]) (qe:∀ τ,∃ n st l L,(c.bD.st τ).ax TRS=.tr l ic.aK L n st)
    (rQ:∀ x l,ic.pre x->(c.sh (mk x l (λT=>T=ic.seq x))).b1/\∀ τ,(c.sh (mk x l (λT=>T=ic.seq x))).bD τ->∀ l' L' n,(c.bD.st τ).ax TRS=.tr l' ic.aK L' n false->n=ic.seq x):CV P k ic:=by
  refine⟨h.enter,λl I F Y w args x dF gq ct bd fT ix ei=>?_⟩;obtain⟨iq,GO⟩:=tp (H:=λ_=>⟨0,.fm⟩) (κ:=λ_=>⟨0,0,0,false⟩) ic.ts dF tJ;have tT:∀ b,(c.b6.st (mk x l (λT=>T=ic.seq x))).ae b=⟨0,.fm⟩:=λb=>by
    show eA (gS cL c.b6.bq (ed cL c.b6.bG (mk x l (λT=>T=ic.seq x))).2) b=_;generalize (ed cL c.b6.bG (mk x l (λT=>T=ic.seq x))).2=z;revert z;rw[iw];intro z;rfl
  have bV:(args++[Value.func (.yield l) #[] #[]]).length=c.j9:=by grind
  have aa:bc { P:=P,w0:=w,F0:=F,K0:=λr=>r<w.heap.size/\¬Y r,nt:=c.j9,r:=none,dfr:=[],h6:=λ_=>none,pr:=⟨l,ic.aK,λT=>T=ic.seq x,I⟩,aM:=U } (c.b6.st (mk x l (λT=>T=ic.seq x)))
      { tmps:=(args++[Value.func (.yield l) #[] #[]]).toArray,defers:=[] } w (λ_=>⟨0,0,0,false⟩) F:=
    { dn := by omega
      dfr:=rfl
      bG:=λi=>by
        rcases hsl x l (λT=>T=ic.seq x) i with e | ⟨G,e⟩ | ⟨G,e⟩ | ⟨G,e⟩
        · rw[e];trivial
        · rw[e]
          have:=(tp (H:=(c.b6.st (mk x l (λT=>T=ic.seq x))).ae) (κ:=λ_=>⟨0,0,0,false⟩) ic.ts dF tJ).2 i G
          have e2:(args++[Value.func (.yield l) #[] #[]]).toArray.getD i undef=args.getD i undef:=by
            rw[Array.getD_eq_getD_getElem?,List.getD_eq_getElem?_getD,List.getElem?_toArray,List.getElem?_append_left (by omega)]
          grind
        · rw[e]
          show (args++[Value.func (.yield l) #[] #[]]).toArray.getD i undef=_
          simp_all
        · rw[e];trivial
      bq:=λb=>by unfold cj;rw[tT b];trivial
      own:=λb ad=>by rw[tT b]at ad;cases ad
      inj:=λb a1 ad _ _=>by rw[tT b]at ad;cases ad
      cM:=bd
      gO:=λr aa=>.inl aa
      hE:=λr aa=>aa
      g_:=λr aa=>aa.1
      eg:=λ_ _=>rfl
      size:=Nat.le_refl _
      dV:=cN.refl _
      fR:=hM
      kg:=λb r h=>by cases h
      jv:=λb r h=>by cases h
      jX:=λb k h=>by cases h
      kh:=λb k h=>by cases h
      pro:=λl' kr L' n st e=>by
        rcases hsl x l (λT=>T=ic.seq x) TRS with aV | ⟨G,_⟩ | ⟨G,_⟩ | ⟨_,aV⟩
        · grind
        · unfold TRS eC at *;omega
        · grind
        · rw[aV]at e
          cases e
          exact⟨⟨I,rfl⟩,ct,Y,λr aa=>⟨(ix r aa).1,(ix r aa).2,λk=>k.2 aa⟩,λb ad=>(by rw[tT b]at ad;cases ad),lx.yT.2 ei⟩
      jw:=hL,im:=fT }
  obtain⟨hs,tC⟩:=rQ x l gq;refine (h.iK _ _ w _ F _ rfl rfl rfl rfl rfl rfl aa hs).mono λe w' ⟨v,τ,aC,κ',F',he,hτ,_,aY⟩=>?_;obtain⟨n,st,l',L',p_⟩:=qe τ;obtain⟨⟨ah1,MO⟩,_,f',h3,aT,MP⟩:=aY.pro l' ic.aK L' n st p_;refine⟨v,n,st,F',f',he,λfF=>?_,lx.yT.1 MP,aY.hE,λr cu=>?_,aY.cM,λr h1 h2=>aY.eg r ⟨h1,h2⟩,λr cu=>⟨?_,(h3 r cu).1,(h3 r cu).2.1⟩,aY.size,aY.dV⟩
  · grind
  · rcases aY.gO r cu with h | h
    · exact .inl h
    · by_cases aO:Y r
      · exact .inr (.inl aO)
      · exact .inr (.inr (Nat.le_of_not_lt λbX=>h ⟨bX,aO⟩))
  grind
theorem MQ{P:Program}{U:dm}{k:FuncId}{c:IOC}(h:IoSpec P U k c)(hL:qE P U){cs:List af}{aK:af}{S:(fP (cs.map .br)).ai->List aK.ai->Prop}(mk:(fP (cs.map .br)).ai->Nat->(List aK.ai->Prop)->c.b6.ai)
    (aB:c.j9=jZ (fP (cs.map .br))+1) (hM:c.j9<=eC) (tJ:fP (cs.map .br)≠.cA)
    (hsl:∀ x l L i,(∃ T,S x T)->(c.b6.st (mk x l L)).ax i=.undef\/(i<jZ (fP (cs.map .br))+1/\0<i/\∃ e y,(c.b6.st (mk x l L)).ax i=.dD e y/\kl (fP (cs.map .br)) x (i - 1)=.val (.br e) (some y))\/(i=0/\(c.b6.st (mk x l L)).ax i=.gN l)\/(i=TRS/\(c.b6.st (mk x l L)).ax i=.tr l aK L [] false))
    (iw:c.b6.bq=[]) (qe:∀ τ,∃ n st l L,(c.bD.st τ).ax TRS=.tr l aK L n st)
    (rQ:∀ x l,(∃ L,S x L)->(c.sh (mk x l (S x))).b1/\∀ τ,(c.sh (mk x l (S x))).bD τ->∀ l' L' p,(c.bD.st τ).ax TRS=.tr l' aK L' p false->S x p):wH P k ⟨cs,aK,S⟩:=by
  refine⟨h.enter,λF w args x bd fT dF dY l Uv Y ix ah2 ah3=>?_⟩;have ct:=Uf ah2;obtain⟨iq,GO⟩:=tp (H:=λ_=>⟨0,.fm⟩) (κ:=λ_=>⟨0,0,0,false⟩) (fP (cs.map .br)) dF tJ;have tT:∀ b,(c.b6.st (mk x l (S x))).ae b=⟨0,.fm⟩:=λb=>by
    show eA (gS cL c.b6.bq (ed cL c.b6.bG (mk x l (S x))).2) b=_;generalize (ed cL c.b6.bG (mk x l (S x))).2=z;revert z;rw[iw];intro z;rfl
  have bV:(Value.func (.yield l) #[] #[]::args).length=c.j9:=by grind
  have aa:bc { P:=P,w0:=w,F0:=F,K0:=λr=>r<w.heap.size/\¬Y r,nt:=c.j9,r:=none,dfr:=[],h6:=λ_=>none,pr:=⟨l,aK,S x,Uv⟩,aM:=U } (c.b6.st (mk x l (S x)))
      { tmps:=(Value.func (.yield l) #[] #[]::args).toArray,defers:=[] } w (λ_=>⟨0,0,0,false⟩) F:=
    { dn := by omega
      dfr:=rfl
      bG:=λi=>by
        rcases hsl x l (S x) i dY with e | ⟨G,od,te,y,e,ey⟩ | ⟨G,e⟩ | ⟨G,e⟩
        · rw[e];trivial
        · rw[e]
          have:=(tp (H:=(c.b6.st (mk x l (S x))).ae) (κ:=λ_=>⟨0,0,0,false⟩) (fP (cs.map .br)) dF tJ).2 (i - 1) (by omega)
          have e2:(Value.func (.yield l) #[] #[]::args).toArray.getD i undef=args.getD (i - 1) undef:=by
            obtain⟨j,rfl⟩:∃ j,i=j+1:=⟨i - 1,by omega⟩
            simp
          rw[e2]
          rw[ey]at this
          obtain⟨_,hv⟩:=(dC rfl).1 this
          simp only[bu]at hv
          rcases hv with⟨_,aB⟩ | ⟨q,mG,a_,bf,Cc,aP,aQ⟩
          · cases aB
          · cases Cc
            exact⟨q,a_,(List.cons.inj bf).1,aP,aQ⟩
        · rw[e]
          subst G
          rfl
        · rw[e];trivial
      bq:=λb=>by unfold cj;rw[tT b];trivial
      own:=λb ad=>by rw[tT b]at ad;cases ad
      inj:=λb a1 ad _ _=>by rw[tT b]at ad;cases ad
      cM:=bd
      gO:=λr aa=>.inl aa
      hE:=λr aa=>aa
      g_:=λr aa=>aa.1
      eg:=λ_ _=>rfl
      size:=Nat.le_refl _
      dV:=cN.refl _
      fR:=hM
      kg:=λb r h=>by cases h
      jv:=λb r h=>by cases h
      jX:=λb k h=>by cases h
      kh:=λb k h=>by cases h
      pro:=λl' kr L' n st e=>by
        rcases hsl x l (S x) TRS dY with aV | ⟨G,_⟩ | ⟨G,_⟩ | ⟨_,aV⟩
        · grind
        · grind
        · grind
        · rw[aV]at e
          cases e
          exact⟨⟨Uv,rfl⟩,ct,Y,λr aa=>⟨(ix r aa).1,(ix r aa).2,λk=>k.2 aa⟩,λb ad=>(by rw[tT b]at ad;cases ad),lx.yT.2 ah3⟩
      jw:=hL,im:=fT }
  obtain⟨hs,tC⟩:=rQ x l dY;have eT:#[Value.func (.yield l) #[] #[]]++args.toArray=(Value.func (.yield l) #[] #[]::args).toArray:=by simp
  rw[eT];refine (h.iK _ _ w _ F _ rfl rfl rfl rfl rfl rfl aa hs).mono λe w' ⟨v,τ,aC,κ',F',he,hτ,_,aY⟩=>?_;obtain⟨n,st,l',L',p_⟩:=qe τ;obtain⟨⟨ah1,MO⟩,_,f',h3,aT,MP⟩:=aY.pro l' aK L' n st p_;refine⟨v,n,st,F',f',he,λfF=>?_,lx.yT.1 MP,aY.hE,λr cu=>?_,aY.cM,λr h1 h2=>aY.eg r ⟨h1,h2⟩,λr cu=>⟨?_,(h3 r cu).1,(h3 r cu).2.1⟩,aY.size,⟨aY.dV.os,aY.dV.tape,aY.dV.output⟩⟩
  · grind
  · rcases aY.gO r cu with h | h
    · exact .inl h
    · by_cases aO:Y r
      · exact .inr (.inl aO)
      · exact .inr (.inr (Nat.le_of_not_lt λbX=>h ⟨bX,aO⟩))
  grind
end Go.Fer
namespace Go.Fer
open Go.RowKit Go.ChangeShapes Go.WideShapes
def af.hr:af->Bool
 | .bool | .int _ | .str | .cA=>true
 | .st t=>t.hr
 | .ay a b=>a.hr&&b.hr
 | .slice e=>e.hr
 | _=>false
def af.Ok:(t:af)->t.ai->Prop
 | .int k,x=>fA k x
 | .str,x=>x.length<2 ^ 63
 | .st t,x=>t.Ok x
 | .ay a b,x=>a.Ok x.1/\b.Ok x.2
 | .slice e,xs=>xs.length<2 ^ 63/\∀ y∈xs,e.Ok y
 | .array n e,xs=>xs.length=n/\∀ y∈xs,e.Ok y
 | _,_=>True
theorem z'{P:Program}{w:World}{F:Nat->Prop}:∀ (t:af) {cs:List Value} {x:t.ai},bu P t F w cs x->t.Ok x
 | .bool,_,_,_=>trivial
 | .int _,_,_,h=>h.2
 | .str,_,_,h=>h.2
 | .cA,_,_,_=>trivial
 | .st t,_,_,h=>by simp only[bu]at h;exact z' t h
 | .ay a b,_,_,h=>by
  simp only[bu]at h;obtain⟨c,d,_,h1,h2⟩:=h;exact⟨z' a h1,z' b h2⟩
 | .slice e,_,xs,h=>by
  simp only[bu]at h;obtain⟨a,cap,_,h1,h2,h3,aT⟩:=h;refine⟨by omega,λy aO=>?_⟩;obtain⟨i,G,rfl⟩:=List.mem_iff_getElem.1 aO;cases a with
  | none=>have:=h3 rfl;omega
  | some p=>
   obtain⟨a_,_,k⟩:=(aT p rfl (by omega)).2.2 i G;exact z' e k
 | .array n e,_,xs,h=>by
  simp only[bu]at h;obtain⟨fa,_,h1,h2,h3⟩:=h;refine⟨h2,λy aO=>?_⟩;obtain⟨i,G,rfl⟩:=List.mem_iff_getElem.1 aO;exact z' e (h3 i G (by omega))
 | .br _,_,_,_=>trivial
 | .map _ _,_,_,_=>trivial
 | .fn _ _,_,_,_=>trivial
 | .b9 _,_,_,_=>trivial
 | .dT,_,_,_=>trivial
section
variable {H:Type} {enc:TypeId×Value->H} {P:Program} {w:World}
theorem bQ.cells{t:af}{id:TypeId}(h:bQ P t id):P.cellsOf id=t.size:=by
 obtain⟨i,z,h1,h2,_⟩:=kk h.kj;simp[Program.cellsOf,h1,h2]
theorem Uw{a:Addr}{n:Nat}{a_:List Value}(h:w.cells? 0 a n=some a_)(aB:0<n):a.spot=none/\a.block<w.heap.size/\a_.length=n/\∀ j (aD:j<a_.length),w.cell? ⟨a.block,a.off+j,none⟩=some a_[j]:=by
 have ad:=World.cells?_block h aB;have nP:a.spot=none:=by
  unfold World.cells? at h;split at h
  ·obtain⟨m,rfl⟩:∃ m,n=m+1:=⟨n - 1,by omega⟩
   rw[List.range_succ_eq_map]at h;simp only[List.mapM_cons,Option.bind_eq_bind,Option.bind_eq_some_iff]at h;obtain⟨v,hv,_⟩:=h;cases hs:a.spot with
   | none=>rfl
   | some x=>simp[World.cell?,Addr.add,hs]at hv;split at hv<;>cases hv
  ·cases h
 unfold World.cells? at h;split at h
 ·have hlen:a_.length=n:=by
   have:∀ (l:List Nat) (r:List Value),l.mapM (λi=>w.cell? (a.add i))=some r->r.length=l.length:=by
    intro l;induction l with
    | nil=>intro r aa;simp at aa;subst aa;rfl
    | cons x l aJ=>
     intro r aa;simp only[List.mapM_cons,Option.bind_eq_bind,Option.bind_eq_some_iff,Option.pure_def,Option.some.injEq]at aa;obtain⟨v,_,pS,aY,rfl⟩:=aa;simp[aJ pS aY]
   simpa using this _ _ h
  refine⟨nP,ad,hlen,λj aD=>?_⟩;have:∀ (l:List Nat) (r:List Value),l.mapM (λi=>w.cell? (a.add i))=some r->∀ j (h1:j<l.length) (h2:j<r.length),w.cell? (a.add l[j])=some r[j]:=by
   intro l;induction l with
   | nil=>intro r _ j h1;simp at h1
   | cons x l aJ=>
    intro r aa j h1 h2;simp only[List.mapM_cons,Option.bind_eq_bind,Option.bind_eq_some_iff,Option.pure_def,Option.some.injEq]at aa;obtain⟨v,hv,pS,aY,rfl⟩:=aa;cases j with
    | zero=>exact hv
    | succ j=>exact aJ pS aY j (by simpa using h1) (by simpa using h2)
  have h1:=this _ _ h j (by simp;omega) aD;rw[<-h1];have y6:a.add ((List.range n)[j]'(by simp;omega))=⟨a.block,a.off+j,none⟩:=by
   cases a;simp only at nP;subst nP;simp[Addr.add]
  rw[y6]
 ·cases h
def qg(w:World):Nat->Prop:=λr=>r<w.heap.size
def af.ox(n:Nat):(t:af)->t.ai->Prop
 | .st t,x=>t.ox n x
 | .ay a b,x=>a.ox n x.1/\b.ox n x.2
 | .slice e,xs=>xs.length<=n/\∀ y∈xs,e.ox n y
 | _,_=>True
structure Bx(b:DataW H->Nat):Prop where
 len:∀ e s,e.length<=b (.slice e s)
 By:∀ e s d,d∈e->b d<=b (.slice e s)
 QX:∀ l d,d∈l->b d<=b (.agg l)
variable {b:DataW H->Nat} {N:Nat}
theorem ah4(ad:Bx b)(t:af):(t.hr=true->∀ {id:TypeId} {bZ:Nat} {cs:List Value} {x:DataW H×List MemPlace},bQ P t id->DataW.trod enc P w 0 (λ_=>true) true bZ id cs=some x->b x.1<=N->∃ y,bu P t (qg w) w cs y/\t.ox N y)/\
  (t.hr=true->∀ {l:List Field} {off n:Nat} {cs:List Value},cm P t (.inr (l,off))=true->(∀ f∈l,∃ x,DataW.trod enc P w 0 (λ_=>true) true n f.type ((cs.drop f.offset).take (P.cellsOf f.type))=some x/\b x.1<=N)->∃ y,bu P t (qg w) w ((cs.drop off).take t.size) y/\t.ox N y):=by
 induction t with
 | bool=>
  refine⟨λ_ {id bZ cs x} aI h _=>?_,λ_ {l off n cs} h=>by simp[cm]at h⟩;have hu:P.underlying id=some .bool:=by
   unfold bQ at aI;simp only[cm,Bool.and_eq_true]at aI;obtain⟨_,aI⟩:=aI;split at aI
   ·assumption
   ·cases aI
  obtain⟨b,rfl,_⟩:=DataW.trod_bool hu h;exact⟨_,rfl,trivial⟩
 | int k=>
  refine⟨λ_ {id bZ cs x} aI h _=>?_,λ_ {l off n cs} h=>by simp[cm]at h⟩;obtain⟨n,rfl,_,hw⟩:=DataW.trod_int aI.int h;simp only[Lit.wf,Bool.and_eq_true,decide_eq_true_eq]at hw;exact⟨n,⟨rfl,hw⟩,trivial⟩
 | str=>
  refine⟨λ_ {id bZ cs x} aI h _=>?_,λ_ {l off n cs} h=>by simp[cm]at h⟩;obtain⟨s,rfl,_,hw⟩:=DataW.trod_string aI.str h;refine⟨s.data.toList,⟨by simp,?_⟩,trivial⟩;have:s.data.toList.length=s.size:=by rw[Array.length_toList];rfl
  rw[this];have:maxLen<2 ^ 63:=by decide
  omega
 | cA=>exact⟨λ_ {id bZ cs x} aI h _=>by simp[bQ,cm]at aI,λ_ {l off n cs} h=>by simp[cm]at h⟩
 | st t aJ=>
  refine⟨λan {id bZ cs x} aI h mP=>?_,λ_ {l off n cs} h=>by simp[cm]at h⟩;have an:t.hr=true:=an;have G3:P.cellsOf id=t.size:=aI.cells;obtain⟨eF,hu⟩:=aI.st;obtain⟨xs,n,_,rfl,hlen,Se,au⟩:=DataW.trod_struct hu h;unfold bQ at aI;simp only[cm,Bool.and_eq_true]at aI;obtain⟨_,aI⟩:=aI;rw[hu]at aI;have ja:∀ f∈eF.toList,∃ x,DataW.trod enc P w 0 (λ_=>true) true n f.type ((cs.drop f.offset).take (P.cellsOf f.type))=some x/\b x.1<=N:=by
   intro f ah5;obtain⟨i,G,rfl⟩:=List.mem_iff_getElem.1 ah5;have ds:i<eF.size:=by simpa using G
   refine⟨xs[i]'(by omega),?_,Nat.le_trans (ad.QX _ _ (List.mem_map_of_mem (List.getElem_mem _))) mP⟩;rw[au i _ (by simp[ds])];exact List.getElem?_eq_getElem _
  simp only at aI;split at aI
  ·have aI:=of_decide_eq_true aI;subst aI;have:cs=[]:=by
    have:=hlen.trans G3;simpa [af.size]using this
   subst this;exact⟨(),rfl,trivial⟩
  ·rename_i f fD;simp only[Bool.and_eq_true,beq_iff_eq,bne_iff_ne]at aI;obtain⟨⟨⟨h0,h1⟩,_⟩,_⟩:=aI;obtain⟨x,hx,ah6⟩:=ja f (by rw[fD];simp);have hc:P.cellsOf f.type=t.size:=bQ.cells h1;rw[h0,hc,List.drop_zero,List.take_of_length_le (by omega)]at hx;exact aJ.1 an h1 hx ah6
  ·obtain⟨y,aO⟩:=aJ.2 an aI ja;rw[List.drop_zero,List.take_of_length_le (by omega)]at aO;exact⟨y,aO⟩
 | ay a b fk eu=>
  refine⟨λ_ {id bZ cs x} aI h _=>by simp[bQ,cm]at aI,λan {l off n cs} aI h=>?_⟩;simp only[af.hr,Bool.and_eq_true]at an;have join:∀ {y:a.ai} {z:b.ai},bu P a (qg w) w ((cs.drop off).take a.size) y/\a.ox N y->bu P b (qg w) w ((cs.drop (off+a.size)).take b.size) z/\b.ox N z->∃ y,bu P (.ay a b) (qg w) w ((cs.drop off).take (af.ay a b).size) y/\(af.ay a b).ox N y:=by
   intro y z aO ba;refine⟨(y,z),⟨_,_,?_,aO.1,ba.1⟩,aO.2,ba.2⟩;simp only[af.size];rw[List.take_add,List.drop_drop]
  match l,aI with
  | f::g::[],aI=>
   simp only[cm,Bool.and_eq_true,beq_iff_eq,bne_iff_ne]at aI;obtain⟨⟨⟨⟨h0,h1⟩,_⟩,_⟩,⟨⟨⟨gU,aP⟩,_⟩,_⟩⟩:=aI;obtain⟨x,hx,aB⟩:=h f (by simp);obtain⟨dr,nA,Cn⟩:=h g (by simp);rw[h0,bQ.cells h1]at hx;rw[gU,bQ.cells aP]at nA;obtain⟨y,aO⟩:=fk.1 an.1 h1 hx aB;obtain⟨z,ba⟩:=eu.1 an.2 aP nA Cn;exact join aO ba
  | f::g::e::eF,aI=>
   simp only[cm,Bool.and_eq_true,beq_iff_eq,bne_iff_ne]at aI;obtain⟨⟨⟨⟨h0,h1⟩,_⟩,_⟩,aP⟩:=aI;obtain⟨x,hx,aB⟩:=h f (by simp);rw[h0,bQ.cells h1]at hx;obtain⟨y,aO⟩:=fk.1 an.1 h1 hx aB;obtain⟨z,ba⟩:=eu.2 an.2 aP λiv q9=>h iv (List.mem_cons_of_mem _ q9);exact join aO ba
 | slice e aJ=>
  refine⟨λan {id bZ cs x} aI h mP=>?_,λ_ {l off n cs} h=>by simp[cm]at h⟩;have an:e.hr=true:=an;obtain⟨i,hu,he,bV⟩:=aI.sl;have G3:=he.cells;rcases DataW.trod_slice hu h with⟨rfl,_⟩ | ⟨a,len,cap,elems,b5,n,rfl,rfl,hx,_,Ux,wY,j7,eG,Uy,_⟩
  ·exact⟨[],⟨none,0,rfl,Nat.le_refl _,by decide,λ_=>rfl,λp hp=>by cases hp⟩,Nat.zero_le _,λy aO=>by cases aO⟩
  ·rw[hx]at mP;have k1:0<P.cellsOf i:=by rw[G3];omega
   have key:∀ j,j<len->∃ a_ y,w.cells? 0 (a.add (j*P.cellsOf i)) (P.cellsOf i)=some a_/\bu P e (qg w) w a_ y/\e.ox N y:=by
    intro j aD;have:=eG j aD;rw[List.getElem?_eq_getElem (by omega)]at this;obtain⟨a_,h1,h2⟩:=Option.bind_eq_some_iff.1 this;obtain⟨y,aO⟩:=aJ.1 an he h2 (Nat.le_trans (ad.By _ _ _ (List.mem_map_of_mem (List.getElem_mem _))) mP);exact⟨a_,y,h1,aO⟩
   have ah7:0<cap->a.spot=none/\a.block<w.heap.size:=by
    intro hc;have:∃ a_,w.cells? 0 (a.add (0*P.cellsOf i)) (P.cellsOf i)=some a_:=by
     by_cases Kg:0<len
     ·obtain⟨a_,_,h1,_⟩:=key 0 Kg;exact⟨a_,h1⟩
     ·obtain⟨m1,m2⟩:=Uy rfl;have ba:len=0:=by omega
      subst ba;have:=m2 0 (by omega);rw[List.getElem?_eq_getElem (by omega)]at this;obtain⟨a_,h1,_⟩:=Option.bind_eq_some_iff.1 this;exact⟨a_,h1⟩
    obtain⟨a_,h1⟩:=this;have e1:a.add (0*P.cellsOf i)=a:=by unfold Addr.add;simp
    rw[e1]at h1;obtain⟨aP,aQ,_⟩:=Uw h1 k1;exact⟨aP,aQ⟩
   have:∃ ys:List e.ai,ys.length=len/\∀ j (aD:j<ys.length),∃ a_,w.cells? 0 (a.add (j*P.cellsOf i)) (P.cellsOf i)=some a_/\bu P e (qg w) w a_ ys[j]/\e.ox N ys[j]:=by
    clear eG j7 h Ux Uy mP;induction len with
    | zero=>exact⟨[],rfl,λj aD=>by simp at aD⟩
    | succ m ah8=>
     obtain⟨ys,j2,cB⟩:=ah8 λj aD=>key j (by omega);obtain⟨a_,y,h1,h2⟩:=key m (by omega);refine⟨ys++[y],by simp[j2],λj aD=>?_⟩;by_cases w2:j<ys.length
     ·rw[List.getElem_append_left w2];exact cB j w2
     ·have:j=m:=by simp at aD;omega
      subst this;refine⟨a_,h1,?_⟩;rw[List.getElem_append_right (by omega)];simpa [j2]using h2
   have ah9:len<=N:=by have:=ad.len (elems.map (·.1)) (b5.map (·.1));rw[List.length_map,j7]at this;exact Nat.le_trans this mP
   obtain⟨ys,rfl,j2⟩:=this;have zh:maxLen<2 ^ 63:=by decide
   refine⟨ys,⟨some a,cap,rfl,Ux,by omega,(by simp),λp hp uN=>?_⟩,ah9,λy aO=>by
    obtain⟨j,aD,rfl⟩:=List.mem_iff_getElem.1 aO;obtain⟨a_,_,h1,h2⟩:=j2 j aD;exact h2⟩
   cases hp;obtain⟨aP,aQ⟩:=ah7 uN;refine⟨aQ,aP,λj aD=>?_⟩;obtain⟨a_,d1,d2,_⟩:=j2 j aD;obtain⟨m1,m2,m3,m4⟩:=Uw d1 k1;refine⟨a_,⟨aQ,rfl,λq bf=>?_⟩,d2⟩;have:=m4 q bf;have e1:a.add (j*P.cellsOf i)=⟨a.block,a.off+j*e.size,none⟩:=by
    rw[G3];cases a;simp only at aP;subst aP;unfold Addr.add;split
    ·rename_i h0;simp[h0]
    ·rfl
   rw[e1]at this;exact this
 | array n e aJ=>exact⟨λh=>by simp[af.hr]at h,λh=>by simp[af.hr]at h⟩
 | br e aJ=>exact⟨λh=>by simp[af.hr]at h,λh=>by simp[af.hr]at h⟩
 | map k v wD wF=>exact⟨λh=>by simp[af.hr]at h,λh=>by simp[af.hr]at h⟩
 | fn a b fk eu=>exact⟨λh=>by simp[af.hr]at h,λh=>by simp[af.hr]at h⟩
 | b9 a aJ=>exact⟨λh=>by simp[af.hr]at h,λh=>by simp[af.hr]at h⟩
 | dT=>exact⟨λh=>by simp[af.hr]at h,λh=>by simp[af.hr]at h⟩
theorem Uz(ad:Bx b){t:af}(an:t.hr=true){id:TypeId}(aI:bQ P t id){base:Nat}{v:Value}{d:DataW H}{ps:List MemPlace}(ct:Value.okWide P w .any base id v)
  (h:DataW.Trod enc P w 0 (λ_=>true) true id v d ps) (mP:b d<=N):∃ y,dU P t (qg w) w v y/\t.ox N y:=by
 obtain⟨n,aB⟩:=h;obtain⟨y,aO,au⟩:=(ah4 ad t).1 an aI aB mP;refine⟨y,⟨?_,aO⟩,au⟩;cases t with
 | bool=>
  simp only[bu]at aO;have hu:P.underlying id=some .bool:=by
   unfold bQ at aI;simp only[cm,Bool.and_eq_true]at aI;obtain⟨_,aI⟩:=aI;split at aI
   ·assumption
   ·cases aI
  simp only[Value.okWide,hu,Cell.okWide,Cell.ok]at ct;cases v<;>first | rfl | exact ct.elim
 | int k=>
  simp only[Value.okWide,aI.int,Cell.okWide,Cell.ok]at ct;cases v<;>first | rfl | exact ct.elim
 | str=>
  simp only[Value.okWide,aI.str,Cell.okWide,Cell.ok]at ct;cases v<;>first | rfl | exact ct.elim
 | cA=>simp[bQ,cm]at aI
 | st t=>
  obtain⟨eF,hu⟩:=aI.st;simp only[Value.okWide,hu]at ct;obtain⟨cs,rfl,hc,_⟩:=ct;exact⟨cs,rfl,hc.trans aI.cells⟩
 | ay a b=>simp[bQ,cm]at aI
 | slice e=>
  obtain⟨i,hu,_⟩:=aI.sl;simp only[Value.okWide,hu,Cell.okWide,Cell.ok]at ct;cases v<;>first | rfl | exact ct.elim
 | array n e=>simp[af.hr]at an
 | br e=>simp[af.hr]at an
 | map k v=>simp[af.hr]at an
 | fn a b=>simp[af.hr]at an
 | b9 a=>simp[af.hr]at an
 | dT=>simp[af.hr]at an
def xG(P:Program):List TypeId->af->Bool
 | [id],t=>cm P t (.inl id)&&t.hr
 | id::ids,.ay a b=>cm P a (.inl id)&&a.hr&&xG P ids b
 | _,_=>false
theorem UA(ad:Bx b):∀ (ids:List TypeId) (ts:af) {base:Nat} {aC:List Value} {a_:List (DataW H)} {ps:List MemPlace},xG P ids ts=true->DataW.TrodAll enc P w 0 (λ_=>true) true ids aC a_ ps->
  (∀ (j:Nat) t v,ids[j]?=some t->aC[j]?=some v->Value.okWide P w .any base t v)->(∀ d∈a_,b d<=N)->∃ x,fb P ts (qg w) w aC x/\ts.ox N x
 | [],ts,_,aC,a_,ps,h,_,_,_=>by simp[xG]at h
 | [id],t,_,aC,a_,ps,h,hI,ct,mP=>by
  simp only[xG,Bool.and_eq_true]at h;obtain⟨v0,MR,d0,MS,Fv,B3,rfl,rfl,rfl,h0,si⟩:=trodAll_cons hI;obtain⟨rfl,rfl,rfl⟩:=trodAll_nil si;obtain⟨y,⟨xu,r_⟩,au⟩:=Uz ad h.2 h.1 (ct 0 id v0 rfl rfl) h0 (mP _ (List.mem_cons_self ..));refine⟨y,⟨?_,by simpa [dO]using r_⟩,au⟩;cases t<;>first | exact⟨v0,rfl,xu⟩ | (simp[cm]at h;done)
 | id::ah_::ids,ts,base,aC,a_,ps,h,hI,ct,mP=>by
  cases ts with
  | ay a b=>
   simp only[xG,Bool.and_eq_true]at h;obtain⟨v0,MR,d0,MS,Fv,B3,rfl,rfl,rfl,h0,si⟩:=trodAll_cons hI;obtain⟨y,⟨xu,r_⟩,au⟩:=Uz ad h.1.2 h.1.1 (ct 0 id v0 rfl rfl) h0 (mP _ (List.mem_cons_self ..));obtain⟨z,⟨ah',aia⟩,aA⟩:=UA ad (ah_::ids) b h.2 si (λj t v h1 h2=>ct (j+1) t v (by simpa using h1) (by simpa using h2)) λd aw=>mP d (List.mem_cons_of_mem _ aw);exact⟨(y,z),⟨⟨xu,ah'⟩,_,_,JJ _ _,r_,aia⟩,au,aA⟩
  | _=>simp[xG]at h
theorem UB(an:laidOutB P=true){w':World}{UC:Nat->Bool}:∀ (ids:List TypeId) {aC:List Value} {a_:List (DataW H)} {ps:List MemPlace},(ids.all λt=>P.readableRec t&&decide (t<P.types.size))=true->
  DataW.TrodAll enc P w 0 (λ_=>true) true ids aC a_ ps->(∀ p∈ps,w.sameAt w' p)->(∀ p∈ps,UC p.block=true)->DataW.TrodAll enc P w' 0 UC true ids aC a_ ps
 | [],_,_,_,_,h,_,_=>by
  obtain⟨rfl,rfl,rfl⟩:=trodAll_nil h;rfl
 | id::ids,aC,a_,ps,aa,h,h1,h2=>by
  simp only[List.all_cons,Bool.and_eq_true,decide_eq_true_eq]at aa;obtain⟨v0,MR,d0,MS,Fv,B3,rfl,rfl,rfl,h0,si⟩:=trodAll_cons h;exact trodAll_cons_mk (Go.WideElems.Trod_stays an aa.1.1 aa.1.2 h0 (λp hp=>h1 p (List.mem_append_left _ hp)) (λp hp=>h2 p (List.mem_append_left _ hp)))
   (UB an ids aa.2 si (λp hp=>h1 p (List.mem_append_right _ hp)) (λp hp=>h2 p (List.mem_append_right _ hp)))
theorem acg(ad:Bx b){k:FuncId}{fn:Func}{ts:af}{sh:ts.ai->M (af.bool).ai}{spec:ChangeSpec}{rt:TypeId}(aib:laidOutB P=true)(w3:hR P k ts .bool sh)(aic:∀ x,ts.Ok x->ts.ox N x->M.ca (sh x) λy=>y=true)
  (dF:xG P fn.params.toList ts=true) (aid:(fn.params.toList.all λt=>P.readableRec t&&decide (t<P.types.size))=true) (fU:fn.resultTypes=#[rt]) (aie:P.underlying rt=some .bool)
  (hv:spec.vars=[]) (s3:∀ (H:Type) (a_:List (DataW H)),a_.length=fn.params.size->spec.fn H a_={ results:=[.lit (.bool true)],args:=a_ })
  {base:Nat} {args:Array Value} {a_ gs:List (DataW H)} {before:List MemPlace} (xH:∀ (j:Nat) t v,fn.params[j]?=some t->args[j]?=some v->Value.okWide P w .any base t v)
  (wA:DataW.Whole enc P fn.params.toList spec.vars false w args.toList a_ gs before) (mP:∀ d∈a_,b d<=N) (fT:nv P (qg w) w:=by exact λb ad=>absurd (show b<0 from ad) (Nat.not_lt_zero b)) :
  Calls P k args w λe qd=>∃ v,e=.returned v/\spec.post enc P fn false true false false w args v qd:=by
 have bX:=wA.lt;have UD:=wA;obtain⟨p,q,hI,MT,rfl,tj,_⟩:=wA;have bf:gs=[]/\q=[]:=by
  rw[hv]at MT;cases gs with
  | nil=>exact⟨rfl,MT⟩
  | cons _ _=>exact MT.elim
 obtain⟨rfl,rfl⟩:=bf;simp only[List.append_nil]at UD bX tj;obtain⟨x,hx,au⟩:=UA ad fn.params.toList ts dF hI (λj t v h1 h2=>xH j t v (by simpa using h1) (by simpa using h2)) mP;obtain⟨hs,ah⟩:=aic x (z' ts hx.2) au;have uY:a_.length=fn.params.size:=by
  have:∀ (ids:List TypeId) {aC:List Value} {a_:List (DataW H)} {ps:List MemPlace},DataW.TrodAll enc P w 0 (λ_=>true) true ids aC a_ ps->a_.length=ids.length:=by
   intro ids;induction ids with
   | nil=>intro aC a_ ps h;obtain⟨rfl,rfl,rfl⟩:=trodAll_nil h;rfl
   | cons id ids aJ=>intro aC a_ ps h;obtain⟨v0,MR,d0,MS,Fv,B3,rfl,rfl,rfl,h0,si⟩:=trodAll_cons h;simp[aJ si]
  simpa using this _ hI
 have hc:=w3.iK (qg w) w args.toList x (λ_ h=>h) fT hx hs;refine hc.mono λe qd ⟨v,y,he,aO,aa,ad⟩=>?_;have aO:=ah y aO;subst aO;obtain⟨aC,b3,cr⟩:=aa;have aif:v=.bool true:=by
  simp only[yR]at b3;subst b3;obtain⟨⟨u,hu,nq⟩,nB⟩:=cr;simp only[List.cons.injEq,and_true]at hu;subst hu;simp only[kE]at nq;simp only[JJ,nq,ack,bu]at nB;simpa using nB
 subst aif;have o8:∀ p'∈p,w.sameAt qd p':=by
  intro p' hp;have h1:=ad.block _ (bX p' hp);cases p' with
  | cell b off=>simp only[World.sameAt,World.cell?];simp only[MemPlace.block]at h1;rw[h1]
  | map b=>exact h1
 refine⟨_,he,a_,[],p,[],p,[],UD,?_,?_,?_,?_,λh=>by cases h⟩
 ·rw[List.append_nil,s3 H a_ uY,fU];exact trodAll_cons_mk (shut_bool aie true) trodAll_mk0
 ·rw[List.append_nil,s3 H a_ uY];exact UB aib _ aid hI o8 λp' hp=>by simpa using bX p' hp
 ·rw[hv,List.append_nil,s3 H a_ uY];rfl
 ·refine⟨ad.os,ad.output,λi G=>?_⟩;have h1:=ad.block i G;rw[h1];exact (World.keptBut_refl w λG4=>G4∈p/\(G4∈[]\/G4∈p\/G4∈[])).2.2 i G
end
end Go.Fer
namespace Go.Fer.n3
open Go.Proofs
abbrev t2:af:=.int .i64
abbrev t3:af:=.int .i64
abbrev t4:af:=.bool
abbrev t5:af:=.int .u8
abbrev aih:af:=.int .u8
abbrev aii:af:=.st (.ay t2 (.ay t3 (.ay t4 aih)))
abbrev t9:af:=.str
abbrev aij:af:=.str
abbrev aik:af:=.str
abbrev t21:af:=.int .i32
abbrev xI:af:=.st (.ay t3 t3)
abbrev Aa:af:=.st (.ay t3 (.ay t3 xI))
abbrev t22:af:=.slice Aa
abbrev t27:af:=.slice t3
abbrev Ab:af:=.st (.ay t3 (.ay t27 xI))
abbrev G5:af:=.slice Ab
abbrev xJ:af:=.st G5
abbrev Du:af:=.slice xJ
abbrev Ac:af:=.st (.ay t3 (.ay t3 (.ay t3 t3)))
abbrev G6:af:=.slice Ac
abbrev tU:af:=.st (.ay t22 (.ay Du (.ay t3 G6)))
abbrev xK:af:=.st (.ay t3 (.ay t3 (.ay t3 (.ay t3 t27))))
abbrev t28:af:=.slice xK
abbrev vm:af:=.st (.ay t27 (.ay xI (.ay t3 (.ay t3 t3))))
abbrev G7:af:=.slice vm
abbrev rh:af:=.st (.ay t3 (.ay t3 t3))
abbrev Ad:af:=.slice rh
abbrev t32:af:=.st (.ay tU (.ay t27 (.ay t28 (.ay G7 (.ay Ad t3)))))
abbrev qh:af:=.slice xI
abbrev iS:af:=.st (.ay t3 (.ay t3 (.ay t3 (.ay t3 (.ay t3 t3)))))
abbrev t34:af:=.slice iS
abbrev MU:af:=.st (.ay t3 (.ay t3 (.ay t3 (.ay t3 (.ay t3 (.ay t3 t3))))))
abbrev sZ:af:=.st (.ay qh (.ay t34 (.ay t27 (.ay qh MU))))
abbrev wB:af:=.st (.ay t32 sZ)
abbrev ail:af:=.int .i64
abbrev yO:af:=.slice t9
abbrev aim:af:=.st (.ay t3 (.ay t3 (.ay t3 t3)))
abbrev aio:af:=.st (.ay t3 (.ay t3 (.ay t3 (.ay t3 (.ay t3 (.ay t3 (.ay t3 t3)))))))
abbrev qi:af:=.st wB
abbrev t105:af:=.br qi
abbrev UE:af:=.dT
abbrev MV:af:=.st (.ay t3 (.ay t4 UE))
abbrev MW:af:=.map t9 MV
abbrev Dv:af:=.slice t27
abbrev xL:af:=.st (.ay tU Dv)
abbrev UF:af:=.br xL
abbrev MX:af:=.fn t3 t3
abbrev qj:af:=.st (.ay iS t3)
abbrev MY:af:=.slice qj
abbrev MZ:af:=.array 10 MY
abbrev Dw:af:=.st (.ay t27 MZ)
abbrev pk:af:=.br Dw
abbrev M0:af:=.slice pk
abbrev ri:af:=.st (.ay sZ (.ay t34 M0))
abbrev vn:af:=.br ri
abbrev UG:af:=.fn t3 t4
abbrev aip:af:=.fn vn t4
abbrev aiq:af:=.fn (.ay iS t3) t4
abbrev t138:af:=.b9 (.ay iS t3)
abbrev UH:af:=.fn pk (.ay t3 t4)
abbrev G8:af:=.map t3 t3
abbrev M1:af:=.b9 t3
abbrev air:af:=.b9 t3
abbrev UI:af:=.st (.ay t3 t3)
abbrev UJ:af:=.slice UI
abbrev UK:af:=.st (.ay t3 (.ay t3 t3))
abbrev UL:af:=.map UK t3
abbrev t222:af:=.st (.ay t32 (.ay UJ UL))
abbrev oy:af:=.br t222
abbrev ais:af:=.fn t27 t4
abbrev t164:af:=.b9 t27
abbrev UM:af:=.st (.ay t3 (.ay t3 t3))
abbrev ait:af:=.slice UM
abbrev t171:af:=.slice t5
abbrev UN:af:=.fn vm t4
abbrev UO:af:=.fn Ac t4
abbrev M2:af:=.fn iS t4
abbrev t228:af:=.int .u64
abbrev aiu:af:=.slice t3
abbrev aiv:af:=.br tU
abbrev aiw:af:=.br xJ
abbrev aix:af:=.array 4 t9
abbrev UP:af:=.st (.ay t3 (.ay t3 t3))
abbrev aiy:af:=.map UP t3
abbrev G9:af:=.map t3 iS
abbrev aiz:af:=.int .u32
abbrev UQ:af:=.int .u64
abbrev UR:af:=.fn xK t4
abbrev US:af:=.fn rh t4
abbrev UT:af:=.fn Ab t4
abbrev UU:af:=.slice t34
abbrev UW:af:=.fn Aa t4
abbrev UX:af:=.fn xJ t4
abbrev Dx:af:=.fn (.ay qj qj) t3
abbrev aiA:af:=.int .i64
abbrev aiB:af:=.slice Dv
abbrev aiC:af:=.int .i64
abbrev UY:af:=.int .u64
abbrev aiD:af:=.br t3
abbrev UZ:af:=.st (.ay iS t3)
abbrev aiE:af:=.slice UZ
abbrev U0:af:=.st (.ay t3 t27)
abbrev aiF:af:=.slice U0
abbrev aiG:af:=.br t5
abbrev aiH:af:=.array 24 t5
abbrev aiI:af:=.br UY
abbrev aiJ:af:=.slice Ad
abbrev aiK:af:=.array 256 t5
abbrev U1:af:=.st (.ay t5 t5)
abbrev aiL:af:=.array 16 U1
abbrev U2:af:=.st t9
abbrev aiM:af:=.br U2
abbrev aiN:af:=.array 20 UQ
abbrev aiO:af:=.array 65 t5
abbrev aiP:af:=.array 32 t5
abbrev aiQ:af:=.array 64 t5
abbrev aiR:af:=.int .u8
def vo:List (Nat×af):=[(2,t2),(3,t3),(4,t4),(5,t5),(8,aii),(9,t9),(10,aij),(11,aik),(21,t21),(22,t22),(23,Du),(24,G6),(26,tU),(27,t27),(28,t28),(29,G7),(30,Ad),(32,t32),(33,qh),(34,t34),(36,MU),(38,sZ),(40,wB),(42,Ac),(44,ail),(48,yO),(58,xI),(63,aim),(74,aio),(87,vm),(91,rh),(93,xK),(105,t105),(107,MW),(111,qi),(115,UF),(121,Dv),(123,xL),(125,iS),(128,MX),(130,vn),(133,UG),(134,aip),(137,pk),(138,t138),(140,UH),(141,MY),(142,MZ),(144,qj),(148,G8),(149,M0),(151,ri),(153,M1),(154,air),(157,oy),(162,ais),(164,t164),(165,ait),(171,t171),(177,UN),(188,UE),(190,MV),(196,Aa),(197,G5),(199,xJ),(201,Ab),(203,UO),(209,M2),(215,aiq),(217,Dw),(219,UL),(220,UJ),(222,t222),(224,UK),(227,UI),(228,t228),(235,UM),(237,aiu),(249,aiv),(253,aiw),(261,aix),(269,aiy),(271,UP),(273,G9),(282,aiz),(285,UQ),(289,UR),(290,US),(297,UT),(298,UU),(304,UW),(306,UX),(311,Dx),(313,aiA),(336,aiB),(351,aiC),(359,UY),(363,aiD),(368,aiE),(372,UZ),(374,aiF),(380,aiG),(386,aiH),(398,aiI),(402,U0),(403,aiJ),(408,aiK),(410,U1),(411,aiL),(414,aiM),(416,U2),(418,aiN),(419,aiO),(423,aiP),(424,aiQ),(432,aiR)]
theorem nQ:dz Tryz.prog (rf vo):=ah0 (by kernel_rfl)
theorem G_:Tryz.prog.follows .mixedOrders=true:=by kernel_rfl
def xM(_:Nat):Option aL:=none
theorem G':jc Tryz.prog xM:=λk c h=>by cases h
def noU:dm:={ s8:=λ_=>none,s9:=λ_=>none }
theorem mi:qE Tryz.prog noU where
 s8:=λk v h=>by cases h
 s9:=λk v h=>by cases h
end Go.Fer.n3
namespace Go.Fer
open Go.RowKit
def SC.ow(c:SC):aL:=⟨c.ts,.ay c.tr .cA,λx=>(c.sh x).b1,λx=>((c.sh x).val c.tr.cP,())⟩
end Go.Fer
namespace Go.Fer
theorem M.aiS{aq:Type}{p:Prop}{m n:M aq}(h:n.b1->p)(k:M.le m n):M.le (M.ag p m) n:=λhs=>⟨⟨h hs,(k hs).1⟩,(k hs).2⟩
theorem rj{aq:Type}{o:Option aq}{x:aq}(h:o=some x):o.isSome=true:=by rw[h];rfl
def M3(ts:af)(x:ts.ai)(n:Nat):Nat->Prop
 | 0=>True
 | k+1=>M3 ts x n k/\Dp (kl ts x (n+k))
theorem U3{ts:af}{x:ts.ai}{n:Nat}:∀ {k:Nat},M3 ts x n k->∀ i,i<k->Dp (kl ts x (n+i))
 | 0,_,i,h=>by omega
 | k+1,hc,i,h=>by
  by_cases e:i=k
  ·rw[e];exact hc.2
  ·exact U3 hc.1 i (by omega)
theorem U4(ts:af)(x:ts.ai):∀ (l:List Nat) (i:Nat),ff (l.map λi=>(i,kl ts x i)) i=if i∈l then kl ts x i else .undef
 | [],i=>by simp[ff]
 | j::l,i=>by
  simp only[List.map_cons,ff];by_cases e:i=j
  ·subst e;simp
  ·rw[if_neg e,U4 ts x l i];simp[e]
theorem sj{ts:af}{x:ts.ai}{n:Nat}(h:M3 ts x n (sg ts - n)):Dq n (ph ts x):=λi G=>by
 show Dp (ff (z6 ts x (sg ts)) i);unfold z6;rw[U4];split
 ·rename_i ao;rw[List.mem_range]at ao;have aB:¬i<n:=λh=>G (.inl h);have:=U3 h (i - n) (by omega);rwa [show n+(i - n)=i by omega]at this
 ·trivial
end Go.Fer
namespace Go.Fer
open M (ab)
theorem bn{n:Int}(h1:-9223372036854775808<=n)(h2:n<9223372036854775808):IntKind.i64.wrap n=n:=by
 show (if (true&&decide (n % 2 ^ 64>=(2 ^ (64 - 1):Int)))=true then n % 2 ^ 64 - 2 ^ 64 else n % 2 ^ 64)=n;grind
theorem b4(a b:Int):Add.add a b=a+b:=rfl
theorem iE(a b:Nat):Add.add a b=a+b:=rfl
theorem U5{aq:Type}(a b:List aq):Append.append a b=a++b:=rfl
theorem bI(n:Nat):Int.ofNat n=(n:Int):=rfl
theorem qk{x c d:Bool}:(x||!(if (!x)=true then c else d))=(x||!c):=by grind
theorem U6{x c d:Bool}:(x||(if (!x)=true then c else d))=(x||c):=by grind
theorem vp{x c d:Bool}:(x&&(if x=true then c else d))=(x&&c):=by grind
namespace M
variable {aq β f_ A aG:Type}
theorem bj{m:M aq}{p:Prop}{v:aq}(h:p->m=pure v):le m (dx p v):=λhp=>by
 rw[h hp];exact⟨trivial,λ_ aO=>aO⟩
theorem sk{m:M aq}{p:Prop}{v:aq}(h:p->ca m λy=>y=v):le m (dx p v):=λhp=>h hp
theorem gu{p:Prop}{v d:aq}:(dx p v).val d=v:=by
 unfold val;have h:∃ x,(dx p v).bD x:=⟨v,rfl⟩
 rw[dif_pos h];exact h.choose_spec
theorem fg{v d:aq}:(pure v).val d=v:=gu (p:=True)
theorem nR{p:Prop}{v:aq}:(dx p v).b1=p:=rfl
theorem vq{p:Prop}{v:aq}:(dx p v).Cx:=λ_ _ h k=>h.trans k.symm
theorem iT{g:Bool}{p:Prop}{v d:aq}:b7 g (dx p v) d=dx (g=true->p) (if g=true then v else d):=by
 cases g
 ·exact (bF (by simp) _).symm
 ·simp[b7]
theorem ku{g:Bool}{v d:aq}:b7 g (pure v) d=pure (if g=true then v else d):=by cases g<;>rfl
theorem bL{f:A->M β}{x:A}:ab.bm f (.next x:ab A β)=f x:=rfl
theorem pn{f:A->M β}{r:β}:ab.bm f (.done r:ab A β)=pure r:=rfl
end M
def eI{aq β aG:Type}(f:aq->β->ab β aG)(fin:β->aG):List aq->β->aG
 | [],b=>fin b
 | x::l,b=>match f x b with
  | .next a1=>eI f fin l a1
  | .done r=>r
def ab.gV{A β aG:Type}(g:β->A):ab β aG->ab A aG
 | .next b=>.next (g b)
 | .done r=>.done r
theorem M.gj{aq β A aG:Type}{body:A->M (ab A aG)}{s0:A}(l:List aq)(mk:Nat->β->A)(f:aq->β->ab β aG)(fin:β->aG)(I:Nat->β->Prop)(b:β)(mO:s0=mk 0 b)(h0:I 0 b)
  (hs:∀ i (h:i<l.length) b,I i b->body (mk i b)=M.pure (ab.gV (mk (i+1)) (f l[i] b))/\∀ a1,f l[i] b=.next a1->I (i+1) a1)
  (au:∀ b,I l.length b->body (mk l.length b)=M.pure (.done (fin b))):M.loop body s0=M.pure (eI f fin l b):=by
 subst mO;have key:∀ (k:Nat) (r:List aq) (b:β),k<=l.length->r=l.drop k->I k b->M.loop body (mk k b)=M.pure (eI f fin r b):=by
  intro k r;induction r generalizing k with
  | nil=>
   intro b aj aa ei;have:k=l.length:=by have:=congrArg List.length aa;grind
   subst this;exact M.s4 (au b ei)
  | cons x r aJ=>
   intro b aj aa ei;have bX:k<l.length:=by
    grind
   rw[List.drop_eq_getElem_cons bX]at aa;injection aa with hx aa
   obtain⟨h1,h2⟩:=hs k bX b ei;rw[<-hx]at h1 h2;simp only[eI];cases q9:f x b with
   | next a1=>
    rw[q9]at h1;rw[M.BB h1];grind
   | done pS=>
    rw[q9]at h1;exact M.s4 h1
 grind
theorem M.dj{aq β A aG:Type}{body:A->M (ab A aG)}{s0:A}(l:List aq)(mk:Nat->β->A)(f:aq->β->ab β aG)(fin:β->aG)(b:β)(mO:s0=mk 0 b)
  (hs:∀ i (h:i<l.length) b,body (mk i b)=M.pure (ab.gV (mk (i+1)) (f l[i] b)))
  (au:∀ b,body (mk l.length b)=M.pure (.done (fin b))):M.loop body s0=M.pure (eI f fin l b):=
 M.gj l mk f fin (λ_ _=>True) b mO trivial (λi h b _=>⟨hs i h b,λ_ _=>trivial⟩) λb _=>au b
section
variable {aq β aG:Type}
theorem po{p:aq->Bool}{r:aG}{fin:β->aG}:∀ (l:List aq) (b:β),eI (λx b=>if p x=true then .done r else .next b) fin l b=if l.any p=true then r else fin b
 | [],b=>by rfl
 | x::l,b=>by
  simp only[eI,List.any_cons,Bool.or_eq_true];by_cases h:p x=true
  ·simp[h]
  ·have h:p x=false:=by grind
   simp only[h,Bool.false_eq_true,if_false,false_or];exact po l b
theorem Ha{p:aq->Bool}{r:aG}{fin:β->aG}:∀ (l:List aq) (b:β),eI (λx b=>if p x=true then .next b else .done r) fin l b=if l.all p=true then fin b else r
 | [],b=>by rfl
 | x::l,b=>by
  simp only[eI,List.all_cons,Bool.and_eq_true];by_cases h:p x=true
  ·simp only[h,if_true,true_and];exact Ha l b
  grind
theorem dZ{h:β->aq->β}{fin:β->aG}:∀ (l:List aq) (b:β),eI (λx b=>.next (h b x)) fin l b=fin (l.foldl h b)
 | [],b=>rfl
 | x::l,b=>by simp only[eI,List.foldl_cons];exact dZ l (h b x)
theorem U7{p:aq->Bool}:∀ (l:List aq) (b:List aq),l.foldl (λb x=>if p x=true then b++[x] else b) b=b++l.filter p
 | [],b=>by simp
 | x::l,b=>by
  simp only[List.foldl_cons,List.filter_cons];rw[U7 l];grind
theorem xN{f_:Type}{g:aq->f_}:∀ (l:List aq) (b:List f_),l.foldl (λb x=>b++[g x]) b=b++l.map g
 | [],b=>by simp
 | x::l,b=>by simp only[List.foldl_cons,List.map_cons];rw[xN l];simp
end
theorem U8{aq:Type}{p q:aq->Bool}(h:∀ x,p x=!q x)(l:List aq):l.any p=!l.all q:=by
 grind
theorem kL{aq β aG:Type}{p q:aq->Bool}{r:aG}{fin:β->aG}(l:List aq)(b:β)(h:∀ x,p x=!q x):eI (λx b=>if p x=true then .done r else .next b) fin l b=if l.all q=true then fin b else r:=by
 rw[po,U8 h];grind
theorem mQ{A β aG:Type}{c:Bool}{mk:β->A}{b:β}{r:aG}:(if c=true then M.pure (ab.done r) else M.pure (ab.next (mk b)))=M.pure (ab.gV mk (if c=true then .done r else .next b)):=by cases c<;>rfl
theorem U9{A β aG:Type}{c:Bool}{mk:β->A}{b:β}{r:aG}:(if c=true then M.pure (ab.done r) else M.pure (ab.next (mk b)))=M.pure (ab.gV mk (if c=true then .done r else .next b)):=by cases c<;>rfl
theorem cG{l:Nat}{i:Nat}(h:i<l):decide ((i:Int)<(l:Int))=true:=by grind
theorem cq{l:Nat}{i:Nat}(h:i<l):((0:Int)<=(i:Int)/\(i:Int)<(l:Int))=True:=by grind
theorem c6{aq:Type}{l:List aq}{i:Nat}{d:aq}(h:i<l.length):l.getD (Int.toNat (i:Int)) d=l[i]:=by
 grind
theorem xO{aq:Type}{l:List aq}{i:Int}{d:aq}(h0:0<=i)(h:i<(l.length:Int)):l.getD i.toNat d∈l:=by
 grind
def dM(a b:Int):z1':=(List.range (b - a+1).toNat).map λ(i:Nat)=>a+(i:Int)
theorem xP(a b:Int):(dM a b).length=(b - a+1).toNat:=by simp[dM]
theorem Dy{a b:Int}{i:Nat}(h:i<(dM a b).length):(dM a b)[i]=a+i:=by simp[dM]
theorem oz{a b n:Int}:n∈dM a b<->a<=n/\n<=b:=by
 simp only[dM,List.mem_map,List.mem_range];constructor
 ·omega
 ·rintro⟨h1,h2⟩;exact⟨(n - a).toNat,by omega,by omega⟩
end Go.Fer
namespace Go.Fer.n3
open Go.Proofs
abbrev oA:Type:=List (Nat×SC)
def oB{aq:Type}:List (Nat×aq)->Nat->Option aq
 | [],_=>none
 | p::l,k=>if k=p.1 then some p.2 else oB l k
theorem Dz{aq:Type}{k:Nat}{c:aq}:∀ {l:List (Nat×aq)},oB l k=some c->(k,c)∈l
 | [],h=>by cases h
 | p::l,h=>by
  unfold oB at h;split at h
  ·rename_i e;cases h;subst e;simp
  ·exact List.mem_cons_of_mem _ (Dz h)
def sn(T:oA):List (Nat×eN)->Nat->Option eN
 | [],k=>match oB T k with
  | some c=>some (.dc c)
  | none=>none
 | p::l,k=>if k=p.1 then some p.2 else sn T l k
def U_(k:Nat)(c:SC):Prop:=hR Tryz.prog k c.ts c.tr c.sh/\(c.dx=true->∀ x,(c.sh x).Cx)
structure kM(T:oA):Type where
 ok:∀ p∈T,U_ p.1 p.2
abbrev aiT{T:oA}(_:kM T):oA:=T
def aiU:kM []:=⟨λp h=>by cases h⟩
def kM.cons{T:oA}(h:kM T){n:Nat}{c:SC}(k:U_ n c):kM ((n,c)::T):=⟨λp hp=>by
 rcases List.mem_cons.1 hp with rfl | hp
 ·exact k
 ·exact h.ok p hp⟩
def DA(U:dm):List (Nat×eN)->Prop
 | []=>True
 | p::l=>p.2.Ok Tryz.prog U p.1/\DA U l
theorem kM.Hb{U:dm}{T:oA}(h:kM T):∀ {sp:List (Nat×eN)},DA U sp->lM Tryz.prog U (sn T sp)
 | [],_,k,c,e=>by
  unfold sn at e;split at e
  ·rename_i c' hc;cases e;exact h.ok (k,c') (Dz hc)
  ·cases e
 | p::l,hs,k,c,e=>by
  unfold sn at e;split at e
  ·rename_i aj;cases e;subst aj;exact hs.1
  ·exact kM.Hb h (sp:=l) hs.2 k c e
def Ae:af->List af
 | .cA=>[]
 | .ay a b=>a::Ae b
 | t=>[t]
def U':af->af
 | .br t=>t
 | t=>t
def Va{ts Vb:af}(e:Vb=ts){tr:af}(sh:ts.ai->M tr.ai):Vb.ai->M tr.ai:=e ▸ sh
def M4(pq:Nat)(c:SC):Option E4:=
 if h:((Ae c.ts).take pq).all af.ga=true/\fP ((Ae c.ts).take pq++(((Ae c.ts).drop pq).map U').map .br)=c.ts then some ⟨(Ae c.ts).take pq,((Ae c.ts).drop pq).map U',c.tr,Va h.2 c.sh⟩ else none
def Vc:z8'->Nat->Option Nat
 | [],_=>none
 | p::l,k=>if k=p.1 then some p.2 else Vc l k
def Af(T:oA)(cl:z8')(Hc:List (Nat×wG)):dm where
 s8:=λk=>match oB T k with
  | some c=>some ⟨c.ts,c.tr,c.sh⟩
  | none=>none
 s9:=λk=>match Vc cl k with
  | some pq=>match oB T k with
   | some c=>M4 pq c
   | none=>none
  | none=>none
 wI:=oB Hc
def DB:List (Nat×wG)->Prop
 | []=>True
 | p::l=>wH Tryz.prog p.1 p.2/\DB l
theorem DB.mem:∀ {l:List (Nat×wG)},DB l->∀ p∈l,wH Tryz.prog p.1 p.2
 | [],_,p,h=>by cases h
 | q::l,h,p,hp=>by
  rcases List.mem_cons.1 hp with rfl | hp
  ·exact h.1
  ·exact DB.mem h.2 p hp
theorem aiV{k pq:Nat}{c:SC}{v:E4}(h:hR Tryz.prog k c.ts c.tr c.sh)(e:M4 pq c=some v):v.as.all af.ga=true/\hR Tryz.prog k (fP (v.as++v.cs.map .br)) v.tr v.sh:=by
 unfold M4 at e;split at e
 ·rename_i cB;cases e;refine⟨cB.1,?_⟩;have key:∀ (ts:af) (e:ts=c.ts),hR Tryz.prog k ts c.tr (Va e c.sh):=by rintro _ rfl;exact h
  exact key _ cB.2
 ·cases e
theorem kM.u{T:oA}(h:kM T)(cl:z8')(Hc:List (Nat×wG))(G:DB Hc):qE Tryz.prog (Af T cl Hc) where
 s8:=λk v e=>by
  simp only[Af]at e;split at e
  ·rename_i c hc;cases e;exact (h.ok (k,c) (Dz hc)).1
  ·cases e
 s9:=λk v e=>by
  simp only[Af]at e;split at e
  ·split at e
   ·rename_i c hc;exact aiV (h.ok (k,c) (Dz hc)).1 e
   ·cases e
  ·cases e
 wI:=λk v e=>G.mem (k,v) (Dz e)
abbrev rk(fn:Func):Code:=fn.body.getD .skip
theorem Hd{fn:Func}(h:fn.body.isSome=true):fn.body=some (rk fn):=by
 unfold rk;cases e:fn.body with
 | none=>rw[e]at h;cases h
 | some b=>rfl
abbrev DC(fn:Func)(ts tr:af):Bool:=fn.body.isSome&&Dr fn (rk fn) ts tr
theorem He{T:oA}(hT:kM T){U:dm}(hL:qE Tryz.prog U){sp:List (Nat×eN)}(nP:DA U sp){n:Nat}{fn:Func}(au:Tryz.prog.funcs[n]?=some fn){ts tr:af}{sh:ts.ai->M tr.ai}{ann:ch}{S:ts.ai->M tr.ai}(hs:∀ x,M.le (S x) (sh x))(ct:DC fn ts tr=true)(an:∀ x,Dn U (rf vo) xM (sn T sp) fn (rk fn) ann ts tr x=S x):hR Tryz.prog n ts tr sh:=
 have ct:=Bool.and_eq_true _ _ ▸ ct
 ahU G_ nQ hL G' (hT.Hb nP) au (Hd ct.1) ct.2 λx=>M.le_trans (M.le_of_eq (an x)) (hs x)
def mk{T:oA}(hT:kM T){n:Nat}{fn:Func}(au:Tryz.prog.funcs[n]?=some fn)(c:aL)(ann:ch){S:c.ts.ai->M c.tr.ai}(hs:∀ x,M.le (S x) (c.sh x))(ct:DC fn c.ts c.tr=true:=by kernel_rfl)(an:∀ x,Dn noU (rf vo) xM (sn T []) fn (rk fn) ann c.ts c.tr x=S x:=by intro x;kernel_rfl):kM ((n,c.dc)::T):=
 hT.cons ⟨He hT mi (sp:=[]) trivial au hs ct an,λ_ _=>M.vq⟩
def lQ{T:oA}(hT:kM T)(cl:z8'){n:Nat}{fn:Func}(au:Tryz.prog.funcs[n]?=some fn)(c:aL)(ann:ch){S:c.ts.ai->M c.tr.ai}(hs:∀ x,M.le (S x) (c.sh x))(ct:DC fn c.ts c.tr=true:=by kernel_rfl)(an:∀ x,Dn (Af T cl []) (rf vo) xM (sn T []) fn (rk fn) ann c.ts c.tr x=S x:=by intro x;kernel_rfl):kM ((n,c.dc)::T):=
 hT.cons ⟨He hT (hT.u cl [] trivial) (sp:=[]) trivial au hs ct an,λ_ _=>M.vq⟩
def pt{T:oA}(hT:kM T){U:dm}(hL:qE Tryz.prog U)(sp:List (Nat×eN))(nP:DA U sp){n:Nat}{fn:Func}(au:Tryz.prog.funcs[n]?=some fn)(c:aL)(ann:ch){S:c.ts.ai->M c.tr.ai}(hs:∀ x,M.le (S x) (c.sh x))(ct:DC fn c.ts c.tr=true:=by kernel_rfl)(an:∀ x,Dn U (rf vo) xM (sn T sp) fn (rk fn) ann c.ts c.tr x=S x:=by intro x;kernel_rfl):kM ((n,c.dc)::T):=
 hT.cons ⟨He hT hL nP au hs ct an,λ_ _=>M.vq⟩
def jI{T:oA}(hT:kM T)(cl:z8'){n:Nat}{fn:Func}(au:Tryz.prog.funcs[n]?=some fn)(c:aL)(pq:Nat)(ann:ch){S:c.ts.ai->M c.tr.ai}(hs:∀ x,M.le (S x) (c.sh x))(hc:∀ x,c.pre x->Dq pq (ph c.ts x):=by intro x h;obtain⟨f,au,_⟩:=h;exact sj ⟨trivial,rj au⟩)(ct:DC fn c.ts c.tr=true:=by kernel_rfl)
  (an:∀ x,ej (Af T cl []) (rf vo) xM (sn T []) ann (rk fn) (G1 pq (ph c.ts x)) (vl (rf vo) fn.results.toList c.tr)=S x:=by intro x;kernel_rfl):kM ((n,c.dc)::T):=
 have ct:=Bool.and_eq_true _ _ ▸ ct
 hT.cons ⟨ahW (n:=pq) G_ nQ (hT.u cl [] trivial) G' (hT.Hb (sp:=[]) trivial) au (Hd ct.1) ct.2 λx=>M.aiS (hc x) (M.le_trans (M.le_of_eq (an x)) (hs x)),λ_ _=>M.vq⟩
theorem mkI{T:oA}(hT:kM T){U:dm}(sp:List (Nat×eN))(nP:DA U sp){n:Nat}{fn:Func}(au:Tryz.prog.funcs[n]?=some fn){c:IOC}(ann:ch){S:c.b6.ai->M c.bD.ai}(hs:∀ x,M.le (S x) (c.sh x))(ct:(fn.body.isSome&&Ds fn (rk fn) c.j9 c.ks)=true:=by kernel_rfl)(an:∀ x,MI U (rf vo) xM (sn T sp) fn (rk fn) ann c.b6 c.bD c.ks x=S x:=by intro x;kernel_rfl):IoSpec Tryz.prog U n c:=
 have ct:=Bool.and_eq_true _ _ ▸ ct
 Us G_ nQ G' (hT.Hb nP) au (Hd ct.1) ct.2 λx=>M.le_trans (M.le_of_eq (an x)) (hs x)
theorem M5{U:dm}{n:Nat}{fn:Func}(au:Tryz.prog.funcs[n]?=some fn){c:IOC}(hs:∀ x,¬(c.sh x).b1)(ct:(fn.body.isSome&&Ds fn (rk fn) c.j9 c.ks)=true:=by kernel_rfl):IoSpec Tryz.prog U n c:=
 have ct:=Bool.and_eq_true _ _ ▸ ct
 Us G_ nQ G' (Ψ:=λ_=>none) (λk c h=>by cases h) (ann:=.ew) au (Hd ct.1) ct.2 λx h=>absurd h (hs x)
end Go.Fer.n3
namespace Go.Fer
open Go.RowKit
theorem aiW{P:Program}{U:dm}{k:FuncId}{ts e:af}(tJ:ts≠.cA){c:IOC}(h:IoSpec P U k c)(hL:qE P U){sh:ts.ai->M (af.slice e).ai}{b0:Nat}(mk:ts.ai->c.b6.ai)
    (aiX:∀ x,c.b6.st (mk x)=⟨ff ((List.range (jZ ts)).map λi=>(i,kl ts x i)),λ_=>⟨0,.fm⟩⟩) (aB:c.j9=jZ ts) (hM:c.j9<=eC) (aiY:c.ks=[none]) (val:c.bD.ai->List e.ai)
    (qe:∀ τ,(c.bD.st τ).ax 0=.own b0 0/\(c.bD.st τ).ae b0=⟨0,.a8 e (val τ)⟩)
    (rQ:∀ x,(sh x).b1->(c.sh (mk x)).b1/\∀ τ,(c.sh (mk x)).bD τ->val τ=(sh x).val (af.slice e).cP):ny (SC.ow ⟨ts,.slice e,sh,true⟩).tr=true/\Ch P k (SC.ow ⟨ts,.slice e,sh,true⟩):=by
  refine⟨rfl,h.enter,?_⟩;intro (x:ts.ai) (hs:(sh x).b1) y aO F w args bd fT (dF:fb P ts F w args x);cases aO;obtain⟨iq,GO⟩:=tp (H:=λ_=>⟨0,.fm⟩) (κ:=λ_=>⟨0,0,0,false⟩) ts dF tJ;let C:bS:={ P:=P,w0:=w,F0:=F,K0:=λr=>r<w.heap.size,nt:=c.j9,r:=none,dfr:=[],h6:=λ_=>none,pr:=⟨0,.cA,λ_=>False,λ_ _ _ _ _=>False⟩,aM:=U }
  have CS:∀ i,ff ((List.range (jZ ts)).map λi=>(i,kl ts x i)) i=.undef\/(i<jZ ts/\ff ((List.range (jZ ts)).map λi=>(i,kl ts x i)) i=kl ts x i):=λi=>by
    rcases Un (l:=(List.range (jZ ts)).map λi=>(i,kl ts x i)) (i:=i) with e | e
    · exact .inl e
    · refine .inr ?_
      generalize ba:ff ((List.range (jZ ts)).map λi=>(i,kl ts x i)) i=z at e
      simp only[List.mem_map,List.mem_range,Prod.mk.injEq]at e
      obtain⟨j,aD,rfl,rfl⟩:=e
      exact⟨aD,rfl⟩
  have aa:bc C (c.b6.st (mk x)) { tmps:=args.toArray,defers:=[] } w (λ_=>⟨0,0,0,false⟩) F:=by
    rw[aiX];refine { dn := ?_, dfr := rfl, bG := λi => ?_, bq := λb => trivial, own := λb ad => (by cases ad), inj := λb a1 ad _ _ => (by cases ad), cM := bd, gO := λr aa => .inl aa, hE := λr aa => aa, g_ := λr aa => aa, eg := λr _ => rfl, size := Nat.le_refl _, dV := cN.refl w,fR:=hM,kg:=λb r h=>(by cases h),jv:=λb r h=>(by cases h),jX:=λb k h=>(by cases h),kh:=λb k h=>(by cases h),pro:=λl aK L n st e=>?_,jw:=hL,im:=fT }
    · grind
    · rcases CS i with e | ⟨G,e⟩
      · show bl _ _ _ _ _ (ff _ i) _
        rw[e];trivial
      · show bl _ _ _ _ _ (ff _ i) _
        rw[e]
        have:=GO i G
        simpa [Array.getD_eq_getD_getElem?,List.getD_eq_getElem?_getD]using this
    · rcases CS TRS with h | ⟨h,_⟩
      · grind
      · unfold TRS at h;unfold eC at hM;omega
  obtain⟨LR,tz⟩:=rQ x hs;refine (h.iK C _ w _ F (mk x) rfl rfl rfl rfl rfl rfl aa LR).mono λaV w' ⟨v,τ,aC,κ',F',BE,hτ,Gp,aY⟩=>?_;obtain⟨aiZ,xx⟩:=qe τ;rw[aiY]at Gp;obtain⟨us,fp,LI,M6⟩:=Gp;obtain⟨u,rfl⟩:∃ u,us=[u]:=by
    match us,fp with
    | [u],_=>simp
  have M7:aC=[u]:=by
    obtain⟨_,M7,h2⟩:=M6;rw[M7,h2]
  have hv:v=u:=by simpa using LI
  have hsl:=aY.bG 0;rw[aiZ,M7]at hsl;have Vd:u=(κ' b0).slice ((c.bD.st τ).ae b0).body.len:=by
    have:=hsl.2 (by rw[xx]) (by rw[xx];rfl);simp_all
  rw[xx]at Vd;have aN:=aY.bq b0;unfold cj at aN;rw[xx]at aN;obtain⟨h1,h2⟩:=aN;have xH:val τ=(sh x).val (af.slice e).cP:=tz τ hτ;refine⟨κ' b0,F',by rw[BE,hv,Vd];simp only[bC.len];rw[xH];rfl,aY.hE,λr Ve=>?_,λaB=>?_,λaB=>?_,aY.dV.os,aY.dV.tape,aY.dV.output,aY.size,aY.eg⟩
  · rcases aY.gO r Ve with cB | cB
    · exact .inl cB
    · exact .inr ⟨Nat.le_of_not_lt cB,aY.cM r Ve⟩
  · have:=h1 aB
    rw[xH]at this
    exact this
  · have ah:=aY.own b0 (by rw[xx];simp[bC.bN,aB])
    obtain⟨cs,T,c1,c2,c3,c4,c5⟩:=h2 aB
    rw[xH]at c3 c5
    exact⟨⟨Nat.le_of_not_lt ah.2.2,ah.1,ah.2.1⟩,cs,T,c1,c2,c3,c4,c5⟩
end Go.Fer
namespace Go.Fer
open M (ab)
abbrev be:Type:=z2'×List (List (Int×z1'×Int×Int))×Int×z2'
abbrev ql:Type:=be×List (z1')
abbrev eV(l:z4')(a b:Int):z4':=lz (k:=.int .i64) (v:=.int .i64) l a b
abbrev vr(l:z5')(a:Int×Int×Int)(b:Int):z5':=lz (k:=.st (.ay (.int .i64) (.ay (.int .i64) (.int .i64)))) (v:=.int .i64) l a b
def M8(la:Int×Int×Int->M Bool)(x:be×Int):M Bool:=
 M.bind (la (x.2,0,IntKind.wrap .i64 (Int.ofNat (List.length x.1.1)-1))) λy=>M.pure y
def Hf(la:Int×Int×Int->M Bool)(ai0:be×Int->M Bool)(x:be×Int×Int):M Bool:=
 M.bind (ai0 (x.1,x.2.1)) λy=>M.ag (y=true->(y=true/\y=true)/\(0<=x.2.1/\x.2.1<Int.ofNat (List.length x.1.2.1))/\True) (M.bind (b7 y (la (x.2.2,0,IntKind.wrap .i64 (Int.ofNat (List.length (List.getD x.1.2.1 (Int.toNat x.2.1) []))-1))) false) (λbH=>M.pure (y&&bH)))
def M9(ai1:z2'×List (List (Int×z1'×Int×Int))×Int×z2'->M Bool)(x:z2'×List (List (Int×z1'×Int×Int))×Int×z2'):M Int:=
 M.bind (ai1 x) λy=>if (!y)=true then M.pure 70 else M.bind (M.loop (λ(A:Int×be×Unit)=>if decide (A.1<Int.ofNat (List.length A.2.1.2.2.2))=true then M.bind (M.loop (λ(A:Int×Int×be×Unit)=>letI d:=A.2.2.1.2.2.2;letI c:=Int.ofNat (List.length d);letI b:=List.getD d (Int.toNat A.1) (0,0,0,0);letI a:=List.getD d (Int.toNat A.2.1) (0,0,0,0);if decide (A.2.1<A.1)=true then M.ag (0<=A.2.1/\A.2.1<c) (M.ag (0<=A.1/\A.1<c) (if (decide (a.1=b.1)&&decide (a.2.1=b.2.1)&&decide (a.2.2.1=b.2.2.1)&&decide (a.2.2.2≠b.2.2.2))=true then M.bind (M.bind (M.bind (M.bind (M.pure 71) (λr=>M.pure (ab.done r))) (λr=>M.pure (ab.done r))) (λr=>M.pure (ab.done r))) λr=>M.pure (ab.done r) else M.pure (ab.next (A.1,IntKind.wrap .i64 (Add.add A.2.1 1),A.2.2.1,())))) else M.bind (M.pure (ab.next (A.1,A.2.2.1,()))) λr=>M.pure (ab.done r)) (A.1,0,A.2.1,())) (ab.bm (λ(A:Int×be×Unit)=>M.pure (ab.next (IntKind.wrap .i64 (Add.add A.1 1),A.2.1,())))) else M.bind (M.pure (ab.next ())) λr=>M.pure (ab.done r)) (0,x,())) (ab.bm (λ(A:Unit)=>M.pure 0))
def Vf(ai2:z1'×Int->M Bool)(la:Int×Int×Int->M Bool)(x:be×Int×Int×Int×Int):M Bool:=
 letI e:=x.2.2.2;letI c:=List.getD x.1.2.1 (Int.toNat e.1) [];letI b:=List.getD x.1.1 (Int.toNat x.2.1) (0,0,0,0);letI a:=List.getD c (Int.toNat e.2) (0,[],0,0);letI d:=decide (b.1=a.1);M.ag (0<=x.2.1/\x.2.1<Int.ofNat (List.length x.1.1)) (M.ag (0<=e.1/\e.1<Int.ofNat (List.length x.1.2.1)) (M.ag (0<=e.2/\e.2<Int.ofNat (List.length c)) (M.bind (b7 d (ai2 (a.2.1,b.2.1)) false) (λy=>M.bind (b7 (d&&y) (la (x.2.2.1,a.2.2.1,IntKind.wrap .i64 (Add.add a.2.2.2 x.1.2.2.1))) false) λbH=>M.pure (d&&y&&bH)))))
def M_(x:z1'):M Bool:=
 M.bind (M.loop (λ(A:z1'×Int×Unit)=>letI c:=A.2.1;letI b:=IntKind.wrap .i64 (c-1);letI a:=Int.ofNat (List.length A.1);if decide (c<a)=true then M.ag (0<=c/\c<a) (M.ag (0<=b/\b<a) (if decide (List.getD A.1 (Int.toNat c) 0<=List.getD A.1 (Int.toNat b) 0)=true then M.bind (M.bind (M.pure false) (λr=>M.pure (ab.done r))) λr=>M.pure (ab.done r) else M.pure (ab.next (A.1,IntKind.wrap .i64 (Add.add c 1),())))) else M.bind (M.pure (ab.next ())) λr=>M.pure (ab.done r)) (x,1,())) (ab.bm (λ(A:Unit)=>M.pure true))
def ai3(x:Int×Int×Int):M Bool:=
 M.pure (decide (x.1>=x.2.1)&&decide (x.1<=x.2.2))
def M'(la:Int×Int×Int->M Bool)(x:be×Int):M Bool:=
 M.bind (la (x.2,0,IntKind.wrap .i64 (Int.ofNat (List.length x.1.2.1)-1))) λy=>M.pure y
def Na(ai4:be×Int->M Bool)(ai5:be×Int×Int->M Bool)(la:Int×Int×Int->M Bool)(Nb:Int×Int->M Bool)(ai6:Int×z1'×Int×Int->M Bool)(x:z2'×List (List (Int×z1'×Int×Int))×Int×z2'):M Bool:=
 letI c:=decide (Int.ofNat (List.length x.1) > 10)||decide (Int.ofNat (List.length x.2.1) > 6);M.bind (b7 (!c) (la (x.2.2.1,0,99)) false) λy=>if (c||!y||decide (Int.ofNat (List.length x.2.2.2) > 30))=true then M.pure false else M.bind (M.loop (λ(A:Int×be×Unit)=>letI h:=A.1<Int.ofNat (List.length A.2.1.1);letI b:=List.getD A.2.1.1 (Int.toNat A.1) (0,0,0,0);if decide h=true then M.ag (0<=A.1/\h) (M.bind (la (b.1,0,9)) (λy=>M.bind (b7 (!(!y)) (la (b.2.1,0,9)) false) λbH=>M.bind (b7 (!(!y||!bH)) (Nb b.2.2) false) λdv=>if (!y||!bH||!dv)=true then M.bind (M.bind (M.pure false) (λr=>M.pure (ab.done r))) λr=>M.pure (ab.done r) else M.pure (ab.next (IntKind.wrap .i64 (Add.add A.1 1),A.2.1,())))) else M.bind (M.pure (ab.next (A.2.1,()))) λr=>M.pure (ab.done r)) (0,x,())) (ab.bm (λ(A:be×Unit)=>M.bind (M.loop (λ(A:Int×be×Unit)=>letI g:=A.1<Int.ofNat (List.length A.2.1.2.1);if decide g=true then M.bind (M.ag (0<=A.1/\g) (if decide (Int.ofNat (List.length (List.getD A.2.1.2.1 (Int.toNat A.1) [])) > 4)=true then M.bind (M.bind (M.bind (M.pure false) (λr=>M.pure (ab.done r))) (λr=>M.pure (ab.done r))) λr=>M.pure (ab.done r) else M.loop (λ(A:Int×Int×be×Unit)=>letI j:=A.2.2.1;letI e:=0<=A.1/\A.1<Int.ofNat (List.length j.2.1);letI d:=List.getD j.2.1 (Int.toNat A.1) [];letI i:=A.2.1<Int.ofNat (List.length d);M.ag e (if decide i=true then M.ag e (M.ag (0<=A.2.1/\i) (M.bind (ai6 (List.getD d (Int.toNat A.2.1) (0,[],0,0))) (λy=>if (!y)=true then M.bind (M.bind (M.bind (M.bind (M.pure false) (λr=>M.pure (ab.done r))) (λr=>M.pure (ab.done r))) (λr=>M.pure (ab.done r))) λr=>M.pure (ab.done r) else M.pure (ab.next (A.1,IntKind.wrap .i64 (Add.add A.2.1 1),j,()))))) else M.bind (M.pure (ab.next (A.1,j,()))) λr=>M.pure (ab.done r))) (A.1,0,A.2.1,()))) (ab.bm (λ(A:Int×be×Unit)=>M.pure (ab.next (IntKind.wrap .i64 (Add.add A.1 1),A.2.1,())))) else M.bind (M.pure (ab.next (A.2.1,()))) λr=>M.pure (ab.done r)) (0,A.1,())) (ab.bm (λ(A:be×Unit)=>M.bind (M.loop (λ(A:Int×be×Unit)=>letI f:=A.1<Int.ofNat (List.length A.2.1.2.2.2);letI a:=List.getD A.2.1.2.2.2 (Int.toNat A.1) (0,0,0,0);if decide f=true then M.ag (0<=A.1/\f) (M.bind (ai4 (A.2.1,a.1)) (λy=>M.bind (b7 (!(!y)) (ai5 (A.2.1,a.2.1,a.2.2.1)) false) λbH=>M.bind (b7 (!(!y||!bH)) (la (a.2.2.2,0,1)) false) λdv=>if (!y||!bH||!dv)=true then M.bind (M.bind (M.pure false) (λr=>M.pure (ab.done r))) λr=>M.pure (ab.done r) else M.pure (ab.next (IntKind.wrap .i64 (Add.add A.1 1),A.2.1,())))) else M.bind (M.pure (ab.next ())) λr=>M.pure (ab.done r)) (0,A.1,())) (ab.bm (λ(A:Unit)=>M.pure true))))))
def Nc(la:Int×Int×Int->M Bool)(x:Int×Int):M Bool:=
 M.bind (la (x.1,0,x.2)) λy=>M.pure (y&&decide (x.2<=999))
def Nd(ai7:z1'->M Bool)(la:Int×Int×Int->M Bool)(Nb:Int×Int->M Bool)(x:Int×z1'×Int×Int):M Bool:=
 M.bind (M.loop (λ(A:Int×(Int×z1'×Int×Int)×Unit)=>letI b:=A.1<Int.ofNat (List.length A.2.1.2.1);if decide b=true then M.ag (0<=A.1/\b) (M.bind (la (List.getD A.2.1.2.1 (Int.toNat A.1) 0,0,9)) (λy=>if (!y)=true then M.bind (M.bind (M.pure false) (λr=>M.pure (ab.done r))) λr=>M.pure (ab.done r) else M.pure (ab.next (IntKind.wrap .i64 (Add.add A.1 1),A.2.1,())))) else M.bind (M.pure (ab.next (A.2.1,()))) λr=>M.pure (ab.done r)) (0,x,())) (ab.bm (λ(A:(Int×z1'×Int×Int)×Unit)=>M.bind (la (A.1.1,0,9)) λy=>letI a:=y&&decide (Int.ofNat (List.length A.1.2.1)<=4);M.bind (b7 a (ai7 A.1.2.1) false) λbH=>M.bind (b7 (a&&bH) (Nb A.1.2.2) false) λdv=>M.pure (a&&bH&&dv)))
def Vg(axG:Int×Int->M (Int×Int))(ai8:Int×Int->M (Int×Int))(x:Int×Int):M (Int×Int):=
 M.bind (ai8 x) λy=>M.pure y
def Vh(ai9:z1'×Int->M Int)(x:z1'×Int):M Bool:=
 M.bind (ai9 x) λy=>M.pure (decide (y>=0))
def Vi(x:Int×Int):M (Int×Int):=
 M.ag ((0:Int)<=32) (M.ag ((0:Int)<=32) (M.ag ((0:Int)<=32) (M.ag ((0:Int)<=32) (M.ag ((0:Int)<=32) (M.pure (IntKind.wrap .u64 (Add.add (IntKind.wrap .u64 (Add.add (IntKind.wrap .u64 (i' .u64 x.1 32*i' .u64 x.2 32)) (i' .u64 (IntKind.wrap .u64 (Add.add (IntKind.wrap .u64 (i' .u64 x.1 32*ly .u64 x.2 4294967295)) (i' .u64 (IntKind.wrap .u64 (ly .u64 x.1 4294967295*ly .u64 x.2 4294967295)) 32))) 32))) (i' .u64 (IntKind.wrap .u64 (Add.add (ly .u64 (IntKind.wrap .u64 (Add.add (IntKind.wrap .u64 (i' .u64 x.1 32*ly .u64 x.2 4294967295)) (i' .u64 (IntKind.wrap .u64 (ly .u64 x.1 4294967295*ly .u64 x.2 4294967295)) 32))) 4294967295) (IntKind.wrap .u64 (ly .u64 x.1 4294967295*i' .u64 x.2 32)))) 32)),IntKind.wrap .u64 (x.1*x.2)))))))
def Nf(x:z1'×Int):M Int:=
 M.bind (M.loop (λ(A:z1'×Int×Int×Int×Unit)=>letI a:=A.2.2.2.1;if decide (a<A.2.2.1)=true then M.ag (0<=a/\a<Int.ofNat (List.length A.1)) (if decide (A.2.1=List.getD A.1 (Int.toNat a) 0)=true then M.bind (M.bind (M.pure a) (λr=>M.pure (ab.done r))) λr=>M.pure (ab.done r) else M.pure (ab.next (A.1,A.2.1,A.2.2.1,IntKind.wrap .i64 (Add.add a 1),()))) else M.bind (M.pure (ab.next ())) λr=>M.pure (ab.done r)) (x.1,x.2,Int.ofNat (List.length x.1),0,())) (ab.bm (λ(A:Unit)=>M.pure (-1)))
def Ng(ai_:z2'×List (List (Int×z1'×Int×Int))×Int×z2'->M Bool)(x:z2'×List (List (Int×z1'×Int×Int))×Int×z2'):M Int:=
 M.bind (ai_ x) λy=>if (!y)=true then M.pure 70 else M.bind (M.loop (λ(A:z2'×Int×Int×z5'×Unit)=>letI c:=A.2.2.1;letI a:=List.getD A.1 (Int.toNat c) (0,0,0,0);letI b:=Option.map (λx=>x.2) (List.find? (λp=>decide (a.1=p.1.1)&&(decide (a.2.1=p.1.2.1)&&decide (a.2.2.1=p.1.2.2))) A.2.2.2.1);if decide (c<A.2.1)=true then M.ag (0<=c/\c<Int.ofNat (List.length A.1)) (if (Option.isSome b&&decide (Option.getD b 0≠a.2.2.2))=true then M.bind (M.bind (M.pure 71) (λr=>M.pure (ab.done r))) λr=>M.pure (ab.done r) else M.pure (ab.next (A.1,A.2.1,IntKind.wrap .i64 (Add.add c 1),vr A.2.2.2.1 (a.1,a.2.1,a.2.2.1) a.2.2.2,()))) else M.bind (M.pure (ab.next ())) λr=>M.pure (ab.done r)) (x.2.2.2,Int.ofNat (List.length x.2.2.2),0,[],())) (ab.bm (λ(A:Unit)=>M.pure 0))
def Nh(mj:be×Bool->M (Option ql×Int))(ie:be×Int->M Bool)(x:be×Int):M ((Int×Int)×Int):=
 letI a:=Int.toNat x.2;M.ag (ie x).b1 (M.ag (mj (x.1,M.val (ie x) false)).b1 (if decide ((M.val (mj (x.1,M.val (ie x) false)) (none,0)).2≠0)=true then M.pure ((0,0),(M.val (mj (x.1,M.val (ie x) false)) (none,0)).2) else M.ag (Option.isSome (M.val (mj (x.1,M.val (ie x) false)) (none,0)).1=true) (M.ag (0<=x.2/\x.2<Int.ofNat (List.length (Option.getD (M.val (mj (x.1,M.val (ie x) false)) (none,0)).1 (([],[],0,[]),[])).2)) (M.ag ((0:Int)<=0/\0<Int.ofNat (List.length (List.getD (Option.getD (M.val (mj (x.1,M.val (ie x) false)) (none,0)).1 (([],[],0,[]),[])).2 a []))) (M.ag (0<=IntKind.wrap .i64 (Int.ofNat (List.length (List.getD (Option.getD (M.val (mj (x.1,M.val (ie x) false)) (none,0)).1 (([],[],0,[]),[])).2 a []))-1)/\IntKind.wrap .i64 (Int.ofNat (List.length (List.getD (Option.getD (M.val (mj (x.1,M.val (ie x) false)) (none,0)).1 (([],[],0,[]),[])).2 a []))-1)<Int.ofNat (List.length (List.getD (Option.getD (M.val (mj (x.1,M.val (ie x) false)) (none,0)).1 (([],[],0,[]),[])).2 a []))) (M.pure ((List.getD (List.getD (Option.getD (M.val (mj (x.1,M.val (ie x) false)) (none,0)).1 (([],[],0,[]),[])).2 a []) (Int.toNat 0) 0,List.getD (List.getD (Option.getD (M.val (mj (x.1,M.val (ie x) false)) (none,0)).1 (([],[],0,[]),[])).2 a []) (Int.toNat (IntKind.wrap .i64 (Int.ofNat (List.length (List.getD (Option.getD (M.val (mj (x.1,M.val (ie x) false)) (none,0)).1 (([],[],0,[]),[])).2 a []))-1))) 0),0)))))))
def Ni(mj:be×Bool->M (Option ql×Int))(ie:be×Int->M Bool)(xQ:be×Int×Int->M Bool)(ai':Option ql×Int×Int×Int->M Int)(x:be×Int×Int×Int):M (Int×Int):=
 letI b:=(x.1,x.2.2);letI a:=(x.1,x.2.1);M.ag (ie a).b1 (M.ag (M.val (ie a) false=true->(M.val (ie a) false=true/\M.val (ie a) false=true/\M.val (ie a) false=true/\True)/\(xQ b).b1/\True) (M.ag (True/\(M.val (ie a) false=true->M.val (ie a) false=true)) (M.ag (mj (x.1,M.val (ie a) false&&M.val (xQ b) false)).b1 (if decide ((M.val (mj (x.1,M.val (ie a) false&&M.val (xQ b) false)) (none,0)).2≠0)=true then M.pure (0,(M.val (mj (x.1,M.val (ie a) false&&M.val (xQ b) false)) (none,0)).2) else M.bind (ai' ((M.val (mj (x.1,M.val (ie a) false&&M.val (xQ b) false)) (none,0)).1,x.2)) λy=>M.pure (y,0)))))
def Vj(oC:Int×Int×Int->M Bool)(aja:z2'×(Int×Int×Int×Int->M Bool)->M Bool)(ajb:List (List (Int×z1'×Int×Int))×(List (Int×z1'×Int×Int)->M Bool)->M Bool)(Nj:z2'×(Int×Int×Int×Int->M Bool)->M Bool)(ajc:List (Int×z1'×Int×Int)×Option (Int×z1'×Int×Int->M Bool)->M Bool)(ajd:(Int×Int×Int×Int)×Option be->M Bool)(aje:Int×Int×Int×Int->M Bool)(ajf:Int×z1'×Int×Int->M Bool)(x:z2'×List (List (Int×z1'×Int×Int))×Int×z2'):M Bool:=
 letI c:=decide (Int.ofNat (List.length x.1)<=10);M.bind (b7 c (aja (x.1,aje)) false) λy=>letI a:=c&&y&&decide (Int.ofNat (List.length x.2.1)<=6);M.bind (b7 a (ajb (x.2.1,λx=>ajc (x,some ajf))) false) λbH=>M.bind (b7 (a&&bH) (oC (x.2.2.1,0,99)) false) λdv=>letI b:=a&&bH&&dv&&decide (Int.ofNat (List.length x.2.2.2)<=30);M.bind (b7 b (Nj (x.2.2.2,λhf=>ajd (hf,some x))) false) λgE=>M.pure (b&&gE)
def Nk(DD:z2'×List (List (Int×z1'×Int×Int))×Int×z2'->M Int)(Nj:z2'×(Int×Int×Int×Int->M Bool)->M Bool)(ajg:(Int×Int×Int×Int)×Option Int×Option be×Option Int->M Bool)(x:be×Bool):M (Option ql×Int):=
 M.bind (DD x.1) λy=>if decide (y≠0)=true then M.pure (none,y) else if (!x.2)=true then M.pure (none,1) else M.bind (M.loop (λ(A:z2'×Int×Int×be×z2'×List (List (Int×z1'×Int×Int))×Int×z2'×List (z1')×Unit)=>letI i:=A.2.2.1;letI g:=List.getD A.1 (Int.toNat i) (0,0,0,0);letI c:=A.2.2.2.2;if decide (i<A.2.1)=true then M.bind (M.ag (0<=i/\i<Int.ofNat (List.length A.1)) (M.bind (M.loop (λ(A:z2'×Int×Int×be×Int×(Int×Int×Int×Int)×z1'×Int×z2'×List (List (Int×z1'×Int×Int))×Int×z2'×List (z1')×Unit)=>letI d:=A.2.2.2;letI a:=d.2.2.2;letI j:=a.2.2;letI e:=j.2.2;if decide (a.2.1<=d.2.2.1.2.2.2)=true then M.bind (M.bind (Nj (d.1.2.2.2,λx=>ajg (x,some d.2.1,some d.1,some a.2.1))) (λy=>if y=true then M.ag (b2 (Add.add (List.length a.1) (Add.add 0 1))) (M.pure (ab.next (A.1,A.2.1,A.2.2.1,d.1,d.2.1,d.2.2.1,a.1++[a.2.1],a.2.1,j.1,j.2.1,e.1,e.2.1,e.2.2.1,()))) else M.pure (ab.next (A.1,A.2.1,A.2.2.1,d.1,d.2.1,d.2.2.1,a.1,a.2.1,j.1,j.2.1,e.1,e.2.1,e.2.2.1,())))) (ab.bm (λ(A:z2'×Int×Int×be×Int×(Int×Int×Int×Int)×z1'×Int×z2'×List (List (Int×z1'×Int×Int))×Int×z2'×List (z1')×Unit)=>letI k:=A.2.2.2;letI b:=k.2.2.2;M.pure (ab.next (A.1,A.2.1,A.2.2.1,k.1,k.2.1,k.2.2.1,b.1,IntKind.wrap .i64 (Add.add b.2.1 1),b.2.2.1,b.2.2.2.1,b.2.2.2.2.1,b.2.2.2.2.2.1,b.2.2.2.2.2.2.1,())))) else M.bind (M.pure (ab.next (A.1,A.2.1,A.2.2.1,d.1,a.1,j.1,j.2.1,e.1,e.2.1,e.2.2.1,()))) λr=>M.pure (ab.done r)) (A.1,A.2.1,i,A.2.2.2.1,i,g,[],g.2.2.1,c.1,c.2.1,c.2.2.1,c.2.2.2.1,c.2.2.2.2.1,())) (ab.bm (λ(A:z2'×Int×Int×be×z1'×z2'×List (List (Int×z1'×Int×Int))×Int×z2'×List (z1')×Unit)=>letI f:=A.2.2.2.2;if decide (Int.ofNat (List.length f.1)=0)=true then M.bind (M.bind (M.bind (M.pure (none,3)) (λr=>M.pure (ab.done r))) (λr=>M.pure (ab.done r))) λr=>M.pure (ab.done r) else M.ag True (M.ag (b2 (Add.add (List.length f.2.2.2.2.2.1) (Add.add 0 1))) (M.ag True (M.pure (ab.next (A.1,A.2.1,A.2.2.1,A.2.2.2.1,f.2.1,f.2.2.1,f.2.2.2.1,f.2.2.2.2.1,f.2.2.2.2.2.1++[f.1],()))))))))) (ab.bm (λ(A:z2'×Int×Int×be×z2'×List (List (Int×z1'×Int×Int))×Int×z2'×List (z1')×Unit)=>letI h:=A.2.2.2.2;M.pure (ab.next (A.1,A.2.1,IntKind.wrap .i64 (Add.add A.2.2.1 1),A.2.2.2.1,h.1,h.2.1,h.2.2.1,h.2.2.2.1,h.2.2.2.2.1,())))) else M.bind (M.pure (ab.next (c.1,c.2.1,c.2.2.1,c.2.2.2.1,c.2.2.2.2.1,()))) λr=>M.pure (ab.done r)) (x.1.1,Int.ofNat (List.length x.1.1),0,x.1,x.1.1,x.1.2.1,x.1.2.2.1,x.1.2.2.2,[],())) (ab.bm (λ(A:z2'×List (List (Int×z1'×Int×Int))×Int×z2'×List (z1')×Unit)=>M.pure (some ((A.1,A.2.1,A.2.2.1,A.2.2.2.1),A.2.2.2.2.1),0)))
def ajh(oC:Int×Int×Int->M Bool)(x:be×Int):M Bool:=
 M.bind (oC (x.2,0,IntKind.wrap .i64 (Int.ofNat (List.length x.1.1)-1))) λy=>M.pure y
def Vk(oC:Int×Int×Int->M Bool)(x:be×Int×Int):M Bool:=
 letI a:=Int.ofNat (List.length x.1.2.1);M.bind (oC (x.2.1,0,IntKind.wrap .i64 (a-1))) λy=>M.ag (y=true->(y=true/\y=true)/\(0<=x.2.1/\x.2.1<a)/\True) (M.bind (b7 y (oC (x.2.2,0,IntKind.wrap .i64 (Int.ofNat (List.length (List.getD x.1.2.1 (Int.toNat x.2.1) []))-1))) false) (λbH=>M.pure (y&&bH)))
def Nl(Hg:be×Int×Int×Int×Int->M Bool)(aji:Int×Int->M Int)(x:Option ql×Int×Int×Int):M Int:=
 letI b:=(Option.getD x.1 (([],[],0,[]),[])).2;letI e:=List.getD b (Int.toNat x.2.1) [];M.bind (M.ag (Option.isSome x.1=true) (M.ag (0<=x.2.1/\x.2.1<Int.ofNat (List.length b)) (M.loop (λ(A:Option ql×Int×Int×Int×Int×z1'×Int×Int×Unit)=>letI c:=A.2.2.2;letI a:=c.2.2;letI f:=a.2.2.1;if decide (f<a.2.1)=true then M.bind (M.ag (0<=f/\f<Int.ofNat (List.length a.1)) (M.ag (Option.isSome A.1=true) (M.bind (Hg ((Option.getD A.1 (([],[],0,[]),[])).1,A.2.1,List.getD a.1 (Int.toNat f) 0,A.2.2.1,c.1)) (λy=>if y=true then M.pure (ab.next (A.1,A.2.1,A.2.2.1,c.1,IntKind.wrap .i64 (Add.add c.2.1 1),a.1,a.2.1,f,())) else M.pure (ab.next (A.1,A.2.1,A.2.2.1,c.1,c.2.1,a.1,a.2.1,f,())))))) (ab.bm (λ(A:Option ql×Int×Int×Int×Int×z1'×Int×Int×Unit)=>letI g:=A.2.2.2;M.pure (ab.next (A.1,A.2.1,A.2.2.1,g.1,g.2.1,g.2.2.1,g.2.2.2.1,IntKind.wrap .i64 (Add.add g.2.2.2.2.1 1),())))) else M.bind (M.pure (ab.next (A.1,A.2.1,c.2.1,()))) λr=>M.pure (ab.done r)) (x.1,x.2.1,x.2.2.1,x.2.2.2,0,e,Int.ofNat (List.length e),0,())))) (ab.bm (λ(A:Option ql×Int×Int×Unit)=>letI d:=(Option.getD A.1 (([],[],0,[]),[])).2;M.ag (Option.isSome A.1=true) (M.ag (0<=A.2.1/\A.2.1<Int.ofNat (List.length d)) (M.bind (aji (A.2.2.1,Int.ofNat (List.length (List.getD d (Int.toNat A.2.1) [])))) (λy=>M.pure y)))))
def ajj(x:z1'):M Bool:=
 M.bind (M.loop (λ(A:z1'×Int×Unit)=>letI c:=A.2.1;letI b:=IntKind.wrap .i64 (c-1);letI a:=Int.ofNat (List.length A.1);if decide (c<a)=true then M.ag (0<=c/\c<a) (M.ag (0<=b/\b<a) (if decide (List.getD A.1 (Int.toNat c) 0<=List.getD A.1 (Int.toNat b) 0)=true then M.bind (M.bind (M.pure false) (λr=>M.pure (ab.done r))) λr=>M.pure (ab.done r) else M.pure (ab.next (A.1,IntKind.wrap .i64 (Add.add c 1),())))) else M.bind (M.pure (ab.next ())) λr=>M.pure (ab.done r)) (x,1,())) (ab.bm (λ(A:Unit)=>M.pure true))
def ajk(x:Int×Int×Int):M Bool:=
 M.pure (decide (x.2.1<=x.1)&&decide (x.1<=x.2.2))
def Vl(DE:Int->M Bool)(Nn:Int×Int->M Bool)(x:Int×Int×Int×Int):M Bool:=
 M.bind (DE x.1) λy=>M.bind (b7 y (DE x.2.1) false) λbH=>M.bind (b7 (y&&bH) (Nn x.2.2) false) λdv=>M.pure (y&&bH&&dv)
def Vm(oC:Int×Int×Int->M Bool)(x:Int):M Bool:=
 M.bind (oC (x,0,9)) λy=>M.pure y
def ajl(oC:Int×Int×Int->M Bool)(x:Int×Int):M Bool:=
 M.bind (oC (x.1,0,x.2)) λy=>M.pure (y&&decide (x.2<=999))
def Vn(ajm:z1'->M Bool)(ajn:z1'×(Int->M Bool)->M Bool)(DE:Int->M Bool)(Nn:Int×Int->M Bool)(x:Int×z1'×Int×Int):M Bool:=
 M.bind (DE x.1) λy=>letI a:=y&&decide (Int.ofNat (List.length x.2.1)<=4);M.bind (b7 a (ajn (x.2.1,DE)) false) λbH=>M.bind (b7 (a&&bH) (ajm x.2.1) false) λdv=>M.bind (b7 (a&&bH&&dv) (Nn x.2.2) false) λgE=>M.pure (a&&bH&&dv&&gE)
def Vo(ajo:List (Int×z1'×Int×Int)×(Int×z1'×Int×Int->M Bool)->M Bool)(x:List (Int×z1'×Int×Int)×Option (Int×z1'×Int×Int->M Bool)):M Bool:=
 letI a:=decide (Int.ofNat (List.length x.1)<=4);M.bind (b7 a (ajo (x.1,Option.getD x.2 λx=>{ b1:=False,bD:=λx=>False })) false) λy=>M.pure (a&&y)
def Vp(ie:be×Int->M Bool)(xQ:be×Int×Int->M Bool)(oC:Int×Int×Int->M Bool)(x:(Int×Int×Int×Int)×Option be):M Bool:=
 letI a:=Option.getD x.2 ([],[],0,[]);M.bind (ie (a,x.1.1)) λy=>M.bind (b7 y (xQ (a,x.1.2.1,x.1.2.2.1)) false) λbH=>M.bind (b7 (y&&bH) (oC (x.1.2.2.2,0,1)) false) λdv=>M.pure (y&&bH&&dv)
def Vq(Hg:be×Int×Int×Int×Int->M Bool)(x:(Int×Int×Int×Int)×Option Int×Option be×Option Int):M Bool:=
 letI e:=Option.getD x.2.1 0;letI c:=decide (x.1.1≠e);letI b:=(Option.getD x.2.2.1 ([],[],0,[]),e,Option.getD x.2.2.2 0,x.1.2.1,x.1.2.2.1);letI a:=(!c)=true;letI d:=a->a/\True/\True;M.ag d (M.ag d (M.ag (a->(a/\a/\a/\a/\a/\True)/\(Hg b).b1/\True) (M.ag d (M.ag (a->(a/\True)/\True/\True) (M.ag (a->(a/\a)/\True/\True) (M.ag (True/\(c=false->a)) (M.pure (c||decide (M.val (Hg b) false=decide (x.1.2.2.2=1))))))))))
def Vr(oC:Int×Int×Int->M Bool)(ht:z1'×Int->M Bool)(x:be×Int×Int×Int×Int):M Bool:=
 letI e:=x.2.2.2;letI c:=List.getD x.1.2.1 (Int.toNat e.1) [];letI b:=List.getD x.1.1 (Int.toNat x.2.1) (0,0,0,0);letI a:=List.getD c (Int.toNat e.2) (0,[],0,0);letI d:=decide (b.1=a.1);M.ag (0<=x.2.1/\x.2.1<Int.ofNat (List.length x.1.1)) (M.ag (0<=e.1/\e.1<Int.ofNat (List.length x.1.2.1)) (M.ag (0<=e.2/\e.2<Int.ofNat (List.length c)) (M.bind (b7 d (ht (a.2.1,b.2.1)) false) (λy=>M.bind (b7 (d&&y) (oC (x.2.2.1,a.2.2.1,IntKind.wrap .i64 (Add.add a.2.2.2 x.1.2.2.1))) false) λbH=>M.pure (d&&y&&bH)))))
def Vs(x:Int×Int):M Int:=
 if decide (x.1=x.2)=true then M.pure 1 else if decide (x.1=0)=true then M.pure 2 else M.pure 3
def No(Np:z2'×List (List (Int×z1'×Int×Int))×Int×z2'->M Int)(x:z2'×List (List (Int×z1'×Int×Int))×Int×z2'):M Bool:=
 if (decide (Int.ofNat (List.length x.1) > 40)||decide (Int.ofNat (List.length x.2.1) > 40)||decide (Int.ofNat (List.length x.2.2.2) > 60))=true then M.pure true else M.bind (M.loop (λ(A:Int×be×Unit)=>letI e:=A.1<Int.ofNat (List.length A.2.1.2.1);if decide e=true then M.bind (M.ag (0<=A.1/\e) (if decide (Int.ofNat (List.length (List.getD A.2.1.2.1 (Int.toNat A.1) [])) > 20)=true then M.bind (M.bind (M.bind (M.pure true) (λr=>M.pure (ab.done r))) (λr=>M.pure (ab.done r))) λr=>M.pure (ab.done r) else M.loop (λ(A:Int×Int×be×Unit)=>letI g:=A.2.2.1;letI c:=0<=A.1/\A.1<Int.ofNat (List.length g.2.1);letI a:=List.getD g.2.1 (Int.toNat A.1) [];letI f:=A.2.1<Int.ofNat (List.length a);M.ag c (if decide f=true then M.ag c (M.ag (0<=A.2.1/\f) (if decide (Int.ofNat (List.length (List.getD a (Int.toNat A.2.1) (0,[],0,0)).2.1) > 20)=true then M.bind (M.bind (M.bind (M.bind (M.pure true) (λr=>M.pure (ab.done r))) (λr=>M.pure (ab.done r))) (λr=>M.pure (ab.done r))) λr=>M.pure (ab.done r) else M.pure (ab.next (A.1,IntKind.wrap .i64 (Add.add A.2.1 1),g,())))) else M.bind (M.pure (ab.next (A.1,g,()))) λr=>M.pure (ab.done r))) (A.1,0,A.2.1,()))) (ab.bm (λ(A:Int×be×Unit)=>M.pure (ab.next (IntKind.wrap .i64 (Add.add A.1 1),A.2.1,())))) else M.bind (M.pure (ab.next (A.2.1,()))) λr=>M.pure (ab.done r)) (0,x,())) (ab.bm (λ(A:be×Unit)=>M.bind (Np A.1) λy=>if decide (y≠0)=true then M.pure false else M.bind (M.loop (λ(A:Int×be×Unit)=>letI d:=(List.getD A.2.1.1 (Int.toNat A.1) (0,0,0,0)).2.2;letI b:=A.1<Int.ofNat (List.length A.2.1.1);if decide b=true then M.ag (0<=A.1/\b) (M.ag (0<=A.1/\b) (if decide (IntKind.wrap .i64 (d.2-d.1)>=50)=true then M.bind (M.bind (M.pure true) (λr=>M.pure (ab.done r))) λr=>M.pure (ab.done r) else M.pure (ab.next (IntKind.wrap .i64 (Add.add A.1 1),A.2.1,())))) else M.bind (M.pure (ab.next (A.2.1,()))) λr=>M.pure (ab.done r)) (0,A.1,())) (ab.bm (λ(A:be×Unit)=>M.pure (decide (Int.ofNat (List.length A.1.1) > 6)||decide (Int.ofNat (List.length A.1.2.1) > 4)||decide (Int.ofNat (List.length A.1.2.2.2) > 10))))))
def ajp(x:Unit):M be:=
 M.pure ([(1,2,300,310),(1,3,305,305),(2,1,50,60),(1,2,320,330)],[[(1,[2,3],300,306),(2,[1],40,58)],[(1,[2],310,326)]],5,[(0,1,0,0)])
abbrev dh:Type:=Int×Int×Int×Int×z1'
abbrev dt:Type:=z1'×(Int×Int)×Int×Int×Int
abbrev DF:Type:=Int×Int×Int
abbrev bt:Type:=be×z1'×List dh×List dt×List DF×Int
abbrev Sto:Type:=bt×z4'×z5'
def Vt(ajq:bt×Bool->M (Int×Int))(x:bt):M (Int×Int):=
 M.bind (ajq (x,true)) λy=>M.pure y
def Vu(oD:bt×Bool->M (Option Sto×Int))(ajr:Option Sto->Prop)(ajs:Option Sto->List (z1'))(Nq:Option Sto×z1'->M (z3'×Bool))(ajt:Option Sto×z3'->M Bool)(Nr:Option Sto×z3'->M Int)(x:bt):M (Int×Int):=
 M.bind (oD (x,true)) λy=>if decide (y.2≠0)=true then M.pure (0,y.2) else M.ag (ajr y.1) (M.bind (jE (λ(A:Option (bt×z4'×z5')×Int×Unit) (y:z1')=>M.bind (M.bind (Nq (A.1,y)) (λbH=>M.bind (b7 (!(!bH.2)) (ajt (A.1,bH.1)) false) λdv=>if (!bH.2||!dv)=true then M.pure (cT.normal,A.1,A.2.1,()) else M.bind (Nr (A.1,bH.1)) λgE=>if (decide (A.2.1=-1)||decide (gE<A.2.1))=true then M.pure (cT.normal,A.1,gE,()) else M.pure (cT.normal,A.1,A.2.1,()))) λp=>M.pure (p.1,p.2.1,p.2.2.1,())) (ajs y.1) (y.1,-1,())) (λp=>letI a:=decide (p.2.2.1=-1)=true;r6 (if a then M.pure (0,3) else M.pure (p.2.2.1,0)) (λid=>if id=0 then if a then M.pure (0,3) else M.pure (p.2.2.1,0) else M.fail) M.fail p.1))
def Vv(oD:bt×Bool->M (Option Sto×Int))(DG:bt×Int->M Bool)(Ns:z1'×Int×Unit->M (z1'×Unit))(Ag:Option Sto×z1'->M Bool)(x:bt×Int):M (z1'×Int):=
 M.ag (DG x).b1 (M.ag (oD (x.1,M.val (DG x) false)).b1 (if decide ((M.val (oD (x.1,M.val (DG x) false)) (none,0)).2≠0)=true then M.pure ([],(M.val (oD (x.1,M.val (DG x) false)) (none,0)).2) else M.bind (Ns ([-1],Int.ofNat (List.length x.1.2.2.2.1),())) λy=>M.bind (M.loop (λ(A:Int×Option ((be×z1'×List dh×List dt×z3'×Int)×z4'×z5')×Int×Int×z1'×z1'×Unit)=>letI b:=A.2.2.2;letI a:=List.set b.2.2.1 (Int.toNat A.1) b.1;if decide (b.1<A.2.2.1)=true then M.bind (M.ag (0<=A.1/\A.1<Int.ofNat (List.length b.2.2.1)) (M.bind (Ag (A.2.1,a)) (λy=>if y=true then M.ag (b2 (Add.add (List.length b.2.1) (Add.add 0 1))) (M.pure (ab.next (A.1,A.2.1,A.2.2.1,b.1,b.2.1++[b.1],a,()))) else M.pure (ab.next (A.1,A.2.1,A.2.2.1,b.1,b.2.1,a,()))))) (ab.bm (λ(A:Int×Option ((be×z1'×List dh×List (z1'×(Int×Int)×Int×Int×Int)×z3'×Int)×z4'×z5')×Int×Int×z1'×z1'×Unit)=>M.pure (ab.next (A.1,A.2.1,A.2.2.1,IntKind.wrap .i64 (Add.add A.2.2.2.1 1),A.2.2.2.2.1,A.2.2.2.2.2.1,())))) else M.bind (M.pure (ab.next (b.2.1,()))) λr=>M.pure (ab.done r)) (x.2,(M.val (oD (x.1,M.val (DG x) false)) (none,0)).1,Int.ofNat (List.length x.1.2.2.1),0,[],y.1,())) (ab.bm (λ(A:z1'×Unit)=>M.pure (A.1,0)))))
def Vw(DD:z2'×List (List (Int×z1'×Int×Int))×Int×z2'->M Int)(aju:bt->M Bool)(x:bt):M Int:=
 M.bind (DD x.1) λy=>if decide (y≠0)=true then M.pure y else M.bind (aju x) λy=>if (!y)=true then M.pure 80 else M.pure 0
def Vx(Np:z2'×List (List (Int×z1'×Int×Int))×Int×z2'->M Int)(nS:Int×Int×Int->M Bool)(Vy:bt×Int×Int×Int×Int×z1'->M Bool)(ajv:z1'×(Int×Int)×Int×Int×Int->M Bool)(x:bt):M Int:=
 letI a:=decide (Int.ofNat (List.length x.2.1)≠Int.ofNat (List.length x.1.1))||decide (Int.ofNat (List.length x.2.2.1) > 8)||decide (Int.ofNat (List.length x.2.2.2.1) > 6)||decide (Int.ofNat (List.length x.2.2.2.2.1) > 8);M.bind (Np x.1) λy=>if decide (y≠0)=true then M.pure y else M.bind (b7 (!a) (nS (x.2.2.2.2.2,0,99)) false) λy=>if (a||!y)=true then M.pure 80 else M.bind (M.loop (λ(A:Int×(be×z1'×List (Int×Int×Int×Int×z1')×List dt×z3'×Int)×Unit)=>letI g:=A.1<Int.ofNat (List.length A.2.1.2.1);if decide g=true then M.ag (0<=A.1/\g) (M.bind (nS (List.getD A.2.1.2.1 (Int.toNat A.1) 0,0,10)) (λy=>if (!y)=true then M.bind (M.bind (M.pure 80) (λr=>M.pure (ab.done r))) λr=>M.pure (ab.done r) else M.pure (ab.next (IntKind.wrap .i64 (Add.add A.1 1),A.2.1,())))) else M.bind (M.pure (ab.next (A.2.1,()))) λr=>M.pure (ab.done r)) (0,x,())) (ab.bm (λ(A:(be×z1'×List dh×List dt×z3'×Int)×Unit)=>M.bind (M.loop (λ(A:Int×(be×z1'×List dh×List dt×z3'×Int)×Unit)=>letI f:=A.1<Int.ofNat (List.length A.2.1.2.2.1);letI c:=(A.2.1,List.getD A.2.1.2.2.1 (Int.toNat A.1) (0,0,0,0,[]));if decide f=true then M.ag (0<=A.1/\f) (M.ag (Vy c).b1 (if (!(M.val (Vy c) false))=true then M.bind (M.bind (M.pure 80) (λr=>M.pure (ab.done r))) λr=>M.pure (ab.done r) else M.pure (ab.next (IntKind.wrap .i64 (Add.add A.1 1),A.2.1,())))) else M.bind (M.pure (ab.next (A.2.1,()))) λr=>M.pure (ab.done r)) (0,A.1,())) (ab.bm (λ(A:(be×z1'×List dh×List (z1'×(Int×Int)×Int×Int×Int)×z3'×Int)×Unit)=>M.bind (M.loop (λ(A:Int×(be×z1'×List dh×List (z1'×(Int×Int)×Int×Int×Int)×z3'×Int)×Unit)=>letI e:=A.1<Int.ofNat (List.length A.2.1.2.2.2.1);if decide e=true then M.ag (0<=A.1/\e) (M.bind (ajv (List.getD A.2.1.2.2.2.1 (Int.toNat A.1) ([],(0,0),0,0,0))) (λy=>if (!y)=true then M.bind (M.bind (M.pure 80) (λr=>M.pure (ab.done r))) λr=>M.pure (ab.done r) else M.pure (ab.next (IntKind.wrap .i64 (Add.add A.1 1),A.2.1,())))) else M.bind (M.pure (ab.next (A.2.1,()))) λr=>M.pure (ab.done r)) (0,A.1,())) (ab.bm (λ(A:(bt)×Unit)=>M.bind (M.loop (λ(A:Int×(be×z1'×List dh×List dt×z3'×Int)×Unit)=>letI d:=A.1<Int.ofNat (List.length A.2.1.2.2.2.2.1);letI b:=List.getD A.2.1.2.2.2.2.1 (Int.toNat A.1) (0,0,0);if decide d=true then M.ag (0<=A.1/\d) (M.bind (nS (b.1,0,99)) (λy=>M.bind (b7 (!(!y)) (nS (b.2.1,0,IntKind.wrap .i64 (Int.ofNat (List.length A.2.1.1.1)-1))) false) λbH=>M.bind (b7 (!(!y||!bH)) (nS (b.2.2,1,10)) false) λdv=>if (!y||!bH||!dv)=true then M.bind (M.bind (M.pure 80) (λr=>M.pure (ab.done r))) λr=>M.pure (ab.done r) else M.pure (ab.next (IntKind.wrap .i64 (Add.add A.1 1),A.2.1,())))) else M.bind (M.pure (ab.next ())) λr=>M.pure (ab.done r)) (0,A.1,())) (ab.bm (λ(A:Unit)=>M.pure 0))))))))
def Vz(oD:bt×Bool->M (Option Sto×Int))(Ag:Option Sto×z1'->M Bool)(Ah:bt×z1'->M Bool)(lR:Option Sto×z1'->M Int)(x:bt×z1'):M (Int×Int):=
 M.ag (Ah x).b1 (M.ag (oD (x.1,M.val (Ah x) false)).b1 (if decide ((M.val (oD (x.1,M.val (Ah x) false)) (none,0)).2≠0)=true then M.pure (0,(M.val (oD (x.1,M.val (Ah x) false)) (none,0)).2) else M.bind (Ag ((M.val (oD (x.1,M.val (Ah x) false)) (none,0)).1,x.2)) λy=>if (!y)=true then M.pure (0,3) else M.bind (lR ((M.val (oD (x.1,M.val (Ah x) false)) (none,0)).1,x.2)) λy=>M.pure (y,0)))
def VA(oD:bt×Bool->M (Option Sto×Int))(ajw:Option Sto->M (z1'))(lR:Option Sto×z1'->M Int)(x:bt×Bool):M (Int×Int):=
 M.bind (oD x) λy=>if decide (y.2≠0)=true then M.pure (0,y.2) else M.bind (ajw y.1) λbH=>M.bind (lR (y.1,bH)) λy=>M.pure (y,0)
def Nt(DH:bt->M Int)(Hh:be×Int->M ((Int×Int)×Int))(vs:be×Int×Int×Int->M (Int×Int))(Ai:z4'×Int->M (z4'))(x:bt×Bool):M (Option Sto×Int):=
 letI eB:=x.1.1.2;letI f1:=x.1.2.2;M.bind (DH x.1) λy=>if decide (y≠0)=true then M.pure (none,y) else if (!x.2)=true then M.pure (none,1) else M.bind (if decide (Int.ofNat (List.length x.1.2.1) > 0)=true then M.bind (Hh (x.1.1,0)) λy=>if decide (y.2≠0)=true then M.bind (M.pure (none,y.2)) λr=>M.pure (ab.done r) else M.pure (ab.next (x.1,[],x.1.1.1,eB.1,eB.2.1,eB.2.2,x.1.2.1,f1.1,f1.2.1,f1.2.2.1,f1.2.2.2,())) else M.pure (ab.next (x.1,[],x.1.1.1,eB.1,eB.2.1,eB.2.2,x.1.2.1,f1.1,f1.2.1,f1.2.2.1,f1.2.2.2,()))) (ab.bm (λ(A:(be×z1'×List dh×List (z1'×(Int×Int)×Int×Int×Int)×z3'×Int)×z5'×z2'×List (List (Int×z1'×Int×Int))×Int×z2'×z1'×List dh×List (z1'×(Int×Int)×Int×Int×Int)×z3'×Int×Unit)=>letI t:=A.2.2.2.2.2;M.bind (M.loop (λ(A:Int×Int×(be×z1'×List dh×List dt×z3'×Int)×z5'×z2'×List (List (Int×z1'×Int×Int))×Int×z2'×z1'×List dh×List (z1'×(Int×Int)×Int×Int×Int)×z3'×Int×Unit)=>letI c1:=A.2.2;letI h:=c1.2.2.2.2;letI g1:=h.2.2.2;if decide (A.2.1<A.1)=true then M.bind (M.loop (λ(A:Int×Int×Int×List (List (Int×z1'×Int×Int))×Int×Int×(be×z1'×List dh×List (z1'×(Int×Int)×Int×Int×Int)×z3'×Int)×z5'×z2'×List (List (Int×z1'×Int×Int))×Int×z2'×z1'×List dh×List dt×z3'×Int×Unit)=>letI i1:=A.2.2.2;letI j:=i1.2.2;letI c:=j.2.2.2;letI o:=c.2.2.2.2;if decide (j.1<i1.2.1)=true then M.bind (M.ag (0<=j.1/\j.1<Int.ofNat (List.length i1.1)) (M.loop (λ(A:Int×Int×Int×Int×List (List (Int×z1'×Int×Int))×Int×Int×Int×Int×(be×z1'×List dh×List dt×z3'×Int)×z5'×z2'×List (List (Int×z1'×Int×Int))×Int×z2'×z1'×List (Int×Int×Int×Int×z1')×List dt×z3'×Int×Unit)=>letI m1:=A.2.2;letI k:=m1.2.2;letI o1:=k.2.2;letI a:=o1.2.2;letI w:=a.2.2.2;letI f:=w.2.2.2;letI d1:=f.2.2.2;if decide (a.1<o1.2.1)=true then M.bind (M.bind (vs (a.2.1.1,A.1,A.2.1,a.1)) (λy=>if decide (y.1=1)=true then M.ag True (M.ag (True/\True/\True) (M.ag True (M.pure (ab.next (A.1,A.2.1,m1.1,m1.2.1,k.1,k.2.1,o1.1,o1.2.1,a.1,a.2.1,vr a.2.2.1 (A.1,A.2.1,a.1) (IntKind.wrap .i64 (Add.add (Option.getD (Option.map (λx=>x.2) (List.find? (λp=>decide (A.1=p.1.1)&&(decide (A.2.1=p.1.2.1)&&decide (a.1=p.1.2.2))) a.2.2.1)) 0) 1)),w.1,w.2.1,w.2.2.1,f.1,f.2.1,f.2.2.1,d1.1,d1.2.1,d1.2.2.1,()))))) else M.pure (ab.next (A.1,A.2.1,m1.1,m1.2.1,k.1,k.2.1,o1.1,o1.2.1,a.1,a.2.1,a.2.2.1,w.1,w.2.1,w.2.2.1,f.1,f.2.1,f.2.2.1,d1.1,d1.2.1,d1.2.2.1,())))) (ab.bm (λ(A:Int×Int×Int×Int×List (List (Int×z1'×Int×Int))×Int×Int×Int×Int×bt×z5'×z2'×List (List (Int×z1'×Int×Int))×Int×z2'×z1'×List dh×List dt×z3'×Int×Unit)=>letI e1:=A.2.2.2.2.2;letI g:=e1.2.2.2.2;letI z:=g.2.2.2.2.2;M.pure (ab.next (A.1,A.2.1,A.2.2.1,A.2.2.2.1,A.2.2.2.2.1,e1.1,e1.2.1,e1.2.2.1,IntKind.wrap .i64 (Add.add e1.2.2.2.1 1),g.1,g.2.1,g.2.2.1,g.2.2.2.1,g.2.2.2.2.1,z.1,z.2.1,z.2.2.1,z.2.2.2.1,z.2.2.2.2.1,z.2.2.2.2.2.1,())))) else M.bind (M.pure (ab.next (A.1,m1.1,m1.2.1,k.1,k.2.1,o1.1,a.2.1,a.2.2.1,w.1,w.2.1,w.2.2.1,f.1,f.2.1,f.2.2.1,d1.1,d1.2.1,d1.2.2.1,()))) λr=>M.pure (ab.done r)) (A.1,j.1,A.2.1,A.2.2.1,i1.1,i1.2.1,j.1,Int.ofNat (List.length (List.getD i1.1 (Int.toNat j.1) [])),0,j.2.1,j.2.2.1,c.1,c.2.1,c.2.2.1,c.2.2.2.1,o.1,o.2.1,o.2.2.1,o.2.2.2.1,o.2.2.2.2.1,()))) (ab.bm (λ(A:Int×Int×Int×List (List (Int×z1'×Int×Int))×Int×Int×(be×z1'×List dh×List dt×z3'×Int)×z5'×z2'×List (List (Int×z1'×Int×Int))×Int×z2'×z1'×List dh×List (z1'×(Int×Int)×Int×Int×Int)×z3'×Int×Unit)=>letI h1:=A.2.2.2.2;letI i:=h1.2.2.2.2;letI aP:=i.2.2.2.2;M.pure (ab.next (A.1,A.2.1,A.2.2.1,A.2.2.2.1,h1.1,IntKind.wrap .i64 (Add.add h1.2.1 1),h1.2.2.1,h1.2.2.2.1,i.1,i.2.1,i.2.2.1,i.2.2.2.1,aP.1,aP.2.1,aP.2.2.1,aP.2.2.2.1,aP.2.2.2.2.1,())))) else M.bind (M.pure (ab.next (A.2.1,A.2.2.1,j.2.1,j.2.2.1,c.1,c.2.1,c.2.2.1,c.2.2.2.1,o.1,o.2.1,o.2.2.1,o.2.2.2.1,o.2.2.2.2.1,()))) λr=>M.pure (ab.done r)) (A.2.1,A.1,A.2.1,c1.1.1.2.1,Int.ofNat (List.length c1.1.1.2.1),0,c1.1,c1.2.1,c1.2.2.1,c1.2.2.2.1,h.1,h.2.1,h.2.2.1,g1.1,g1.2.1,g1.2.2.1,g1.2.2.2.1,())) (ab.bm (λ(A:Int×Int×(be×z1'×List dh×List (z1'×(Int×Int)×Int×Int×Int)×z3'×Int)×z5'×z2'×List (List (Int×z1'×Int×Int))×Int×z2'×z1'×List dh×List (z1'×(Int×Int)×Int×Int×Int)×z3'×Int×Unit)=>letI jA:=A.2.2.2;letI m:=jA.2.2.2;M.pure (ab.next (A.1,IntKind.wrap .i64 (Add.add A.2.1 1),A.2.2.1,jA.1,jA.2.1,jA.2.2.1,m.1,m.2.1,m.2.2.1,m.2.2.2.1,m.2.2.2.2.1,m.2.2.2.2.2.1,m.2.2.2.2.2.2.1,())))) else M.bind (M.pure (ab.next (c1.1,c1.2.1,c1.2.2.1,c1.2.2.2.1,h.1,h.2.1,h.2.2.1,g1.1,g1.2.1,g1.2.2.1,g1.2.2.2.1,()))) λr=>M.pure (ab.done r)) (Int.ofNat (List.length A.1.2.1),0,A.1,A.2.1,A.2.2.1,A.2.2.2.1,A.2.2.2.2.1,t.1,t.2.1,t.2.2.1,t.2.2.2.1,t.2.2.2.2.1,t.2.2.2.2.2.1,())) (ab.bm (λ(A:(be×z1'×List (Int×Int×Int×Int×z1')×List dt×z3'×Int)×z5'×z2'×List (List (Int×z1'×Int×Int))×Int×z2'×z1'×List (Int×Int×Int×Int×z1')×List dt×z3'×Int×Unit)=>letI u:=A.2.2.2.2.2;M.bind (M.loop (λ(A:z1'×Int×Int×(be×z1'×List dh×List dt×z3'×Int)×z5'×z2'×List (List (Int×z1'×Int×Int))×Int×z2'×z1'×List (Int×Int×Int×Int×z1')×List dt×z3'×Int×z4'×Unit)=>letI l:=A.2.2;letI tV:=l.2.2.2;letI n:=List.getD A.1 (Int.toNat l.1) 0;letI d:=tV.2.2.2;letI bR:=d.2.2.2.2;if decide (l.1<A.2.1)=true then M.ag (0<=l.1/\l.1<Int.ofNat (List.length A.1)) (M.ag True (M.ag (Ai ([(l.1,0)],n)).b1 (M.ag (b2 (Add.add (List.length bR.2.2.1) (List.length (M.val (Ai ([(l.1,0)],n)) [])))) (M.ag True (M.pure (ab.next (A.1,A.2.1,IntKind.wrap .i64 (Add.add l.1 1),l.2.1,l.2.2.1,tV.1,tV.2.1,tV.2.2.1,d.1,d.2.1,d.2.2.1,d.2.2.2.1,bR.1,bR.2.1,bR.2.2.1++M.val (Ai ([(l.1,0)],n)) [],()))))))) else M.bind (M.pure (ab.next (l.2.1,l.2.2.1,tV.1,tV.2.1,tV.2.2.1,d.1,d.2.1,d.2.2.1,d.2.2.2.1,bR.1,bR.2.1,bR.2.2.1,()))) λr=>M.pure (ab.done r)) (A.1.2.1,Int.ofNat (List.length A.1.2.1),0,A.1,A.2.1,A.2.2.1,A.2.2.2.1,A.2.2.2.2.1,u.1,u.2.1,u.2.2.1,u.2.2.2.1,u.2.2.2.2.1,u.2.2.2.2.2.1,[],())) (ab.bm (λ(A:(be×z1'×List dh×List (z1'×(Int×Int)×Int×Int×Int)×z3'×Int)×z5'×z2'×List (List (Int×z1'×Int×Int))×Int×z2'×z1'×List dh×List dt×z3'×Int×z4'×Unit)=>letI q:=A.2.2.2.2.2;M.bind (M.loop (λ(A:z3'×Int×Int×z5'×z2'×List (List (Int×z1'×Int×Int))×Int×z2'×z1'×List (Int×Int×Int×Int×z1')×List dt×z3'×Int×z4'×Unit)=>letI s:=A.2.2;letI dA:=s.2.2.2;letI e:=dA.2.2;letI dd:=e.2.2.2.2;letI b:=List.getD A.1 (Int.toNat s.1) (0,0,0);letI cR:=(b.2.1,b.1);if decide (s.1<A.2.1)=true then M.ag (0<=s.1/\s.1<Int.ofNat (List.length A.1)) (M.ag True (M.ag (Ai ([cR],b.2.2)).b1 (M.ag (b2 (Add.add (List.length dd.2.2.1) (List.length (M.val (Ai ([cR],b.2.2)) [])))) (M.ag True (M.pure (ab.next (A.1,A.2.1,IntKind.wrap .i64 (Add.add s.1 1),s.2.1,s.2.2.1,dA.1,dA.2.1,e.1,e.2.1,e.2.2.1,e.2.2.2.1,dd.1,dd.2.1,dd.2.2.1++M.val (Ai ([cR],b.2.2)) [],()))))))) else M.bind (M.pure (ab.next (s.2.1,s.2.2.1,dA.1,dA.2.1,e.1,e.2.1,e.2.2.1,e.2.2.2.1,dd.1,dd.2.1,dd.2.2.1,()))) λr=>M.pure (ab.done r)) (A.1.2.2.2.2.1,Int.ofNat (List.length A.1.2.2.2.2.1),0,A.2.1,A.2.2.1,A.2.2.2.1,A.2.2.2.2.1,q.1,q.2.1,q.2.2.1,q.2.2.2.1,q.2.2.2.2.1,q.2.2.2.2.2.1,q.2.2.2.2.2.2.1,())) (ab.bm (λ(A:z5'×z2'×List (List (Int×z1'×Int×Int))×Int×z2'×z1'×List (Int×Int×Int×Int×z1')×List dt×z3'×Int×z4'×Unit)=>letI v:=A.2.2.2.2.2;M.pure (some (((A.2.1,A.2.2.1,A.2.2.2.1,A.2.2.2.2.1),v.1,v.2.1,v.2.2.1,v.2.2.2.1,v.2.2.2.2.1),v.2.2.2.2.2.1,A.1),0)))))))))
def Nu(Hi:(z1'×(Int×Int)×Int×Int×Int)×Int×Int×Int×Int×z1'->M Int)(x:Option Sto×z1'):M (z3'×Bool):=
 M.bind (M.loop (λ(A:Option ((be×z1'×List dh×List dt×z3'×Int)×z4'×z5')×z1'×Int×Int×z3'×Unit)=>letI l:=A.2;letI g:=Option.isSome A.1=true;letI e:=l.2.2;letI j:=Int.toNat e.1;letI b:=List.getD l.1 j 0;letI a:=(Option.getD A.1 ((([],[],0,[]),[],[],[],[],0),[],[])).1.2.2;letI f:=List.getD a.1 (Int.toNat b) (0,0,0,0,[]);letI d:=List.getD a.2.1 j ([],(0,0),0,0,0);if decide (e.1<l.2.1)=true then M.bind (M.ag (0<=e.1/\e.1<Int.ofNat (List.length l.1)) (if decide (List.getD l.1 j (0:Int)<0)=true then M.pure (ab.next (A.1,l.1,l.2.1,e.1,e.2.1,())) else M.ag g (M.ag (0<=e.1/\e.1<Int.ofNat (List.length a.2.1)) (M.ag g (M.ag (0<=b/\b<Int.ofNat (List.length a.1)) (M.bind (M.bind (Hi (d,f)) (λy=>if decide (y=0)=true then M.bind (M.bind (M.bind (M.bind (M.pure ([],false)) (λr=>M.pure (ab.done r))) (λr=>M.pure (ab.done r))) (λr=>M.pure (ab.done r))) λr=>M.pure (ab.done r) else if decide (y=2)=true then M.ag g (M.pure (ab.next (A.1,IntKind.wrap .i64 (d.2.2.2.1-a.2.2.2),l.1,l.2.1,e.1,e.2.1,f,()))) else M.pure (ab.next (A.1,d.2.2.2.1,l.1,l.2.1,e.1,e.2.1,f,())))) (ab.bm (λ(A:Option ((be×z1'×List dh×List (z1'×(Int×Int)×Int×Int×Int)×z3'×Int)×z4'×z5')×Int×z1'×Int×Int×z3'×(Int×Int×Int×Int×z1')×Unit)=>letI h:=A.2.2.2.2;if decide (A.2.1<0)=true then M.bind (M.bind (M.bind (M.pure ([],false)) (λr=>M.pure (ab.done r))) (λr=>M.pure (ab.done r))) λr=>M.pure (ab.done r) else M.loop (λ(A:Option ((be×z1'×List dh×List dt×z3'×Int)×z4'×z5')×Int×z1'×Int×Int×z1'×Int×Int×z3'×(Int×Int×Int×Int×z1')×Unit)=>letI k:=A.2.2.2;letI c:=k.2.2;letI i:=c.2.2;if decide (i.1<c.2.1)=true then M.ag (0<=i.1/\i.1<Int.ofNat (List.length c.1)) (M.ag (b2 (Add.add (List.length i.2.1) (Add.add 0 1))) (M.pure (ab.next (A.1,A.2.1,A.2.2.1,k.1,k.2.1,c.1,c.2.1,IntKind.wrap .i64 (Add.add i.1 1),i.2.1++[(i.2.2.1.2.2.2.1,List.getD c.1 (Int.toNat i.1) 0,A.2.1)],i.2.2.1,())))) else M.bind (M.pure (ab.next (A.1,A.2.2.1,k.1,k.2.1,i.2.1,()))) λr=>M.pure (ab.done r)) (A.1,A.2.1,A.2.2.1,A.2.2.2.1,h.1,h.2.2.1.2.2.2.2,Int.ofNat (List.length h.2.2.1.2.2.2.2),0,h.2.1,h.2.2.1,()))))))))) (ab.bm (λ(A:Option (bt×z4'×z5')×z1'×Int×Int×z3'×Unit)=>M.pure (ab.next (A.1,A.2.1,A.2.2.1,IntKind.wrap .i64 (Add.add A.2.2.2.1 1),A.2.2.2.2.1,())))) else M.bind (M.pure (ab.next (e.2.1,()))) λr=>M.pure (ab.done r)) (x.1,x.2,Int.ofNat (List.length x.2),0,[],())) (ab.bm (λ(A:z3'×Unit)=>M.pure (A.1,true)))
def Nv(Hj:Option Sto×(Int×Int)×Int×Int×Int->M Bool)(x:Option Sto×z3'):M Bool:=
 M.bind (M.loop (λ(A:Option ((be×z1'×List dh×List dt×z3'×Int)×z4'×z5')×z3'×Int×Int×Unit)=>letI b:=A.2.2.2.1;if decide (b<A.2.2.1)=true then M.bind (M.ag (0<=b/\b<Int.ofNat (List.length A.2.1)) (M.bind (M.ag (Option.isSome A.1=true) (M.loop (λ(A:Option ((bt)×z4'×z5')×Bool×z3'×Int×Int×Int×Int×(Int×Int×Int)×Unit)=>letI a:=A.2.2.2.2;if decide (a.2.2.1<a.2.1)=true then M.bind (b7 (!A.2.1) (Hj (A.1,(a.2.2.1,0),a.2.2.2.1)) false) λy=>M.pure (ab.next (A.1,A.2.1||y,A.2.2.1,A.2.2.2.1,a.1,a.2.1,IntKind.wrap .i64 (Add.add a.2.2.1 1),a.2.2.2.1,())) else M.bind (M.pure (ab.next (A.1,A.2.1,A.2.2.1,A.2.2.2.1,a.1,()))) λr=>M.pure (ab.done r)) (A.1,false,A.2.1,A.2.2.1,b,Int.ofNat (List.length (Option.getD A.1 ((([],[],0,[]),[],[],[],[],0),[],[])).1.2.1),0,List.getD A.2.1 (Int.toNat b) (0,0,0),()))) (ab.bm (λ(A:Option ((be×z1'×List dh×List (z1'×(Int×Int)×Int×Int×Int)×z3'×Int)×z4'×z5')×Bool×z3'×Int×Int×Unit)=>if (!A.2.1)=true then M.bind (M.bind (M.bind (M.pure false) (λr=>M.pure (ab.done r))) (λr=>M.pure (ab.done r))) λr=>M.pure (ab.done r) else M.pure (ab.next (A.1,A.2.2.1,A.2.2.2.1,A.2.2.2.2.1,())))))) (ab.bm (λ(A:Option ((be×z1'×List (Int×Int×Int×Int×z1')×List dt×z3'×Int)×z4'×z5')×z3'×Int×Int×Unit)=>M.pure (ab.next (A.1,A.2.1,A.2.2.1,IntKind.wrap .i64 (Add.add A.2.2.2.1 1),())))) else M.bind (M.pure (ab.next ())) λr=>M.pure (ab.done r)) (x.1,x.2,Int.ofNat (List.length x.2),0,())) (ab.bm (λ(A:Unit)=>M.pure true))
def Nw(Ns:z1'×Int×Unit->M (z1'×Unit))(Nx:Option Sto×z3'×Int×z4'×z1'×Unit->M (Bool×z4'×z1'×Unit))(x:Option Sto×z3'):M Int:=
 M.ag (Option.isSome x.1=true) (M.bind (Ns ([-1],Int.ofNat (List.length (Option.getD x.1 ((([],[],0,[]),[],[],[],[],0),[],[])).2.1),())) (λy=>M.bind (M.loop (λ(A:Option ((be×z1'×List dh×List (z1'×(Int×Int)×Int×Int×Int)×z3'×Int)×z4'×z5')×z3'×Int×Int×Int×z1'×Unit)=>letI a:=A.2.2.2;if decide (a.2.1<a.1)=true then M.bind (M.bind (Nx (A.1,A.2.1,a.2.1,[],a.2.2.1,())) (λy=>if (!y.1)=true then M.pure (ab.next (A.1,A.2.1,IntKind.wrap .i64 (Add.add A.2.2.1 1),a.1,a.2.1,y.2.2.1,())) else M.pure (ab.next (A.1,A.2.1,A.2.2.1,a.1,a.2.1,y.2.2.1,())))) (ab.bm (λ(A:Option ((be×z1'×List (Int×Int×Int×Int×z1')×List dt×z3'×Int)×z4'×z5')×z3'×Int×Int×Int×z1'×Unit)=>M.pure (ab.next (A.1,A.2.1,A.2.2.1,A.2.2.2.1,IntKind.wrap .i64 (Add.add A.2.2.2.2.1 1),A.2.2.2.2.2.1,())))) else M.bind (M.pure (ab.next (A.2.2.1,()))) λr=>M.pure (ab.done r)) (x.1,x.2,0,Int.ofNat (List.length x.2),0,y.1,())) (ab.bm (λ(A:Int×Unit)=>M.pure A.1))))
def VB(kv:Int×Int×Int->M Bool)(x:bt×Int):M Bool:=
 M.bind (kv (x.2,0,IntKind.wrap .i64 (Int.ofNat (List.length x.1.2.2.2.1)-1))) λy=>M.pure y
def ajx(xR:Int×Int->M (Int×Int))(x:z1'×Int):M (z1'):=
 M.bind (if decide (x.2<0)=true then M.ag False (M.ag False (M.pure (ab.next (x.1,x.2,())))) else M.pure (ab.next (x.1,x.2,()))) (ab.bm (λ(A:z1'×Int×Unit)=>M.bind (xR (IntKind.wrap .u64 (Int.ofNat (List.length A.1)),IntKind.wrap .u64 A.2.1)) λy=>M.bind (if (decide (y.1 > 0)||decide (y.2 > 9223372036854775807))=true then M.ag False (M.ag False (M.pure (ab.next (A.1,y.2,())))) else M.pure (ab.next (A.1,y.2,()))) (ab.bm (λ(A:z1'×Int×Unit)=>letI b:=IntKind.wrap .i64 A.2.1;letI f:=Int.toNat b;letI e:=List.take (List.length (List.replicate f (0:Int))-0) A.1;M.ag (0<=b/\b=b/\b2 f) (M.ag True (M.bind (M.loop (λ(A:Int×z1'×Unit)=>letI g:=Int.toNat A.1;letI c:=List.take g A.2.1;letI a:=Int.ofNat (List.length A.2.1);letI d:=Int.toNat a-g;if decide (A.1<a)=true then M.ag (0<=A.1/\A.1<=a/\a<=a) (M.ag ((0:Int)<=0/\0<=A.1/\A.1<=a) (M.ag True (M.pure (ab.next (IntKind.wrap .i64 (Add.add A.1 (Int.ofNat (if d<=List.length c then d else List.length c))),c++List.take d c++List.drop (Add.add g (List.length (List.take d c))) A.2.1,()))))) else M.bind (M.pure (ab.next (A.2.1,()))) λr=>M.pure (ab.done r)) (Int.ofNat (if List.length (List.replicate f (0:Int))-0<=List.length A.1 then List.length (List.replicate f (0:Int))-0 else List.length A.1),[]++e++List.drop (Add.add 0 (List.length e)) (List.replicate f (0:Int)),())) (ab.bm (λ(A:z1'×Unit)=>M.pure A.1))))))))
def VC(Nq:Option Sto×z1'->M (z3'×Bool))(Nr:Option Sto×z3'->M Int)(x:Option Sto×z1'):M Bool:=
 M.bind (Nq x) λy=>M.bind (b7 y.2 (Nr (x.1,y.1)) 0) λbH=>M.pure (y.2&&decide (bH=0))
def VD(DI:Int->M Bool)(Ny:z1'×(Int->M Bool)->M Bool)(ajy:List dh×(Int×Int×Int×Int×z1'->M Bool)->M Bool)(ajz:List dt×(z1'×(Int×Int)×Int×Int×Int->M Bool)->M Bool)(ajA:z3'×(Int×Int×Int->M Bool)->M Bool)(ajB:(Int×Int×Int×Int×z1')×Option be->M Bool)(ajC:(Int×Int×Int)×Option be->M Bool)(ajD:z1'×(Int×Int)×Int×Int×Int->M Bool)(ajE:Int->M Bool)(x:bt):M Bool:=
 letI e:=x.2.2.2;letI b:=decide (Int.ofNat (List.length x.2.1)=Int.ofNat (List.length x.1.1));M.bind (b7 b (Ny (x.2.1,ajE)) false) λy=>letI d:=b&&!y&&decide (Int.ofNat (List.length x.2.2.1)<=8);M.bind (b7 d (ajy (x.2.2.1,λhf=>ajB (hf,some x.1))) false) λbH=>letI a:=d&&!bH&&decide (Int.ofNat (List.length e.1)<=6);M.bind (b7 a (ajz (e.1,ajD)) false) λdv=>letI c:=a&&!dv&&decide (Int.ofNat (List.length e.2.1)<=8);M.bind (b7 c (ajA (e.2.1,λhf=>ajC (hf,some x.1))) false) λgE=>M.bind (b7 (c&&!gE) (DI e.2.2) false) λml=>M.pure (c&&!gE&&ml)
def ajF(x:Int×Int×Int):M Bool:=
 M.pure (decide (x.2.1<=x.1)&&decide (x.1<=x.2.2))
def VE(nS:Int×Int×Int->M Bool)(Hk:z1'×Int->M Bool)(x:bt×Int×Int×Int×Int×z1'):M Bool:=
 letI c:=x.2.2.2.2;letI b:=Int.ofNat (List.length x.1.1.2.1);letI a:=(c.2,IntKind.wrap .i64 (Int.ofNat (List.length (List.getD x.1.1.2.1 (Int.toNat c.1) []))-1));M.bind (nS (x.2.1,0,99)) λy=>M.bind (b7 (!(!y)) (nS (x.2.2.1,0,99)) false) λbH=>M.bind (b7 (!(!y||!bH)) (nS (x.2.2.2.1,0,99)) false) λdv=>M.bind (b7 (!(!y||!bH||!dv)) (nS (c.1,0,IntKind.wrap .i64 (b-1))) false) λgE=>if (!y||!bH||!dv||!gE)=true then M.pure false else M.ag (0<=c.1/\c.1<b) (M.ag (Hk a).b1 (M.pure (M.val (Hk a) false)))
def VF(nS:Int×Int×Int->M Bool)(Hk:z1'×Int->M Bool)(x:z1'×(Int×Int)×Int×Int×Int):M Bool:=
 M.bind (nS (Int.ofNat (List.length x.1),1,8)) λy=>M.bind (b7 y (Hk (x.1,99)) false) λbH=>letI a:=y&&bH&&decide (0<=x.2.1.1)&&decide (x.2.1.1<=x.2.1.2)&&decide (x.2.1.2<=99);M.bind (b7 a (nS (x.2.2.1,0,99)) false) λdv=>M.bind (b7 (a&&dv) (nS (x.2.2.2.1,0,99)) false) λgE=>M.bind (b7 (a&&dv&&gE) (nS (x.2.2.2.2,0,100000)) false) λml=>M.pure (a&&dv&&gE&&ml)
def VG(kv:Int×Int×Int->M Bool)(x:bt×Int):M Bool:=
 M.bind (kv (x.2,0,IntKind.wrap .i64 (Int.ofNat (List.length x.1.2.2.1)-1))) λy=>M.pure y
def VH(kv:Int×Int×Int->M Bool)(ht:z1'×Int->M Bool)(x:(z1'×(Int×Int)×Int×Int×Int)×Int×Int×Int×Int×z1'):M Int:=
 M.bind (ht (x.1.1,x.2.1)) λy=>M.bind (b7 (!(!y)) (kv (x.2.2.1,x.1.2.1)) false) λbH=>if (!y||!bH)=true then M.pure 0 else if decide (x.2.2.2.1=x.1.2.2.1)=true then M.pure 1 else if decide (x.2.2.2.1=0)=true then M.pure 2 else M.pure 0
def Nz(ajG:z1'×Int->M (z1'))(Ag:Option Sto×z1'->M Bool)(lR:Option Sto×z1'->M Int)(ajH:Option Sto->Prop)(ajI:Option Sto->List (z1'))(x:Option Sto):M (z1'):=
 M.ag (Option.isSome x=true) (M.bind (ajG ([-1],Int.ofNat (List.length (Option.getD x ((([],[],0,[]),[],[],[],[],0),[],[])).1.2.2.2.1))) (λy=>M.ag (ajH x) (M.bind (jE (λ(A:Option ((be×z1'×List dh×List (z1'×(Int×Int)×Int×Int×Int)×z3'×Int)×z4'×z5')×z1'×Unit) (y:z1')=>letI b:=(A.1,y);letI a:=(A.1,A.2.1);M.bind (M.ag (lR b).b1 (M.ag (lR a).b1 (M.ag (decide (M.val (lR b) 0 > M.val (lR a) 0)=true->(decide (M.val (lR b) 0 > M.val (lR a) 0)=true/\decide (M.val (lR b) 0 > M.val (lR a) 0)=true/\True)/\(Ag b).b1/\True) (M.ag (True/\(decide (M.val (lR b) 0 > M.val (lR a) 0)=true->decide (M.val (lR b) 0 > M.val (lR a) 0)=true)) (if (decide (M.val (lR b) 0 > M.val (lR a) 0)&&M.val (Ag b) false)=true then M.pure (cT.normal,A.1,y,()) else M.pure (cT.normal,A.1,A.2.1,())))))) λp=>M.pure (p.1,p.2.1,p.2.2.1,())) (ajI x) (x,y,())) (λp=>r6 (M.pure p.2.2.1) (λid=>if id=0 then M.pure p.2.2.1 else M.fail) M.fail p.1))))
def VI(ajJ:bt×Int->M Bool)(ht:z1'×Int->M Bool)(x:bt×z1'):M Bool:=
 M.bind (M.loop (λ(A:z1'×z1'×Int×Int×(be×z1'×List dh×List (z1'×(Int×Int)×Int×Int×Int)×z3'×Int)×Unit)=>letI e:=A.2.2;letI b:=e.2.1;letI c:=Int.toNat b;letI f:=List.getD A.2.1 c 0;letI a:=decide (List.getD A.2.1 c (0:Int)≠-1);if decide (b<e.1)=true then M.ag (0<=b/\b<Int.ofNat (List.length A.2.1)) (M.bind (b7 a (ajJ (e.2.2.1,f)) false) (λy=>letI d:=(a&&!(!y))=true;M.ag (d->(d/\True/\d)/\((0:Int)<=0/\0<=b/\b<=Int.ofNat (List.length A.1))/\True) (M.bind (b7 (a&&!(!y)) (ht (List.take c A.1,f)) false) (λbH=>if (a&&(!y||bH))=true then M.bind (M.bind (M.pure false) (λr=>M.pure (ab.done r))) λr=>M.pure (ab.done r) else M.pure (ab.next (A.1,A.2.1,e.1,IntKind.wrap .i64 (Add.add b 1),e.2.2.1,())))))) else M.bind (M.pure (ab.next (A.1,e.2.2.1,()))) λr=>M.pure (ab.done r)) (x.2,x.2,Int.ofNat (List.length x.2),0,x.1,())) (ab.bm (λ(A:z1'×(be×z1'×List dh×List dt×z3'×Int)×Unit)=>M.pure (decide (Int.ofNat (List.length A.1)=Int.ofNat (List.length A.2.1.2.2.2.1)))))
def NA(x:Option Sto×z1'):M Int:=
 M.bind (M.loop (λ(A:Option ((be×z1'×List dh×List dt×z3'×Int)×z4'×z5')×Int×z1'×Int×Int×Unit)=>letI c:=A.2.2;letI b:=(Option.getD A.1 ((([],[],0,[]),[],[],[],[],0),[],[])).1.2.2.2.1;letI a:=c.2.2.1;if decide (a<c.2.1)=true then M.bind (M.ag (0<=a/\a<Int.ofNat (List.length c.1)) (if decide (List.getD c.1 (Int.toNat a) (0:Int)≠-1)=true then M.ag (Option.isSome A.1=true) (M.ag (0<=a/\a<Int.ofNat (List.length b)) (M.pure (ab.next (A.1,IntKind.wrap .i64 (Add.add A.2.1 (List.getD b (Int.toNat a) ([],(0,0),0,0,0)).2.2.2.2),c.1,c.2.1,a,())))) else M.pure (ab.next (A.1,A.2.1,c.1,c.2.1,a,())))) (ab.bm (λ(A:Option ((be×z1'×List (Int×Int×Int×Int×z1')×List dt×z3'×Int)×z4'×z5')×Int×z1'×Int×Int×Unit)=>M.pure (ab.next (A.1,A.2.1,A.2.2.1,A.2.2.2.1,IntKind.wrap .i64 (Add.add A.2.2.2.2.1 1),())))) else M.bind (M.pure (ab.next (A.2.1,()))) λr=>M.pure (ab.done r)) (x.1,0,x.2,Int.ofNat (List.length x.2),0,())) (ab.bm (λ(A:Int×Unit)=>M.pure A.1))
def ajK(xR:Int×Int->M (Int×Int))(x:z4'×Int):M (z4'):=
 M.bind (if decide (x.2<0)=true then M.ag False (M.ag False (M.pure (ab.next (x.1,x.2,())))) else M.pure (ab.next (x.1,x.2,()))) (ab.bm (λ(A:z4'×Int×Unit)=>M.bind (xR (IntKind.wrap .u64 (Int.ofNat (List.length A.1)),IntKind.wrap .u64 A.2.1)) λy=>M.bind (if (decide (y.1 > 0)||decide (y.2 > 9223372036854775807))=true then M.ag False (M.ag False (M.pure (ab.next (A.1,y.2,())))) else M.pure (ab.next (A.1,y.2,()))) (ab.bm (λ(A:z4'×Int×Unit)=>letI b:=IntKind.wrap .i64 A.2.1;letI f:=Int.toNat b;letI d:=List.take (List.length (List.replicate f ((0:Int),(0:Int)))-0) A.1;M.ag (0<=b/\b=b/\b2 f) (M.ag True (M.bind (M.loop (λ(A:Int×z4'×Unit)=>letI g:=Int.toNat A.1;letI c:=List.take g A.2.1;letI a:=Int.ofNat (List.length A.2.1);letI e:=Int.toNat a-g;if decide (A.1<a)=true then M.ag (0<=A.1/\A.1<=a/\a<=a) (M.ag ((0:Int)<=0/\0<=A.1/\A.1<=a) (M.ag True (M.pure (ab.next (IntKind.wrap .i64 (Add.add A.1 (Int.ofNat (if e<=List.length c then e else List.length c))),c++List.take e c++List.drop (Add.add g (List.length (List.take e c))) A.2.1,()))))) else M.bind (M.pure (ab.next (A.2.1,()))) λr=>M.pure (ab.done r)) (Int.ofNat (if List.length (List.replicate f ((0:Int),(0:Int)))-0<=List.length A.1 then List.length (List.replicate f ((0:Int),(0:Int)))-0 else List.length A.1),[]++d++List.drop (Add.add 0 (List.length d)) (List.replicate f ((0:Int),(0:Int))),())) (ab.bm (λ(A:z4'×Unit)=>M.pure A.1))))))))
def VJ(x:Option Sto×(Int×Int)×Int×Int×Int):M Bool:=
 letI c:=decide (x.2.1.2<=x.2.2.2.2);letI a:=c=true;letI b:=a->a/\True/\True;M.ag (a->a/\Option.isSome x.1=true/\True) (M.ag b (M.ag b (M.ag b (M.ag b (M.ag b (M.ag (a->(a/\a/\a/\True)/\True/\True) (M.ag (a->(a/\a)/\True/\True) (M.ag (a->(a/\True)/\True/\True) (M.ag (True/\(a->a)) (M.pure (c&&decide (Option.getD (Option.map (λx=>x.2) (List.find? (λp=>decide (x.2.1.1=p.1.1)&&(decide (x.2.2.1=p.1.2.1)&&decide (x.2.2.2.1=p.1.2.2))) (Option.getD x.1 ((([],[],0,[]),[],[],[],[],0),[],[])).2.2)) (0:Int) > 0))))))))))))
def ajL(x:Int×Int×Int):M Bool:=
 M.pure (decide (x.2.1<=x.1)&&decide (x.1<=x.2.2))
def VK(kv:Int×Int×Int->M Bool)(vt:Int->M Bool)(NB:z1'×(Int->M Bool)->M Bool)(ajM:Int×Option be×Option (Int×Int×Int×Int×z1')->M Bool)(x:(Int×Int×Int×Int×z1')×Option be):M Bool:=
 letI b:=Option.getD x.2 ([],[],0,[]);M.bind (vt x.1.1) λy=>M.bind (b7 (!(!y)) (vt x.1.2.1) false) λbH=>M.bind (b7 (!(!y||!bH)) (vt x.1.2.2.1) false) λdv=>letI a:=!y||!bH||!dv;M.bind (b7 (!a) (kv (x.1.2.2.2.1,0,IntKind.wrap .i64 (Int.ofNat (List.length b.2.1)-1))) false) λgE=>M.bind (b7 (!(a||!gE)) (NB (x.1.2.2.2.2,λhf=>ajM (hf,some b,some x.1))) false) λml=>M.pure (a||!gE||!ml)
def VL(kv:Int×Int×Int->M Bool)(x:Int):M Bool:=
 M.bind (kv (x,0,99)) λy=>M.pure y
def VM(x:z1'×(Int->M Bool)):M Bool:=
 M.bind (M.loop (λ(A:z1'×(Int->M Bool)×z1'×Int×Int×Unit)=>letI e:=A.2.2;letI a:=e.2.2.1;letI d:=List.getD e.1 (Int.toNat a) 0;letI c:=IntKind.wrap .i64 (a-1);if decide (a<e.2.1)=true then M.ag (0<=a/\a<Int.ofNat (List.length e.1)) (M.bind (A.2.1 d) (λy=>letI b:=(!(!y)&&decide (a > 0))=true;M.ag (b->(b/\b)/\(0<=c/\c<Int.ofNat (List.length A.1))/\True) (if (!y||decide (a > 0)&&decide (d<=List.getD A.1 (Int.toNat c) 0))=true then M.bind (M.bind (M.pure false) (λr=>M.pure (ab.done r))) λr=>M.pure (ab.done r) else M.pure (ab.next (A.1,A.2.1,e.1,e.2.1,IntKind.wrap .i64 (Add.add a 1),()))))) else M.bind (M.pure (ab.next ())) λr=>M.pure (ab.done r)) (x.1,x.2,x.1,Int.ofNat (List.length x.1),0,())) (ab.bm (λ(A:Unit)=>M.pure true))
def VN(kv:Int×Int×Int->M Bool)(x:Int×Option be×Option (Int×Int×Int×Int×z1')):M Bool:=
 letI b:=(Option.getD x.2.1 ([],[],0,[])).2.1;letI a:=(Option.getD x.2.2 (0,0,0,0,[])).2.2.2.1;M.ag (0<=a/\a<Int.ofNat (List.length b)) (M.bind (kv (x.1,0,IntKind.wrap .i64 (Int.ofNat (List.length (List.getD b (Int.toNat a) []))-1))) (λy=>M.pure y))
def VO(kv:Int×Int×Int->M Bool)(vt:Int->M Bool)(NB:z1'×(Int->M Bool)->M Bool)(DI:Int->M Bool)(x:z1'×(Int×Int)×Int×Int×Int):M Bool:=
 M.bind (kv (Int.ofNat (List.length x.1),1,8)) λy=>M.bind (b7 (!(!y)) (NB (x.1,vt)) false) λbH=>M.bind (b7 (!(!y||!bH)) (vt x.2.1.1) false) λdv=>M.bind (b7 (!(!y||!bH||!dv)) (vt x.2.1.2) false) λgE=>letI a:=!y||!bH||!dv||!gE||decide (x.2.1.1 > x.2.1.2);M.bind (b7 (!a) (vt x.2.2.1) false) λml=>M.bind (b7 (!(a||!ml)) (DI x.2.2.2.1) false) λDJ=>M.bind (b7 (!(a||!ml||!DJ)) (kv (x.2.2.2.2,0,100000)) false) λNC=>M.pure (a||!ml||!DJ||!NC)
def VP(kv:Int×Int×Int->M Bool)(x:Int):M Bool:=
 M.bind (kv (x,0,99)) λy=>M.pure y
def VQ(kv:Int×Int×Int->M Bool)(DI:Int->M Bool)(x:(Int×Int×Int)×Option be):M Bool:=
 M.bind (DI x.1.1) λy=>M.bind (b7 (!(!y)) (kv (x.1.2.1,0,IntKind.wrap .i64 (Int.ofNat (List.length (Option.getD x.2 ([],[],0,[])).1)-1))) false) λbH=>M.bind (b7 (!(!y||!bH)) (kv (x.1.2.2,1,10)) false) λdv=>M.pure (!y||!bH||!dv)
def VR(kv:Int×Int×Int->M Bool)(x:Int):M Bool:=
 M.bind (kv (x,0,10)) λy=>M.pure (!y)
def VS(x:z1'×Int):M Bool:=
 M.bind (M.loop (λ(A:z1'×Int×Int×Unit)=>letI e:=A.2.2.1;letI j:=decide (e > 0);letI i:=List.getD A.1 (Int.toNat e) 0;letI h:=IntKind.wrap .i64 (e-1);letI d:=Int.ofNat (List.length A.1);letI k:=0<=e/\e<d;letI b:=decide (List.getD A.1 (Int.toNat e) (0:Int)<0);letI f:=(!b)=true;letI a:=b||decide (i > A.2.1);letI g:=(!a)=true;letI c:=(!a&&j)=true;letI l:=c->c/\True/\True;if decide (e<d)=true then M.ag k (M.ag (f->(f/\f)/\k/\True) (M.ag (f->f/\True/\True) (M.ag (f->(f/\f)/\True/\True) (M.ag (True/\(b=false->f)) (M.ag (g->(g/\True)/\True/\True) (M.ag (g->True/\True/\g) (M.ag (c->(c/\c)/\k/\True) (M.ag l (M.ag (c->(c/\True)/\True/\True) (M.ag (c->(c/\c)/\(0<=h/\h<d)/\True) (M.ag l (M.ag (c->(c/\c)/\True/\True) (M.ag (g->(g/\(j=true->c))/\True/\True) (M.ag (True/\(a=false->g)) (if (a||j&&decide (i<=List.getD A.1 (Int.toNat h) 0))=true then M.bind (M.bind (M.pure false) (λr=>M.pure (ab.done r))) λr=>M.pure (ab.done r) else M.pure (ab.next (A.1,A.2.1,IntKind.wrap .i64 (Add.add e 1),()))))))))))))))))) else M.bind (M.pure (ab.next ())) λr=>M.pure (ab.done r)) (x.1,x.2,0,())) (ab.bm (λ(A:Unit)=>M.pure true))
def Hl(xS:Option Sto×z1'×Int×Nat×(Nat×(List (z1')->Prop)×List (z1')×Bool)×Unit->M (Bool×(Nat×(List (z1')->Prop)×List (z1')×Bool)×Unit))(x:Option Sto×Nat×(Nat×(List (z1')->Prop)×List (z1')×Bool)×Unit):M ((Nat×(List (z1')->Prop)×List (z1')×Bool)×Unit):=
 M.bind (xS (x.1,[],1,x.2.1,x.2.2.1,())) λy=>M.pure (y.2.1,())
def Hm(xS:Option Sto×z1'×Int×Nat×(Nat×(List (z1')->Prop)×List (z1')×Bool)×Unit->M (Bool×(Nat×(List (z1')->Prop)×List (z1')×Bool)×Unit))(x:Option Sto×Nat×(Nat×(List (z1')->Prop)×List (z1')×Bool)×Unit):M ((Nat×(List (z1')->Prop)×List (z1')×Bool)×Unit):=
 M.bind (xS (x.1,[],0,x.2.1,x.2.2.1,())) λy=>M.pure (y.2.1,())
def ND(Hj:Option Sto×(Int×Int)×Int×Int×Int->M Bool)(Nx:Option Sto×z3'×Int×z4'×z1'×Unit->M (Bool×z4'×z1'×Unit))(x:Option Sto×z3'×Int×z4'×z1'×Unit):M (Bool×z4'×z1'×Unit):=
 letI k:=(Option.getD x.1 ((([],[],0,[]),[],[],[],[],0),[],[])).2.1;M.bind (M.ag (Option.isSome x.1=true) (M.loop (λ(A:Option ((be×z1'×List dh×List (z1'×(Int×Int)×Int×Int×Int)×z3'×Int)×z4'×z5')×z3'×Int×z4'×Int×Int×z4'×z1'×Unit)=>letI o:=A.2.1;letI i:=A.2.2;letI c:=i.2.2.2;letI m:=c.2.2.1;letI l:=Int.toNat c.1;letI j:=Option.map (λx=>x.2) (List.find? (λp=>decide (c.1=p.1)) c.2.1);letI g:=0<=c.1/\c.1<Int.ofNat (List.length m);letI f:=(A.1,List.getD i.2.1 l (0,0),List.getD o (Int.toNat i.1) (0,0,0));letI d:=eV c.2.1 c.1 (IntKind.wrap .i64 (Add.add (Option.getD j 0) 1));letI b:=decide (List.getD m l (0:Int)=-1);letI h:=(!b)=true;letI a:=decide (Option.getD j (0:Int) > 0);letI e:=(!a)=true;letI q:=e->e/\True/\True;if decide (c.1<i.2.2.1)=true then M.bind (M.ag (0<=c.1/\c.1<Int.ofNat (List.length i.2.1)) (M.ag (e->(e/\e)/\(0<=i.1/\i.1<Int.ofNat (List.length o))/\True) (M.ag q (M.ag (e->(e/\e/\e/\True)/\(Hj f).b1/\True) (M.ag q (M.ag (True/\(a=false->e)) (if (a||!(M.val (Hj f) false))=true then M.pure (ab.next (A.1,o,i.1,i.2.1,i.2.2.1,c.1,c.2.1,m,())) else M.ag g (M.ag (h->(h/\h)/\g/\True) (if h then M.ag (h/\h/\h/\h/\h/\True) (M.bind (Nx (A.1,o,List.getD m l 0,d,m,())) (λy=>if (b||y.1)=true then M.ag (0<=c.1/\c.1<Int.ofNat (List.length y.2.2.1)) (M.bind (M.bind (M.bind (M.pure (true,y.2.1,List.set y.2.2.1 l i.1,())) (λr=>M.pure (ab.done r))) (λr=>M.pure (ab.done r))) (λr=>M.pure (ab.done r))) else M.pure (ab.next (A.1,o,i.1,i.2.1,i.2.2.1,c.1,y.2.1,y.2.2.1,())))) else M.ag (True/\(b=false->false=true)) (if (b||false)=true then M.ag g (M.bind (M.bind (M.bind (M.pure (true,d,List.set m l i.1,())) (λr=>M.pure (ab.done r))) (λr=>M.pure (ab.done r))) (λr=>M.pure (ab.done r))) else M.pure (ab.next (A.1,o,i.1,i.2.1,i.2.2.1,c.1,d,m,())))))))))))) (ab.bm (λ(A:Option ((be×z1'×List dh×List dt×z3'×Int)×z4'×z5')×z3'×Int×z4'×Int×Int×z4'×z1'×Unit)=>letI n:=A.2.2.2;M.pure (ab.next (A.1,A.2.1,A.2.2.1,n.1,n.2.1,IntKind.wrap .i64 (Add.add n.2.2.1 1),n.2.2.2.1,n.2.2.2.2.1,())))) else M.bind (M.pure (ab.next (c.2.1,m,()))) λr=>M.pure (ab.done r)) (x.1,x.2.1,x.2.2.1,k,Int.ofNat (List.length k),0,x.2.2.2.1,x.2.2.2.2.1,()))) (ab.bm (λ(A:z4'×z1'×Unit)=>M.pure (false,A.1,A.2.1,())))
def NF(Hi:(z1'×(Int×Int)×Int×Int×Int)×Int×Int×Int×Int×z1'->M Int)(xS:Option Sto×z1'×Int×Nat×(Nat×(List (z1')->Prop)×List (z1')×Bool)×Unit->M (Bool×(Nat×(List (z1')->Prop)×List (z1')×Bool)×Unit))(ht:z1'×Int->M Bool)(x:Option Sto×z1'×Int×Nat×(Nat×(List (z1')->Prop)×List (z1')×Bool)×Unit):M (Bool×(Nat×(List (z1')->Prop)×List (z1')×Bool)×Unit):=
 letI p:=Option.isSome x.1=true;letI o:=Int.ofNat (List.length x.2.1);letI i:=x.2.2.2.2.1;letI e:=(Option.getD x.1 ((([],[],0,[]),[],[],[],[],0),[],[])).1.2.2;M.ag p (if decide (o=Int.ofNat (List.length e.2.1))=true then M.bind (M.ag (x.2.2.2.1=i.1/\i.2.2.2=false/\(∃ (T:List (z1')),i.2.1 (i.2.2.1++x.2.1::T))) (M.any (λx=>True))) λy=>M.pure (y,(i.1,i.2.1,i.2.2.1++[x.2.1],!y),()) else M.bind (M.ag p (M.loop (λ(A:Option Sto×z1'×Int×Nat×Int×List dh×Int×Int×(Nat×(List (z1')->Prop)×List (z1')×Bool)×Unit)=>letI q:=A.2.1;letI l:=A.2.2;letI j:=(Option.getD A.1 ((([],[],0,[]),[],[],[],[],0),[],[])).1.2.2.2.1;letI c:=l.2.2;letI m:=List.take (Int.toNat c.1) q;letI k:=c.2.2.2;letI d:=(List.getD j (Int.toNat c.1) ([],(0,0),0,0,0),List.getD c.2.1 (Int.toNat k.1) (0,0,0,0,[]));letI a:=(q,k.1);if decide (k.1<c.2.2.1)=true then M.bind (M.ag (0<=k.1/\k.1<Int.ofNat (List.length c.2.1)) (M.ag (ht a).b1 (M.ag ((!(M.val (ht a) false))=true->(!(M.val (ht a) false))=true/\Option.isSome A.1=true/\True) (M.ag ((!(M.val (ht a) false))=true->(!(M.val (ht a) false))=true/\True/\True) (M.ag ((!(M.val (ht a) false))=true->(!(M.val (ht a) false))=true/\True/\True) (M.ag ((!(M.val (ht a) false))=true->(!(M.val (ht a) false))=true/\True/\True) (M.ag ((!(M.val (ht a) false))=true->((!(M.val (ht a) false))=true/\(!(M.val (ht a) false))=true)/\(0<=c.1/\c.1<Int.ofNat (List.length j))/\True) (M.ag ((!(M.val (ht a) false))=true->(!(M.val (ht a) false))=true/\True/\True) (M.ag ((!(M.val (ht a) false))=true->((!(M.val (ht a) false))=true/\(!(M.val (ht a) false))=true/\True)/\(Hi d).b1/\True) (M.ag ((!(M.val (ht a) false))=true->((!(M.val (ht a) false))=true/\True)/\True/\True) (M.ag (True/\(M.val (ht a) false=false->(!(M.val (ht a) false))=true)) (if (M.val (ht a) false||decide (M.val (Hi d) (0:Int)=0))=true then M.pure (ab.next (A.1,q,l.1,l.2.1,c.1,c.2.1,c.2.2.1,k.1,k.2.1,())) else M.ag ((0:Int)<=0/\0<=c.1/\c.1=c.1/\c.1<=Int.ofNat (List.length q)) (M.ag (0<Add.add 0 1/\b2 (Add.add (List.length m) (Add.add 0 1))) (M.bind (xS (A.1,m++[k.1],l.1,l.2.1,k.2.1,())) (λy=>if (!y.1)=true then M.bind (M.bind (M.bind (M.pure (false,y.2.1,())) (λr=>M.pure (ab.done r))) (λr=>M.pure (ab.done r))) λr=>M.pure (ab.done r) else M.pure (ab.next (A.1,q,l.1,l.2.1,c.1,c.2.1,c.2.2.1,k.1,y.2.1,()))))))))))))))))) (ab.bm (λ(A:Option Sto×z1'×Int×Nat×Int×List dh×Int×Int×(Nat×(List (z1')->Prop)×List (z1')×Bool)×Unit)=>letI n:=A.2.2.2.2;M.pure (ab.next (A.1,A.2.1,A.2.2.1,A.2.2.2.1,n.1,n.2.1,n.2.2.1,IntKind.wrap .i64 (Add.add n.2.2.2.1 1),n.2.2.2.2.1,())))) else M.bind (M.pure (ab.next (A.1,q,l.1,l.2.1,c.1,k.2.1,()))) λr=>M.pure (ab.done r)) (x.1,x.2.1,x.2.2.1,x.2.2.2.1,o,e.1,Int.ofNat (List.length e.1),0,i,()))) (ab.bm (λ(A:Option Sto×z1'×Int×Nat×Int×(Nat×(List (z1')->Prop)×List (z1')×Bool)×Unit)=>letI s:=A.2.2;letI h:=s.2.2;letI g:=List.take (Int.toNat h.1) A.2.1;letI f:=decide (s.1=0);letI b:=(!f)=true;M.ag (b->(b/\True/\b/\b)/\((0:Int)<=0/\0<=h.1/\h.1=h.1/\h.1<=Int.ofNat (List.length A.2.1))/\True) (if b then M.ag (b/\b) (M.ag (0<Add.add 0 1/\b2 (Add.add (List.length g) (Add.add 0 1))) (if b then M.ag (b/\b/\b/\True) (M.bind (xS (A.1,g++[-1],s.1,s.2.1,h.2.1,())) (λy=>M.pure (f||y.1,y.2.1,()))) else M.ag (True/\(f=false->false=true)) (M.pure (f||false,h.2.1,())))) else if b then M.ag (b/\false=true/\b/\b/\True) (M.bind (xS (A.1,g++[-1],s.1,s.2.1,h.2.1,())) (λy=>M.pure (f||y.1,y.2.1,()))) else M.ag (True/\(f=false->false=true)) (M.pure (f||false,h.2.1,()))))))
def ajN(xR:Int×Int->M (Int×Int))(x:z1'×Int×Unit):M (z1'×Unit):=
 M.bind (if decide (x.2.1<0)=true then M.ag False (M.ag False (M.pure (ab.next (x.1,x.2.1,())))) else M.pure (ab.next (x.1,x.2.1,()))) (ab.bm (λ(A:z1'×Int×Unit)=>M.bind (xR (IntKind.wrap .u64 (Int.ofNat (List.length A.1)),IntKind.wrap .u64 A.2.1)) λy=>M.bind (if (decide (y.1 > 0)||decide (y.2 > 9223372036854775807))=true then M.ag False (M.ag False (M.pure (ab.next (A.1,y.2,())))) else M.pure (ab.next (A.1,y.2,()))) (ab.bm (λ(A:z1'×Int×Unit)=>letI b:=IntKind.wrap .i64 A.2.1;letI f:=Int.toNat b;letI e:=List.take (List.length (List.replicate f (0:Int))-0) A.1;M.ag (0<=b/\b=b/\b2 f) (M.ag True (M.bind (M.loop (λ(A:Int×z1'×Unit)=>letI g:=Int.toNat A.1;letI c:=List.take g A.2.1;letI a:=Int.ofNat (List.length A.2.1);letI d:=Int.toNat a-g;if decide (A.1<a)=true then M.ag (0<=A.1/\A.1<=a/\a<=a) (M.ag ((0:Int)<=0/\0<=A.1/\A.1<=a) (M.ag True (M.pure (ab.next (IntKind.wrap .i64 (Add.add A.1 (Int.ofNat (if d<=List.length c then d else List.length c))),c++List.take d c++List.drop (Add.add g (List.length (List.take d c))) A.2.1,()))))) else M.bind (M.pure (ab.next (A.2.1,()))) λr=>M.pure (ab.done r)) (Int.ofNat (if List.length (List.replicate f (0:Int))-0<=List.length A.1 then List.length (List.replicate f (0:Int))-0 else List.length A.1),[]++e++List.drop (Add.add 0 (List.length e)) (List.replicate f (0:Int)),())) (ab.bm (λ(A:z1'×Unit)=>M.pure (A.1,())))))))))
end Go.Fer
namespace Go.Fer.H
open M (ab)
set_option maxRecDepth 100000
abbrev aS:Type:=Int×Int×Int×Int×Int×Int
abbrev pv:Type:=Int×Int×Int×Int×Int×Int×Int
abbrev aR:Type:=z4'×List aS×z1'×z4'×pv
abbrev bk:Type:=aS×Int
abbrev dw:Type:=z1'×List (List bk)
abbrev dH:Type:=aR×List aS×List (Option dw)
abbrev gW:Type:=z4'×List aS×z1'×z4'×Int×Int×Int×Int×Int×Int×Int×List aS×List (Option dw)×Unit
abbrev eV(l:z4')(a b:Int):z4':=lz (k:=.int .i64) (v:=.int .i64) l a b
abbrev gX:af:=.st (.ay (.int .i64) (.ay (.int .i64) (.ay (.int .i64) (.ay (.int .i64) (.ay (.int .i64) (.int .i64))))))
abbrev kN(l:List (Int×aS))(a:Int)(b:aS):List (Int×aS):=lz (k:=.int .i64) (v:=gX) l a b
abbrev ajO:List UInt8:=0::1::(List.replicate 2 2++(List.replicate 4 3++(List.replicate 8 4++(List.replicate 16 5++(List.replicate 32 6++(List.replicate 64 7++List.replicate 128 8))))))
abbrev _root_.Prod.cI{fw eO dR fx fy fq fr:Type}(x:fw×eO×dR×fx×fy×fq×fr):fq:=x.2.2.2.2.2.1
abbrev _root_.Prod.fh{fw eO dR fx fy fq fr fG:Type}(x:fw×eO×dR×fx×fy×fq×fr×fG):fr:=x.2.2.2.2.2.2.1
abbrev _root_.Prod.gv{fw eO dR fx fy fq fr fG fX:Type}(x:fw×eO×dR×fx×fy×fq×fr×fG×fX):fG:=x.2.2.2.2.2.2.2.1
abbrev _root_.Prod.ig{fw eO dR fx fy fq fr fG fX gw:Type}(x:fw×eO×dR×fx×fy×fq×fr×fG×fX×gw):fX:=x.2.2.2.2.2.2.2.2.1
abbrev _root_.Prod.jJ{fw eO dR fx fy fq fr fG fX gw gY:Type}(x:fw×eO×dR×fx×fy×fq×fr×fG×fX×gw×gY):gw:=x.2.2.2.2.2.2.2.2.2.1
abbrev _root_.Prod.kO{fw eO dR fx fy fq fr fG fX gw gY hy:Type}(x:fw×eO×dR×fx×fy×fq×fr×fG×fX×gw×gY×hy):gY:=x.2.2.2.2.2.2.2.2.2.2.1
abbrev _root_.Prod.hz{fw eO dR fx fy fq fr fG fX gw gY hy h4:Type}(x:fw×eO×dR×fx×fy×fq×fr×fG×fX×gw×gY×hy×h4):hy:=x.2.2.2.2.2.2.2.2.2.2.2.1
abbrev _root_.Prod.mR{fw eO dR fx fy fq fr fG fX gw gY hy h4 iF:Type}(x:fw×eO×dR×fx×fy×fq×fr×fG×fX×gw×gY×hy×h4×iF):h4:=x.2.2.2.2.2.2.2.2.2.2.2.2.1
abbrev _root_.Prod.pw{fw eO dR fx fy fq fr fG fX gw gY hy h4 iF jj:Type}(x:fw×eO×dR×fx×fy×fq×fr×fG×fX×gw×gY×hy×h4×iF×jj):iF:=x.2.2.2.2.2.2.2.2.2.2.2.2.2.1
abbrev _root_.Prod.so{fw eO dR fx fy fq fr fG fX gw gY hy h4 iF jj j':Type}(x:fw×eO×dR×fx×fy×fq×fr×fG×fX×gw×gY×hy×h4×iF×jj×j'):jj:=x.2.2.2.2.2.2.2.2.2.2.2.2.2.2.1
abbrev _root_.Prod.xT{fw eO dR fx fy fq fr fG fX gw gY hy h4 iF jj j' kP:Type}(x:fw×eO×dR×fx×fy×fq×fr×fG×fX×gw×gY×hy×h4×iF×jj×j'×kP):j':=x.2.2.2.2.2.2.2.2.2.2.2.2.2.2.2.1
abbrev _root_.Prod.NG{fw eO dR fx fy fq fr fG fX gw gY hy h4 iF jj j' kP lS:Type}(x:fw×eO×dR×fx×fy×fq×fr×fG×fX×gw×gY×hy×h4×iF×jj×j'×kP×lS):kP:=x.2.2.2.2.2.2.2.2.2.2.2.2.2.2.2.2.1
abbrev _root_.Prod.NH{fw eO dR fx fy fq fr fG fX gw gY hy h4 iF jj j' kP lS mS:Type}(x:fw×eO×dR×fx×fy×fq×fr×fG×fX×gw×gY×hy×h4×iF×jj×j'×kP×lS×mS):lS:=x.2.2.2.2.2.2.2.2.2.2.2.2.2.2.2.2.2.1
abbrev _root_.Prod.NI{fw eO dR fx fy fq fr fG fX gw gY hy h4 iF jj j' kP lS mS oE:Type}(x:fw×eO×dR×fx×fy×fq×fr×fG×fX×gw×gY×hy×h4×iF×jj×j'×kP×lS×mS×oE):mS:=x.2.2.2.2.2.2.2.2.2.2.2.2.2.2.2.2.2.2.1
abbrev _root_.Prod.NJ{fw eO dR fx fy fq fr fG fX gw gY hy h4 iF jj j' kP lS mS oE qm:Type}(x:fw×eO×dR×fx×fy×fq×fr×fG×fX×gw×gY×hy×h4×iF×jj×j'×kP×lS×mS×oE×qm):oE:=x.2.2.2.2.2.2.2.2.2.2.2.2.2.2.2.2.2.2.2.1
abbrev _root_.Prod.NK{fw eO dR fx fy fq fr fG fX gw gY hy h4 iF jj j' kP lS mS oE qm sq:Type}(x:fw×eO×dR×fx×fy×fq×fr×fG×fX×gw×gY×hy×h4×iF×jj×j'×kP×lS×mS×oE×qm×sq):qm:=x.2.2.2.2.2.2.2.2.2.2.2.2.2.2.2.2.2.2.2.2.1
abbrev _root_.Prod.ajP{fw eO dR fx fy fq fr fG fX gw gY hy h4 iF jj j' kP lS mS oE qm sq vu:Type}(x:fw×eO×dR×fx×fy×fq×fr×fG×fX×gw×gY×hy×h4×iF×jj×j'×kP×lS×mS×oE×qm×sq×vu):sq:=x.2.2.2.2.2.2.2.2.2.2.2.2.2.2.2.2.2.2.2.2.2.1
abbrev _root_.Prod.NL{fw eO dR fx fy fq fr fG fX gw gY hy h4 iF jj j' kP lS mS oE qm sq vu Aj:Type}(x:fw×eO×dR×fx×fy×fq×fr×fG×fX×gw×gY×hy×h4×iF×jj×j'×kP×lS×mS×oE×qm×sq×vu×Aj):vu:=x.2.2.2.2.2.2.2.2.2.2.2.2.2.2.2.2.2.2.2.2.2.2.1
abbrev _root_.Prod.rl{fw eO dR fx fy fq fr fG fX gw gY hy h4 iF jj j' kP lS mS oE qm sq vu Aj Hn:Type}(x:fw×eO×dR×fx×fy×fq×fr×fG×fX×gw×gY×hy×h4×iF×jj×j'×kP×lS×mS×oE×qm×sq×vu×Aj×Hn):Aj:=x.2.2.2.2.2.2.2.2.2.2.2.2.2.2.2.2.2.2.2.2.2.2.2.1
abbrev _root_.Prod.DK{fw eO dR fx fy fq fr fG fX gw gY hy h4 iF jj j' kP lS mS oE qm sq vu Aj Hn ajQ:Type}(x:fw×eO×dR×fx×fy×fq×fr×fG×fX×gw×gY×hy×h4×iF×jj×j'×kP×lS×mS×oE×qm×sq×vu×Aj×Hn×ajQ):Hn:=x.2.2.2.2.2.2.2.2.2.2.2.2.2.2.2.2.2.2.2.2.2.2.2.2.1
def VT(tW:aR×(Option dH->M Bool)->M (Option dH×Int))(DL:Option dw×Int×Int->M (bk×Bool))(DM:(z1'->Prop)->M (z1'))(ajR:z4'->M (z1'->Prop))(ajS:Option dH×Option Int×Option Int->M Bool)(x:aR×Int×Int):M (z1'×Int):=
 M.bind (tW (x.1,λhf=>ajS (hf,some x.2.1,some x.2.2))) λy=>letI a:=(Option.getD y.1 (([],[],[],[],0,0,0,0,0,0,0),[],[])).2.2;if decide (y.2≠0)=true then M.pure ([],y.2) else M.bind (M.ag (Option.isSome y.1=true) (M.loop (λ(A:List (Option dw)×Int×Int×Int×Int×z4'×Unit)=>letI b:=A.2.2;if decide (b.1<A.2.1)=true then M.bind (M.ag (0<=b.1/\b.1<Int.ofNat (List.length A.1)) (M.bind (DL (List.getD A.1 (Int.toNat b.1) none,b.2.1,b.2.2.1)) (λy=>if y.2=true then M.pure (ab.next (A.1,A.2.1,b.1,b.2.1,b.2.2.1,eV A.cI y.1.1.2.2.2.2.2 (IntKind.wrap .i64 (Add.add (Option.getD (Option.map (λx=>x.2) (List.find? (λp=>decide (y.1.1.2.2.2.2.2=p.1)) A.cI)) 0) 1)),())) else M.pure (ab.next (A.1,A.2.1,b.1,b.2.1,b.2.2.1,eV A.cI (-1) (IntKind.wrap .i64 (Add.add (Option.getD (Option.map (λx=>x.2) (List.find? (λp=>decide (-1=p.1)) A.cI)) 0) 1)),()))))) (ab.bm (λ(A:List (Option dw)×Int×Int×Int×Int×z4'×Unit)=>M.pure (ab.next (A.1,A.2.1,IntKind.wrap .i64 (Add.add A.2.2.1 1),A.2.2.2.1,A.2.2.2.2.1,A.cI,())))) else M.bind (M.pure (ab.next (A.cI,()))) λr=>M.pure (ab.done r)) (a,Int.ofNat (List.length a),0,x.2.1,x.2.2,[],()))) (ab.bm (λ(A:z4'×Unit)=>M.bind (ajR A.1) λy=>M.bind (DM y) λy=>M.pure (y,0)))
def VU(NM:aR×Int×(Int->M Int)->M ((Int×Int)×Int))(ajT:Int×Option aR->M Int)(x:aR×Int):M ((Int×Int)×Int):=
 M.bind (NM (x.1,x.2,λhf=>ajT (hf,some x.1))) λy=>M.pure y
def VV(NM:aR×Int×(Int->M Int)->M ((Int×Int)×Int))(ajU:Int->M Int)(x:aR×Int):M ((Int×Int)×Int):=
 M.bind (NM (x.1,x.2,ajU)) λy=>M.pure y
def VW(tW:aR×(Option dH->M Bool)->M (Option dH×Int))(DN:Option dH×(Option dw->M (Int×Bool))->M ((Int×Int)×Bool))(ajV:Option dH×Option Int->M Bool)(ajW:Option dw×Option Int×Option aR->M (Int×Bool))(x:aR×Int):M ((Int×Int)×Int):=
 M.bind (tW (x.1,λhf=>ajV (hf,some x.2))) λy=>if decide (y.2≠0)=true then M.pure ((0,0),y.2) else M.bind (DN (y.1,λhf=>ajW (hf,some x.2,some x.1))) λy=>M.pure (y.1,0)
def VX(tW:aR×(Option dH->M Bool)->M (Option dH×Int))(DN:Option dH×(Option dw->M (Int×Bool))->M ((Int×Int)×Bool))(ajX:Option dH×Option Int->M Bool)(ajY:Option dw×Option (Option dH)×Option Int×Option aR->M (Int×Bool))(x:aR×Int):M ((Int×Int)×Int):=
 M.bind (tW (x.1,λhf=>ajX (hf,some x.2))) λy=>if decide (y.2≠0)=true then M.pure ((0,0),y.2) else M.bind (DN (y.1,λhf=>ajY (hf,some y.1,some x.2,some x.1))) λy=>M.pure (y.1,0)
def VY(ajZ:aR->M Bool)(NN:List aS->M (List aS×Bool))(x:aR):M Int:=
 M.bind (ajZ x) λy=>if (!y)=true then M.pure 90 else M.bind (NN x.2.1) λy=>if (!y.2)=true then M.pure 91 else M.pure 0
def VZ(aj0:aR->M Bool)(V0:aS×Int×Int×Int×Int×Int×Int->M Bool)(x:aR):M Int:=
 M.bind (aj0 x) λy=>if (!y)=true then M.pure 90 else M.bind (M.loop (λ(A:Int×aR×Unit)=>if decide (A.1<Int.ofNat (List.length A.2.1.2.1))=true then M.bind (M.loop (λ(A:Int×Int×aR×Unit)=>letI c:=A.2.2.1;letI b:=Int.ofNat (List.length c.2.1);letI a:=(List.getD c.2.1 (Int.toNat A.2.1) (0,0,0,0,0,0),List.getD c.2.1 (Int.toNat A.1) (0,0,0,0,0,0));if decide (A.2.1<A.1)=true then M.ag (0<=A.2.1/\A.2.1<b) (M.ag (0<=A.1/\A.1<b) (M.ag (V0 a).b1 (if M.val (V0 a) false=true then M.bind (M.bind (M.bind (M.bind (M.pure 91) (λr=>M.pure (ab.done r))) (λr=>M.pure (ab.done r))) (λr=>M.pure (ab.done r))) λr=>M.pure (ab.done r) else M.pure (ab.next (A.1,IntKind.wrap .i64 (Add.add A.2.1 1),c,()))))) else M.bind (M.pure (ab.next (A.1,c,()))) λr=>M.pure (ab.done r)) (A.1,0,A.2.1,())) (ab.bm (λ(A:Int×aR×Unit)=>M.pure (ab.next (IntKind.wrap .i64 (Add.add A.1 1),A.2.1,())))) else M.bind (M.pure (ab.next ())) λr=>M.pure (ab.done r)) (0,x,())) (ab.bm (λ(A:Unit)=>M.pure 0))
def V1(tW:aR×(Option dH->M Bool)->M (Option dH×Int))(DL:Option dw×Int×Int->M (bk×Bool))(Ak:aR×Int×Int->M Int)(aj1:Option dH×Option Int->M Bool)(x:aR×Int):M (z1'×z1'×Int):=
 M.bind (tW (x.1,λhf=>aj1 (hf,some x.2))) λy=>if decide (y.2≠0)=true then M.pure ([],[],y.2) else M.bind (M.loop (λ(A:Option dH×Int×aR×Int×z1'×z1'×Unit)=>letI b:=(Option.getD A.1 (([],[],[],[],0,0,0,0,0,0,0),[],[])).2.2;if decide (A.2.1<10)=true then M.bind (M.bind (M.ag (Option.isSome A.1=true) (M.loop (λ(A:Option dH×Int×Int×Int×List (Option dw)×Int×Int×aR×Int×z1'×z1'×Unit)=>letI d:=A.2.2.2;if decide (A.fh<A.cI)=true then M.bind (M.ag (0<=A.fh/\A.fh<Int.ofNat (List.length d.2.1)) (M.bind (DL (List.getD d.2.1 (Int.toNat A.fh) none,A.2.1,A.ig)) (λy=>letI a:=y.2=true;letI c:=a->a/\True/\True;M.ag c (M.ag (a->(a/\a/\a/\True)/\(Ak (A.gv,y.1.2,A.ig)).b1/\True) (M.ag c (M.ag c (M.ag (a->(a/\a)/\True/\True) (M.ag (True/\(a->a)) (if (y.2&&decide (M.val (Ak (A.gv,y.1.2,A.ig)) 0>=A.gv.ig))=true then M.pure (ab.next (A.1,A.2.1,IntKind.wrap .i64 (Add.add A.2.2.1 1),d.1,d.2.1,A.cI,A.fh,A.gv,A.ig,A.jJ,A.kO,())) else M.pure (ab.next (A.1,A.2.1,A.2.2.1,d.1,d.2.1,A.cI,A.fh,A.gv,A.ig,A.jJ,A.kO,()))))))))))) (ab.bm (λ(A:Option dH×Int×Int×Int×List (Option dw)×Int×Int×aR×Int×z1'×z1'×Unit)=>M.pure (ab.next (A.1,A.2.1,A.2.2.1,A.2.2.2.1,A.2.2.2.2.1,A.cI,IntKind.wrap .i64 (Add.add A.fh 1),A.gv,A.ig,A.jJ,A.kO,())))) else M.bind (M.pure (ab.next (A.1,A.2.1,A.2.2.1,d.1,A.gv,A.ig,A.jJ,A.kO,()))) λr=>M.pure (ab.done r)) (A.1,A.2.1,0,A.2.1,b,Int.ofNat (List.length b),0,A.2.2.1,A.2.2.2.1,A.2.2.2.2.1,A.cI,()))) (ab.bm (λ(A:Option dH×Int×Int×Int×aR×Int×z1'×z1'×Unit)=>letI e:=A.2.2;M.bind (if decide (e.1 > 0)=true then M.ag (b2 (Add.add (List.length A.gv) (Add.add 0 1))) (M.pure (ab.next (A.1,A.2.1,e.1,e.2.1,e.2.2.1,A.cI,A.fh,A.gv++[A.2.1],()))) else M.pure (ab.next (A.1,A.2.1,e.1,e.2.1,e.2.2.1,A.cI,A.fh,A.gv,()))) (ab.bm (λ(A:Option dH×Int×Int×Int×aR×Int×z1'×z1'×Unit)=>letI f:=A.2.2.2;M.ag (Option.isSome A.1=true) (if decide (A.2.2.1=Int.ofNat (List.length (Option.getD A.1 (([],[],[],[],0,0,0,0,0,0,0),[],[])).2.2))=true then M.ag (b2 (Add.add (List.length A.fh) (Add.add 0 1))) (M.pure (ab.next (A.1,f.1,f.2.1,A.cI,A.fh++[A.2.1],A.gv,()))) else M.pure (ab.next (A.1,f.1,f.2.1,A.cI,A.fh,A.gv,())))))))) (ab.bm (λ(A:Option dH×Int×aR×Int×z1'×z1'×Unit)=>M.pure (ab.next (A.1,IntKind.wrap .i64 (Add.add A.2.1 1),A.2.2.1,A.2.2.2.1,A.2.2.2.2.1,A.cI,())))) else M.bind (M.pure (ab.next (A.2.2.2.2.1,A.cI,()))) λr=>M.pure (ab.done r)) (y.1,0,x.1,x.2,[],[],())) (ab.bm (λ(A:z1'×z1'×Unit)=>M.pure (A.1,A.2.1,0)))
def V2(Al:aR->M Int)(aj2:List aS×Unit->M (Bool×List aS×Unit))(aj3:(Int×Int×Int×Int×Int×Int->M Bool)×List aS×Unit->M ((Nat×Nat)×List aS×Unit))(NO:z1'×gW->M (gW))(aj4:aS×Option aR->M Bool)(x:aR×(Option dH->M Bool)):M (Option dH×Int):=
 M.bind (Al x.1) λy=>if decide (y≠0)=true then M.pure (none,y) else M.bind (aj2 (x.1.2.1,())) λy=>M.ag True (M.ag True (M.bind (aj3 (λhf=>aj4 (hf,some x.1),y.2.1,())) (λy=>M.ag True (M.bind (M.bind (x.2 (some (x.1,List.drop y.1.1 (List.take y.1.2 y.2.1),[]))) (λbH=>if (!bH)=true then M.bind (M.pure (none,1)) λr=>M.pure (ab.done r) else M.pure (ab.next (x.1.1,x.1.2.1,x.1.2.2.1,x.1.2.2.2.1,x.1.2.2.2.2.1,x.1.cI,x.1.fh,x.1.gv,x.1.ig,x.1.jJ,x.1.2.2.2.2.2.2.2.2.2.2,y.1,y.2.1,[],())))) (ab.bm (λ(A:z4'×List aS×z1'×z4'×Int×Int×Int×Int×Int×Int×Int×(Nat×Nat)×List aS×List (Option dw)×Unit)=>M.bind (NO ([],A.1,A.2.1,A.2.2.1,A.2.2.2.1,A.2.2.2.2.1,A.cI,A.fh,A.gv,A.ig,A.jJ,A.kO,List.drop A.hz.1 (List.take A.hz.2 A.mR),A.pw,())) λy=>M.ag True (if decide (Int.ofNat (List.length y.mR)=0)=true then M.pure (none,3) else M.pure (some ((y.1,y.2.1,y.2.2.1,y.2.2.2.1,y.2.2.2.2.1,y.cI,y.fh,y.gv,y.ig,y.jJ,y.kO),y.hz,y.mR),0))))))))
def V3(jk:Int×Int×Int->M Bool)(DO:Int->M Bool)(x:Option dH×Option Int×Option Int):M Bool:=
 M.bind (jk (Option.getD x.2.1 0,0,9)) λy=>M.bind (b7 y (DO (Option.getD x.2.2 0)) false) λbH=>M.pure (y&&bH)
def aj5(x:Int×Int×Int):M Bool:=
 M.pure (decide (x.2.1<=x.1)&&decide (x.1<=x.2.2))
def V4(jk:Int×Int×Int->M Bool)(x:Int):M Bool:=
 M.bind (jk (x,0,9999)) λy=>M.pure y
def V5(x:Option dw×Int×Int):M (bk×Bool):=
 letI b:=List.getD (Option.getD x.1 ([],[[],[],[],[],[],[],[],[],[],[]])).2 (Int.toNat x.2.1) [];M.bind (M.ag (Option.isSome x.1=true) (M.ag (0<=x.2.1/\x.2.1<Int.ofNat 10) (M.loop (λ(A:Int×Bool×List bk×Int×Int×bk×bk×Unit)=>letI d:=A.2.2;letI c:=d.2.2.1;letI a:=List.getD d.1 (Int.toNat c) ((0,0,0,0,0,0),0);if decide (c<d.2.1)=true then M.bind (M.ag (0<=c/\c<Int.ofNat (List.length d.1)) (if decide (a.2<=A.1)=true then M.pure (ab.next (A.1,decide (a.1.2.2.2.1=1),d.1,d.2.1,c,A.cI,a,())) else M.pure (ab.next (A.1,A.2.1,d.1,d.2.1,c,A.cI,A.fh,())))) (ab.bm (λ(A:Int×Bool×List bk×Int×Int×bk×bk×Unit)=>M.pure (ab.next (A.1,A.2.1,A.2.2.1,A.2.2.2.1,IntKind.wrap .i64 (Add.add A.2.2.2.2.1 1),A.cI,A.fh,())))) else M.bind (M.pure (ab.next (A.2.1,A.cI,A.fh,()))) λr=>M.pure (ab.done r)) (x.2.2,false,b,Int.ofNat (List.length b),0,((0,0,0,0,0,0),0),((0,0,0,0,0,0),0),())))) (ab.bm (λ(A:Bool×bk×bk×Unit)=>M.pure (A.2.2.1,A.1)))
def V6(NP:z1'×Unit->M (z1'×Unit))(aj6:(z1'->Prop)×Unit->M (z1'×Unit))(x:z1'->Prop):M (z1'):=
 M.bind (aj6 (x,())) λy=>M.bind (NP (y.1,())) λy=>M.pure y.1
def aj7(aj8:Option (z4')->z1'->Prop)(x:z4'):M (z1'->Prop):=
 M.pure (aj8 (some x))
def V7(tW:aR×(Option dH->M Bool)->M (Option dH×Int))(DN:Option dH×(Option dw->M (Int×Bool))->M ((Int×Int)×Bool))(aj9:Option dH×Option Int->M Bool)(aj_:Option dw×Option (Option dH)×Option Int×Option (Int->M Int)->M (Int×Bool))(x:aR×Int×(Int->M Int)):M ((Int×Int)×Int):=
 M.bind (tW (x.1,λhf=>aj9 (hf,some x.2.1))) λy=>if decide (y.2≠0)=true then M.pure ((0,0),y.2) else M.bind (DN (y.1,λhf=>aj_ (hf,some y.1,some x.2.1,some x.2.2))) λy=>if (!y.2)=true then M.pure ((0,0),3) else M.pure (y.1,0)
def V8(Ho:pv×Int->M Int)(x:Int×Option aR):M Int:=
 M.bind (Ho ((Option.getD x.2 ([],[],[],[],0,0,0,0,0,0,0)).2.2.2.2,x.1)) λy=>M.pure y
def V9(x:pv×Int):M Int:=
 letI c:=x.1.2;letI b:=IntKind.wrap .i64 (x.2-x.1.1);letI a:=IntKind.wrap .i64 (c.2.1*IntKind.wrap .i64 (Int.tdiv (IntKind.wrap .i64 (IntKind.wrap .i64 (Add.add (if b > 0 then b else 0) c.1)-1)) c.1));if decide (x.2>=c.2.2.2.1)=true then M.pure x.1.cI else M.ag (c.1≠0) (M.pure (if a<c.2.2.1 then a else c.2.2.1))
def aj'(x:Int):M Int:=
 M.pure x
def V_(DO:Int->M Bool)(x:Option dH×Option Int):M Bool:=
 M.bind (DO (Option.getD x.2 0)) λy=>M.pure y
def V'(x:Option dH×(Option dw->M (Int×Bool))):M ((Int×Int)×Bool):=
 letI b:=(Option.getD x.1 (([],[],[],[],0,0,0,0,0,0,0),[],[])).2.2;M.bind (M.ag (Option.isSome x.1=true) (M.loop (λ(A:(Option dw->M (Int×Bool))×Bool×List (Option dw)×Int×Int×(Int×Int)×Unit)=>letI c:=A.2.2;letI a:=c.2.2.1;if decide (a<c.2.1)=true then M.bind (M.ag (0<=a/\a<Int.ofNat (List.length c.1)) (M.bind (A.1 (List.getD c.1 (Int.toNat a) none)) (λy=>if (!y.2)=true then M.pure (ab.next (A.1,A.2.1,c.1,c.2.1,a,A.cI,())) else if (!A.2.1)=true then M.pure (ab.next (A.1,true,c.1,c.2.1,a,(y.1,y.1),())) else M.pure (ab.next (A.1,A.2.1,c.1,c.2.1,a,(if y.1<A.cI.1 then y.1 else A.cI.1,if y.1 > A.cI.2 then y.1 else A.cI.2),()))))) (ab.bm (λ(A:(Option dw->M (Int×Bool))×Bool×List (Option dw)×Int×Int×(Int×Int)×Unit)=>M.pure (ab.next (A.1,A.2.1,A.2.2.1,A.2.2.2.1,IntKind.wrap .i64 (Add.add A.2.2.2.2.1 1),A.cI,())))) else M.bind (M.pure (ab.next (A.2.1,A.cI,()))) λr=>M.pure (ab.done r)) (x.2,false,b,Int.ofNat (List.length b),0,(0,0),()))) (ab.bm (λ(A:Bool×(Int×Int)×Unit)=>M.pure (A.2.1,A.1)))
def Wa(DL:Option dw×Int×Int->M (bk×Bool))(x:Option dw×Option Int×Option aR):M (Int×Bool):=
 M.bind (M.loop (λ(A:Option dw×Int×aR×Int×Int×Unit)=>letI a:=A.2.2.2;if decide (a.2.1<10)=true then M.bind (M.bind (DL (A.1,a.2.1,A.2.1)) (λy=>if y.2=true then M.pure (ab.next (A.1,A.2.1,A.2.2.1,IntKind.wrap .i64 (Add.add a.1 A.2.2.1.2.2.2.2.2.2.2.2.2.2),a.2.1,())) else M.pure (ab.next (A.1,A.2.1,A.2.2.1,a.1,a.2.1,())))) (ab.bm (λ(A:Option dw×Int×aR×Int×Int×Unit)=>M.pure (ab.next (A.1,A.2.1,A.2.2.1,A.2.2.2.1,IntKind.wrap .i64 (Add.add A.2.2.2.2.1 1),())))) else M.bind (M.pure (ab.next (a.1,()))) λr=>M.pure (ab.done r)) (x.1,Option.getD x.2.1 0,Option.getD x.2.2 ([],[],[],[],0,0,0,0,0,0,0),0,0,())) (ab.bm (λ(A:Int×Unit)=>M.pure (A.1,true)))
def Wb(Am:Int->M Bool)(x:Option dH×Option Int):M Bool:=
 M.bind (Am (Option.getD x.2 0)) λy=>M.pure y
def Wc(jk:Int×Int×Int->M Bool)(x:Int):M Bool:=
 M.bind (jk (x,0,99)) λy=>M.pure y
def Wd(Ho:pv×Int->M Int)(NQ:Option dH×Option dw->M (List bk->Prop))(x:Option dw×Option (Option dH)×Option Int×Option aR):M (Int×Bool):=
 M.bind (NQ (Option.getD x.2.1 none,x.1)) λy=>M.bind (M.any y) λL=>M.bind (jE (λ(A:Int×aR×Int×Unit) (y:aS×Int)=>letI a:=(A.2.1.2.2.2.2,y.2);M.bind (if decide (y.1.2.2.2.2.2=A.1)=true then M.ag (Ho a).b1 (M.pure (cT.normal,IntKind.wrap .i64 (Add.add A.2.2.1 (M.val (Ho a) 0)),())) else M.pure (cT.normal,A.2.2.1,())) λp=>M.pure (p.1,A.1,A.2.1,p.2.1,())) L (Option.getD x.2.2.1 0,Option.getD x.2.2.2 ([],[],[],[],0,0,0,0,0,0,0),0,())) λp=>r6 (M.pure (p.2.2.2.1,true)) (λid=>if id=0 then M.pure (p.2.2.2.1,true) else M.fail) M.fail p.1
def aka(akb:Option (Option dw)×Option (Option dH)->List bk->Prop)(x:Option dH×Option dw):M (List bk->Prop):=
 M.pure (akb (some x.2,some x.1))
def We(jk:Int×Int×Int->M Bool)(NR:List aS×(Int×Int×Int×Int×Int×Int->M Bool)->M Bool)(akc:Int×Int×Int×Int×Int×Int×Int->M Bool)(Ny:z1'×(Int->M Bool)->M Bool)(akd:aS×Option aR->M Bool)(ake:Int->M Bool)(x:aR):M Bool:=
 letI k:=Int.ofNat (List.length x.1);letI d:=decide (k > 3)||decide (Int.ofNat (List.length x.2.1) > 12)||decide (Int.ofNat (List.length x.2.2.1) > 12)||decide (Int.ofNat (List.length x.2.2.2.1) > 4);M.bind (b7 (!d) (akc x.2.2.2.2) false) λy=>if (d||!y)=true then M.pure false else M.bind (M.loop (λ(A:z4'×Int×Int×aR×Unit)=>letI l:=A.2.2.1;letI e:=List.getD A.1 (Int.toNat l) (0,0);if decide (l<A.2.1)=true then M.ag (0<=l/\l<Int.ofNat (List.length A.1)) (M.bind (jk (e.1,-30,e.2)) (λy=>if (!y||decide (e.2 > 30))=true then M.bind (M.bind (M.pure false) (λr=>M.pure (ab.done r))) λr=>M.pure (ab.done r) else M.pure (ab.next (A.1,A.2.1,IntKind.wrap .i64 (Add.add l 1),A.2.2.2.1,())))) else M.bind (M.pure (ab.next (A.2.2.2.1,()))) λr=>M.pure (ab.done r)) (x.1,k,0,x,())) (ab.bm (λ(A:aR×Unit)=>M.bind (M.loop (λ(A:z4'×Int×Int×aR×Unit)=>letI m:=A.2.2.2.1;letI f:=A.2.2.1;letI j:=decide (f > 0);letI i:=IntKind.wrap .i64 (f-1);letI b:=List.getD A.1 (Int.toNat f) (0,0);letI a:=!(M.val (jk (b.1,0,b.2)) false)||decide (b.2 > 9999);letI h:=(!a)=true;letI c:=(!a&&j)=true;letI g:=c->c/\True/\True;if decide (f<A.2.1)=true then M.ag (0<=f/\f<Int.ofNat (List.length A.1)) (M.ag (jk (b.1,0,b.2)).b1 (M.ag ((!(!(M.val (jk (b.1,0,b.2)) false)))=true->(!(!(M.val (jk (b.1,0,b.2)) false)))=true/\True/\True) (M.ag ((!(!(M.val (jk (b.1,0,b.2)) false)))=true->((!(!(M.val (jk (b.1,0,b.2)) false)))=true/\True)/\True/\True) (M.ag (True/\((!(M.val (jk (b.1,0,b.2)) false))=false->(!(!(M.val (jk (b.1,0,b.2)) false)))=true)) (M.ag (h->(h/\True)/\True/\True) (M.ag (h->True/\True/\h) (M.ag g (M.ag g (M.ag (c->(c/\True)/\True/\True) (M.ag (c->(c/\c)/\(0<=i/\i<Int.ofNat (List.length m.2.2.2.1))/\True) (M.ag g (M.ag g (M.ag (c->(c/\c)/\True/\True) (M.ag (h->(h/\(j=true->c))/\True/\True) (M.ag (True/\(a=false->h)) (if (a||j&&decide (b.1<=(List.getD m.2.2.2.1 (Int.toNat i) (0,0)).2))=true then M.bind (M.bind (M.pure false) (λr=>M.pure (ab.done r))) λr=>M.pure (ab.done r) else M.pure (ab.next (A.1,A.2.1,IntKind.wrap .i64 (Add.add f 1),m,())))))))))))))))))) else M.bind (M.pure (ab.next (m,()))) λr=>M.pure (ab.done r)) (A.1.2.2.2.1,Int.ofNat (List.length A.1.2.2.2.1),0,A.1,())) (ab.bm (λ(A:aR×Unit)=>M.bind (NR (A.1.2.1,λx=>akd (x,some A.1))) λy=>M.bind (b7 (!y) (Ny (A.1.2.2.1,ake)) false) λbH=>M.pure (!y&&!bH)))))
def akf(DM:(z1'->Prop)->M (z1'))(NS:List (Int×aS)->M (z1'->Prop))(x:List aS):M (List aS×Bool):=
 M.bind (M.loop (λ(A:List aS×Int×Int×List (Int×aS)×Unit)=>letI e:=A.2.2;letI b:=List.getD A.1 (Int.toNat e.1) (0,0,0,0,0,0);letI c:=Option.map (λx=>x.2) (List.find? (λp=>decide (b.1=p.1)) e.2.1);letI a:=Option.getD c (0,0,0,0,0,0);if decide (e.1<A.2.1)=true then M.ag (0<=e.1/\e.1<Int.ofNat (List.length A.1)) (if (Option.isSome c&&!(decide (a.1=b.1)&&(decide (a.2.1=b.2.1)&&(decide (a.2.2.1=b.2.2.1)&&(decide (a.2.2.2.1=b.2.2.2.1)&&(decide (a.2.2.2.2.1=b.2.2.2.2.1)&&decide (a.2.2.2.2.2=b.2.2.2.2.2)))))))=true then M.bind (M.bind (M.pure ([],false)) (λr=>M.pure (ab.done r))) λr=>M.pure (ab.done r) else M.pure (ab.next (A.1,A.2.1,IntKind.wrap .i64 (Add.add e.1 1),kN e.2.1 b.1 b,()))) else M.bind (M.pure (ab.next (e.2.1,()))) λr=>M.pure (ab.done r)) (x,Int.ofNat (List.length x),0,[],())) (ab.bm (λ(A:List (Int×aS)×Unit)=>M.bind (M.bind (NS A.1) (λy=>M.bind (DM y) λy=>M.loop (λ(A:z1'×Int×Int×List aS×List (Int×aS)×Unit)=>letI d:=A.2.2;if decide (d.1<A.2.1)=true then M.ag (0<=d.1/\d.1<Int.ofNat (List.length A.1)) (M.ag (b2 (Add.add (List.length d.2.1) (Add.add 0 1))) (M.pure (ab.next (A.1,A.2.1,IntKind.wrap .i64 (Add.add d.1 1),d.2.1++[Option.getD (Option.map (λx=>x.2) (List.find? (λp=>decide (List.getD A.1 (Int.toNat d.1) 0=p.1)) d.2.2.1)) (0,0,0,0,0,0)],d.2.2.1,())))) else M.bind (M.pure (ab.next (d.2.1,()))) λr=>M.pure (ab.done r)) (y,Int.ofNat (List.length y),0,[],A.1,()))) (ab.bm (λ(A:List aS×Unit)=>M.pure (A.1,true)))))
def Wf(fH:Int×Int×Int->M Bool)(akg:Int×Int×Int×Int×Int×Int×Int->M Bool)(Wg:aR×Int×Int×Int×Int×Int×Int->M Bool)(x:aR):M Bool:=
 letI e:=decide (Int.ofNat (List.length x.1) > 3)||decide (Int.ofNat (List.length x.2.1) > 12)||decide (Int.ofNat (List.length x.2.2.1) > 12)||decide (Int.ofNat (List.length x.2.2.2.1) > 4);M.bind (b7 (!e) (akg x.2.2.2.2) false) λy=>if (e||!y)=true then M.pure false else M.bind (M.loop (λ(A:Int×aR×Unit)=>letI f:=A.1<Int.ofNat (List.length A.2.1.1);letI o:=0<=A.1/\f;letI b:=List.getD A.2.1.1 (Int.toNat A.1) (0,0);if decide f=true then M.ag o (M.ag o (M.ag (fH (b.1,-30,b.2)).b1 (M.ag ((!(!(M.val (fH (b.1,-30,b.2)) false)))=true->(!(!(M.val (fH (b.1,-30,b.2)) false)))=true/\True/\True) (M.ag ((!(!(M.val (fH (b.1,-30,b.2)) false)))=true->((!(!(M.val (fH (b.1,-30,b.2)) false)))=true/\(!(!(M.val (fH (b.1,-30,b.2)) false)))=true)/\o/\True) (M.ag ((!(!(M.val (fH (b.1,-30,b.2)) false)))=true->(!(!(M.val (fH (b.1,-30,b.2)) false)))=true/\True/\True) (M.ag ((!(!(M.val (fH (b.1,-30,b.2)) false)))=true->(!(!(M.val (fH (b.1,-30,b.2)) false)))=true/\True/\True) (M.ag ((!(!(M.val (fH (b.1,-30,b.2)) false)))=true->((!(!(M.val (fH (b.1,-30,b.2)) false)))=true/\True)/\True/\True) (M.ag (True/\((!(M.val (fH (b.1,-30,b.2)) false))=false->(!(!(M.val (fH (b.1,-30,b.2)) false)))=true)) (if (!(M.val (fH (b.1,-30,b.2)) false)||decide (b.2 > 30))=true then M.bind (M.bind (M.pure false) (λr=>M.pure (ab.done r))) λr=>M.pure (ab.done r) else M.pure (ab.next (IntKind.wrap .i64 (Add.add A.1 1),A.2.1,()))))))))))) else M.bind (M.pure (ab.next (A.2.1,()))) λr=>M.pure (ab.done r)) (0,x,())) (ab.bm (λ(A:aR×Unit)=>M.bind (M.loop (λ(A:Int×aR×Unit)=>letI m:=A.1<Int.ofNat (List.length A.2.1.2.1);letI h:=(A.2.1,List.getD A.2.1.2.1 (Int.toNat A.1) (0,0,0,0,0,0));if decide m=true then M.ag (0<=A.1/\m) (M.ag (Wg h).b1 (if (!(M.val (Wg h) false))=true then M.bind (M.bind (M.pure false) (λr=>M.pure (ab.done r))) λr=>M.pure (ab.done r) else M.pure (ab.next (IntKind.wrap .i64 (Add.add A.1 1),A.2.1,())))) else M.bind (M.pure (ab.next (A.2.1,()))) λr=>M.pure (ab.done r)) (0,A.1,())) (ab.bm (λ(A:aR×Unit)=>M.bind (M.loop (λ(A:Int×aR×Unit)=>letI l:=A.1<Int.ofNat (List.length A.2.1.2.2.1);if decide l=true then M.ag (0<=A.1/\l) (M.bind (fH (List.getD A.2.1.2.2.1 (Int.toNat A.1) 0,0,99)) (λy=>if (!y)=true then M.bind (M.bind (M.pure false) (λr=>M.pure (ab.done r))) λr=>M.pure (ab.done r) else M.pure (ab.next (IntKind.wrap .i64 (Add.add A.1 1),A.2.1,())))) else M.bind (M.pure (ab.next (A.2.1,()))) λr=>M.pure (ab.done r)) (0,A.1,())) (ab.bm (λ(A:aR×Unit)=>M.bind (M.loop (λ(A:Int×aR×Unit)=>letI p:=A.2.1.2.2.2.1;letI n:=decide (A.1 > 0);letI k:=IntKind.wrap .i64 (A.1-1);letI g:=Int.ofNat (List.length p);letI c:=List.getD p (Int.toNat A.1) (0,0);letI a:=!(M.val (fH (c.1,0,c.2)) false)||decide (c.2 > 9999);letI j:=(!a)=true;letI d:=(!a&&n)=true;letI i:=d->d/\True/\True;if decide (A.1<g)=true then M.ag (0<=A.1/\A.1<g) (M.ag (fH (c.1,0,c.2)).b1 (M.ag ((!(!(M.val (fH (c.1,0,c.2)) false)))=true->(!(!(M.val (fH (c.1,0,c.2)) false)))=true/\True/\True) (M.ag ((!(!(M.val (fH (c.1,0,c.2)) false)))=true->((!(!(M.val (fH (c.1,0,c.2)) false)))=true/\True)/\True/\True) (M.ag (True/\((!(M.val (fH (c.1,0,c.2)) false))=false->(!(!(M.val (fH (c.1,0,c.2)) false)))=true)) (M.ag (j->(j/\True)/\True/\True) (M.ag (j->True/\True/\j) (M.ag i (M.ag i (M.ag (d->(d/\True)/\True/\True) (M.ag (d->(d/\d)/\(0<=k/\k<g)/\True) (M.ag i (M.ag i (M.ag (d->(d/\d)/\True/\True) (M.ag (j->(j/\(n=true->d))/\True/\True) (M.ag (True/\(a=false->j)) (if (a||n&&decide (c.1<=(List.getD p (Int.toNat k) (0,0)).2))=true then M.bind (M.bind (M.pure false) (λr=>M.pure (ab.done r))) λr=>M.pure (ab.done r) else M.pure (ab.next (IntKind.wrap .i64 (Add.add A.1 1),A.2.1,())))))))))))))))))) else M.bind (M.pure (ab.next ())) λr=>M.pure (ab.done r)) (0,A.1,())) (ab.bm (λ(A:Unit)=>M.pure true))))))))
def Wh(x:aS×Int×Int×Int×Int×Int×Int):M Bool:=
 letI a:=decide (x.1.1=x.2.1);M.pure (a&&!(a&&(decide (x.1.2.1=x.2.2.1)&&(decide (x.1.2.2.1=x.2.2.2.1)&&(decide (x.1.2.2.2.1=x.2.2.2.2.1)&&(decide (x.1.2.2.2.2.1=x.cI)&&decide (x.1.2.2.2.2.2=x.2.2.2.2.2.2)))))))
def Wi(la:Int×Int×Int->M Bool)(x:Int×Int×Int):M Bool:=
 M.bind (la x) λy=>M.pure y
def akh(DO:Int->M Bool)(x:Option dH×Option Int):M Bool:=
 M.bind (DO (Option.getD x.2 0)) λy=>M.pure y
def Wj(x:aR×Int×Int):M Int:=
 M.bind (M.loop (λ(A:Int×Int×Int×z4'×Int×Int×Unit)=>letI c:=A.2.2.2;letI b:=IntKind.wrap .i64 (A.2.1-1);letI a:=List.getD c.1 (Int.toNat A.cI) (0,0);if decide (A.cI<c.2.1)=true then M.ag (0<=A.cI/\A.cI<Int.ofNat (List.length c.1)) (M.pure (ab.next (A.1,A.2.1,IntKind.wrap .i64 (A.2.2.1-(if IntKind.wrap .i64 (Add.add (IntKind.wrap .i64 ((if b<a.2 then b else a.2)-(if A.1 > a.1 then A.1 else a.1))) 1) > 0 then IntKind.wrap .i64 (Add.add (IntKind.wrap .i64 ((if b<a.2 then b else a.2)-(if A.1 > a.1 then A.1 else a.1))) 1) else 0)),c.1,c.2.1,IntKind.wrap .i64 (Add.add A.cI 1),()))) else M.bind (M.pure (ab.next (A.2.2.1,()))) λr=>M.pure (ab.done r)) (x.2.1,x.2.2,IntKind.wrap .i64 (x.2.2-x.2.1),x.1.2.2.2.1,Int.ofNat (List.length x.1.2.2.2.1),0,())) (ab.bm (λ(A:Int×Unit)=>M.pure A.1))
def Wk(x:z4'):M (z4'):=
 M.bind (M.any (λb=>b=true->x=[])) λy=>if y=true then M.pure [] else M.ag (b2 (Add.add 0 (List.length x))) (M.pure ([]++x))
def Wl(ht:z1'×Int->M Bool)(x:aS×Option aR):M Bool:=
 M.bind (ht ((Option.getD x.2 ([],[],[],[],0,0,0,0,0,0,0)).2.2.1,x.1.1)) λy=>M.pure y
def Wm(NR:List aS×(Int×Int×Int×Int×Int×Int->M Bool)->M Bool)(aki:aS×Option Int->M Bool)(x:Option dH×Option Int):M Bool:=
 M.ag (Option.isSome x.1=true) (M.bind (NR ((Option.getD x.1 (([],[],[],[],0,0,0,0,0,0,0),[],[])).2.1,λhf=>aki (hf,some (Option.getD x.2 0)))) (λy=>M.pure y))
def akj(NT:List aS×(Int×Int×Int×Int×Int×Int->M Bool)->M Int)(x:List aS×(Int×Int×Int×Int×Int×Int->M Bool)):M Bool:=
 M.bind (NT x) λy=>M.pure (decide (y>=0))
def akk(x:aS×Option Int):M Bool:=
 M.pure (decide (x.1.1=Option.getD x.2 0)&&decide (x.1.2.2.2.1=1))
def Wn(NQ:Option dH×Option dw->M (List bk->Prop))(x:Option dw×Option (Option dH)×Option Int×Option (Int->M Int)):M (Int×Bool):=
 M.bind (NQ (Option.getD x.2.1 none,x.1)) λy=>M.bind (M.any y) λL=>M.bind (jE (λ(A:Int×(Int->M Int)×Int×Bool×Unit) (y:aS×Int)=>M.bind (if decide (y.1.1=A.1)=true then M.bind (A.2.1 y.2) λy=>M.pure (cT.ret,y,true,()) else M.pure (cT.normal,A.2.2.1,A.2.2.2.1,())) λp=>M.pure (p.1,A.1,A.2.1,p.2.1,p.2.2.1,())) L (Option.getD x.2.2.1 0,Option.getD x.2.2.2 λx=>{ b1:=False,bD:=λx=>False },0,false,())) λp=>r6 (M.pure (0,false)) (λid=>if id=0 then M.pure (0,false) else M.fail) (M.pure (p.2.2.2.1,p.2.2.2.2.1)) p.1
def Wo(jk:Int×Int×Int->M Bool)(x:Int×Int×Int×Int×Int×Int×Int):M Bool:=
 M.bind (M.loop (λ(A:Int×Int×pv×z1'×Unit)=>letI a:=A.2;if decide (a.1<A.1)=true then M.ag (0<=a.1/\a.1<Int.ofNat (List.length a.2.2.1)) (M.bind (jk (List.getD a.2.2.1 (Int.toNat a.1) 0,0,100000)) (λy=>if (!y)=true then M.bind (M.bind (M.pure false) (λr=>M.pure (ab.done r))) λr=>M.pure (ab.done r) else M.pure (ab.next (A.1,IntKind.wrap .i64 (Add.add a.1 1),a.2.1,a.2.2.1,())))) else M.bind (M.pure (ab.next (a.2.1,()))) λr=>M.pure (ab.done r)) (Int.ofNat (Add.add (Add.add (Add.add (Add.add 0 1) 1) 1) 1),0,x,[x.2.2.1,x.2.2.2.1,x.cI,x.2.2.2.2.2.2],())) (ab.bm (λ(A:pv×Unit)=>M.bind (jk (A.1.1,0,9999)) λy=>M.bind (b7 y (jk (A.1.2.1,1,9999)) false) λbH=>M.bind (b7 (y&&bH) (jk (A.1.2.2.2.2.1,1,9999)) false) λdv=>M.pure (y&&bH&&dv)))
def Wp(akl:aR×Int×Int×Int×Int×Int×Int->M Bool)(x:aS×Option aR):M Bool:=
 M.bind (akl (Option.getD x.2 ([],[],[],[],0,0,0,0,0,0,0),x.1)) λy=>M.pure (!y)
def Wq(jk:Int×Int×Int->M Bool)(Am:Int->M Bool)(x:aR×Int×Int×Int×Int×Int×Int):M Bool:=
 letI c:=x.2.2.2.2;letI a:=decide (c.1=1)||decide (c.1=2)&&decide (c.2.2=0);M.bind (b7 a (Am x.2.1) false) λy=>M.bind (b7 (a&&y) (Am c.2.2) false) λbH=>M.bind (b7 (a&&y&&bH) (jk (x.2.2.1,0,IntKind.wrap .i64 (Int.ofNat (List.length x.1.1)-1))) false) λdv=>letI b:=a&&y&&bH&&dv;M.bind (b7 b (jk (x.2.2.2.1,0,9999)) false) λgE=>M.bind (b7 (b&&gE) (jk (x.cI,0,9)) false) λml=>M.pure (b&&gE&&ml)
def Wr(Am:Int->M Bool)(x:Int):M Bool:=
 M.bind (Am x) λy=>M.pure (!y)
def akm(akn:Option (List (Int×aS))->z1'->Prop)(x:List (Int×aS)):M (z1'->Prop):=
 M.pure (akn (some x))
def Ws(fH:Int×Int×Int->M Bool)(x:Int×Int×Int×Int×Int×Int×Int):M Bool:=
 M.bind (fH (x.1,0,9999)) λy=>M.bind (b7 y (fH (x.2.1,1,9999)) false) λbH=>M.bind (b7 (y&&bH) (fH (x.2.2.2.2.1,1,9999)) false) λdv=>M.bind (b7 (y&&bH&&dv) (fH (x.2.2.1,0,100000)) false) λgE=>letI a:=y&&bH&&dv&&gE;M.bind (b7 a (fH (x.2.2.2.1,0,100000)) false) λml=>M.bind (b7 (a&&ml) (fH (x.cI,0,100000)) false) λDJ=>M.bind (b7 (a&&ml&&DJ) (fH (x.2.2.2.2.2.2,0,100000)) false) λNC=>M.pure (a&&ml&&DJ&&NC)
def Wt(fH:Int×Int×Int->M Bool)(x:aR×Int×Int×Int×Int×Int×Int):M Bool:=
 letI b:=x.2.2.2.2;M.bind (fH (x.2.1,0,99)) λy=>M.bind (b7 (!(!y)) (fH (x.2.2.1,0,IntKind.wrap .i64 (Int.ofNat (List.length x.1.1)-1))) false) λbH=>M.bind (b7 (!(!y||!bH)) (fH (x.2.2.2.1,0,9999)) false) λdv=>letI a:=!y||!bH||!dv;M.bind (b7 (!a) (fH (x.cI,0,9)) false) λgE=>M.bind (b7 (!(a||!gE)) (fH (b.2.2,0,99)) false) λml=>if (a||!gE||!ml)=true then M.pure false else M.pure (decide (b.1=1)||decide (b.1=2)&&decide (b.2.2=0))
def Wu(axH:Int->M Int)(ako:Int->M Int)(x:Int):M Int:=
 M.bind (ako x) λy=>M.pure y
def akp(x:List aS×(Int×Int×Int×Int×Int×Int->M Bool)):M Int:=
 M.bind (M.loop (λ(A:List aS×(Int×Int×Int×Int×Int×Int->M Bool)×Int×Int×Unit)=>letI a:=A.2.2.2.1;if decide (a<A.2.2.1)=true then M.ag (0<=a/\a<Int.ofNat (List.length A.1)) (M.bind (A.2.1 (List.getD A.1 (Int.toNat a) (0,0,0,0,0,0))) (λy=>if y=true then M.bind (M.bind (M.pure a) (λr=>M.pure (ab.done r))) λr=>M.pure (ab.done r) else M.pure (ab.next (A.1,A.2.1,A.2.2.1,IntKind.wrap .i64 (Add.add a 1),())))) else M.bind (M.pure (ab.next ())) λr=>M.pure (ab.done r)) (x.1,x.2,Int.ofNat (List.length x.1),0,())) (ab.bm (λ(A:Unit)=>M.pure (-1)))
def DP(x:Int):M Int:=
 M.bind (if decide (x>=4294967296)=true then M.ag ((0:Int)<=32) (M.pure (ab.next (i' .u64 x 32,32,()))) else M.pure (ab.next (x,0,()))) (ab.bm (λ(A:Int×Int×Unit)=>M.bind (if decide (A.1>=65536)=true then M.ag ((0:Int)<=16) (M.pure (ab.next (i' .u64 A.1 16,IntKind.wrap .i64 (Add.add A.2.1 16),()))) else M.pure (ab.next (A.1,A.2.1,()))) (ab.bm (λ(A:Int×Int×Unit)=>M.bind (if decide (A.1>=256)=true then M.ag ((0:Int)<=8) (M.pure (ab.next (i' .u64 A.1 8,IntKind.wrap .i64 (Add.add A.2.1 8),()))) else M.pure (ab.next (A.1,A.2.1,()))) (ab.bm (λ(A:Int×Int×Unit)=>letI a:=IntKind.wrap .u8 A.1;M.ag (0<=a/\a<Int.ofNat 256) (M.pure (IntKind.wrap .i64 (Add.add A.2.1 (IntKind.wrap .i64 (Int.ofNat (List.getD ajO (Int.toNat a) 0).1.1.1)))))))))))
def Wv(x:z1'):M (z1'):=
 M.bind (M.any (λb=>b=true->x=[])) λy=>if y=true then M.pure [] else M.ag (b2 (Add.add 0 (List.length x))) (M.pure ([]++x))
def Ww(akq:Int×Int->M Int)(x:bk×aS×Int):M Int:=
 M.bind (akq (x.1.2,x.2.2)) λy=>M.pure y
def Wx(Wy:Int->M Bool)(x:Int×Int):M Int:=
 M.bind (Wy x.1) λy=>M.bind (Wy x.2) λbH=>if y=true then if bH=true then M.pure 0 else M.pure (-1) else if bH=true then M.pure 1 else if decide (x.1<x.2)=true then M.pure (-1) else if decide (x.1 > x.2)=true then M.pure 1 else M.pure 0
def Wz(x:Int):M Bool:=
 M.pure (decide (x≠x))
def WA(x:(z1'->Prop)×Unit):M (z1'×Unit):=
 M.bind (M.any x.1) λL=>M.bind (jE (λ(A:z1'×Unit) (y:Int)=>M.bind (M.ag (b2 (Add.add (List.length A.1) (Add.add 0 1))) (M.pure (cT.normal,A.1++[y],()))) λp=>M.pure (p.1,p.2.1,())) L ([],())) λp=>r6 (M.pure (p.2.1,())) (λid=>if id=0 then M.pure (p.2.1,()) else M.fail) M.fail p.1
def WB(akr:(z1'->Prop)×Unit->M (z1'×Unit))(x:(z1'->Prop)×Unit):M (z1'×Unit):=
 M.bind (akr (x.1,())) λy=>M.pure (y.1,())
def WC(NT:List aS×(Int×Int×Int×Int×Int×Int->M Bool)->M Int)(x:(Int×Int×Int×Int×Int×Int->M Bool)×List aS×Unit):M ((Nat×Nat)×List aS×Unit):=
 M.bind (NT (x.2.1,x.1)) λy=>if decide (y=-1)=true then M.pure ((0,List.length x.2.1),x.2.1,()) else M.bind (M.loop (λ(A:(Int×Int×Int×Int×Int×Int->M Bool)×Int×Int×List aS×Unit)=>letI g:=A.2.1;letI f:=A.2.2;letI e:=List.getD f.2.1 (Int.toNat f.1) (0,0,0,0,0,0);letI c:=Int.ofNat (List.length f.2.1);if decide (f.1<c)=true then M.bind (M.ag (0<=f.1/\f.1<c) (M.bind (A.1 e) (λy=>if (!y)=true then M.ag (0<=g/\g<c) (M.pure (ab.next (A.1,IntKind.wrap .i64 (Add.add g 1),f.1,List.set f.2.1 (Int.toNat g) e,()))) else M.pure (ab.next (A.1,g,f.1,f.2.1,()))))) (ab.bm (λ(A:(Int×Int×Int×Int×Int×Int->M Bool)×Int×Int×List aS×Unit)=>M.pure (ab.next (A.1,A.2.1,IntKind.wrap .i64 (Add.add A.2.2.1 1),A.2.2.2.1,())))) else M.bind (M.pure (ab.next (g,f.2.1,()))) λr=>M.pure (ab.done r)) (x.1,y,IntKind.wrap .i64 (Add.add y 1),x.2.1,())) (ab.bm (λ(A:Int×List aS×Unit)=>letI d:=Int.toNat A.1;letI b:=Int.ofNat (List.length A.2.1);letI a:=List.take d A.2.1++List.replicate (Int.toNat b-d) (0,0,0,0,0,0)++List.drop (Add.add d (List.length (List.replicate (Int.toNat b-d) ((0,0,0,0,0,0):aS)))) A.2.1;M.ag (0<=A.1/\A.1<=b/\b<=b) (M.ag True (M.ag ((0:Int)<=0/\0<=A.1/\A.1<=Int.ofNat (List.length a)) (M.pure ((Int.toNat 0,d),a,()))))))
def Hp(Ak:aR×Int×Int->M Int)(x:Nat×Option dw×Option dH×(Nat×(List bk->Prop)×List bk×Bool)×Unit):M ((Nat×(List bk->Prop)×List bk×Bool)×Unit):=
 M.ag (Option.isSome x.2.1=true) (M.loop (λ(A:Nat×Option dH×List (List bk)×Int×(Nat×(List bk->Prop)×List bk×Bool)×Unit)=>letI g:=A.2.2.2;if decide (g.1<10)=true then M.bind (M.ag (0<=g.1/\g.1<Int.ofNat 10) (M.loop (λ(A:Nat×Option dH×List bk×Int×List (List bk)×Int×(Nat×(List bk->Prop)×List bk×Bool)×Unit)=>letI h:=A.fh;letI f:=A.2.2;letI d:=Int.ofNat (List.length f.1);letI i:=0<=f.2.1/\f.2.1<d;letI c:=IntKind.wrap .i64 (Add.add f.2.1 1);letI b:=List.getD f.1 (Int.toNat f.2.1) ((0,0,0,0,0,0),0);letI a:=((Option.getD A.2.1 (([],[],[],[],0,0,0,0,0,0,0),[],[])).1,b.2,(List.getD f.1 (Int.toNat c) ((0,0,0,0,0,0),0)).2);if decide (c<d)=true then M.ag i (M.ag (Option.isSome A.2.1=true) (M.ag i (M.ag (0<=c/\c<d) (M.ag (Ak a).b1 (M.bind (M.ag (A.1=h.1/\h.2.2.2=false/\(∃ (T:List bk),h.2.1 (h.2.2.1++(b.1,M.val (Ak a) 0)::T))) (M.any (λx=>True))) (λy=>letI e:=(h.1,h.2.1,h.2.2.1++[(b.1,M.val (Ak a) 0)],!y);if (!y)=true then M.bind (M.bind (M.bind (M.pure (e,())) (λr=>M.pure (ab.done r))) (λr=>M.pure (ab.done r))) λr=>M.pure (ab.done r) else M.pure (ab.next (A.1,A.2.1,f.1,IntKind.wrap .i64 (Add.add f.2.1 2),f.2.2.1,A.cI,e,())))))))) else M.bind (M.pure (ab.next (A.1,A.2.1,f.2.2.1,A.cI,h,()))) λr=>M.pure (ab.done r)) (A.1,A.2.1,List.getD A.2.2.1 (Int.toNat g.1) [],0,A.2.2.1,g.1,g.2.1,()))) (ab.bm (λ(A:Nat×Option dH×List (List bk)×Int×(Nat×(List bk->Prop)×List bk×Bool)×Unit)=>M.pure (ab.next (A.1,A.2.1,A.2.2.1,IntKind.wrap .i64 (Add.add A.2.2.2.1 1),A.2.2.2.2.1,())))) else M.bind (M.pure (g.2.1,())) λr=>M.pure (ab.done r)) (x.1,x.2.2.1,(Option.getD x.2.1 ([],[[],[],[],[],[],[],[],[],[],[]])).2,0,x.2.2.2.1,()))
def WD(x:Int×Int×(bk×aS×Int->M Int)×List bk×Unit):M (List bk×Unit):=
 M.loop (λ(A:Int×Int×(bk×aS×Int->M Int)×Int×List bk×Unit)=>letI i:=A.2.2.2;if decide (i.1<A.2.1)=true then M.bind (M.loop (λ(A:Int×Int×(bk×aS×Int->M Int)×Int×Int×List bk×Unit)=>letI k:=A.2.2;letI d:=Int.ofNat (List.length A.cI);letI c:=k.2.2.1;letI j:=0<=c/\c<d;letI g:=decide (c > A.1);letI f:=List.getD A.cI (Int.toNat c) ((0,0,0,0,0,0),0);letI b:=IntKind.wrap .i64 (c-1);letI e:=List.getD A.cI (Int.toNat b) ((0,0,0,0,0,0),0);letI h:=List.set A.cI (Int.toNat c) e;letI a:=g=true;letI l:=a->a/\True/\True;M.ag (a->(a/\a)/\j/\True) (M.ag l (M.ag (a->(a/\True)/\True/\True) (M.ag (a->(a/\a)/\(0<=b/\b<d)/\True) (M.ag l (M.ag (a->a/\a/\a/\True) (M.bind (b7 g (k.1 (f,e)) 0) (λy=>if (g&&decide (y<0))=true then M.ag (0<=b/\b<d) (M.ag j (M.ag j (M.ag (0<=b/\b<Int.ofNat (List.length h)) (M.pure (ab.next (A.1,A.2.1,k.1,k.2.1,b,List.set h (Int.toNat b) f,())))))) else M.bind (M.pure (ab.next (A.1,A.2.1,k.1,k.2.1,A.cI,()))) λr=>M.pure (ab.done r))))))))) (A.1,A.2.1,A.2.2.1,i.1,i.1,i.2.1,())) (ab.bm (λ(A:Int×Int×(bk×aS×Int->M Int)×Int×List bk×Unit)=>M.pure (ab.next (A.1,A.2.1,A.2.2.1,IntKind.wrap .i64 (Add.add A.2.2.2.1 1),A.2.2.2.2.1,())))) else M.bind (M.pure (i.2.1,())) λr=>M.pure (ab.done r)) (x.1,x.2.1,x.2.2.1,IntKind.wrap .i64 (Add.add x.1 1),x.2.2.2.1,())
def NU(x:Nat×z4'×(Nat×(z1'->Prop)×z1'×Bool)×Unit):M ((Nat×(z1'->Prop)×z1'×Bool)×Unit):=
 M.bind (M.pure ()) λy=>M.loop (λ(A:Nat×(Nat×(z1'->Prop)×z1'×Bool)×(Option (Int×Int)×z4')×Unit)=>letI c:=A.2.1;letI b:=A.2.2.1;M.bind (FZ b.2) λy=>if Option.isSome y=true then M.bind (M.ag (Option.isSome (nH b.1 b.2 y)=true) (M.pure ())) λbH=>M.bind (M.ag (A.1=c.1/\c.2.2.2=false/\(∃ (T:z1'),c.2.1 (c.2.2.1++Option.getD (Option.map (λx=>x.1) (nH b.1 b.2 y)) 0::T))) (M.any (λx=>True))) λdv=>letI a:=(c.1,c.2.1,c.2.2.1++[Option.getD (Option.map (λx=>x.1) (nH b.1 b.2 y)) 0],!dv);if (!dv)=true then M.bind (M.pure (a,())) λr=>M.pure (ab.done r) else M.pure (ab.next (A.1,a,(nH b.1 b.2 y,CC b.2 y),())) else M.bind (M.pure (c,())) λr=>M.pure (ab.done r)) (x.1,x.2.2.1,(none,x.2.1),())
def NV(x:Nat×List (Int×aS)×(Nat×(z1'->Prop)×z1'×Bool)×Unit):M ((Nat×(z1'->Prop)×z1'×Bool)×Unit):=
 M.bind (M.pure ()) λy=>M.loop (λ(A:Nat×(Nat×(z1'->Prop)×z1'×Bool)×(Option pv×List (Int×aS))×Unit)=>letI c:=A.2.1;letI b:=A.2.2.1;M.bind (FZ b.2) λy=>if Option.isSome y=true then M.bind (M.ag (Option.isSome (nH b.1 b.2 y)=true) (M.pure ())) λbH=>M.bind (M.ag (A.1=c.1/\c.2.2.2=false/\(∃ (T:z1'),c.2.1 (c.2.2.1++Option.getD (Option.map (λx=>x.1) (nH b.1 b.2 y)) 0::T))) (M.any (λx=>True))) λdv=>letI a:=(c.1,c.2.1,c.2.2.1++[Option.getD (Option.map (λx=>x.1) (nH b.1 b.2 y)) 0],!dv);if (!dv)=true then M.bind (M.pure (a,())) λr=>M.pure (ab.done r) else M.pure (ab.next (A.1,a,(nH b.1 b.2 y,CC b.2 y),())) else M.bind (M.pure (c,())) λr=>M.pure (ab.done r)) (x.1,x.2.2.1,(none,x.2.1),())
def aks(DM:(z1'->Prop)->M (z1'))(NS:List (Int×aS)->M (z1'->Prop))(x:List aS×Unit):M (Bool×List aS×Unit):=
 M.bind (M.loop (λ(A:List aS×Int×Int×List (Int×aS)×Unit)=>letI e:=A.2.2;letI b:=List.getD A.1 (Int.toNat e.1) (0,0,0,0,0,0);letI c:=Option.map (λx=>x.2) (List.find? (λp=>decide (b.1=p.1)) e.2.1);letI a:=Option.getD c (0,0,0,0,0,0);if decide (e.1<A.2.1)=true then M.ag (0<=e.1/\e.1<Int.ofNat (List.length A.1)) (if (Option.isSome c&&!(decide (a.1=b.1)&&(decide (a.2.1=b.2.1)&&(decide (a.2.2.1=b.2.2.1)&&(decide (a.2.2.2.1=b.2.2.2.1)&&(decide (a.2.2.2.2.1=b.2.2.2.2.1)&&decide (a.2.2.2.2.2=b.2.2.2.2.2)))))))=true then M.bind (M.bind (M.pure (false,[],())) (λr=>M.pure (ab.done r))) λr=>M.pure (ab.done r) else M.pure (ab.next (A.1,A.2.1,IntKind.wrap .i64 (Add.add e.1 1),kN e.2.1 b.1 b,()))) else M.bind (M.pure (ab.next (e.2.1,()))) λr=>M.pure (ab.done r)) (x.1,Int.ofNat (List.length x.1),0,[],())) (ab.bm (λ(A:List (Int×aS)×Unit)=>M.bind (M.bind (NS A.1) (λy=>M.bind (DM y) λy=>M.loop (λ(A:z1'×Int×Int×List aS×List (Int×aS)×Unit)=>letI d:=A.2.2;if decide (d.1<A.2.1)=true then M.ag (0<=d.1/\d.1<Int.ofNat (List.length A.1)) (M.ag (b2 (Add.add (List.length d.2.1) (Add.add 0 1))) (M.pure (ab.next (A.1,A.2.1,IntKind.wrap .i64 (Add.add d.1 1),d.2.1++[Option.getD (Option.map (λx=>x.2) (List.find? (λp=>decide (List.getD A.1 (Int.toNat d.1) 0=p.1)) d.2.2.1)) (0,0,0,0,0,0)],d.2.2.1,())))) else M.bind (M.pure (ab.next (d.2.1,()))) λr=>M.pure (ab.done r)) (y,Int.ofNat (List.length y),0,[],A.1,()))) (ab.bm (λ(A:List aS×Unit)=>M.pure (true,A.1,())))))
abbrev lb:Type:=List bk×List bk×List bk×List bk×List bk×List bk×List bk×List bk×List bk×List bk×gW
def mm:Nat->lb->List bk
 | 0,r=>r.1
 | 1,r=>r.2.1
 | 2,r=>r.2.2.1
 | 3,r=>r.2.2.2.1
 | 4,r=>r.2.2.2.2.1
 | 5,r=>r.2.2.2.2.2.1
 | 6,r=>r.2.2.2.2.2.2.1
 | 7,r=>r.2.2.2.2.2.2.2.1
 | 8,r=>r.2.2.2.2.2.2.2.2.1
 | 9,r=>r.2.2.2.2.2.2.2.2.2.1
 | _,_=>[]
def Hq:Nat->List bk->lb->lb
 | 0,v,r=>(v,r.2)
 | 1,v,r=>(r.1,v,r.2.2)
 | 2,v,r=>(r.1,r.2.1,v,r.2.2.2)
 | 3,v,r=>(r.1,r.2.1,r.2.2.1,v,r.2.2.2.2)
 | 4,v,r=>(r.1,r.2.1,r.2.2.1,r.2.2.2.1,v,r.2.2.2.2.2)
 | 5,v,r=>(r.1,r.2.1,r.2.2.1,r.2.2.2.1,r.2.2.2.2.1,v,r.2.2.2.2.2.2)
 | 6,v,r=>(r.1,r.2.1,r.2.2.1,r.2.2.2.1,r.2.2.2.2.1,r.2.2.2.2.2.1,v,r.2.2.2.2.2.2.2)
 | 7,v,r=>(r.1,r.2.1,r.2.2.1,r.2.2.2.1,r.2.2.2.2.1,r.2.2.2.2.2.1,r.2.2.2.2.2.2.1,v,r.2.2.2.2.2.2.2.2)
 | 8,v,r=>(r.1,r.2.1,r.2.2.1,r.2.2.2.1,r.2.2.2.2.1,r.2.2.2.2.2.1,r.2.2.2.2.2.2.1,r.2.2.2.2.2.2.2.1,v,r.2.2.2.2.2.2.2.2.2)
 | 9,v,r=>(r.1,r.2.1,r.2.2.1,r.2.2.2.1,r.2.2.2.2.1,r.2.2.2.2.2.1,r.2.2.2.2.2.2.1,r.2.2.2.2.2.2.2.1,r.2.2.2.2.2.2.2.2.1,v,r.2.2.2.2.2.2.2.2.2.2)
 | _,_,r=>r
abbrev WE(r:lb):gW:=r.2.2.2.2.2.2.2.2.2.2
def NW{X:Type}(l:List bk)(x:bk)(i k:Int)(aK B:M X):M X:=
 letI z:=decide (i > 0);letI y:=IntKind.wrap .i64 (i-1);letI n:=decide (x.1.2.2.2.1≠k);letI m:=(!n)=true;letI b:=(!n&&z)=true;letI c:=b->b/\True/\True;M.ag (m->(m/\True)/\True/\True) (M.ag (m->True/\True/\m) (M.ag c (M.ag (b->(b/\True)/\True/\True) (M.ag (b->(b/\b)/\(0<=y/\y<Int.ofNat (List.length l))/\True) (M.ag c (M.ag c (M.ag (b->(b/\b)/\True/\True) (M.ag (m->(m/\(z=true->b))/\True/\True) (M.ag (True/\(n=false->m)) (if (n||z&&decide (x.2=(List.getD l (Int.toNat y) ((0,0,0,0,0,0),0)).2))=true then aK else B))))))))))
def Hr(k:Nat)(A:Int×Int×Int×z1'×lb):M (ab (Int×Int×Int×z1'×lb) (ab (Int×z1'×lb) (ab (z1'×lb) (Option dw×Bool×gW)))):=
 letI i:=A.2.2.1;letI l:=mm k A.2.2.2.2;letI x:=List.getD l (Int.toNat i) ((0,0,0,0,0,0),0);if decide (i<A.2.1)=true then M.ag (0<=i/\i<Int.ofNat (List.length l)) (M.bind (M.ag ((2:Int)≠0) (if decide (Int.tmod i (2:Int)=1)=true then M.pure (ab.next (i,2,A.1,A.2.1,i,x,A.2.2.2)) else M.pure (ab.next (i,1,A.1,A.2.1,i,x,A.2.2.2)))) (ab.bm (λ(τ:Int×Int×Int×Int×Int×bk×z1'×lb)=>letI r:=τ.2.2.2.2.2.2.2;NW (mm k r) τ.2.2.2.2.2.1 τ.1 τ.2.1 (M.bind (M.bind (M.bind (M.pure (none,false,WE r)) (λr=>M.pure (ab.done r))) (λr=>M.pure (ab.done r))) λr=>M.pure (ab.done r)) (M.pure (ab.next (τ.2.2.1,τ.2.2.2.1,IntKind.wrap .i64 (Add.add τ.2.2.2.2.1 1),τ.2.2.2.2.2.2)))))) else M.bind (M.pure (ab.next (A.1,A.2.2.2))) λr=>M.pure (ab.done r)
def DQ(WG:(bk×aS×Int->M Int)×List bk×Unit->M (List bk×Unit))(WH:bk×aS×Int->M Int):Nat->Nat->z1'×lb->M (ab (z1'×lb) (Option dw×Bool×gW))
 | 0,_,s=>M.pure (.next s)
 | n+1,k,s=>M.bind (M.ag (0<=Int.ofNat k/\Int.ofNat k<Int.ofNat 10) (M.bind (WG (WH,mm k s.2,())) (λy=>M.loop (Hr k) (Int.ofNat k,Int.ofNat (List.length y.1),0,s.1,Hq k y.1 s.2)))) (ab.bm (λ(τ:Int×z1'×lb)=>M.ag (IntKind.wrap .i64 (Add.add τ.1 1)=Int.ofNat (k+1)) (DQ WG WH n (k+1) τ.2)))
def Hs{X:Type}(f:Nat->M X)(v:Int):Nat->M X
 | 0=>f 0
 | n+1=>if v=Int.ofNat (Add.add n 1) then f (n+1) else Hs f v n
def WI{X:Type}(A:z1'×List aS×Int×Int×z1'×lb)(u:Nat):M (ab (z1'×List aS×Int×Int×z1'×lb) X):=
 letI a:=List.getD A.2.1 (Int.toNat A.2.2.2.1) (0,0,0,0,0,0);letI r:=A.2.2.2.2.2;letI p:=0<=Int.ofNat u/\Int.ofNat u<Int.ofNat 10;M.ag True (M.ag p (M.ag (0<=a.2.1/\a.2.1<Int.ofNat (List.length A.1)) (M.ag (b2 (Add.add (List.length (mm u r)) (Add.add 0 1))) (M.ag True (M.ag p (M.pure (ab.next (A.1,A.2.1,A.2.2.1,A.2.2.2.1,A.2.2.2.2.1,Hq u (mm u r++[((a.1,a.2.1,a.2.2.1,a.2.2.2.1,Int.ofNat u,a.2.2.2.2.2),IntKind.wrap .i64 (Add.add a.2.2.1 (List.getD A.1 (Int.toNat a.2.1) 0)))]) r))))))))
def WJ(akt:z1'->M (z1'))(aku:(bk×aS×Int->M Int)×List bk×Unit->M (List bk×Unit))(akv:bk×aS×Int->M Int)(x:z1'×gW):M (Option dw×Bool×gW):=
 M.bind (M.bind (akt x.1) (λy=>M.pure (ab.next (x.1,y,x.2.1,x.2.2.1,x.2.2.2.1,x.2.2.2.2.1,x.cI,x.fh,x.gv,x.ig,x.jJ,x.kO,x.hz,x.mR,x.pw,[],[],[],[],[],[],[],[],[],[],())))) (ab.bm (λ(A:z1'×z1'×z4'×List aS×z1'×z4'×Int×Int×Int×Int×Int×Int×Int×List aS×List (Option dw)×List bk×List bk×List bk×List bk×List bk×List bk×List bk×List bk×List bk×List bk×Unit)=>M.bind (M.ag True (M.loop (λ(A:z1'×List aS×Int×Int×z1'×lb)=>letI a:=List.getD A.2.1 (Int.toNat A.2.2.2.1) (0,0,0,0,0,0);letI u:=a.2.2.2.2.1;if decide (A.2.2.2.1<A.2.2.1)=true then M.bind (M.ag (0<=A.2.2.2.1/\A.2.2.2.1<Int.ofNat (List.length A.2.1)) (M.ag (0<=u/\u<Int.ofNat 10) (Hs (WI A) u 9))) (ab.bm (λ(A:z1'×List aS×Int×Int×z1'×lb)=>M.pure (ab.next (A.1,A.2.1,A.2.2.1,IntKind.wrap .i64 (Add.add A.2.2.2.1 1),A.2.2.2.2)))) else M.bind (M.pure (ab.next A.2.2.2.2)) λr=>M.pure (ab.done r)) (A.1,A.pw,Int.ofNat (List.length A.pw),0,A.2.1,A.xT,A.NG,A.NH,A.NI,A.NJ,A.NK,A.ajP,A.NL,A.rl,A.DK,A.2.2.1,A.2.2.2.1,A.2.2.2.2.1,A.cI,A.fh,A.gv,A.ig,A.jJ,A.kO,A.hz,A.mR,A.pw,A.so,()))) (ab.bm (λ(A:z1'×lb)=>M.bind (M.ag True (M.ag (0=Int.ofNat 0) (DQ aku akv 10 0 A))) (ab.bm (λ(A:z1'×lb)=>M.pure (some (A.1,[mm 0 A.2,mm 1 A.2,mm 2 A.2,mm 3 A.2,mm 4 A.2,mm 5 A.2,mm 6 A.2,mm 7 A.2,mm 8 A.2,mm 9 A.2]),true,WE A.2)))))))
def WK(akw:Int×Int×(bk×aS×Int->M Int)×List bk×Unit->M (List bk×Unit))(x:Int×Int×Int×(bk×aS×Int->M Int)×List bk×Unit):M (List bk×Unit):=
 M.loop (λ(A:Int×Int×Int×(bk×aS×Int->M Int)×Bool×Bool×List bk×Unit)=>if decide (IntKind.wrap .i64 (A.2.1-A.1)<=12)=true then M.bind (akw (A.1,A.2.1,A.2.2.2.1,A.fh,())) λy=>M.bind (M.pure (y.1,())) λr=>M.pure (ab.done r) else M.fail) (x.1,x.2.1,x.2.2.1,x.2.2.2.1,true,true,x.2.2.2.2.1,())
def WL(NO:z1'×gW->M (gW))(akx:z1'×gW->M (Option dw×Bool×gW))(x:z1'×gW):M (gW):=
 letI d:=Int.ofNat (List.length x.2.1);letI a:=Int.ofNat (List.length x.1);M.ag True (if decide (a=d)=true then M.bind (M.bind (akx (x.1,x.2.1,x.2.2.1,x.2.2.2.1,x.2.2.2.2.1,x.cI,x.fh,x.gv,x.ig,x.jJ,x.kO,x.hz,x.mR,x.pw,())) (λy=>if y.2.1=true then M.ag True (M.ag (b2 (Add.add (List.length y.so) (Add.add 0 1))) (M.ag True (M.pure (ab.next (y.2.2.1,y.2.2.2.1,y.2.2.2.2.1,y.cI,y.fh,y.gv,y.ig,y.jJ,y.kO,y.hz,y.mR,y.pw,y.so++[y.1],()))))) else M.pure (ab.next (y.2.2.1,y.2.2.2.1,y.2.2.2.2.1,y.cI,y.fh,y.gv,y.ig,y.jJ,y.kO,y.hz,y.mR,y.pw,y.so,())))) (ab.bm (λ(A:gW)=>M.pure (A.1,A.2.1,A.2.2.1,A.2.2.2.1,A.2.2.2.2.1,A.cI,A.fh,A.gv,A.ig,A.jJ,A.kO,A.hz,A.mR,()))) else M.ag True (M.ag (0<=a/\a<d) (M.loop (λ(A:z1'×Int×Int×gW)=>letI c:=A.2.2;letI b:=A.2.1;letI e:=List.take (Int.toNat b) A.1;M.ag True (M.ag (0<=b/\b<Int.ofNat (List.length c.2.1)) (if decide (c.1<=(List.getD c.2.1 (Int.toNat b) (0,0)).2)=true then M.ag ((0:Int)<=0/\0<=b/\b=b/\b<=Int.ofNat (List.length A.1)) (M.ag (0<Add.add 0 1/\b2 (Add.add (List.length e) (Add.add 0 1))) (M.bind (NO (e++[c.1],c.2.1,c.2.2.1,A.cI,A.fh,A.gv,A.ig,A.jJ,A.kO,A.hz,A.mR,A.pw,A.so,A.xT,())) (λy=>M.pure (ab.next (A.1,b,IntKind.wrap .i64 (Add.add c.1 1),y.1,y.2.1,y.2.2.1,y.2.2.2.1,y.2.2.2.2.1,y.cI,y.fh,y.gv,y.ig,y.jJ,y.kO,y.hz,y.mR,()))))) else M.bind (M.pure (c.2.1,c.2.2.1,A.cI,A.fh,A.gv,A.ig,A.jJ,A.kO,A.hz,A.mR,A.pw,A.so,A.xT,())) λr=>M.pure (ab.done r)))) (x.1,a,(List.getD x.2.1 (Int.toNat a) (0,0)).1,x.2.1,x.2.2.1,x.2.2.2.1,x.2.2.2.2.1,x.cI,x.fh,x.gv,x.ig,x.jJ,x.kO,x.hz,x.mR,x.pw,()))))
def WM(aky:Int->M Int)(akz:Int×Int×Int×(bk×aS×Int->M Int)×List bk×Unit->M (List bk×Unit))(x:(bk×aS×Int->M Int)×List bk×Unit):M (List bk×Unit):=
 letI a:=Int.ofNat (List.length x.2.1);M.bind (aky (IntKind.wrap .u64 a)) λy=>M.bind (akz (0,a,y,x.1,x.2.1,())) λy=>M.pure (y.1,())
end Go.Fer.H
