/- Part 4 of the proof of Questions: shallow programs of Go functions, and what they compute. No condition. -/
import Derived.Test.YtplfnoecifjgeaaGreatDoorQuestionsC
import Derived.RangeFuncBound
import Derived.Scope
import Derived.RangeFuncLeaves
import Derived.OpenShut
import Derived.WideKeyArgs
import Derived.ChangeSame
import Derived.Test.YtplfnoecifjgeaaGreatDoorProg
import Derived.KernelRfl
noncomputable section
namespace Go.Fer
open Go.RowKit
theorem ag_ {C:b8} (iH:C.r=none) {β:Type} {s:aB} {a:Act} {w:World} (U:cu C s a w) {g:Operand} {ps:Array Tmp} {assign body:Code} {q3 n:Nat} {eS:Nat->aI} (aC:a_ C.aP s.az g=.rK q3 n eS) {ic:zl} (T6:CG C.P q3 ic)
    {x:ic.ts.ai} {bW:List Nat} (aj:(iS ic.ts ((List.range n).map eS)).run s.ab=some (x,bW)) {sh rin rout:dH} (eb:nN sh rout ic.aN ps.toList C.nt=true) {nR:sh.ai} (nO:sh.iX (s.cy bW)=some nR) (gG:ic.pre x)
    {run:aB->A (dd×rout.ai)} {k:dd->aB->A β} {O:β->Prop} (hm:A.cv (jK (λD y=>tG sh rin rout ic.aN ps.toList D y run) (ic.seq x) nR) λp=>A.cv (k p.1 (sh.st p.2)) O)
    (C4:∀ l,GC C.P C.aP C.nt assign body l run) {Q:Exit->Act->World->Prop}
    (ao:∀ u,C.jM u->∀ e s' a' w',cu (C.hh u) s' a' w'->A.cv (k e s') O->Q e.pg a' w'):(Code.rangeFunc g ps assign body).wpIn (dS C.r) 0 C.P Q a w:=by
  obtain ⟨κ,F,U⟩:=U;obtain ⟨zC,f1,gH,f2⟩:=bm.k6 (p6 _ aj) U;obtain ⟨κ,eg,f3,cI⟩:=dH.zv nO gH;have af:=j5 U g;rw [aC] at af;obtain ⟨aE,pZ,ig,aw5⟩:=af;have ag':fl C.P ic.ts zC w aE x:=uX U.bE f1 ic.ts aj f2 (by grind) λi M dM=>by
    grind
  have pa:∀ D:sh.ai,(sh.st D).az b5=.undef:=λD=>by
    simp only [nN,Bool.and_eq_true,Bool.not_eq_true'] at eb;exact xh sh.bT c7 D b5 eb.1.1.1.2
  rw [iH];refine wpIn_rangeFunc λfn _=>?_;have aT:w.heap.size<((w.alloc (.deferred (some []))).alloc (.loop (e8 fn a.tmps ps assign body w.heap.size .ready .normal))).heap.size:=by simp;omega
  have ak:w.heap.size+1<((w.alloc (.deferred (some []))).alloc (.loop (e8 fn a.tmps ps assign body w.heap.size .ready .normal))).heap.size:=by simp
  have C7:((w.alloc (.deferred (some []))).alloc (.loop (e8 fn a.tmps ps assign body w.heap.size .ready .normal))).heap[w.heap.size+1]?=some (.loop (e8 fn a.tmps ps assign body w.heap.size .ready .normal)):=by
    have:=pY (w.alloc (.deferred (some []))) (.loop (e8 fn a.tmps ps assign body w.heap.size .ready .normal));simp_all
  have C8:((w.alloc (.deferred (some []))).alloc (.loop (e8 fn a.tmps ps assign body w.heap.size .ready .normal))).heap[w.heap.size]?=some (.deferred (some [])):=
    (o1 _ _ (by simp)).trans (pY w _)
  have tR:∀ r,r<w.heap.size->((w.alloc (.deferred (some []))).alloc (.loop (e8 fn a.tmps ps assign body w.heap.size .ready .normal))).heap[r]?=w.heap[r]?:=λr h=>TZ h;have C9:(Instr.enterLoop fn a.tmps ps assign body none).run C.P w=.ok (w.heap.size+1,[oz w.heap.size]) ((w.alloc (.deferred (some []))).alloc (.loop (e8 fn a.tmps ps assign body w.heap.size .ready .normal))):=run_enterLoop_outer fn a.tmps ps assign body;have xu:da w ((w.alloc (.deferred (some []))).alloc (.loop (e8 fn a.tmps ps assign body w.heap.size .ready .normal))):=⟨rfl,rfl,rfl⟩
  have Mk:((w.alloc (.deferred (some []))).alloc (.loop (e8 fn a.tmps ps assign body w.heap.size .ready .normal))).heap.size=w.heap.size+2:=by simp
  generalize (w.alloc (.deferred (some []))).alloc (.loop (e8 fn a.tmps ps assign body w.heap.size .ready .normal))=cj at aT ak C7 C8 tR C9 xu Mk;have qc:cZ eg w cj:=⟨by omega,λr h=>tR r (cI.c_ r h)⟩
  have dY:fl C.P ic.ts eg cj aE x:=(ag'.mono f3 (cZ.refl _ _)).mono (λ_ h=>h) qc;have eF:bm { C with w0:=cj,F0:=eg,K0:=λ_=>False } (sh.st nR) a cj κ eg:=
    cI.vd cI.dF cI.dfr cI.ga cI.bT (λdG kv e2 iT il e=>by have e:(sh.st nR).az b5=.aW dG kv e2 iT il:=e;grind)
      (λr h=>tR r (by
        rcases h with h | ⟨b,aa,rfl⟩
        · exact cI.c_ r h
        · exact (cI.an b aa).1)) (by omega) (λ_ h=>.inl h) (λ_ h=>h) (λ_ h=>h.elim) (λ_ h=>h.elim) (λ_ _ h=>h) (Nat.le_refl _) (da.refl _)
  have Ml:=T5 (T0 (S:=λT=>T=ic.seq x) (C:=C) (CI:={ C with w0:=cj,F0:=eg,K0:=λ_=>False }) (sh:=sh) (rin:=rin) (rout:=rout) (ps:=ps) (assign:=assign) (body:=body) (a:=a) (fn:=fn) (l:=w.heap.size+1) (B:=w.heap.size) (run:=run) (k:=k) (O:=O)
    rfl (by omega) (by rw [U.dF];omega) (by rw [U.dF];grind))
  have fi:∀ b,((sh.st nR).ab b).body.b1 (κ b)=true->¬((κ b).ab=w.heap.size+1\/(κ b).ab=w.heap.size):=λb aa h=>by
    have:=(cI.an b aa).1;omega
  have ve:=T6.iO (w.heap.size+1) _ eg (λr=>(∃ b,((sh.st nR).ab b).body.b1 (κ b)=true/\(κ b).ab=r)\/r=w.heap.size+1\/r=w.heap.size) cj aE x dY gG Ml (λr h=>eF.c_ r h) eF.iv
    (λr h=>by
      rcases h with ⟨b,aa,rfl⟩ | rfl | rfl
      · exact ⟨(eF.an b aa).1,(eF.an b aa).2.1⟩
      · exact ⟨ak,λh=>by have:=cI.c_ _ h;omega⟩
      · exact ⟨aT,λh=>by have:=cI.c_ _ h;omega⟩)
    ⟨.normal,nR,κ,eF,C7,C8,λb aa=>⟨.inl ⟨b,aa,rfl⟩,fi b aa⟩,.inr (.inl rfl),.inr (.inr rfl),λh=>by have:=cI.c_ _ h;omega,λh=>by have:=cI.c_ _ h;omega,rfl,λ_=>⟨rfl,λR jN=>by grind⟩,λh=>by cases h⟩
  refine ⟨w.heap.size+1,[oz w.heap.size],cj,{ target:=.fn (.func q3) #[],args:=aE.toArray++#[.func (.yield (w.heap.size+1)) #[] #[]] },cj,q3,(aE++[Value.func (.yield (w.heap.size+1)) #[] #[]]).toArray,cj,C9,?_,λ_ _=>trivial,?_,λh=>(by cases h),callsIn_wide.2 (ve.mono λe eV ⟨v,iT,st,F',gr,he,gj,hinv,g1,eo,g3,g4,g5,g6,g7⟩=>?_)⟩
  · have e:a.eval (.const (.func (.yield (w.heap.size+1)) #[] #[]))=.func (.yield (w.heap.size+1)) #[] #[]:=rfl
    simp [resolve,pZ,Deferred.ofValue,e]
  · have:=T6.enter (aE++[Value.func (.yield (w.heap.size+1)) #[] #[]]).toArray cj
    simpa [invoke] using this
  subst he;obtain ⟨e,D,κ',ml,G,V,ah,a7,bM,dr,fY,_,jb,pT⟩:=hinv;refine ⟨sf e,_,run_endLoop G (by cases st<;>simp [e8]),?_⟩;have GI:w.heap.size+1<eV.heap.size:=(Array.getElem?_eq_some_iff.1 G).1;generalize be:Obj.loop _=b9;have hG:A.cv (k e (sh.st D)) O:=by
    cases st with
    | true=>grind
    | false=>
      obtain ⟨rfl,fh⟩:=jb rfl;exact (fh [] (show iT++[]=ic.seq x by grind)).2 _ rfl
  have u9:∀ r,C.K0 r->r<w.heap.size:=λr h=>Nat.lt_of_lt_of_le (U.hq r h) U.size;have tP:∀ r,C.K0 r->(eV.putObj (w.heap.size+1) b9).heap[r]?=C.w0.heap[r]?:=λr h=>by
    have ch:=u9 r h;rw [World.putObj_heap_other (by omega),g4 r (by omega) λaS=>?_,tR r ch]
    · exact U.eD r h
    · rcases aS with ⟨b,aa,rfl⟩ | rfl | rfl
      · exact (cI.an b aa).2.2 h
      · omega
      · omega
  have xv:da C.w0 (eV.putObj (w.heap.size+1) b9):=by
    have:=(U.en.trans xu).trans g7;exact ⟨this.os,this.tape,this.output⟩
  have zJ:C.jM ⟨eV.putObj (w.heap.size+1) b9,λr=>C.K0 r\/r=w.heap.size,[w.heap.size]⟩:=
    { se := λB aT => by
        have:B=w.heap.size:=by grind
        subst this;exact ⟨.inr rfl,(World.putObj_heap_other (by omega)).trans V⟩
      ew:=λB aT=>by
        have:B=w.heap.size:=by grind
        subst this;exact ⟨λh=>by grind,U.size⟩
      mj:=by simp
      hi:=λ_ h=>.inl h
      eD:=tP
      size:=by have:=U.size;simp;omega
      en:=xv }
  have nP:cu (C.hh ⟨eV.putObj (w.heap.size+1) b9,λr=>C.K0 r\/r=w.heap.size,[w.heap.size]⟩) (sh.st D) { a with defers:=[oz w.heap.size]++a.defers } (eV.putObj (w.heap.size+1) b9):=by
    have Mm:∀ r,F' r->C.F0 r\/¬(C.K0 r\/r=w.heap.size):=λr bd=>by
      rcases eo r bd with h | h | h
      · rcases cI.ha r h with ds | ds
        · exact .inl ds
        · exact .inr λao=>ao.elim ds λe=>by have:=cI.c_ r h;omega
      · rcases h with ⟨b,aa,rfl⟩ | rfl | rfl
        · exact .inr λao=>ao.elim (cI.an b aa).2.2 λe=>fi b aa (.inr e)
        · exact (dr bd).elim
        · exact (fY bd).elim
      grind
    refine ⟨κ',F',ml.vd (r:=C.r) ml.dF (by show [oz w.heap.size]++a.defers=_;rw [U.dfr];rfl) ml.ga ml.bT (λdG kv e2 iT il e=>by have e:(sh.st D).az b5=.aW dG kv e2 iT il:=e;grind)
      (λr h=>World.putObj_heap_other λe=>by
        grind) (by simp) Mm (λr h=>g1 r (cI.hN r h)) (λr h=>?_) (λ_ _=>rfl) (λb aa h=>?_) (Nat.le_refl _) (da.refl _)⟩
    · simp only [World.putObj_size]
      grind
    · rcases h with h | h
      · rcases (g5 _ (ah b aa).1).1 with aS | aS
        · rcases aS with ⟨bf,dh,e⟩ | e | e
          · exact (cI.an bf dh).2.2 (e ▸ h)
          · exact (ah b aa).2 (.inl e)
          · exact (ah b aa).2 (.inr e)
        grind
      grind
  have br:=ao _ zJ e _ _ _ nP hG;cases e with
  | normal=>exact br
  | exit id=>exact wpIn_exit br
  | ret=>exact wpIn_ret br
theorem aha {C:b8} (iH:C.r=none) {β:Type} {s:aB} {a:Act} {w:World} (U:cu C s a w) {g:Operand} {ps:Array Tmp} {assign body:Code} {aN:ad} {S:List aN.ai->Prop} (aC:a_ C.aP s.az g=.val (.cq aN) S)
    {sh rin rout:dH} (eb:nN sh rout aN ps.toList C.nt=true) {nR:sh.ai} (nO:sh.iX s=some nR) (ez:∃ L,S L)
    {run:aB->A (dd×rout.ai)} {k:dd->aB->A β} {O:β->Prop} (hm:∀ L,S L->A.cv (jK (λD y=>tG sh rin rout aN ps.toList D y run) L nR) λp=>A.cv (k p.1 (sh.st p.2)) O)
    (C4:∀ l,GC C.P C.aP C.nt assign body l run) {Q:Exit->Act->World->Prop}
    (ao:∀ u,C.jM u->∀ e s' a' w',cu (C.hh u) s' a' w'->A.cv (k e s') O->Q e.pg a' w'):(Code.rangeFunc g ps assign body).wpIn (dS C.r) 0 C.P Q a w:=by
  obtain ⟨κ,F,U⟩:=U;obtain ⟨κ,eg,f3,cI⟩:=dH.zv nO U;have af:=j5 U g;rw [aC] at af;have pZ:=e' _ f3 (cZ.refl _ _) ((dV rfl).1 af).2;simp only [bK] at pZ;obtain ⟨u,hu,_,ahb⟩:=pZ;have hu:=(List.cons.inj hu).1;have pa:∀ D:sh.ai,(sh.st D).az b5=.undef:=λD=>by
    simp only [nN,Bool.and_eq_true,Bool.not_eq_true'] at eb;exact xh sh.bT c7 D b5 eb.1.1.1.2
  rw [iH];refine wpIn_rangeFunc λfn _=>?_;have aT:w.heap.size<((w.alloc (.deferred (some []))).alloc (.loop (e8 fn a.tmps ps assign body w.heap.size .ready .normal))).heap.size:=by simp;omega
  have ak:w.heap.size+1<((w.alloc (.deferred (some []))).alloc (.loop (e8 fn a.tmps ps assign body w.heap.size .ready .normal))).heap.size:=by simp
  have C7:((w.alloc (.deferred (some []))).alloc (.loop (e8 fn a.tmps ps assign body w.heap.size .ready .normal))).heap[w.heap.size+1]?=some (.loop (e8 fn a.tmps ps assign body w.heap.size .ready .normal)):=by
    have:=pY (w.alloc (.deferred (some []))) (.loop (e8 fn a.tmps ps assign body w.heap.size .ready .normal));simp_all
  have C8:((w.alloc (.deferred (some []))).alloc (.loop (e8 fn a.tmps ps assign body w.heap.size .ready .normal))).heap[w.heap.size]?=some (.deferred (some [])):=
    (o1 _ _ (by simp)).trans (pY w _)
  have tR:∀ r,r<w.heap.size->((w.alloc (.deferred (some []))).alloc (.loop (e8 fn a.tmps ps assign body w.heap.size .ready .normal))).heap[r]?=w.heap[r]?:=λr h=>TZ h;have C9:(Instr.enterLoop fn a.tmps ps assign body none).run C.P w=.ok (w.heap.size+1,[oz w.heap.size]) ((w.alloc (.deferred (some []))).alloc (.loop (e8 fn a.tmps ps assign body w.heap.size .ready .normal))):=run_enterLoop_outer fn a.tmps ps assign body;have xu:da w ((w.alloc (.deferred (some []))).alloc (.loop (e8 fn a.tmps ps assign body w.heap.size .ready .normal))):=⟨rfl,rfl,rfl⟩
  have Mk:((w.alloc (.deferred (some []))).alloc (.loop (e8 fn a.tmps ps assign body w.heap.size .ready .normal))).heap.size=w.heap.size+2:=by simp
  generalize (w.alloc (.deferred (some []))).alloc (.loop (e8 fn a.tmps ps assign body w.heap.size .ready .normal))=cj at aT ak C7 C8 tR C9 xu Mk;have qc:cZ eg w cj:=⟨by omega,λr h=>tR r (cI.c_ r h)⟩
  have eF:bm { C with w0:=cj,F0:=eg,K0:=λ_=>False } (sh.st nR) a cj κ eg:=
    cI.vd cI.dF cI.dfr cI.ga cI.bT (λdG kv e2 iT il e=>by have e:(sh.st nR).az b5=.aW dG kv e2 iT il:=e;grind)
      (λr h=>tR r (by
        rcases h with h | ⟨b,aa,rfl⟩
        · exact cI.c_ r h
        · exact (cI.an b aa).1)) (by omega) (λ_ h=>.inl h) (λ_ h=>h) (λ_ h=>h.elim) (λ_ h=>h.elim) (λ_ _ h=>h) (Nat.le_refl _) (da.refl _)
  have Ml:=T0 (S:=S) (C:=C) (CI:={ C with w0:=cj,F0:=eg,K0:=λ_=>False }) (sh:=sh) (rin:=rin) (rout:=rout) (ps:=ps) (assign:=assign) (body:=body) (a:=a) (fn:=fn) (l:=w.heap.size+1) (B:=w.heap.size) (run:=run) (k:=k) (O:=O)
    rfl (by omega) (by rw [U.dF];omega) (by rw [U.dF];grind)
  have fi:∀ b,((sh.st nR).ab b).body.b1 (κ b)=true->¬((κ b).ab=w.heap.size+1\/(κ b).ab=w.heap.size):=λb aa h=>by
    have:=(cI.an b aa).1;omega
  obtain ⟨q3,cW,ahc,r9,Lr⟩:=ahb eg cj (λ_ h=>h) qc (λr h=>eF.c_ r h) eF.iv ez;have ve:=Lr (w.heap.size+1) _ (λr=>(∃ b,((sh.st nR).ab b).body.b1 (κ b)=true/\(κ b).ab=r)\/r=w.heap.size+1\/r=w.heap.size)
    (λr h=>by
      rcases h with ⟨b,aa,rfl⟩ | rfl | rfl
      · exact ⟨(eF.an b aa).1,(eF.an b aa).2.1⟩
      · exact ⟨ak,λh=>by have:=cI.c_ _ h;omega⟩
      · exact ⟨aT,λh=>by have:=cI.c_ _ h;omega⟩)
    Ml ⟨.normal,nR,κ,eF,C7,C8,λb aa=>⟨.inl ⟨b,aa,rfl⟩,fi b aa⟩,.inr (.inl rfl),.inr (.inr rfl),λh=>by have:=cI.c_ _ h;omega,λh=>by have:=cI.c_ _ h;omega,rfl,λ_=>⟨rfl,λR jN=>hm R jN⟩,λh=>by cases h⟩
  refine ⟨w.heap.size+1,[oz w.heap.size],cj,{ target:=.fn (.func q3) cW,args:=#[.func (.yield (w.heap.size+1)) #[] #[]] },cj,q3,#[Value.func (.yield (w.heap.size+1)) #[] #[]]++cW,cj,C9,?_,λ_ _=>trivial,?_,λh=>(by cases h),callsIn_wide.2 (ve.mono λe eV ⟨v,pre,st,F',gr,he,gj,hinv,g1,eo,g3,g4,g5,g6,Mn⟩=>?_)⟩
  · have e:a.eval (.const (.func (.yield (w.heap.size+1)) #[] #[]))=.func (.yield (w.heap.size+1)) #[] #[]:=rfl
    simp [resolve,hu,ahc,Deferred.ofValue,e]
  · have:=r9 (#[Value.func (.yield (w.heap.size+1)) #[] #[]]++cW) cj
    simpa [invoke] using this
  have g7:da cj eV:=⟨Mn.1,Mn.2.1,Mn.2.2⟩
  subst he;obtain ⟨e,D,κ',ml,G,V,ah,a7,bM,dr,fY,_,jb,pT⟩:=hinv;refine ⟨sf e,_,run_endLoop G (by cases st<;>simp [e8]),?_⟩;have GI:w.heap.size+1<eV.heap.size:=(Array.getElem?_eq_some_iff.1 G).1;generalize be:Obj.loop _=b9;have hG:A.cv (k e (sh.st D)) O:=by
    cases st with
    | true=>grind
    | false=>
      obtain ⟨rfl,fh⟩:=jb rfl;exact (fh [] (show S (pre++[]) by grind)).2 _ rfl
  have u9:∀ r,C.K0 r->r<w.heap.size:=λr h=>Nat.lt_of_lt_of_le (U.hq r h) U.size;have tP:∀ r,C.K0 r->(eV.putObj (w.heap.size+1) b9).heap[r]?=C.w0.heap[r]?:=λr h=>by
    have ch:=u9 r h;rw [World.putObj_heap_other (by omega),g4 r (by omega) λaS=>?_,tR r ch]
    · exact U.eD r h
    · rcases aS with ⟨b,aa,rfl⟩ | rfl | rfl
      · exact (cI.an b aa).2.2 h
      · omega
      · omega
  have xv:da C.w0 (eV.putObj (w.heap.size+1) b9):=by
    have:=(U.en.trans xu).trans g7;exact ⟨this.os,this.tape,this.output⟩
  have zJ:C.jM ⟨eV.putObj (w.heap.size+1) b9,λr=>C.K0 r\/r=w.heap.size,[w.heap.size]⟩:=
    { se := λB aT => by
        have:B=w.heap.size:=by grind
        subst this;exact ⟨.inr rfl,(World.putObj_heap_other (by omega)).trans V⟩
      ew:=λB aT=>by
        have:B=w.heap.size:=by grind
        subst this;exact ⟨λh=>by grind,U.size⟩
      mj:=by simp
      hi:=λ_ h=>.inl h
      eD:=tP
      size:=by have:=U.size;simp;omega
      en:=xv }
  have nP:cu (C.hh ⟨eV.putObj (w.heap.size+1) b9,λr=>C.K0 r\/r=w.heap.size,[w.heap.size]⟩) (sh.st D) { a with defers:=[oz w.heap.size]++a.defers } (eV.putObj (w.heap.size+1) b9):=by
    have Mm:∀ r,F' r->C.F0 r\/¬(C.K0 r\/r=w.heap.size):=λr bd=>by
      rcases eo r bd with h | h | h
      · rcases cI.ha r h with ds | ds
        · exact .inl ds
        · exact .inr λao=>ao.elim ds λe=>by have:=cI.c_ r h;omega
      · rcases h with ⟨b,aa,rfl⟩ | rfl | rfl
        · exact .inr λao=>ao.elim (cI.an b aa).2.2 λe=>fi b aa (.inr e)
        · exact (dr bd).elim
        · exact (fY bd).elim
      grind
    refine ⟨κ',F',ml.vd (r:=C.r) ml.dF (by show [oz w.heap.size]++a.defers=_;rw [U.dfr];rfl) ml.ga ml.bT (λdG kv e2 iT il e=>by have e:(sh.st D).az b5=.aW dG kv e2 iT il:=e;grind)
      (λr h=>World.putObj_heap_other λe=>by
        grind) (by simp) Mm (λr h=>g1 r (cI.hN r h)) (λr h=>?_) (λ_ _=>rfl) (λb aa h=>?_) (Nat.le_refl _) (da.refl _)⟩
    · simp only [World.putObj_size]
      grind
    · rcases h with h | h
      · rcases (g5 _ (ah b aa).1).1 with aS | aS
        · rcases aS with ⟨bf,dh,e⟩ | e | e
          · exact (cI.an bf dh).2.2 (e ▸ h)
          · exact (ah b aa).2 (.inl e)
          · exact (ah b aa).2 (.inr e)
        grind
      grind
  have br:=ao _ zJ e _ _ _ nP hG;cases e with
  | normal=>exact br
  | exit id=>exact wpIn_exit br
  | ret=>exact wpIn_ret br
end Go.Fer
namespace Go.Fer
open Go.RowKit
open A (W)
section
variable {F:Fence} {n:Nat} {P:Program} {Q:Exit->Act->World->Prop} {a:Act} {w:World}
theorem ahd {c:Code} {GM β:Type} {body:GM->A (W GM β)} {O:β->Prop} (I:GM->Act->World->Prop)
  (round:∀ D a w,I D a w->(body D).cr->(∀ r,(body D).bR (.done r)->O r)->c.wpIn F n P (Exit.then (λa' w'=>∃ iD,(body D).bR (.next iD)/\I iD a' w') Q) a w)
  {D:GM} (aG:A.Bk body D) (ag:∀ r,A.yA body D r->O r) (eF:I D a w):(Code.loop c).wpIn F n P Q a w:=by
 intro b k cs q_ aa U;have key:∀ D,A.Bk body D->(∀ r,A.yA body D r->O r)->∀ a w,I D a w->
   ∃ e a' w',Q e a' w'/\ArrivesIn (Machine.fenced P F) P (lone (b.atR a (.code c::.inLoop c::k)) cs w) b k cs e a' w':=by
  intro D aG;induction aG with
  | mk D h _ aM=>
   intro ag a w eF;obtain ⟨e,lR,lS,br,e6⟩:=round D a w eF h (λr U=>ag r (.done _ _ U)) b (.inLoop c::k) cs q_ aa U;cases e with
   | normal=>
    obtain ⟨iD,qi,ahe⟩:=br;obtain ⟨Mo,Mp,Mq,Mr,Ms⟩:=aM iD qi (λr U=>ag r (.next _ _ _ qi U)) lR lS ahe;exact ⟨Mo,Mp,Mq,Mr,.of_steps (StepsIn.trans e6 (.one (fenced_calm aa U rfl) stepR_inLoop)) Ms⟩
   | exit id=>exact ⟨_,lR,lS,br,.pass (x:=.inLoop c) rfl (λ_ _=>.inl (by simp)) e6⟩
   | goto l=>exact ⟨_,lR,lS,br,.pass (x:=.inLoop c) rfl (λ_ _=>.inl (by simp)) e6⟩
   | ret=>exact ⟨_,lR,lS,br,.pass (x:=.inLoop c) rfl (λ_ _=>.inl (by simp)) e6⟩
   | panic Mt=>exact ⟨_,lR,lS,br,.pass (x:=.inLoop c) rfl (λ_ _=>.inl (by simp)) e6⟩
   | outgrown=>exact ⟨_,lR,lS,br,.pass (x:=.inLoop c) rfl (λ_ _=>.inl (by simp)) e6⟩
 obtain ⟨e,a',w',br,e6⟩:=key D aG ag a w eF;exact ⟨e,a',w',br,.of_steps (.one (fenced_calm aa U rfl) stepR_loop) e6⟩
theorem ahf {p q:Prop} (br:q) (h:q->p):p/\q:=⟨h br,br⟩
def GN (F:Fence) (n:Nat) (P:Program) (c:Code) (Q:Exit->Act->World->Prop) (a:Act) (w:World):Prop:=
 ∀ (b:Frame) (k:List Item) (cs:List Frame),b.roundOf=F.round->F.fn b.fn->F.room (cs.length+1+n)->
  ∃ e a' w',Q e a' w'/\ArrivesIn (Machine.fenced P F) P (lone (b.atR a (.code c::.inLoop c::k)) cs w) b k cs e a' w'
theorem ahg {c:Code} (h:GN F n P c Q a w):(Code.loop c).wpIn F n P Q a w:=λb k cs q_ aa U=>by
 obtain ⟨e,a',w',br,e6⟩:=h b k cs q_ aa U;exact ⟨e,a',w',br,.of_steps (.one (fenced_calm aa U rfl) stepR_loop) e6⟩
theorem ahh {c:Code} (h:c.wpIn F n P (Exit.then (λa' w'=>GN F n P c Q a' w') Q) a w):GN F n P c Q a w:=λb k cs q_ aa U=>by
 obtain ⟨e,lR,lS,br,e6⟩:=h b (.inLoop c::k) cs q_ aa U;cases e with
 | normal=>
  obtain ⟨Mo,Mp,Mq,Mr,Ms⟩:=br b k cs q_ aa U;exact ⟨Mo,Mp,Mq,Mr,.of_steps (StepsIn.trans e6 (.one (fenced_calm aa U rfl) stepR_inLoop)) Ms⟩
 | exit id=>exact ⟨_,lR,lS,br,.pass (x:=.inLoop c) rfl (λ_ _=>.inl (by simp)) e6⟩
 | goto l=>exact ⟨_,lR,lS,br,.pass (x:=.inLoop c) rfl (λ_ _=>.inl (by simp)) e6⟩
 | ret=>exact ⟨_,lR,lS,br,.pass (x:=.inLoop c) rfl (λ_ _=>.inl (by simp)) e6⟩
 | panic Mt=>exact ⟨_,lR,lS,br,.pass (x:=.inLoop c) rfl (λ_ _=>.inl (by simp)) e6⟩
 | outgrown=>exact ⟨_,lR,lS,br,.pass (x:=.inLoop c) rfl (λ_ _=>.inl (by simp)) e6⟩
theorem zK {b:Frame} {k:List Item} {cs:List Frame} {c:Code}:step P (lone (b.atR a (.code (.scope c)::k)) cs w)=.next (lone (b.atR a (.code c::.inScope c::k)) cs w):=
 step_lone_go (by rfl)
theorem ahi {b:Frame} {k:List Item} {cs:List Frame} {c:Code}:step P (lone (b.atR a (.inScope c::k)) cs w)=.next (lone (b.atR a k) cs w):=
 step_lone_go (by rfl)
theorem ahj {c:Code} (h:c.wpIn F n P (Exit.noGoto Q) a w):(Code.scope c).wpIn F n P Q a w:=by
 intro b k cs q_ aa U;have aY:(lone (b.atR a (.code (.scope c)::k)) cs w).fenced P F:=fenced_calm aa U rfl;obtain ⟨e,lR,lS,br,e6⟩:=h b (.inScope c::k) cs q_ aa U;cases e with
 | normal=>exact ⟨.normal,lR,lS,br,.head aY zK (StepsIn.trans e6 (.one (fenced_calm aa U rfl) ahi))⟩
 | exit id=>
  have aj:exitTo id (.inScope c::k)=exitTo id k:=by rfl
  exact ⟨.exit id,lR,lS,br,λk' ao=>.head aY zK (e6.1 k' (by grind)),λbd ao=>let ⟨k₁,G,V⟩:=e6.2 bd (by grind);⟨k₁,G,.head aY zK V⟩⟩
 | goto l=>exact br.elim
 | ret=>exact ⟨.ret,lR,lS,br,.of_steps (.one aY zK) e6⟩
 | panic Mt=>exact ⟨.panic Mt,lR,lS,br,.of_steps (.one aY zK) e6⟩
 | outgrown=>exact ⟨.outgrown,lR,lS,br,.of_steps (.one aY zK) e6⟩
end
section
variable {T:Nat->ad} {bg:Nat->Option aO} {Ψ:Nat->Option e1}
def Mu {D β:Type} (m:A (W D β)) (O:β->Prop) (st:W D β):Prop:=
 match st with
 | .next s=>m.bR (.next s)
 | .done r=>O r
theorem ahk {C:b8} {s s':aB} {i:Nat} {a:Act} {w:World} (h:La s i=some s') (U:cu C s a w):cu C s' a w:=by
 obtain ⟨κ,F,U⟩:=U;unfold La at h;split at h
 ·rename_i b g n off aG;split at h
  ·rename_i e xs bS;split at h
   ·rename_i aC;cases h;have af:=U.bT i;rw [aG] at af;obtain ⟨aU,aX,bP⟩:=af.2 aC (by rw [bS];rfl);rw [bS] at aU bP;have aT:=U.bE b;unfold cB at aT;rw [bS] at aT;obtain ⟨cs,T,bF,c2,c3,c4,c5⟩:=aT.2 aX;have aU:n<xs.length:=aU;obtain ⟨bk,d1,d2⟩:=c5 n aU;have d2:bK C.P (.slice e) F w bk xs[n]:=d2;obtain ⟨u,rfl,hu⟩:=Br (t:=.slice e) rfl d2;have tj:cs.getD ((κ b).off+n) Go.undef=u:=by
     have:=d1 0 (by simp);simp only [ad.size,Nat.mul_one,Nat.add_zero] at this;rw [Array.getD_eq_getD_getElem?,this];rfl
    have gh:fm s.ab κ (λq=>if q=b then (⟨g,.f' (.st (.slice e)) xs n (.val (.slice e) (xs.getD n []))⟩:bL) else s.ab q) κ:=
     qH aC (λh=>by cases h) (λ_=>by rw [bS];exact ⟨rfl,rfl,rfl⟩) (λh=>by cases h) (λh=>by cases h)
    have cI:=U.o2 (b:=b) (x:=⟨g,.f' (.st (.slice e)) xs n (.val (.slice e) (xs.getD n []))⟩) (w':=w) (by rw [bS];simp [bQ.b1,aX]) (by simp [bQ.b1,aX]) gh (λh=>by cases h) (λh=>by cases h) (λ_ _=>rfl) rfl (da.refl w) λH mJ ch he=>
     ⟨aX,cs,T,bF,c2,c3,c4,⟨rfl,aU⟩,λj aH _=>c5 j aH,by rw [tj,show xs.getD n []=xs[n] by simp [aU]];exact (dV rfl).2 ⟨hu,d2⟩,by rw [tj];exact JA (t:=.slice e) rfl d2⟩
    refine ⟨κ,F,{ cI with bT:=λj=>?_,dF:=cI.dF,dfr:=cI.dfr,bE:=cI.bE,eK:=λl aN L m st a8=>?_ }⟩
    ·show bA _ _ _ _ _ (if j=i then _ else _) _;split
     ·rename_i aH;subst aH;refine ⟨⟨by show g<=(if b=b then _ else _:bL).gen;simp,af.1.2⟩,λ_ _=>?_⟩;show _<(if b=b then _ else _:bL).body.len/\_/\_=Value.pointer (some ⟨_,_+_*(if b=b then _ else _:bL).body.eY,_⟩);simp only [if_true];exact ⟨aU,aX,bP⟩
     ·exact cI.bT j
    ·have a8:(if b5=i then _ else _)=aI.aW l aN L m st:=a8;split at a8
     ·cases a8
     ·exact cI.eK l aN L m st a8
   ·cases h
  ·cases h
 ·cases h
theorem ahl {C:b8} {s s':aB} {b:Nat} {a:Act} {w:World} (h:Lb s b=some s') (U:cu C s a w):cu C s' a w:=by
 obtain ⟨κ,F,U⟩:=U;unfold Lb at h;split at h
 ·rename_i e xs n v bS;split at h
  ·rename_i y bW aS;split at h
   ·cases h
   ·rename_i p4;cases h;have p4:b ∉ bW:=by simpa using p4
    obtain ⟨F',f1,bd,f2⟩:=bm.k6 (mI aS) U;have y6:(s.cy bW).ab b=s.ab b:=by simp [aB.cy,p4]
    have aT:=U.bE b;have Mv:=bd.bE b;unfold cB at aT Mv;rw [y6,bS] at Mv;rw [bS] at aT;obtain ⟨aY,cs,T,bF,c2,c3,c4,c5,lE,oe,wK⟩:=Mv;obtain ⟨_,dc,hR,T7,_,_,_,_,_,ahm,_⟩:=aT;rw [bF] at T7;cases T7;have uT:=l9 U.bE f1 aS f2 ahm;obtain ⟨GF,oA⟩:=(dV rfl).1 uT;have gh:fm (s.cy bW).ab κ (λq=>if q=b then (⟨(s.ab b).gen,.bj (.st (.slice e)) (xs.set n y)⟩:bL) else (s.cy bW).ab q) κ:=
     qH (by rw [y6]) (λh=>by cases h) (λ_=>by rw [y6,bS];exact ⟨rfl,by simp [bQ.len],rfl⟩) (λh=>by cases h) (λh=>by cases h)
    refine ⟨κ,F',bd.o2 (b:=b) (w':=w) (by rw [y6,bS];simp [bQ.b1,aY]) (by simp [bQ.b1,aY]) gh (λh=>by cases h) (λh=>by cases h) (λ_ _=>rfl) rfl (da.refl w) λH mJ ch he=>⟨λaD=>(by rw [aY] at aD;cases aD),λ_=>⟨cs,T,bF,c2,by simpa using c3,c4,λj aH=>?_⟩⟩⟩;by_cases qG:j=n
    ·subst qG;refine ⟨[cs.getD ((κ b).off+j) Go.undef],λq br=>?_,?_⟩
     ·have br:q=0:=by simpa using br
      subst br;have:(κ b).off+j<cs.size:=by
       have:=c5.2;simp only [ad.size,Nat.mul_one] at c2;omega
      simp [ad.size,this]
     ·rw [List.getElem_set_self];exact oA
    ·obtain ⟨bk,d1,d2⟩:=lE j (by simpa using aH) qG;exact ⟨bk,d1,by rw [List.getElem_set_ne (Ne.symm qG)];exact d2⟩
  ·cases h
 ·cases h
theorem ahn:∀ (ann:dq),(∀ (C:b8) (_:C.P.follows .mixedOrders=true) (_:dT C.P T) (_:jh C.P bg) (_:lQ C.P C.aP Ψ) (_:C.r=none\/ann.ee=true) {β:Type} (c:Code) (s:aB) (k:dd->aB->A β) (O:β->Prop) (Q:Exit->Act->World->Prop) (a:Act) (w:World),ld C.nt c=true->cu C s a w->A.cv (eG C.aP T bg Ψ ann c s k) O->(∀ u,C.jM u->∀ e s' a' w',cu (C.hh u) s' a' w'->A.cv (k e s') O->Q e.pg a' w')->c.wpIn (dS C.r) 0 C.P Q a w)/\(ann.ot=true->∀ (C:b8) (_:C.P.follows .mixedOrders=true) (_:dT C.P T) (_:jh C.P bg) (_:lQ C.P C.aP Ψ) (_:C.r=none\/ann.ee=true) {β:Type} (c:Code) (s:aB) (k:dd->aB->A β) (O:β->Prop) (Q:Exit->Act->World->Prop) (a:Act) (w:World),ld C.nt c=true->cu C s a w->A.cv (eG C.aP T bg Ψ ann (.loop c) s k) O->(∀ u,C.jM u->∀ e s' a' w',cu (C.hh u) s' a' w'->A.cv (k e s') O->Q e.pg a' w')->GN (dS C.r) 0 C.P c Q a w):=by
 intro ann;induction ann with
 | eM=>
  refine ⟨?_,λ_ C eh aV cz cV fO β c s k O Q a w hc U hm ao=>by unfold eG at hm;exact (gz hm).elim⟩;intro C eh aV cz cV fO β c s k O Q a w hc U hm ao;unfold eG at hm;split at hm
  ·rename_i id ops draw;cases draw with
   | true=>exact agH eh aV (Tk cz cV) cV (λo ag=>List.all_eq_true.1 hc o ag) (λs' a' w' bd fh=>ao C.hC C.vc .normal s' a' w' bd fh) U hm
   | false=>
    refine wpIn_region ?_;have:=LW (Q:=Q) (ops:=ops) aV cz cV (λo ag=>List.all_eq_true.1 hc o ag) (k:=k .normal) (O:=O) (λs' a' w' bd fh=>ao C.hC C.vc .normal s' a' w' bd fh) ops.toList 0 [] s a w (by simp) (λp ar=>by cases ar) U hm;rw [List.range_eq_range'];omega
  ·exact wpIn_skip (ao C.hC C.vc .normal s a w U hm)
  ·exact wpIn_label (ao C.hC C.vc .normal s a w U hm)
  ·exact wpIn_exit (ao C.hC C.vc (.exit _) s a w U hm)
  ·exact wpIn_ret (ao C.hC C.vc .ret s a w U hm)
  ·exact (gz hm).elim
 | seq x y ht lh=>
  have ht:=ht.1;have lh:=lh.1;refine ⟨?_,λh=>by simp [dq.ot] at h⟩;intro C eh aV cz cV fO β c s k O Q a w hc U hm ao;have lT:C.r=none\/x.ee=true:=fO.imp id λh=>by simp only [dq.ee,Bool.and_eq_true] at h;grind
  have qj:C.r=none\/y.ee=true:=fO.imp id λh=>by simp only [dq.ee,Bool.and_eq_true] at h;grind
  unfold eG at hm;split at hm
  ·rename_i nS zL;simp only [ld,Bool.and_eq_true] at hc;refine wpIn_seq (ht C eh aV cz cV lT nS s _ O _ a w hc.1 U hm λu hu e s' a' w' bd fh=>?_);cases e with
   | normal=>exact lh (C.hh u) eh aV cz cV qj zL s' k O Q a' w' hc.2 bd fh λv af=>by rw [b8.zH];exact ao _ (hu.then af)
   | exit id=>exact ao u hu (.exit id) s' a' w' bd fh
   | ret=>exact ao u hu .ret s' a' w' bd fh
  ·exact (gz hm).elim
 | join sh x y ht lh=>
  have ht:=ht.1;have lh:=lh.1;refine ⟨?_,λh=>by simp [dq.ot] at h⟩;intro C eh aV cz cV fO β c s k O Q a w hc U hm ao;have lT:C.r=none\/x.ee=true:=fO.imp id λh=>by simp only [dq.ee,Bool.and_eq_true] at h;grind
  have qj:C.r=none\/y.ee=true:=fO.imp id λh=>by simp only [dq.ee,Bool.and_eq_true] at h;grind
  unfold eG at hm;split at hm
  ·rename_i nS zL;simp only [ld,Bool.and_eq_true] at hc;rw [A.fT] at hm;refine wpIn_seq (ht C eh aV cz cV lT nS s _ _ _ a w hc.1 U hm λu hu e s' a' w' bd fh=>?_);cases e with
   | normal=>
    obtain ⟨D,nO,V⟩:=tO fh;have ah:=A.ea.1 V;exact lh (C.hh u) eh aV cz cV qj zL _ k O Q a' w' hc.2 (dH.xc nO bd) ah λv af=>by rw [b8.zH];exact ao _ (hu.then af)
   | exit id=>
    simp only [xa,A.fT,A.ea,W.bC] at fh;exact ao u hu (.exit id) s' a' w' bd fh
   | ret=>
    simp only [xa,A.fT,A.ea,W.bC] at fh;exact ao u hu .ret s' a' w' bd fh
  ·exact (gz hm).elim
 | cond x y ht lh=>
  have ht:=ht.1;have lh:=lh.1;refine ⟨?_,λh=>by simp [dq.ot] at h⟩;intro C eh aV cz cV fO β c s k O Q a w hc U hm ao;have lT:C.r=none\/x.ee=true:=fO.imp id λh=>by simp only [dq.ee,Bool.and_eq_true] at h;grind
  have qj:C.r=none\/y.ee=true:=fO.imp id λh=>by simp only [dq.ee,Bool.and_eq_true] at h;grind
  unfold eG at hm;split at hm
  ·rename_i co nS zL;simp only [ld,Bool.and_eq_true] at hc;unfold SA at hm;split at hm
   ·rename_i t hu;obtain ⟨κ,F,eU⟩:=U;have af:=j5 eU co;rw [hu] at af;refine wpIn_cond_split (fa.1 af) (λaL=>?_) (λaL=>?_)
    ·subst aL;exact ht C eh aV cz cV lT nS s k O Q a w hc.1 ⟨κ,F,eU⟩ hm ao
    ·subst aL;exact lh C eh aV cz cV qj zL s k O Q a w hc.2 ⟨κ,F,eU⟩ hm ao
   ·rename_i g t hu;rw [A.kF] at hm;obtain ⟨be,hm⟩:=hm;obtain ⟨κ,F,eU⟩:=U;have af:=j5 eU co;rw [hu] at af;refine wpIn_cond_split (fa.1 (af.1 be)) (λaL=>?_) (λaL=>?_)
    ·subst aL;exact ht C eh aV cz cV lT nS s k O Q a w hc.1 ⟨κ,F,eU⟩ hm ao
    ·subst aL;exact lh C eh aV cz cV qj zL s k O Q a w hc.2 ⟨κ,F,eU⟩ hm ao
   ·exact (gz hm).elim
  ·exact (gz hm).elim
 | block x ht=>
  have ht:=ht.1;refine ⟨?_,λh=>by simp [dq.ot] at h⟩;intro C eh aV cz cV fO β c s k O Q a w hc U hm ao;have lT:C.r=none\/x.ee=true:=fO;unfold eG at hm;split at hm
  ·rename_i id nS;refine wpIn_block (ht C eh aV cz cV lT nS s _ O _ a w hc U hm λu hu e s' a' w' bd fh=>?_);cases e with
   | normal=>exact ao u hu .normal s' a' w' bd fh
   | exit FY=>
    simp only [Sz] at fh;simp only [dd.pg,Exit.inBlock];split at fh
    ·rename_i e;rw [if_pos e];exact ao u hu .normal s' a' w' bd fh
    ·rename_i e;rw [if_neg e];exact ao u hu (.exit FY) s' a' w' bd fh
   | ret=>exact ao u hu .ret s' a' w' bd fh
  ·exact (gz hm).elim
 | loop sh x ht=>
  have ht:=ht.1;refine ⟨?_,λh=>by simp [dq.ot] at h⟩;intro C eh aV cz cV fO β c s k O Q a w hc U hm ao;have lT:C.r=none\/x.ee=true:=fO;unfold eG at hm;split at hm
  ·rename_i nS;obtain ⟨D,nO,V⟩:=tO hm;refine ahd (I:=λD a w=>∃ u,C.jM u/\cu (C.hh u) (sh.st D) a w) (O:=O) (λD a w ⟨v,af,eF⟩ qT CQ=>?_) V.1 V.2 ⟨C.hC,C.vc,dH.xc nO U⟩;refine ht (C.hh v) eh aV cz cV lT nS (sh.st D) _ (Mu (eG C.aP T bg Ψ x nS (sh.st D) (xa k λs'=>sh.mR s' λiD=>A.pure (W.next iD))) O) _ a w hc eF ⟨qT,λst gj=>?_⟩ λu hu e s' a' w' bd fh=>?_
   ·cases st with
    | next iD=>exact gj
    | done r=>exact CQ r gj
   ·cases e with
    | normal=>
     obtain ⟨iD,Mf,ah⟩:=tO fh;have a7:=A.ea.1 ah;exact ⟨iD,a7,_,af.then hu,by rw [<-b8.zH];exact dH.xc Mf bd⟩
    | exit id=>
     simp only [xa,A.fT,A.ea,Mu] at fh;exact ao _ (af.then hu) (.exit id) s' a' w' (by rw [<-b8.zH];omega) fh
    | ret=>
     simp only [xa,A.fT,A.ea,Mu] at fh;exact ao _ (af.then hu) .ret s' a' w' (by rw [<-b8.zH];omega) fh
  ·exact (gz hm).elim
 | scope x ht=>
  have ht:=ht.1;refine ⟨?_,λh=>by simp [dq.ot] at h⟩;intro C eh aV cz cV fO β c s k O Q a w hc U hm ao;have lT:C.r=none\/x.ee=true:=fO;unfold eG at hm;split at hm
  ·rename_i nS;refine ahj (ht C eh aV cz cV lT nS s _ O _ a w hc U hm λu hu e s' a' w' bd fh=>?_);have:=ao u hu e s' a' w' bd fh;cases e<;>exact this
  ·exact (gz hm).elim
 | range sh rin rout x y ht lh=>
  have ht:=ht.1;have lh:=lh.1;refine ⟨?_,λh=>by simp [dq.ot] at h⟩;intro C eh aV cz cV fO β c s k O Q a w hc U hm ao;unfold eG at hm;split at hm
  ·rename_i g ps assign body;simp only [ld,Bool.and_eq_true,List.all_eq_true,decide_eq_true_eq] at hc;obtain ⟨aw6,T8,T9⟩:=hc;split at hm
   ·rename_i q3 n eS aC;split at hm
    ·rename_i ic aho;split at hm
     ·rename_i aw7 bW aj;split at hm
      ·rename_i eb;simp only [Bool.and_eq_true] at eb;obtain ⟨eb,lT,qj⟩:=eb;obtain ⟨D,nO,V⟩:=tO hm;rw [A.kF,A.fT] at V;simp only [SB] at V;have iH:C.r=none:=fO.resolve_right λh=>by cases h
       have Mw:nN sh rout ic.aN ps.toList C.nt=true:=by
        simp only [nN,Bool.and_eq_true,List.all_eq_true,decide_eq_true_eq] at eb ⊢;grind
       refine ag_ iH U aC (cV q3 _ aho) aj Mw nO V.1 V.2 (λl=>?_) ao;intro C1 jk tm ra tA eE ca cj qg j9 kd;have h:=ht C1 (jk ▸ eh) (jk ▸ aV) (jk ▸ cz) (by grind) (.inr lT) assign eE (FZ λdO=>eG C.aP T bg Ψ y body dO λe eH=>rout.mR eH λbn=>A.pure (e,bn)) qg
        (Exit.then (λa2 c6=>∃ u dO,C1.jM u/\cu (C1.hh u) dO a2 c6/\
         ∀ (hs:b8),hs.P=C.P->hs.aP=C.aP->hs.nt=C.nt->hs.r=some l->∀ (c6:World),cu hs dO a2 c6->
          body.wpIn (dS (some l)) 0 C.P (λe a3 eV=>∃ (a8:dd) (v:nQ) (eH:aB) (bn:rout.ai),e=a8.pg/\hs.jM v/\cu (hs.hh v) eH a3 eV/\rout.iX eH=some bn/\qg (a8,bn)) a2 c6) (λ_ _ _=>False)) ca cj (ra ▸ T8) j9 (tm ▸ kd)
        λu hu e dO a2 c6 cI pj=>?_
       ·grind
       ·cases e with
        | normal=>
         refine ⟨u,dO,hu,cI,λhs xw Mx My ahp c6 ml=>?_⟩;have h:=lh hs (xw ▸ eh) (xw ▸ aV) (xw ▸ cz) (by grind) (.inr qj) body dO (λe eH=>rout.mR eH λbn=>A.pure (e,bn)) qg
          (λe a3 eV=>∃ (a8:dd) (v:nQ) (eH:aB) (bn:rout.ai),e=a8.pg/\hs.jM v/\cu (hs.hh v) eH a3 eV/\rout.iX eH=some bn/\qg (a8,bn)) a2 c6 (My ▸ T9) ml (Mx ▸ pj) λv af e eH a3 eV oB GO=>by
           obtain ⟨bn,fW,bM⟩:=tO GO;exact ⟨e,v,eH,bn,rfl,af,oB,fW,A.ea.1 bM⟩
         grind
        | exit id=>exact (gz pj).elim
        | ret=>exact (gz pj).elim
      ·exact (gz hm).elim
     ·exact (gz hm).elim
    ·exact (gz hm).elim
   ·rename_i aN S aC;split at hm
    ·rename_i eb;simp only [Bool.and_eq_true] at eb;obtain ⟨eb,lT,qj⟩:=eb;obtain ⟨D,nO,V⟩:=tO hm;rw [A.fT] at V;have iH:C.r=none:=fO.resolve_right λh=>by cases h
     have Mw:nN sh rout aN ps.toList C.nt=true:=by
      simp only [nN,Bool.and_eq_true,List.all_eq_true,decide_eq_true_eq] at eb ⊢;grind
     refine aha iH U aC Mw nO V.1 (λL iG=>by have ah:=A.fT.1 (V.2 L iG);simp only [SB] at ah;exact ah) (λl=>?_) ao;intro C1 jk tm ra tA eE ca cj qg j9 kd;have h:=ht C1 (jk ▸ eh) (jk ▸ aV) (jk ▸ cz) (by grind) (.inr lT) assign eE (FZ λdO=>eG C.aP T bg Ψ y body dO λe eH=>rout.mR eH λbn=>A.pure (e,bn)) qg
      (Exit.then (λa2 c6=>∃ u dO,C1.jM u/\cu (C1.hh u) dO a2 c6/\
       ∀ (hs:b8),hs.P=C.P->hs.aP=C.aP->hs.nt=C.nt->hs.r=some l->∀ (c6:World),cu hs dO a2 c6->
        body.wpIn (dS (some l)) 0 C.P (λe a3 eV=>∃ (a8:dd) (v:nQ) (eH:aB) (bn:rout.ai),e=a8.pg/\hs.jM v/\cu (hs.hh v) eH a3 eV/\rout.iX eH=some bn/\qg (a8,bn)) a2 c6) (λ_ _ _=>False)) ca cj (ra ▸ T8) j9 (tm ▸ kd)
      λu hu e dO a2 c6 cI pj=>?_
     ·grind
     ·cases e with
      | normal=>
       refine ⟨u,dO,hu,cI,λhs xw Mx My ahp c6 ml=>?_⟩;have h:=lh hs (xw ▸ eh) (xw ▸ aV) (xw ▸ cz) (by grind) (.inr qj) body dO (λe eH=>rout.mR eH λbn=>A.pure (e,bn)) qg
        (λe a3 eV=>∃ (a8:dd) (v:nQ) (eH:aB) (bn:rout.ai),e=a8.pg/\hs.jM v/\cu (hs.hh v) eH a3 eV/\rout.iX eH=some bn/\qg (a8,bn)) a2 c6 (My ▸ T9) ml (Mx ▸ pj) λv af e eH a3 eV oB GO=>by
         obtain ⟨bn,fW,bM⟩:=tO GO;exact ⟨e,v,eH,bn,rfl,af,oB,fW,A.ea.1 bM⟩
       grind
      | exit id=>exact (gz pj).elim
      | ret=>exact (gz pj).elim
    ·exact (gz hm).elim
   ·exact (gz hm).elim
  ·exact (gz hm).elim
 | nM x y ht lh=>
  refine ahf (λ_ C eh aV cz cV fO β c s k O Q a w hc U hm ao=>?_) λkey C eh aV cz cV fO β c s k O Q a w hc U hm ao=>?_
  ·have lT:C.r=none\/x.ee=true:=fO.imp id λh=>by simp only [dq.ee,Bool.and_eq_true] at h;grind
   have qj:C.r=none\/y.ee=true:=fO.imp id λh=>by simp only [dq.ee,Bool.and_eq_true] at h;grind
   unfold eG at hm;simp only at hm;split at hm
   ·rename_i hu;refine ahh (ht.1 C eh aV cz cV lT c s _ O _ a w hc U hm λu xf e s' a' w' bd fh=>?_);cases e with
    | normal=>exact lh.2 hu (C.hh u) eh aV cz cV qj c s' k O Q a' w' hc bd fh λv af=>by rw [b8.zH];exact ao _ (xf.then af)
    | exit id=>exact ao u xf (.exit id) s' a' w' bd fh
    | ret=>exact ao u xf .ret s' a' w' bd fh
   ·exact (gz hm).elim
  ·cases c with
   | loop nS=>exact ahg (key rfl C eh aV cz cV fO nS s k O Q a w hc U hm ao)
   | _=>unfold eG at hm;exact (gz hm).elim
 | FX=>
  refine ⟨?_,λh=>by simp [dq.ot] at h⟩;intro C eh aV cz cV fO β c s k O Q a w hc U hm ao;unfold eG at hm;split at hm
  ·rename_i id ops draw;split at hm
   ·rename_i h;rw [Bool.and_eq_true] at h;obtain ⟨rfl,h⟩:=h;exact agN eh (fO.resolve_right (by simp [dq.ee])) h aV (Tk cz cV) cV (λo ag=>List.all_eq_true.1 hc o ag) (λs' a' w' bd fh=>ao C.hC C.vc .normal s' a' w' bd fh) U hm
   ·exact (gz hm).elim
  ·exact (gz hm).elim
 | mK i x aM=>
  have aM:=aM.1;refine ⟨?_,λh=>by simp [dq.ot] at h⟩;intro C eh aV cz cV fO β c s k O Q a w hc U hm ao;unfold eG at hm;split at hm
  ·rename_i s' af;exact aM C eh aV cz cV fO c s' k O Q a w hc (ahk af U) hm ao
  ·exact (gz hm).elim
 | Cs b x aM=>
  have aM:=aM.1;refine ⟨?_,λh=>by simp [dq.ot] at h⟩;intro C eh aV cz cV fO β c s k O Q a w hc U hm ao;unfold eG at hm;split at hm
  ·rename_i s' af;exact aM C eh aV cz cV fO c s' k O Q a w hc (ahl af U) hm ao
  ·exact (gz hm).elim
 | num i n x aM=>
  have aM:=aM.1;refine ⟨?_,λh=>by simp [dq.ot] at h⟩;intro C eh aV cz cV fO β c s k O Q a w hc U hm ao;unfold eG at hm;split at hm
  ·rename_i v f af;rw [A.kF] at hm;have h:=hm.2;rw [aeq af hm.1] at h;exact aM C eh aV cz cV fO c s k O Q a w hc U h ao
  ·exact (gz hm).elim
 | split i off n x aM=>
  have aM:=aM.1;refine ⟨?_,λh=>by simp [dq.ot] at h⟩;intro C eh aV cz cV fO β c s k O Q a w hc U hm ao;unfold eG at hm;split at hm
  ·rename_i v f af;rw [A.kF] at hm;have h:=Sw hm.2 hm.1.1 hm.1.2;rw [aep af hm.1.1] at h;exact aM C eh aV cz cV fO c s k O Q a w hc U h ao
  ·exact (gz hm).elim
theorem T_ (ann:dq):∀ (C:b8) (_:C.P.follows .mixedOrders=true) (_:dT C.P T) (_:jh C.P bg) (_:lQ C.P C.aP Ψ) (_:C.r=none\/ann.ee=true) {β:Type} (c:Code) (s:aB) (k:dd->aB->A β) (O:β->Prop) (Q:Exit->Act->World->Prop) (a:Act) (w:World),ld C.nt c=true->cu C s a w->A.cv (eG C.aP T bg Ψ ann c s k) O->(∀ u,C.jM u->∀ e s' a' w',cu (C.hh u) s' a' w'->A.cv (k e s') O->Q e.pg a' w')->c.wpIn (dS C.r) 0 C.P Q a w:=(ahn ann).1
end
end Go.Fer
namespace Go.Fer
open Go.RowKit
def C_ (T:Nat->ad) (s:aB):List ResultVar->Option (List aI)
 | []=>some []
 | r::l=>match C_ T s l with
  | none=>none
  | some aE=>match r with
   | .tmp t=>some (s.az t::aE)
   | .cell a ty=>match (yM (T ty) (s.az a)).run s.ab with
    | some v=>some (v::aE)
    | none=>none
def Mz (t:ad) (n:Nat):Bool:=
 match t with
 | .aA _ _=>n != 1
 | .cQ=>n == 0
 | _=>n == 1
def vf (T:Nat->ad) (ku:List ResultVar) (aW:ad) (e:dd) (s:aB):A aW.ai:=
 match e with
 | .exit _=>A.fail
 | _=>match C_ T s ku with
  | some avs=>match (iS aW avs).run s.ab with
   | some (y,_)=>A.pure y
   | none=>A.fail
  | none=>A.fail
def zM (t:ad) (x:t.ai) (n:Nat):List (Nat×aI):=(List.range n).map λi=>(i,kp t x i)
def si (t:ad):Nat:=if t=.cQ then 0 else j3 t
def pn (t:ad) (x:t.ai):aB:=Sj (zM t x (si t)) []
def C' (aR:dE) (T:Nat->ad) (bg:Nat->Option aO) (Ψ:Nat->Option e1) (fn:Func) (c:Code) (ann:dq) (ts aW:ad) (x:ts.ai):A aW.ai:=
 eG aR T bg Ψ ann c (pn ts x) (vf T fn.results.toList aW)
def GP (av:aI):aI:=match av with | .val (.bI e) p=>.dW e (p.getD e.db) | v=>v
def Da (av:aI):Prop:=match av with | .val (.bI _) p=>p.isSome=true | _=>True
def GQ (n:Nat) (s:aB):aB:=⟨λi=>if i<n\/eP<i then s.az i else GP (s.az i),s.ab⟩
def Db (n:Nat) (s:aB):Prop:=∀ i,¬(i<n\/eP<i)->Da (s.az i)
def ahq (aR:dE) (T:Nat->ad) (bg:Nat->Option aO) (Ψ:Nat->Option e1) (fn:Func) (c:Code) (ann:dq) (n:Nat) (ts aW:ad) (x:ts.ai):A aW.ai:=
 A.ae (Db n (pn ts x)) (eG aR T bg Ψ ann c (GQ n (pn ts x)) (vf T fn.results.toList aW))
def Dc (fn:Func) (c:Code) (ts aW:ad):Bool:=
 ld fn.ntmps c && Mz aW fn.results.size && decide (si ts <= fn.ntmps) && !(fn.name == "runtime.NumGoroutine") && decide (fn.ntmps <= eP)
def zN:z9'->List aI->Option (List aI)
 | [],[]=>some []
 | none::g,v::aE=>match zN g aE with
  | some l=>some (v::l)
  | none=>none
 | some n::g,v::aE=>match v,zN g aE with
  | .agg m f,some l=>if m=n then some ((List.range n).map f++l) else none
  | _,_=>none
 | _,_=>none
def GR (T:Nat->ad) (ku:List ResultVar) (kx:z9') (bR:dH) (e:dd) (s:aB):A bR.ai:=
 match e with
 | .exit _=>A.fail
 | _=>match C_ T s ku with
  | some avs=>match zN kx avs with
   | some l=>match decide (l.length<=eP) with
    | true=>bR.mR (r2 s l) λbn=>A.pure bn
    | false=>A.fail
   | none=>A.fail
  | none=>A.fail
def MA (aR:dE) (T:Nat->ad) (bg:Nat->Option aO) (Ψ:Nat->Option e1) (fn:Func) (c:Code) (ann:dq) (ck bR:dH) (kx:z9') (D:ck.ai):A bR.ai:=
 eG aR T bg Ψ ann c (ck.st D) (GR T fn.results.toList kx bR)
def Dd (fn:Func) (c:Code) (ka:Nat) (kx:z9'):Bool:=
 ld fn.ntmps c && decide (fn.results.size = kx.length) && decide (ka <= fn.ntmps) && !(fn.name == "runtime.NumGoroutine") && decide (fn.ntmps <= eP)
section
variable {C:b8} {T:Nat->ad} {bg:Nat->Option aO} {Ψ:Nat->Option e1}
def zO (tmps:Array Value) (r:ResultVar):Sem Value:=
 match r with
 | .tmp t=>pure (tmps.getD t undef)
 | .cell b t=>do loadVar t (<-asAddr (tmps.getD b undef))
theorem T' (fn:Func) (tmps:Array Value):results fn tmps=(fn.results.mapM (zO tmps) >>= λaE=>pure (if h:aE.size=1 then aE[0] else .tuple aE)):=by
 rfl
theorem Ua (aV:dT C.P T) {s:aB} {a:Act} {w:World} {κ:Nat->bD} {F:Nat->Prop} (U:bm C s a w κ F):∀ (ku:List ResultVar) {avs:List aI},C_ T s ku=some avs->
  ∃ aE:List Value,(ku.mapM (zO a.tmps)).run C.P w=.ok aE w/\aE.length=ku.length/\avs.length=ku.length/\
   ∀ i (h:i<avs.length) (ds:i<aE.length),bA C.P s.ab κ F w avs[i] aE[i]:=by
 intro ku;induction ku with
 | nil=>intro avs h;cases h;simp
 | cons r ku aM=>
  intro avs h;simp only [C_] at h;split at h
  ·cases h
  ·rename_i l ak;obtain ⟨aE,G,V,ah,a7⟩:=aM ak;have one:∃ av v,avs=av::l/\(zO a.tmps r).run C.P w=.ok v w/\bA C.P s.ab κ F w av v:=by
    split at h
    ·rename_i t;cases h;exact ⟨_,_,rfl,rfl,U.bT t⟩
    ·rename_i b ty;split at h
     ·rename_i v af;cases h;obtain ⟨u,aU,aX⟩:=Rk aV U af (U.bT b);refine ⟨v,u,rfl,?_,aX⟩;unfold Instr.loadAt at aU;unfold zO;simp only;generalize a.tmps.getD b Go.undef=z at aU ⊢;cases z with
      | pointer p=>
       cases p with
       | none=>simp [Instr.sureAddr] at aU
       | some p=>simpa [Instr.sureAddr,asAddr] using aU
      | _=>simp [Instr.sureAddr] at aU
     grind
   obtain ⟨av,v,rfl,aU,aX⟩:=one;refine ⟨v::aE,?_,by grind,by grind,λi M dM=>?_⟩
   ·simp_all
   grind
theorem ahr (aV:dT C.P T) {fn:Func} {aW:ad} (rb:Mz aW fn.results.size=true) {e:dd} {s:aB} {a:Act} {w:World} {O:aW.ai->Prop} (U:cu C s a w) (hm:A.cv (vf T fn.results.toList aW e s) O) :
  (∀ id,e≠.exit id)/\∃ κ F v y,bm C s a w κ F/\(results fn a.tmps).run C.P w=.ok v w/\O y/\∃ F',(∀ r,F' r->C.F0 r\/¬C.K0 r)/\(∀ r,F' r->r<w.heap.size)/\ta C.P aW F' w v y:=by
 obtain ⟨κ,F,U⟩:=U;unfold vf at hm;split at hm
 ·exact (gz hm).elim
 ·rename_i ez;refine ⟨λid he=>ez id he,?_⟩;split at hm
  ·rename_i avs MB;split at hm
   ·rename_i y l aS;obtain ⟨aE,G,V,ah,a7⟩:=Ua aV U _ MB;obtain ⟨F',f1,bd,f2⟩:=bm.k6 (p6 _ aS) U;have dY:=uX (F':=F') U.bE f1 aW aS f2 (by omega) a7;have c1:(results fn a.tmps).run C.P w=.ok (if h:aE.toArray.size=1 then aE.toArray[0] else .tuple aE.toArray) w:=by
     rw [T',Sem.run_bind];have:(fn.results.mapM (zO a.tmps)).run C.P w=.ok aE.toArray w:=by
      rw [Array.mapM_eq_mapM_toList,map_eq_pure_bind,Sem.run_bind,G];rfl
     simp_all
    refine ⟨κ,F,_,y,U,c1,A.ea.1 hm,F',bd.ha,bd.c_,aE,?_,dY⟩;have cb:aE.length=fn.results.size:=by omega
    rw [<-cb] at rb;clear c1 dY G a7 V cb aS;have one:aE.length=1->aE=[if h:aE.toArray.size=1 then aE.toArray[0] else .tuple aE.toArray]:=by
     intro h;match aE,h with
     | [v],_=>rfl
    cases aW<;>simp only [Mz,beq_iff_eq,bne_iff_ne,ne_eq] at rb<;>simp only [yB];case aA=>rw [dif_neg (by simpa using rb)]
    case cQ=>
     have:aE=[]:=List.length_eq_zero_iff.1 rb;subst this;exact ⟨rfl,rfl⟩
    all_goals exact one rb
   ·exact (gz hm).elim
  ·exact (gz hm).elim
theorem Ub {l:List (Nat×aI)} {i:Nat}:fo l i=.undef\/(i,fo l i)∈l:=by
 induction l with
 | nil=>exact .inl rfl
 | cons p l aM=>
  simp only [fo];grind
theorem tS {P : Program} {k : FuncId} {fn : Func} {c : Code} (aw : P.funcs[k]? = some fn) (aa : fn.body = some c) (aD : (fn.name == "runtime.NumGoroutine") = false) (args : Array Value) (w : World) :
  (callFunc k args).run P w=.ok (.enter k args) w:=by
 have aD : ¬ fn.name = "runtime.NumGoroutine" := by grind
 simp [callFunc,aw,aa,aD]
def po (w:World):List Nat->World
 | []=>w
 | B::ms=>po (w.putObj B (.deferred none)) ms
theorem Uc:∀ (ms:List Nat) (w:World),(po w ms).heap.size=w.heap.size
 | [],_=>rfl
 | _::ms,_=>(Uc ms _).trans World.putObj_size
theorem MC:∀ (ms:List Nat) (w:World) {r:Nat},r ∉ ms->(po w ms).heap[r]?=w.heap[r]?
 | [],_,_,_=>rfl
 | B::ms,w,r,h=>by
  simp only [List.mem_cons,not_or] at h;exact (MC ms _ h.2).trans (World.putObj_heap_other h.1)
theorem Ud:∀ (ms:List Nat) (w:World),da w (po w ms)
 | [],w=>da.refl w
 | B::ms,w=>by
  have h:da w (w.putObj B (.deferred none)):=⟨rfl,rfl,rfl⟩
  exact h.trans (Ud ms _)
theorem MD {P:Program} {fn:Func} {tmps:Array Value} {R:Ending->World->Prop}:∀ (ms:List Nat) (w:World),ms.Nodup->(∀ B∈ms,w.heap[B]?=some (.deferred (some [])))->
  (∃ v,(results fn tmps).run P (po w ms)=.ok v (po w ms)/\R (.returned v) (po w ms))->LeavesInM Fence.wide 0 P fn tmps R (ms.map oz) .returning w
 | [],w,_,_,h=>h
 | B::ms,w,aD,aT,h=>by
  simp only [List.nodup_cons] at aD;refine ⟨by simp,.inl ⟨B,_,rfl,run_takeDeferred (aT B (by simp)),?_⟩⟩;exact MD ms _ aD.2 (λahs ds=>(World.putObj_heap_other λe=>aD.1 (by grind)).trans (aT ahs (List.mem_cons_of_mem _ ds))) h
theorem cu.Ue {u:nQ} {s:aB} {a:Act} {w:World} (hu:C.jM u) (aht:∀ r,C.F0 r->r<C.w0.heap.size) (u9:∀ r,C.K0 r->r<C.w0.heap.size) (h:cu (C.hh u) s a w) :
  cu { C with dfr:=u.ms.map oz++C.dfr } s a (po w u.ms)/\a.defers=u.ms.map oz++C.dfr/\∀ B∈u.ms,w.heap[B]?=some (.deferred (some [])):=by
 obtain ⟨κ,F,h⟩:=h;have aw8:∀ B∈u.ms,¬F B:=λB aT aw=>by
  obtain ⟨G,_⟩:=hu.se B aT;rcases h.ha B aw with V | V
  ·have:=aht B V;have:=(hu.ew B aT).2;omega
  ·exact V G
 have cb:=Uc u.ms w;have hc:=Ud u.ms w;refine ⟨⟨κ,F,h.GB (w0:=C.w0) (w':=po w u.ms) (K0:=C.K0) (r:=C.r) (λr U=>hu.hi r U) (λr U=>MC _ _ λhm=>?_) (Nat.le_of_eq cb.symm) hc u9 (λr U=>?_) ?_ ?_⟩,h.dfr,λB aT=>?_⟩
 ·rcases U with U | U
  ·grind
  ·exact U (hu.se r hm).1
 ·exact (MC _ _ λhm=>(hu.ew r hm).1 U).trans ((h.eD r (hu.hi r U)).trans (hu.eD r U))
 ·rw [cb];exact Nat.le_trans hu.size h.size
 ·exact (hu.en.trans h.en).trans hc
 ·exact (h.eD B (hu.se B aT).1).trans (hu.se B aT).2
theorem Uf {P:Program} {aR:dE} (eh:P.follows .mixedOrders=true) {k:FuncId} {fn:Func} {c:Code} {ann:dq} {ts aW:ad} {sh:ts.ai->A aW.ai} (aV:dT P T) (h9:qF P aR) (cz:jh P bg) (cV:lQ P aR Ψ) (aw:P.funcs[k]?=some fn) (aa:fn.body=some c)
    (cH:Dc fn c ts aW=true) {s0:ts.ai->aB} {pre:ts.ai->Prop} (mU:∀ x C a w,cu C (pn ts x) a w->pre x->cu C (s0 x) a w)
    (ny:∀ x,A.le (A.ae (pre x) (eG aR T bg Ψ ann c (s0 x) (vf T fn.results.toList aW))) (sh x)):h0 P k ts aW sh:=by
  simp only [Dc,Bool.and_eq_true,Bool.not_eq_true',decide_eq_true_eq] at cH;obtain ⟨⟨⟨⟨De,rb⟩,ahu⟩,ME⟩,tL⟩:=cH;refine ⟨tS aw aa ME,λF w args x bo gf dY qT=>?_⟩;obtain ⟨⟨gG,G⟩,V⟩:=ny x qT;have hlen:args.length=si ts/\∀ i,i<si ts->∀ (H:Nat->bL) (κ:Nat->bD),bA P H κ F w (kp ts x i) (args.getD i Go.undef):=by
    unfold si;split
    · rename_i e
      subst e
      have:args=[]:=dY.1
      grind
    · rename_i e
      exact ⟨(tr (H:=λ_=>⟨0,.fw⟩) (κ:=λ_=>⟨0,0,0,false⟩) ts dY e).1,λi M H κ=>(tr ts dY e).2 i M⟩
  let C:b8:={ P:=P,w0:=w,F0:=F,K0:=λr=>r<w.heap.size,nt:=fn.ntmps,r:=none,dfr:=[],ib:=λ_=>none,b':=⟨0,.cQ,λ_=>False,λ_ _ _ _ _=>False⟩,aP:=aR }
  let a0:Act:={ tmps:=args.toArray++Array.replicate (fn.ntmps - args.toArray.size) undef,defers:=[] }
  let ahv:Nat->bD:=λ_=>⟨0,0,0,false⟩
  have qd:∀ i,(pn ts x).az i=.undef\/(i<si ts/\(pn ts x).az i=kp ts x i):=λi=>by
    rcases Ub (l:=zM ts x (si ts)) (i:=i) with e | e
    · exact .inl e
    · refine .inr ?_
      generalize bl:fo (zM ts x (si ts)) i=z at e
      simp only [zM,List.mem_map,List.mem_range,Prod.mk.injEq] at e
      obtain ⟨j,aH,rfl,rfl⟩:=e
      exact ⟨aH,bl⟩
  have U:cu C (pn ts x) a0 w:=by
    refine ⟨ahv, F, { dF := ?_, dfr := rfl, bT := λi => ?_, bE := λb => trivial, an := λb aa => (by cases aa), inj := λb bf aa _ _ => (by cases aa), c_ := bo, ha := λr U => .inl U, hN := λr U => U, hq := λr U => U, eD := λr _ => rfl, size := Nat.le_refl _, en := da.refl w,ga:=tL,kk:=λb r h=>(by cases h),jA:=λb r h=>(by cases h),j1:=λb k h=>(by cases h),kl:=λb k h=>(by cases h),eK:=λl aN L n st e=>?_,jB:=h9,iv:=gf }⟩
    · grind
    · rcases qd i with e | ⟨M,e⟩
      · rw [e];simp only [bA]
      · rw [e]
        have:a0.tmps.getD i Go.undef=args.getD i Go.undef:=by
          have dM:i<args.length:=by omega
          simp [a0,Array.getD_eq_getD_getElem?,List.getD_eq_getElem?_getD,Array.getElem?_append,dM]
        grind
    · rcases qd b5 with h | ⟨h,_⟩
      · grind
      · unfold b5 eP at *;omega
  refine callsIn_wide.1 (callsIn_of_wp_marks (F:=Fence.wide) (n:=0) aw aa trivial ?_);have hw:=T_ ann C eh aV cz cV (.inl rfl) (k:=vf T fn.results.toList aW) (O:=(eG aR T bg Ψ ann c (s0 x) (vf T fn.results.toList aW)).bR) (Q:=bodyPostM Fence.wide 0 P fn λe w'=>∃ v y,e=.returned v/\(sh x).bR y/\ta P aW (uG F w w') w' v y/\Below w.heap.size w w') c (s0 x) a0 w De (mU x C a0 w U gG) ⟨G,λ_ h=>h⟩;refine hw λu hu e s' a' w' bd hm=>?_;obtain ⟨cI,ay,aT⟩:=cu.Ue hu bo (λ_ h=>h) bd;obtain ⟨ez,κ,zC,v,y,eU,c1,aS,F',f1,f2,gg⟩:=ahr (C:={ C with dfr:=u.ms.map oz++C.dfr }) aV rb cI hm;have tE:LeavesInM Fence.wide 0 P fn a'.tmps (λe w'=>∃ v y,e=.returned v/\(sh x).bR y/\ta P aW (uG F w w') w' v y/\Below w.heap.size w w') a'.defers .returning w':=by
    rw [ay];simp only [C,List.append_nil];refine MD u.ms w' hu.mj aT ⟨v,c1,v,y,rfl,V y aS,?_,eU.en.os,eU.en.tape,eU.en.output,eU.size,eU.eD⟩;obtain ⟨aE,aU,aX,bP⟩:=gg;refine ⟨aE,aU,aX,e' aW (λr U=>?_) (cZ.refl _ _) bP⟩;rcases f1 r U with h | h
    · exact .inl h
    · exact .inr ⟨Nat.le_of_not_lt h,f2 r U⟩
  cases e with
  | normal=>exact tE
  | exit id=>grind
  | ret=>exact tE
theorem ahw {P:Program} {aR:dE} (eh:P.follows .mixedOrders=true) {k:FuncId} {fn:Func} {c:Code} {ann:dq} {ts aW:ad} {sh:ts.ai->A aW.ai} (aV:dT P T) (h9:qF P aR) (cz:jh P bg) (cV:lQ P aR Ψ) (aw:P.funcs[k]?=some fn) (aa:fn.body=some c)
  (cH:Dc fn c ts aW=true) (ny:∀ x,A.le (C' aR T bg Ψ fn c ann ts aW x) (sh x)):h0 P k ts aW sh:=
 Uf eh aV h9 cz cV aw aa cH (ann:=ann) (s0:=pn ts) (pre:=λ_=>True) (λ_ _ _ _ h _=>h) λx aG=>⟨⟨trivial,(ny x aG).1⟩,(ny x aG).2⟩
theorem ahx {C:b8} {s:aB} {a:Act} {w:World} {n:Nat} (h:cu C s a w) (hc:Db n s):cu C (GQ n s) a w:=by
 obtain ⟨κ,F,U⟩:=h;refine ⟨κ,F,{ U with bT:=λi=>?_,dF:=U.dF,dfr:=U.dfr,bE:=U.bE,eK:=λl aN L m st e=>?_ }⟩
 ·show bA C.P s.ab κ F w (if i<n\/eP<i then s.az i else GP (s.az i)) _;split
  ·exact U.bT i
  ·rename_i M;have af:=U.bT i;have ar:=hc i M;unfold GP;unfold Da at ar;split
   ·rename_i e p he;rw [he] at af ar;have ar:p.isSome=true:=ar;obtain ⟨_,af⟩:=(dV rfl).1 af;simp only [bK] at af;rcases af with ⟨_,rfl⟩ | ⟨q,y,bk,br,rfl,aU,aX⟩
    ·cases ar
    ·exact ⟨q,bk,(List.cons.inj br).1,aU,aX⟩
   omega
 ·have e:(if b5<n\/eP<b5 then s.az b5 else GP (s.az b5))=.aW l aN L m st:=e;rw [if_pos (.inr (by decide))] at e;exact U.eK l aN L m st e
theorem ahy {P:Program} {aR:dE} (eh:P.follows .mixedOrders=true) {k:FuncId} {fn:Func} {c:Code} {ann:dq} {n:Nat} {ts aW:ad} {sh:ts.ai->A aW.ai} (aV:dT P T) (h9:qF P aR) (cz:jh P bg) (cV:lQ P aR Ψ) (aw:P.funcs[k]?=some fn) (aa:fn.body=some c)
  (cH:Dc fn c ts aW=true) (ny:∀ x,A.le (ahq aR T bg Ψ fn c ann n ts aW x) (sh x)):h0 P k ts aW sh:=
 Uf eh aV h9 cz cV aw aa cH (ann:=ann) (s0:=λx=>GQ n (pn ts x)) (pre:=λx=>Db n (pn ts x)) (λ_ _ _ _ h ar=>ahx h ar) ny
theorem MF {H:Nat->bL} {κ:Nat->bD} {F:Nat->Prop} {w:World} {P:Program}:∀ (g:z9') {avs l:List aI} {us:List Value},zN g avs=some l->avs.length=us.length->(∀ i (h:i<avs.length) (ds:i<us.length),bA P H κ F w avs[i] us[i])->
  ∃ aE:List Value,Cy g us aE/\l.length=aE.length/\∀ i,i<aE.length->bA P H κ F w (l.getD i .undef) (aE.getD i undef)
 | [],[],l,us,h,ak,_=>by
  cases h;have:us=[]:=List.eq_nil_of_length_eq_zero ak.symm;subst this;exact ⟨[],rfl,rfl,λi M=>by cases M⟩
 | [],_::_,_,_,h,_,_=>by cases h
 | none::_,[],_,_,h,_,_=>by cases h
 | some _::_,[],_,_,h,_,_=>by cases h
 | none::g,av::avs,l,[],_,ak,_=>by cases ak
 | some n::g,av::avs,l,[],_,ak,_=>by cases ak
 | none::g,av::avs,l,u::us,h,ak,af=>by
  simp only [zN] at h;split at h
  ·rename_i dG GJ;cases h;obtain ⟨aE,G,V,ah⟩:=MF g GJ (by grind) λi h ds=>af (i+1) (Nat.succ_lt_succ h) (Nat.succ_lt_succ ds);refine ⟨u::aE,⟨aE,rfl,G⟩,by grind,λi M=>?_⟩;cases i with
   | zero=>exact af 0 (Nat.zero_lt_succ _) (Nat.zero_lt_succ _)
   | succ i=>grind
  grind
 | some n::g,av::avs,l,u::us,h,ak,af=>by
  simp only [zN] at h;split at h
  ·rename_i m f dG GJ;split at h
   ·rename_i RZ;cases h;subst RZ;obtain ⟨aE,G,V,ah⟩:=MF g GJ (by grind) λi h ds=>af (i+1) (Nat.succ_lt_succ h) (Nat.succ_lt_succ ds);obtain ⟨cs,aU,aX,bP⟩:bA P H κ F w (.agg m f) u:=af 0 (Nat.zero_lt_succ _) (Nat.zero_lt_succ _);refine ⟨cs++aE,⟨cs.toArray,aE,aU,by omega,λc hc=>?_,by simp,G⟩,by grind,λi M=>?_⟩
    ·obtain ⟨j,aH,rfl⟩:=List.mem_iff_getElem.1 (by omega:c∈cs);grind
    grind
   grind
  grind
def ahz (P:Program) (aR:dE) (T:Nat->ad) (fn:Func) (c:Code) (ic:cG):Prop:=
 ∀ (C:b8) (D:ic.ck.ai) (Q:Exit->Act->World->Prop) (a:Act) (w:World),C.P=P->C.aP=aR->C.nt=fn.ntmps->C.r=none->C.dfr=[]->ld C.nt c=true->cu C (ic.ck.st D) a w->(ic.sh D).cr->
  (∀ u,C.jM u->∀ e s' a' w',cu (C.hh u) s' a' w'->A.cv (GR T fn.results.toList ic.kx ic.bR e s') (ic.sh D).bR->Q e.pg a' w')->c.wpIn (dS C.r) 0 C.P Q a w
theorem ahA {P:Program} {aR:dE} {k:FuncId} {fn:Func} {c:Code} {ic:cG} (aV:dT P T) (aw:P.funcs[k]?=some fn) (aa:fn.body=some c)
  (cH:Dd fn c ic.ka ic.kx=true) (ahB:ahz P aR T fn c ic):cO P aR k ic:=by
 simp only [Dd,Bool.and_eq_true,Bool.not_eq_true',decide_eq_true_eq] at cH;obtain ⟨⟨⟨⟨De,rb⟩,ahu⟩,ME⟩,tL⟩:=cH;refine ⟨tS aw aa ME,λC a w κ F D jk zP iH q6 r0 h9 U qT=>?_⟩;subst jk;subst zP;subst h9;have aw9:a.tmps.size=ic.ka:=U.dF.trans r0;have eT:∀ i,(a.tmps++Array.replicate (fn.ntmps - a.tmps.size) undef).getD i undef=a.tmps.getD i undef:=λi=>by
  simp only [Array.getD_eq_getD_getElem?,Array.getElem?_append];grind
 have bd:bm { C with nt:=fn.ntmps,dfr:=[],r:=none } (ic.ck.st D) { tmps:=a.tmps++Array.replicate (fn.ntmps - a.tmps.size) undef,defers:=[] } C.w0 κ F:=
  { U with dF:=(by grind),dfr:=rfl,ga:=tL,bT:=λi=>(by rw [eT];exact U.bT i),bE:=U.bE }
 refine callsIn_wide.1 (callsIn_of_wp_marks (F:=Fence.wide) (n:=0) aw aa trivial ?_);refine ahB { C with nt:=fn.ntmps,dfr:=[],r:=none } D _ _ C.w0 rfl rfl rfl rfl rfl De ⟨κ,F,bd⟩ qT λu hu e s' a' w' bd hm=>?_;obtain ⟨⟨mT,eg,cI⟩,ay,aT⟩:=cu.Ue hu (λr h=>U.c_ r (U.hN r h)) U.hq bd;have key:(∀ id,e≠.exit id)/\LeavesInM Fence.wide 0 C.P fn a'.tmps (λe w'=>∃ v bn aE κ' F',e=.returned v/\(ic.sh D).bR bn/\F6 ic.kx v aE/\bm { C with nt:=aE.length } (ic.bR.st bn) { tmps:=aE.toArray,defers:=[] } w' κ' F') a'.defers .returning w':=by
  unfold GR at hm;split at hm
  ·exact (gz hm).elim
  ·rename_i ez;refine ⟨λid he=>ez id he,?_⟩;split at hm
   ·rename_i avs MB;split at hm
    ·rename_i l ak;split at hm
     ·rename_i ch;have ch:l.length<=eP:=of_decide_eq_true ch;obtain ⟨us,aU,aX,bP,gx⟩:=Ua (C:={ C with nt:=fn.ntmps,dfr:=u.ms.map oz++[],r:=none }) aV cI _ MB;obtain ⟨aE,g1,eo,g3⟩:=MF ic.kx ak (by omega) gx;obtain ⟨bn,fW,bM⟩:=tO hm;have ba:=cI.args (avs:=l) (us:=aE) (by omega) eo g3;obtain ⟨GG,TW,_,ml⟩:=dH.zv fW ba;rw [ay];simp only [List.append_nil];have c1:(results fn a'.tmps).run C.P (po w' u.ms)=.ok (if us.length=1 then us.getD 0 undef else .tuple us.toArray) (po w' u.ms):=by
       rw [T',Sem.run_bind];have:(fn.results.mapM (zO a'.tmps)).run C.P (po w' u.ms)=.ok us.toArray (po w' u.ms):=by
        rw [Array.mapM_eq_mapM_toList,map_eq_pure_bind,Sem.run_bind,aU];rfl
       rw [this];simp only [Result.andThen_ok,Sem.run_pure,List.size_toArray];grind
      refine MD u.ms w' hu.mj aT ⟨_,c1,_,bn,aE,GG,TW,rfl,A.ea.1 bM,⟨us,?_,rfl,g1⟩,?_⟩
      ·rw [aX];simpa using rb
      ·have e:({ C with nt:=aE.length }:b8)={ C with nt:=aE.length,dfr:=[],r:=none }:=by
        cases C;simp only at iH q6;subst iH;subst q6;rfl
       rw [e];exact ml
     ·exact (gz hm).elim
    ·exact (gz hm).elim
   ·exact (gz hm).elim
 cases e with
 | normal=>exact key.2
 | exit id=>grind
 | ret=>exact key.2
theorem Ug {P:Program} {aR:dE} (eh:P.follows .mixedOrders=true) {k:FuncId} {fn:Func} {c:Code} {ann:dq} {ic:cG} (aV:dT P T) (cz:jh P bg) (cV:lQ P aR Ψ) (aw:P.funcs[k]?=some fn) (aa:fn.body=some c)
  (cH:Dd fn c ic.ka ic.kx=true) (ny:∀ D,A.le (MA aR T bg Ψ fn c ann ic.ck ic.bR ic.kx D) (ic.sh D)):cO P aR k ic:=
 ahA aV aw aa cH λC D Q a w jk h9 _ iH _ De U qT ao=>by
  subst jk;subst h9;obtain ⟨G,V⟩:=ny D qT;exact T_ ann C eh aV cz cV (.inl iH) c (ic.ck.st D) (GR T fn.results.toList ic.kx ic.bR) (MA C.aP T bg Ψ fn c ann ic.ck ic.bR ic.kx D).bR Q a w De U ⟨G,λ_ h=>h⟩ λu hu e s' a' w' bd hm=>ao u hu e s' a' w' bd ⟨hm.1,λy aS=>V y (hm.2 y aS)⟩
end
def re:List (Nat×ad)->Nat->ad
 | [],_=>.cQ
 | p::l,i=>if i=p.1 then p.2 else re l i
def Uh (P:Program) (l:List (Nat×ad)):Bool:=l.all λp=>cC P p.2 (.inl p.1)
theorem ahC {P:Program} {l:List (Nat×ad)} (h:Uh P l=true):dT P (re l):=by
 intro id;induction l with
 | nil=>exact .inl rfl
 | cons p l aM=>
  simp only [Uh,List.all_cons,Bool.and_eq_true] at h;simp only [re];split
  ·rename_i e;subst e;exact .inr h.1
  ·exact aM h.2
end Go.Fer
namespace Go.Fer
open Go.RowKit
theorem Ui {P:Program} {aR:dE} {k:FuncId} {c:cG} (h:cO P aR k c) (h9:qF P aR) {ic:zl} (mk:ic.ts.ai->Nat->(List ic.aN.ai->Prop)->c.ck.ai) (aD:c.ka=j3 ic.ts+1) (hU:c.ka<=eP) (tK:ic.ts≠.cQ)
    (fi:∀ x l L i,(c.ck.st (mk x l L)).az i=.undef\/(i<j3 ic.ts/\(c.ck.st (mk x l L)).az i=kp ic.ts x i)\/(i=j3 ic.ts/\(c.ck.st (mk x l L)).az i=.g_ l)\/(i=b5/\(c.ck.st (mk x l L)).az i=.aW l ic.aN L [] false))
    (iz:c.ck.bE=[]) (qi:∀ bn,∃ n st l L,(c.bR.st bn).az b5=.aW l ic.aN L n st)
    (rS:∀ x l,ic.pre x->(c.sh (mk x l (λT=>T=ic.seq x))).cr/\∀ bn,(c.sh (mk x l (λT=>T=ic.seq x))).bR bn->∀ dG e2 n,(c.bR.st bn).az b5=.aW dG ic.aN e2 n false->n=ic.seq x):CG P k ic:=by
  refine ⟨h.enter,λl I F Y w args x dY gG cH bo gf iA eF=>?_⟩;obtain ⟨iw,GD⟩:=tr (H:=λ_=>⟨0,.fw⟩) (κ:=λ_=>⟨0,0,0,false⟩) ic.ts dY tK;have tT:∀ b,(c.ck.st (mk x l (λT=>T=ic.seq x))).ab b=⟨0,.fw⟩:=λb=>by
    show eO (hg c7 c.ck.bE (eA c7 c.ck.bT (mk x l (λT=>T=ic.seq x))).2) b=_;generalize (eA c7 c.ck.bT (mk x l (λT=>T=ic.seq x))).2=z;revert z;rw [iz];intro z;rfl
  have cb:(args++[Value.func (.yield l) #[] #[]]).length=c.ka:=by grind
  have U:bm { P:=P,w0:=w,F0:=F,K0:=λr=>r<w.heap.size/\¬Y r,nt:=c.ka,r:=none,dfr:=[],ib:=λ_=>none,b':=⟨l,ic.aN,λT=>T=ic.seq x,I⟩,aP:=aR } (c.ck.st (mk x l (λT=>T=ic.seq x)))
      { tmps:=(args++[Value.func (.yield l) #[] #[]]).toArray,defers:=[] } w (λ_=>⟨0,0,0,false⟩) F:=
    { dF := by omega
      dfr:=rfl
      bT:=λi=>by
        rcases fi x l (λT=>T=ic.seq x) i with e | ⟨M,e⟩ | ⟨M,e⟩ | ⟨M,e⟩
        · rw [e];trivial
        · rw [e]
          have:=(tr (H:=(c.ck.st (mk x l (λT=>T=ic.seq x))).ab) (κ:=λ_=>⟨0,0,0,false⟩) ic.ts dY tK).2 i M
          have bB:(args++[Value.func (.yield l) #[] #[]]).toArray.getD i undef=args.getD i undef:=by
            rw [Array.getD_eq_getD_getElem?,List.getD_eq_getElem?_getD,List.getElem?_toArray,List.getElem?_append_left (by omega)]
          grind
        · rw [e]
          show (args++[Value.func (.yield l) #[] #[]]).toArray.getD i undef=_
          simp_all
        · rw [e];trivial
      bE:=λb=>by unfold cB;rw [tT b];trivial
      an:=λb aa=>by rw [tT b] at aa;cases aa
      inj:=λb bf aa _ _=>by rw [tT b] at aa;cases aa
      c_:=bo
      ha:=λr U=>.inl U
      hN:=λr U=>U
      hq:=λr U=>U.1
      eD:=λ_ _=>rfl
      size:=Nat.le_refl _
      en:=da.refl _
      ga:=hU
      kk:=λb r h=>by cases h
      jA:=λb r h=>by cases h
      j1:=λb k h=>by cases h
      kl:=λb k h=>by cases h
      eK:=λdG kv e2 n st e=>by
        rcases fi x l (λT=>T=ic.seq x) b5 with a8 | ⟨M,_⟩ | ⟨M,_⟩ | ⟨_,a8⟩
        · grind
        · unfold b5 eP at *;omega
        · grind
        · rw [a8] at e
          cases e
          exact ⟨⟨I,rfl⟩,cH,Y,λr U=>⟨(iA r U).1,(iA r U).2,λk=>k.2 U⟩,λb aa=>(by rw [tT b] at aa;cases aa),lB.yD.2 eF⟩
      jB:=h9,iv:=gf }
  obtain ⟨aG,tE⟩:=rS x l gG;refine (h.iO _ _ w _ F _ rfl rfl rfl rfl rfl rfl U aG).mono λe w' ⟨v,bn,aE,κ',F',he,fW,_,bd⟩=>?_;obtain ⟨n,st,dG,e2,qd⟩:=qi bn;obtain ⟨⟨ahD,MG⟩,_,gr,ah,a7,MH⟩:=bd.eK dG ic.aN e2 n st qd;refine ⟨v,n,st,F',gr,he,λgj=>?_,lB.yD.1 MH,bd.hN,λr cI=>?_,bd.c_,λr G V=>bd.eD r ⟨G,V⟩,λr cI=>⟨?_,(ah r cI).1,(ah r cI).2.1⟩,bd.size,bd.en⟩
  · grind
  · rcases bd.ha r cI with h | h
    · exact .inl h
    · by_cases aS:Y r
      · exact .inr (.inl aS)
      · exact .inr (.inr (Nat.le_of_not_lt λch=>h ⟨ch,aS⟩))
  grind
theorem MI {P:Program} {aR:dE} {k:FuncId} {c:cG} (h:cO P aR k c) (h9:qF P aR) {cs:List ad} {aN:ad} {S:(f_ (cs.map .bI)).ai->List aN.ai->Prop} (mk:(f_ (cs.map .bI)).ai->Nat->(List aN.ai->Prop)->c.ck.ai)
    (aD:c.ka=j3 (f_ (cs.map .bI))+1) (hU:c.ka<=eP) (tK:f_ (cs.map .bI)≠.cQ)
    (fi:∀ x l L i,(∃ T,S x T)->(c.ck.st (mk x l L)).az i=.undef\/(i<j3 (f_ (cs.map .bI))+1/\0<i/\∃ e y,(c.ck.st (mk x l L)).az i=.dW e y/\kp (f_ (cs.map .bI)) x (i - 1)=.val (.bI e) (some y))\/(i=0/\(c.ck.st (mk x l L)).az i=.g_ l)\/(i=b5/\(c.ck.st (mk x l L)).az i=.aW l aN L [] false))
    (iz:c.ck.bE=[]) (qi:∀ bn,∃ n st l L,(c.bR.st bn).az b5=.aW l aN L n st)
    (rS:∀ x l,(∃ L,S x L)->(c.sh (mk x l (S x))).cr/\∀ bn,(c.sh (mk x l (S x))).bR bn->∀ dG e2 p,(c.bR.st bn).az b5=.aW dG aN e2 p false->S x p):wv P k ⟨cs,aN,S⟩:=by
  refine ⟨h.enter,λF w args x bo gf dY ez l Uj Y iA ahE ahF=>?_⟩;have cH:=T5 ahE;obtain ⟨iw,GD⟩:=tr (H:=λ_=>⟨0,.fw⟩) (κ:=λ_=>⟨0,0,0,false⟩) (f_ (cs.map .bI)) dY tK;have tT:∀ b,(c.ck.st (mk x l (S x))).ab b=⟨0,.fw⟩:=λb=>by
    show eO (hg c7 c.ck.bE (eA c7 c.ck.bT (mk x l (S x))).2) b=_;generalize (eA c7 c.ck.bT (mk x l (S x))).2=z;revert z;rw [iz];intro z;rfl
  have cb:(Value.func (.yield l) #[] #[]::args).length=c.ka:=by grind
  have U:bm { P:=P,w0:=w,F0:=F,K0:=λr=>r<w.heap.size/\¬Y r,nt:=c.ka,r:=none,dfr:=[],ib:=λ_=>none,b':=⟨l,aN,S x,Uj⟩,aP:=aR } (c.ck.st (mk x l (S x)))
      { tmps:=(Value.func (.yield l) #[] #[]::args).toArray,defers:=[] } w (λ_=>⟨0,0,0,false⟩) F:=
    { dF := by omega
      dfr:=rfl
      bT:=λi=>by
        rcases fi x l (S x) i ez with e | ⟨M,om,ly,y,e,ahG⟩ | ⟨M,e⟩ | ⟨M,e⟩
        · rw [e];trivial
        · rw [e]
          have:=(tr (H:=(c.ck.st (mk x l (S x))).ab) (κ:=λ_=>⟨0,0,0,false⟩) (f_ (cs.map .bI)) dY tK).2 (i - 1) (by omega)
          have bB:(Value.func (.yield l) #[] #[]::args).toArray.getD i undef=args.getD (i - 1) undef:=by
            obtain ⟨j,rfl⟩:∃ j,i=j+1:=⟨i - 1,by omega⟩
            simp
          rw [bB]
          rw [ahG] at this
          obtain ⟨_,af⟩:=(dV rfl).1 this
          simp only [bK] at af
          rcases af with ⟨_,aD⟩ | ⟨q,mM,bk,br,B0,aU,aX⟩
          · cases aD
          · cases B0
            exact ⟨q,bk,(List.cons.inj br).1,aU,aX⟩
        · rw [e]
          subst M
          rfl
        · rw [e];trivial
      bE:=λb=>by unfold cB;rw [tT b];trivial
      an:=λb aa=>by rw [tT b] at aa;cases aa
      inj:=λb bf aa _ _=>by rw [tT b] at aa;cases aa
      c_:=bo
      ha:=λr U=>.inl U
      hN:=λr U=>U
      hq:=λr U=>U.1
      eD:=λ_ _=>rfl
      size:=Nat.le_refl _
      en:=da.refl _
      ga:=hU
      kk:=λb r h=>by cases h
      jA:=λb r h=>by cases h
      j1:=λb k h=>by cases h
      kl:=λb k h=>by cases h
      eK:=λdG kv e2 n st e=>by
        rcases fi x l (S x) b5 ez with a8 | ⟨M,_⟩ | ⟨M,_⟩ | ⟨_,a8⟩
        · grind
        · grind
        · grind
        · rw [a8] at e
          cases e
          exact ⟨⟨Uj,rfl⟩,cH,Y,λr U=>⟨(iA r U).1,(iA r U).2,λk=>k.2 U⟩,λb aa=>(by rw [tT b] at aa;cases aa),lB.yD.2 ahF⟩
      jB:=h9,iv:=gf }
  obtain ⟨aG,tE⟩:=rS x l ez;have e6:#[Value.func (.yield l) #[] #[]]++args.toArray=(Value.func (.yield l) #[] #[]::args).toArray:=by simp
  rw [e6];refine (h.iO _ _ w _ F _ rfl rfl rfl rfl rfl rfl U aG).mono λe w' ⟨v,bn,aE,κ',F',he,fW,_,bd⟩=>?_;obtain ⟨n,st,dG,e2,qd⟩:=qi bn;obtain ⟨⟨ahD,MG⟩,_,gr,ah,a7,MH⟩:=bd.eK dG aN e2 n st qd;refine ⟨v,n,st,F',gr,he,λgj=>?_,lB.yD.1 MH,bd.hN,λr cI=>?_,bd.c_,λr G V=>bd.eD r ⟨G,V⟩,λr cI=>⟨?_,(ah r cI).1,(ah r cI).2.1⟩,bd.size,⟨bd.en.os,bd.en.tape,bd.en.output⟩⟩
  · grind
  · rcases bd.ha r cI with h | h
    · exact .inl h
    · by_cases aS:Y r
      · exact .inr (.inl aS)
      · exact .inr (.inr (Nat.le_of_not_lt λch=>h ⟨ch,aS⟩))
  grind
end Go.Fer
namespace Go.Fer
open Go.RowKit Go.ChangeShapes Go.WideShapes
def ad.hH:ad->Bool
 | .bool | .int _ | .str | .cQ=>true
 | .st t=>t.hH
 | .aA a b=>a.hH&&b.hH
 | .slice e=>e.hH
 | _=>false
def ad.hy:(t:ad)->t.ai->Prop
 | .int k,x=>fL k x
 | .str,x=>x.length<2 ^ 63
 | .st t,x=>t.hy x
 | .aA a b,x=>a.hy x.1/\b.hy x.2
 | .slice e,xs=>xs.length<2 ^ 63/\∀ y∈xs,e.hy y
 | .array n e,xs=>xs.length=n/\∀ y∈xs,e.hy y
 | _,_=>True
theorem zQ {P:Program} {w:World} {F:Nat->Prop}:∀ (t:ad) {cs:List Value} {x:t.ai},bK P t F w cs x->t.hy x
 | .bool,_,_,_=>trivial
 | .int _,_,_,h=>h.2
 | .str,_,_,h=>h.2
 | .cQ,_,_,_=>trivial
 | .st t,_,_,h=>by simp only [bK] at h;exact zQ t h
 | .aA a b,_,_,h=>by
  simp only [bK] at h;obtain ⟨c,d,_,G,V⟩:=h;exact ⟨zQ a G,zQ b V⟩
 | .slice e,_,xs,h=>by
  simp only [bK] at h;obtain ⟨a,cap,_,G,V,ah,a7⟩:=h;refine ⟨by omega,λy aS=>?_⟩;obtain ⟨i,M,rfl⟩:=List.mem_iff_getElem.1 aS;cases a with
  | none=>have:=ah rfl;omega
  | some p=>
   obtain ⟨bk,_,k⟩:=(a7 p rfl (by omega)).2.2 i M;exact zQ e k
 | .array n e,_,xs,h=>by
  simp only [bK] at h;obtain ⟨fk,_,G,V,ah⟩:=h;refine ⟨V,λy aS=>?_⟩;obtain ⟨i,M,rfl⟩:=List.mem_iff_getElem.1 aS;exact zQ e (ah i M (by omega))
 | .bI _,_,_,_=>trivial
 | .map _ _,_,_,_=>trivial
 | .fn _ _,_,_,_=>trivial
 | .cq _,_,_,_=>trivial
 | .ej,_,_,_=>trivial
section
variable {H:Type} {enc:TypeId×Value->H} {P:Program} {w:World}
theorem b7.cells {t:ad} {id:TypeId} (h:b7 P t id):P.cellsOf id=t.size:=by
 obtain ⟨i,z,G,V,_⟩:=ko h.kn;simp [Program.cellsOf,G,V]
theorem Uk {a:Addr} {n:Nat} {bk:List Value} (h:w.cells? 0 a n=some bk) (aD:0<n):a.spot=none/\a.block<w.heap.size/\bk.length=n/\∀ j (aH:j<bk.length),w.cell? ⟨a.block,a.off+j,none⟩=some bk[j]:=by
 have aa:=World.cells?_block h aD;have nT:a.spot=none:=by
  unfold World.cells? at h;split at h
  ·obtain ⟨m,rfl⟩:∃ m,n=m+1:=⟨n - 1,by omega⟩
   rw [List.range_succ_eq_map] at h;simp only [List.mapM_cons,Option.bind_eq_bind,Option.bind_eq_some_iff] at h;obtain ⟨v,af,_⟩:=h;cases aG:a.spot with
   | none=>rfl
   | some x=>simp [World.cell?,Addr.add,aG] at af;split at af<;>cases af
  ·cases h
 unfold World.cells? at h;split at h
 ·have hlen:bk.length=n:=by
   have:∀ (l:List Nat) (r:List Value),l.mapM (λi=>w.cell? (a.add i))=some r->r.length=l.length:=by
    intro l;induction l with
    | nil=>intro r U;simp at U;subst U;rfl
    | cons x l aM=>
     intro r U;simp only [List.mapM_cons,Option.bind_eq_bind,Option.bind_eq_some_iff,Option.pure_def,Option.some.injEq] at U;obtain ⟨v,_,pV,bd,rfl⟩:=U;simp [aM pV bd]
   simpa using this _ _ h
  refine ⟨nT,aa,hlen,λj aH=>?_⟩;have:∀ (l:List Nat) (r:List Value),l.mapM (λi=>w.cell? (a.add i))=some r->∀ j (G:j<l.length) (V:j<r.length),w.cell? (a.add l[j])=some r[j]:=by
   intro l;induction l with
   | nil=>intro r _ j G;simp at G
   | cons x l aM=>
    intro r U j G V;simp only [List.mapM_cons,Option.bind_eq_bind,Option.bind_eq_some_iff,Option.pure_def,Option.some.injEq] at U;obtain ⟨v,af,pV,bd,rfl⟩:=U;cases j with
    | zero=>exact af
    | succ j=>exact aM pV bd j (by simpa using G) (by simpa using V)
  have G:=this _ _ h j (by simp;omega) aH;rw [<-G];have yQ:a.add ((List.range n)[j]'(by simp;omega))=⟨a.block,a.off+j,none⟩:=by
   cases a;simp only at nT;subst nT;simp [Addr.add]
  rw [yQ]
 ·cases h
def qk (w:World):Nat->Prop:=λr=>r<w.heap.size
def ad.oC (n:Nat):(t:ad)->t.ai->Prop
 | .st t,x=>t.oC n x
 | .aA a b,x=>a.oC n x.1/\b.oC n x.2
 | .slice e,xs=>xs.length<=n/\∀ y∈xs,e.oC n y
 | _,_=>True
structure Bi (b:DataW H->Nat):Prop where
 len:∀ e s,e.length<=b (.slice e s)
 Bj:∀ e s d,d∈e->b d<=b (.slice e s)
 QN:∀ l d,d∈l->b d<=b (.agg l)
variable {b:DataW H->Nat} {N:Nat}
theorem ahH (aa:Bi b) (t:ad):(t.hH=true->∀ {id:TypeId} {cd:Nat} {cs:List Value} {x:DataW H×List MemPlace},b7 P t id->DataW.trod enc P w 0 (λ_=>true) true cd id cs=some x->b x.1<=N->∃ y,bK P t (qk w) w cs y/\t.oC N y)/\
  (t.hH=true->∀ {l:List Field} {off n:Nat} {cs:List Value},cC P t (.inr (l,off))=true->(∀ f∈l,∃ x,DataW.trod enc P w 0 (λ_=>true) true n f.type ((cs.drop f.offset).take (P.cellsOf f.type))=some x/\b x.1<=N)->∃ y,bK P t (qk w) w ((cs.drop off).take t.size) y/\t.oC N y):=by
 induction t with
 | bool=>
  refine ⟨λ_ {id cd cs x} aL h _=>?_,λ_ {l off n cs} h=>by simp [cC] at h⟩;have hu:P.underlying id=some .bool:=by
   unfold b7 at aL;simp only [cC,Bool.and_eq_true] at aL;obtain ⟨_,aL⟩:=aL;split at aL
   ·assumption
   ·cases aL
  obtain ⟨b,rfl,_⟩:=DataW.trod_bool hu h;exact ⟨_,rfl,trivial⟩
 | int k=>
  refine ⟨λ_ {id cd cs x} aL h _=>?_,λ_ {l off n cs} h=>by simp [cC] at h⟩;obtain ⟨n,rfl,_,hw⟩:=DataW.trod_int aL.int h;simp only [Lit.wf,Bool.and_eq_true,decide_eq_true_eq] at hw;exact ⟨n,⟨rfl,hw⟩,trivial⟩
 | str=>
  refine ⟨λ_ {id cd cs x} aL h _=>?_,λ_ {l off n cs} h=>by simp [cC] at h⟩;obtain ⟨s,rfl,_,hw⟩:=DataW.trod_string aL.str h;refine ⟨s.data.toList,⟨by simp,?_⟩,trivial⟩;have:s.data.toList.length=s.size:=by rw [Array.length_toList];rfl
  rw [this];have:maxLen<2 ^ 63:=by decide
  omega
 | cQ=>exact ⟨λ_ {id cd cs x} aL h _=>by simp [b7,cC] at aL,λ_ {l off n cs} h=>by simp [cC] at h⟩
 | st t aM=>
  refine ⟨λak {id cd cs x} aL h mV=>?_,λ_ {l off n cs} h=>by simp [cC] at h⟩;have ak:t.hH=true:=ak;have GS:P.cellsOf id=t.size:=aL.cells;obtain ⟨eS,hu⟩:=aL.st;obtain ⟨xs,n,_,rfl,hlen,R6,aw⟩:=DataW.trod_struct hu h;unfold b7 at aL;simp only [cC,Bool.and_eq_true] at aL;obtain ⟨_,aL⟩:=aL;rw [hu] at aL;have je:∀ f∈eS.toList,∃ x,DataW.trod enc P w 0 (λ_=>true) true n f.type ((cs.drop f.offset).take (P.cellsOf f.type))=some x/\b x.1<=N:=by
   intro f ahI;obtain ⟨i,M,rfl⟩:=List.mem_iff_getElem.1 ahI;have dM:i<eS.size:=by simpa using M
   refine ⟨xs[i]'(by omega),?_,Nat.le_trans (aa.QN _ _ (List.mem_map_of_mem (List.getElem_mem _))) mV⟩;rw [aw i _ (by simp [dM])];exact List.getElem?_eq_getElem _
  simp only at aL;split at aL
  ·have aL:=of_decide_eq_true aL;subst aL;have:cs=[]:=by
    have:=hlen.trans GS;simpa [ad.size] using this
   subst this;exact ⟨(),rfl,trivial⟩
  ·rename_i f fO;simp only [Bool.and_eq_true,beq_iff_eq,bne_iff_ne] at aL;obtain ⟨⟨⟨aY,G⟩,_⟩,_⟩:=aL;obtain ⟨x,aj,ahJ⟩:=je f (by rw [fO];simp);have hc:P.cellsOf f.type=t.size:=b7.cells G;rw [aY,hc,List.drop_zero,List.take_of_length_le (by omega)] at aj;exact aM.1 ak G aj ahJ
  ·obtain ⟨y,aS⟩:=aM.2 ak aL je;rw [List.drop_zero,List.take_of_length_le (by omega)] at aS;exact ⟨y,aS⟩
 | aA a b fv eJ=>
  refine ⟨λ_ {id cd cs x} aL h _=>by simp [b7,cC] at aL,λak {l off n cs} aL h=>?_⟩;simp only [ad.hH,Bool.and_eq_true] at ak;have join:∀ {y:a.ai} {z:b.ai},bK P a (qk w) w ((cs.drop off).take a.size) y/\a.oC N y->bK P b (qk w) w ((cs.drop (off+a.size)).take b.size) z/\b.oC N z->∃ y,bK P (.aA a b) (qk w) w ((cs.drop off).take (ad.aA a b).size) y/\(ad.aA a b).oC N y:=by
   intro y z aS bl;refine ⟨(y,z),⟨_,_,?_,aS.1,bl.1⟩,aS.2,bl.2⟩;simp only [ad.size];rw [List.take_add,List.drop_drop]
  match l,aL with
  | f::g::[],aL=>
   simp only [cC,Bool.and_eq_true,beq_iff_eq,bne_iff_ne] at aL;obtain ⟨⟨⟨⟨aY,G⟩,_⟩,_⟩,⟨⟨⟨hi,aU⟩,_⟩,_⟩⟩:=aL;obtain ⟨x,aj,aD⟩:=h f (by simp);obtain ⟨dJ,nF,B'⟩:=h g (by simp);rw [aY,b7.cells G] at aj;rw [hi,b7.cells aU] at nF;obtain ⟨y,aS⟩:=fv.1 ak.1 G aj aD;obtain ⟨z,bl⟩:=eJ.1 ak.2 aU nF B';exact join aS bl
  | f::g::e::eS,aL=>
   simp only [cC,Bool.and_eq_true,beq_iff_eq,bne_iff_ne] at aL;obtain ⟨⟨⟨⟨aY,G⟩,_⟩,_⟩,aU⟩:=aL;obtain ⟨x,aj,aD⟩:=h f (by simp);rw [aY,b7.cells G] at aj;obtain ⟨y,aS⟩:=fv.1 ak.1 G aj aD;obtain ⟨z,bl⟩:=eJ.2 ak.2 aU λiy q8=>h iy (List.mem_cons_of_mem _ q8);exact join aS bl
 | slice e aM=>
  refine ⟨λak {id cd cs x} aL h mV=>?_,λ_ {l off n cs} h=>by simp [cC] at h⟩;have ak:e.hH=true:=ak;obtain ⟨i,hu,he,cb⟩:=aL.sl;have GS:=he.cells;rcases DataW.trod_slice hu h with ⟨rfl,_⟩ | ⟨a,len,cap,elems,cm,n,rfl,rfl,aj,_,Ul,wO,j_,eT,Um,_⟩
  ·exact ⟨[],⟨none,0,rfl,Nat.le_refl _,by decide,λ_=>rfl,λp ar=>by cases ar⟩,Nat.zero_le _,λy aS=>by cases aS⟩
  ·rw [aj] at mV;have k7:0<P.cellsOf i:=by rw [GS];omega
   have key:∀ j,j<len->∃ bk y,w.cells? 0 (a.add (j*P.cellsOf i)) (P.cellsOf i)=some bk/\bK P e (qk w) w bk y/\e.oC N y:=by
    intro j aH;have:=eT j aH;rw [List.getElem?_eq_getElem (by omega)] at this;obtain ⟨bk,G,V⟩:=Option.bind_eq_some_iff.1 this;obtain ⟨y,aS⟩:=aM.1 ak he V (Nat.le_trans (aa.Bj _ _ _ (List.mem_map_of_mem (List.getElem_mem _))) mV);exact ⟨bk,y,G,aS⟩
   have ahK:0<cap->a.spot=none/\a.block<w.heap.size:=by
    intro hc;have:∃ bk,w.cells? 0 (a.add (0*P.cellsOf i)) (P.cellsOf i)=some bk:=by
     by_cases J9:0<len
     ·obtain ⟨bk,_,G,_⟩:=key 0 J9;exact ⟨bk,G⟩
     ·obtain ⟨m1,m2⟩:=Um rfl;have bl:len=0:=by omega
      subst bl;have:=m2 0 (by omega);rw [List.getElem?_eq_getElem (by omega)] at this;obtain ⟨bk,G,_⟩:=Option.bind_eq_some_iff.1 this;exact ⟨bk,G⟩
    obtain ⟨bk,G⟩:=this;have aF:a.add (0*P.cellsOf i)=a:=by unfold Addr.add;simp
    rw [aF] at G;obtain ⟨aU,aX,_⟩:=Uk G k7;exact ⟨aU,aX⟩
   have:∃ ys:List e.ai,ys.length=len/\∀ j (aH:j<ys.length),∃ bk,w.cells? 0 (a.add (j*P.cellsOf i)) (P.cellsOf i)=some bk/\bK P e (qk w) w bk ys[j]/\e.oC N ys[j]:=by
    clear eT j_ h Ul Um mV;induction len with
    | zero=>exact ⟨[],rfl,λj aH=>by simp at aH⟩
    | succ m ahL=>
     obtain ⟨ys,j6,cR⟩:=ahL λj aH=>key j (by omega);obtain ⟨bk,y,G,V⟩:=key m (by omega);refine ⟨ys++[y],by simp [j6],λj aH=>?_⟩;by_cases wR:j<ys.length
     ·rw [List.getElem_append_left wR];exact cR j wR
     ·have:j=m:=by simp at aH;omega
      subst this;refine ⟨bk,G,?_⟩;rw [List.getElem_append_right (by omega)];simpa [j6] using V
   have ahM:len<=N:=by have:=aa.len (elems.map (·.1)) (cm.map (·.1));rw [List.length_map,j_] at this;exact Nat.le_trans this mV
   obtain ⟨ys,rfl,j6⟩:=this;have y3:maxLen<2 ^ 63:=by decide
   refine ⟨ys,⟨some a,cap,rfl,Ul,by omega,(by simp),λp ar uJ=>?_⟩,ahM,λy aS=>by
    obtain ⟨j,aH,rfl⟩:=List.mem_iff_getElem.1 aS;obtain ⟨bk,_,G,V⟩:=j6 j aH;exact V⟩
   cases ar;obtain ⟨aU,aX⟩:=ahK uJ;refine ⟨aX,aU,λj aH=>?_⟩;obtain ⟨bk,d1,d2,_⟩:=j6 j aH;obtain ⟨m1,m2,m3,m4⟩:=Uk d1 k7;refine ⟨bk,⟨aX,rfl,λq br=>?_⟩,d2⟩;have:=m4 q br;have aF:a.add (j*P.cellsOf i)=⟨a.block,a.off+j*e.size,none⟩:=by
    rw [GS];cases a;simp only at aU;subst aU;unfold Addr.add;split
    ·rename_i aY;simp [aY]
    ·rfl
   rw [aF] at this;exact this
 | array n e aM=>exact ⟨λh=>by simp [ad.hH] at h,λh=>by simp [ad.hH] at h⟩
 | bI e aM=>exact ⟨λh=>by simp [ad.hH] at h,λh=>by simp [ad.hH] at h⟩
 | map k v wo wq=>exact ⟨λh=>by simp [ad.hH] at h,λh=>by simp [ad.hH] at h⟩
 | fn a b fv eJ=>exact ⟨λh=>by simp [ad.hH] at h,λh=>by simp [ad.hH] at h⟩
 | cq a aM=>exact ⟨λh=>by simp [ad.hH] at h,λh=>by simp [ad.hH] at h⟩
 | ej=>exact ⟨λh=>by simp [ad.hH] at h,λh=>by simp [ad.hH] at h⟩
theorem Un (aa:Bi b) {t:ad} (ak:t.hH=true) {id:TypeId} (aL:b7 P t id) {base:Nat} {v:Value} {d:DataW H} {ps:List MemPlace} (cH:Value.okWide P w .any base id v)
  (h:DataW.Trod enc P w 0 (λ_=>true) true id v d ps) (mV:b d<=N):∃ y,ek P t (qk w) w v y/\t.oC N y:=by
 obtain ⟨n,aD⟩:=h;obtain ⟨y,aS,aw⟩:=(ahH aa t).1 ak aL aD mV;refine ⟨y,⟨?_,aS⟩,aw⟩;cases t with
 | bool=>
  simp only [bK] at aS;have hu:P.underlying id=some .bool:=by
   unfold b7 at aL;simp only [cC,Bool.and_eq_true] at aL;obtain ⟨_,aL⟩:=aL;split at aL
   ·assumption
   ·cases aL
  simp only [Value.okWide,hu,Cell.okWide,Cell.ok] at cH;cases v<;>first | rfl | exact cH.elim
 | int k=>
  simp only [Value.okWide,aL.int,Cell.okWide,Cell.ok] at cH;cases v<;>first | rfl | exact cH.elim
 | str=>
  simp only [Value.okWide,aL.str,Cell.okWide,Cell.ok] at cH;cases v<;>first | rfl | exact cH.elim
 | cQ=>simp [b7,cC] at aL
 | st t=>
  obtain ⟨eS,hu⟩:=aL.st;simp only [Value.okWide,hu] at cH;obtain ⟨cs,rfl,hc,_⟩:=cH;exact ⟨cs,rfl,hc.trans aL.cells⟩
 | aA a b=>simp [b7,cC] at aL
 | slice e=>
  obtain ⟨i,hu,_⟩:=aL.sl;simp only [Value.okWide,hu,Cell.okWide,Cell.ok] at cH;cases v<;>first | rfl | exact cH.elim
 | array n e=>simp [ad.hH] at ak
 | bI e=>simp [ad.hH] at ak
 | map k v=>simp [ad.hH] at ak
 | fn a b=>simp [ad.hH] at ak
 | cq a=>simp [ad.hH] at ak
 | ej=>simp [ad.hH] at ak
def xx (P:Program):List TypeId->ad->Bool
 | [id],t=>cC P t (.inl id)&&t.hH
 | id::ids,.aA a b=>cC P a (.inl id)&&a.hH&&xx P ids b
 | _,_=>false
theorem Uo (aa:Bi b):∀ (ids:List TypeId) (ts:ad) {base:Nat} {aE:List Value} {bk:List (DataW H)} {ps:List MemPlace},xx P ids ts=true->DataW.TrodAll enc P w 0 (λ_=>true) true ids aE bk ps->
  (∀ (j:Nat) t v,ids[j]?=some t->aE[j]?=some v->Value.okWide P w .any base t v)->(∀ d∈bk,b d<=N)->∃ x,fl P ts (qk w) w aE x/\ts.oC N x
 | [],ts,_,aE,bk,ps,h,_,_,_=>by simp [xx] at h
 | [id],t,_,aE,bk,ps,h,ij,cH,mV=>by
  simp only [xx,Bool.and_eq_true] at h;obtain ⟨v0,MJ,d0,MK,Fh,BP,rfl,rfl,rfl,aY,sj⟩:=trodAll_cons ij;obtain ⟨rfl,rfl,rfl⟩:=trodAll_nil sj;obtain ⟨y,⟨xk,r'⟩,aw⟩:=Un aa h.2 h.1 (cH 0 id v0 rfl rfl) aY (mV _ (List.mem_cons_self ..));refine ⟨y,⟨?_,by simpa [ee] using r'⟩,aw⟩;cases t<;>first | exact ⟨v0,rfl,xk⟩ | (simp [cC] at h;done)
 | id::ahN::ids,ts,base,aE,bk,ps,h,ij,cH,mV=>by
  cases ts with
  | aA a b=>
   simp only [xx,Bool.and_eq_true] at h;obtain ⟨v0,MJ,d0,MK,Fh,BP,rfl,rfl,rfl,aY,sj⟩:=trodAll_cons ij;obtain ⟨y,⟨xk,r'⟩,aw⟩:=Un aa h.1.2 h.1.1 (cH 0 id v0 rfl rfl) aY (mV _ (List.mem_cons_self ..));obtain ⟨z,⟨ahO,ahP⟩,aC⟩:=Uo aa (ahN::ids) b h.2 sj (λj t v G V=>cH (j+1) t v (by simpa using G) (by simpa using V)) λd ay=>mV d (List.mem_cons_of_mem _ ay);exact ⟨(y,z),⟨⟨xk,ahO⟩,_,_,Jy _ _,r',ahP⟩,aw,aC⟩
  | _=>simp [xx] at h
theorem Up (ak:laidOutB P=true) {w':World} {Uq:Nat->Bool}:∀ (ids:List TypeId) {aE:List Value} {bk:List (DataW H)} {ps:List MemPlace},(ids.all λt=>P.readableRec t&&decide (t<P.types.size))=true->
  DataW.TrodAll enc P w 0 (λ_=>true) true ids aE bk ps->(∀ p∈ps,w.sameAt w' p)->(∀ p∈ps,Uq p.block=true)->DataW.TrodAll enc P w' 0 Uq true ids aE bk ps
 | [],_,_,_,_,h,_,_=>by
  obtain ⟨rfl,rfl,rfl⟩:=trodAll_nil h;rfl
 | id::ids,aE,bk,ps,U,h,G,V=>by
  simp only [List.all_cons,Bool.and_eq_true,decide_eq_true_eq] at U;obtain ⟨v0,MJ,d0,MK,Fh,BP,rfl,rfl,rfl,aY,sj⟩:=trodAll_cons h;exact trodAll_cons_mk (Go.WideElems.Trod_stays ak U.1.1 U.1.2 aY (λp ar=>G p (List.mem_append_left _ ar)) (λp ar=>V p (List.mem_append_left _ ar)))
   (Up ak ids U.2 sj (λp ar=>G p (List.mem_append_right _ ar)) (λp ar=>V p (List.mem_append_right _ ar)))
theorem abS (aa:Bi b) {k:FuncId} {fn:Func} {ts:ad} {sh:ts.ai->A (ad.bool).ai} {spec:ChangeSpec} {rt:TypeId} (ahQ:laidOutB P=true) (wS:h0 P k ts .bool sh) (ahR:∀ x,ts.hy x->ts.oC N x->A.cv (sh x) λy=>y=true)
  (dY:xx P fn.params.toList ts=true) (ahS:(fn.params.toList.all λt=>P.readableRec t&&decide (t<P.types.size))=true) (gg:fn.resultTypes=#[rt]) (ahT:P.underlying rt=some .bool)
  (af:spec.vars=[]) (s7:∀ (H:Type) (bk:List (DataW H)),bk.length=fn.params.size->spec.fn H bk={ results:=[.lit (.bool true)],args:=bk })
  {base:Nat} {args:Array Value} {bk gs:List (DataW H)} {before:List MemPlace} (xy:∀ (j:Nat) t v,fn.params[j]?=some t->args[j]?=some v->Value.okWide P w .any base t v)
  (wj:DataW.Whole enc P fn.params.toList spec.vars false w args.toList bk gs before) (mV:∀ d∈bk,b d<=N) (gf:nA P (qk w) w:=by exact λb aa=>absurd (show b<0 from aa) (Nat.not_lt_zero b)) :
  Calls P k args w λe qh=>∃ v,e=.returned v/\spec.post enc P fn false true false false w args v qh:=by
 have ch:=wj.lt;have Ur:=wj;obtain ⟨p,q,ij,ML,rfl,tl,_⟩:=wj;have br:gs=[]/\q=[]:=by
  rw [af] at ML;cases gs with
  | nil=>exact ⟨rfl,ML⟩
  | cons _ _=>exact ML.elim
 obtain ⟨rfl,rfl⟩:=br;simp only [List.append_nil] at Ur ch tl;obtain ⟨x,aj,aw⟩:=Uo aa fn.params.toList ts dY ij (λj t v G V=>xy j t v (by simpa using G) (by simpa using V)) mV;obtain ⟨aG,ag⟩:=ahR x (zQ ts aj.2) aw;have uU:bk.length=fn.params.size:=by
  have:∀ (ids:List TypeId) {aE:List Value} {bk:List (DataW H)} {ps:List MemPlace},DataW.TrodAll enc P w 0 (λ_=>true) true ids aE bk ps->bk.length=ids.length:=by
   intro ids;induction ids with
   | nil=>intro aE bk ps h;obtain ⟨rfl,rfl,rfl⟩:=trodAll_nil h;rfl
   | cons id ids aM=>intro aE bk ps h;obtain ⟨v0,MJ,d0,MK,Fh,BP,rfl,rfl,rfl,aY,sj⟩:=trodAll_cons h;simp [aM sj]
  simpa using this _ ij
 have hc:=wS.iO (qk w) w args.toList x (λ_ h=>h) gf aj aG;refine hc.mono λe qh ⟨v,y,he,aS,U,aa⟩=>?_;have aS:=ag y aS;subst aS;obtain ⟨aE,cf,cF⟩:=U;have ahU:v=.bool true:=by
  simp only [yB] at cf;subst cf;obtain ⟨⟨u,hu,ny⟩,nG⟩:=cF;simp only [List.cons.injEq,and_true] at hu;subst hu;simp only [kG] at ny;simp only [Jy,ny,abW,bK] at nG;simpa using nG
 subst ahU;have qV:∀ p'∈p,w.sameAt qh p':=by
  intro p' ar;have G:=aa.block _ (ch p' ar);cases p' with
  | cell b off=>simp only [World.sameAt,World.cell?];simp only [MemPlace.block] at G;rw [G]
  | map b=>exact G
 refine ⟨_,he,bk,[],p,[],p,[],Ur,?_,?_,?_,?_,λh=>by cases h⟩
 ·rw [List.append_nil,s7 H bk uU,gg];exact trodAll_cons_mk (shut_bool ahT true) trodAll_mk0
 ·rw [List.append_nil,s7 H bk uU];exact Up ahQ _ ahS ij qV λp' ar=>by simpa using ch p' ar
 ·rw [af,List.append_nil,s7 H bk uU];rfl
 ·refine ⟨aa.os,aa.output,λi M=>?_⟩;have G:=aa.block i M;rw [G];exact (World.keptBut_refl w λGU=>GU∈p/\(GU∈[]\/GU∈p\/GU∈[])).2.2 i M
end
end Go.Fer
namespace Go.Fer.n_
open Go.Proofs
abbrev t2:ad:=.int .i64
abbrev t3:ad:=.int .i64
abbrev t4:ad:=.bool
abbrev t5:ad:=.int .u8
abbrev ahV:ad:=.int .u8
abbrev ahW:ad:=.st (.aA t2 (.aA t3 (.aA t4 ahV)))
abbrev t9:ad:=.str
abbrev ahX:ad:=.str
abbrev ahY:ad:=.str
abbrev t21:ad:=.int .i32
abbrev xz:ad:=.st (.aA t3 t3)
abbrev zR:ad:=.st (.aA t3 (.aA t3 xz))
abbrev t22:ad:=.slice zR
abbrev eW:ad:=.slice t3
abbrev zS:ad:=.st (.aA t3 (.aA eW xz))
abbrev GV:ad:=.slice zS
abbrev xA:ad:=.st GV
abbrev Df:ad:=.slice xA
abbrev zT:ad:=.st (.aA t3 (.aA t3 (.aA t3 t3)))
abbrev GW:ad:=.slice zT
abbrev tU:ad:=.st (.aA t22 (.aA Df (.aA t3 GW)))
abbrev xB:ad:=.st (.aA t3 (.aA t3 (.aA t3 (.aA t3 eW))))
abbrev t28:ad:=.slice xB
abbrev vg:ad:=.st (.aA eW (.aA xz (.aA t3 (.aA t3 t3))))
abbrev GX:ad:=.slice vg
abbrev rf:ad:=.st (.aA t3 (.aA t3 t3))
abbrev zU:ad:=.slice rf
abbrev oY:ad:=.st (.aA tU (.aA eW (.aA t28 (.aA GX (.aA zU t3)))))
abbrev ql:ad:=.slice xz
abbrev h_:ad:=.st (.aA t3 (.aA t3 (.aA t3 (.aA t3 (.aA t3 t3)))))
abbrev nU:ad:=.slice h_
abbrev MM:ad:=.st (.aA t3 (.aA t3 (.aA t3 (.aA t3 (.aA t3 (.aA t3 t3))))))
abbrev s6:ad:=.st (.aA ql (.aA nU (.aA eW (.aA ql MM))))
abbrev wk:ad:=.st (.aA oY s6)
abbrev ahZ:ad:=.int .i64
abbrev EL:ad:=.slice t9
abbrev ah0:ad:=.st (.aA t3 (.aA t3 (.aA t3 t3)))
abbrev ah1:ad:=.st (.aA t3 (.aA t3 (.aA t3 (.aA t3 (.aA t3 (.aA t3 (.aA t3 t3)))))))
abbrev qm:ad:=.st wk
abbrev t105:ad:=.bI qm
abbrev Us:ad:=.ej
abbrev MN:ad:=.st (.aA t3 (.aA t4 Us))
abbrev MO:ad:=.map t9 MN
abbrev Dg:ad:=.slice eW
abbrev xC:ad:=.st (.aA tU Dg)
abbrev Ut:ad:=.bI xC
abbrev MP:ad:=.fn t3 t3
abbrev qn:ad:=.st (.aA h_ t3)
abbrev MQ:ad:=.slice qn
abbrev MR:ad:=.array 10 MQ
abbrev Dh:ad:=.st (.aA eW MR)
abbrev pq:ad:=.bI Dh
abbrev MS:ad:=.slice pq
abbrev rh:ad:=.st (.aA s6 (.aA nU MS))
abbrev vh:ad:=.bI rh
abbrev Uu:ad:=.fn t3 t4
abbrev ah2:ad:=.fn vh t4
abbrev ah3:ad:=.fn (.aA h_ t3) t4
abbrev t138:ad:=.cq (.aA h_ t3)
abbrev Uv:ad:=.fn pq (.aA t3 t4)
abbrev GY:ad:=.map t3 t3
abbrev MT:ad:=.cq t3
abbrev ah4:ad:=.cq t3
abbrev Uw:ad:=.st (.aA t3 t3)
abbrev Ux:ad:=.slice Uw
abbrev Uy:ad:=.st (.aA t3 (.aA t3 t3))
abbrev Uz:ad:=.map Uy t3
abbrev t222:ad:=.st (.aA oY (.aA Ux Uz))
abbrev oD:ad:=.bI t222
abbrev ah5:ad:=.fn eW t4
abbrev t164:ad:=.cq eW
abbrev UA:ad:=.st (.aA t3 (.aA t3 t3))
abbrev ah6:ad:=.slice UA
abbrev t171:ad:=.slice t5
abbrev UB:ad:=.fn vg t4
abbrev UC:ad:=.fn zT t4
abbrev MU:ad:=.fn h_ t4
abbrev t228:ad:=.int .u64
abbrev ah7:ad:=.slice t3
abbrev ah8:ad:=.bI tU
abbrev ah9:ad:=.bI xA
abbrev ah_:ad:=.array 4 t9
abbrev UD:ad:=.st (.aA t3 (.aA t3 t3))
abbrev ah':ad:=.map UD t3
abbrev GZ:ad:=.map t3 h_
abbrev aia:ad:=.int .u32
abbrev UE:ad:=.int .u64
abbrev UF:ad:=.fn xB t4
abbrev UG:ad:=.fn rf t4
abbrev UH:ad:=.fn zS t4
abbrev UI:ad:=.slice nU
abbrev UJ:ad:=.fn zR t4
abbrev UK:ad:=.fn xA t4
abbrev Di:ad:=.fn (.aA qn qn) t3
abbrev aib:ad:=.int .i64
abbrev aic:ad:=.slice Dg
abbrev aid:ad:=.int .i64
abbrev UL:ad:=.int .u64
abbrev aie:ad:=.bI t3
abbrev UM:ad:=.st (.aA h_ t3)
abbrev aif:ad:=.slice UM
abbrev UN:ad:=.st (.aA t3 eW)
abbrev aih:ad:=.slice UN
abbrev aii:ad:=.bI t5
abbrev aij:ad:=.array 24 t5
abbrev aik:ad:=.bI UL
abbrev ail:ad:=.slice zU
abbrev aim:ad:=.array 256 t5
abbrev UO:ad:=.st (.aA t5 t5)
abbrev ain:ad:=.array 16 UO
abbrev UP:ad:=.st t9
abbrev aio:ad:=.bI UP
abbrev aip:ad:=.array 20 UE
abbrev aiq:ad:=.array 65 t5
abbrev air:ad:=.array 32 t5
abbrev ais:ad:=.array 64 t5
abbrev ait:ad:=.int .u8
def vi:List (Nat×ad):=[(2,t2),(3,t3),(4,t4),(5,t5),(8,ahW),(9,t9),(10,ahX),(11,ahY),(21,t21),(22,t22),(23,Df),(24,GW),(26,tU),(27,eW),(28,t28),(29,GX),(30,zU),(32,oY),(33,ql),(34,nU),(36,MM),(38,s6),(40,wk),(42,zT),(44,ahZ),(48,EL),(58,xz),(63,ah0),(74,ah1),(87,vg),(91,rf),(93,xB),(105,t105),(107,MO),(111,qm),(115,Ut),(121,Dg),(123,xC),(125,h_),(128,MP),(130,vh),(133,Uu),(134,ah2),(137,pq),(138,t138),(140,Uv),(141,MQ),(142,MR),(144,qn),(148,GY),(149,MS),(151,rh),(153,MT),(154,ah4),(157,oD),(162,ah5),(164,t164),(165,ah6),(171,t171),(177,UB),(188,Us),(190,MN),(196,zR),(197,GV),(199,xA),(201,zS),(203,UC),(209,MU),(215,ah3),(217,Dh),(219,Uz),(220,Ux),(222,t222),(224,Uy),(227,Uw),(228,t228),(235,UA),(237,ah7),(249,ah8),(253,ah9),(261,ah_),(269,ah'),(271,UD),(273,GZ),(282,aia),(285,UE),(289,UF),(290,UG),(297,UH),(298,UI),(304,UJ),(306,UK),(311,Di),(313,aib),(336,aic),(351,aid),(359,UL),(363,aie),(368,aif),(372,UM),(374,aih),(380,aii),(386,aij),(398,aik),(402,UN),(403,ail),(408,aim),(410,UO),(411,ain),(414,aio),(416,UP),(418,aip),(419,aiq),(423,air),(424,ais),(432,ait)]
theorem nV:dT Tryz.prog (re vi):=ahC (by kernel_rfl)
theorem G0:Tryz.prog.follows .mixedOrders=true:=by kernel_rfl
def xD (_:Nat):Option aO:=none
theorem G1:jh Tryz.prog xD:=λk c h=>by cases h
def dD:dE:={ tb:=λ_=>none,tc:=λ_=>none }
theorem mm:qF Tryz.prog dD where
 tb:=λk v h=>by cases h
 tc:=λk v h=>by cases h
end Go.Fer.n_
namespace Go.Fer
open Go.RowKit
def hE.ky (c:hE):aO:=⟨c.ts,.aA c.aW .cQ,λx=>(c.sh x).cr,λx=>((c.sh x).val c.aW.db,())⟩
end Go.Fer
namespace Go.Fer
theorem A.aiu {al:Type} {p:Prop} {m n:A al} (h:n.cr->p) (k:A.le m n):A.le (A.ae p m) n:=λaG=>⟨⟨h aG,(k aG).1⟩,(k aG).2⟩
theorem ri {al:Type} {o:Option al} {x:al} (h:o=some x):o.isSome=true:=by rw [h];rfl
def MV (ts:ad) (x:ts.ai) (n:Nat):Nat->Prop
 | 0=>True
 | k+1=>MV ts x n k/\Da (kp ts x (n+k))
theorem UQ {ts:ad} {x:ts.ai} {n:Nat}:∀ {k:Nat},MV ts x n k->∀ i,i<k->Da (kp ts x (n+i))
 | 0,_,i,h=>by omega
 | k+1,hc,i,h=>by
  by_cases e:i=k
  ·rw [e];exact hc.2
  ·exact UQ hc.1 i (by omega)
theorem UR (ts:ad) (x:ts.ai):∀ (l:List Nat) (i:Nat),fo (l.map λi=>(i,kp ts x i)) i=if i∈l then kp ts x i else .undef
 | [],i=>by simp [fo]
 | j::l,i=>by
  simp only [List.map_cons,fo];by_cases e:i=j
  ·subst e;simp
  ·rw [if_neg e,UR ts x l i];simp [e]
theorem sk {ts:ad} {x:ts.ai} {n:Nat} (h:MV ts x n (si ts - n)):Db n (pn ts x):=λi M=>by
 show Da (fo (zM ts x (si ts)) i);unfold zM;rw [UR];split
 ·rename_i hm;rw [List.mem_range] at hm;have aD:¬i<n:=λh=>M (.inl h);have:=UQ h (i - n) (by omega);rwa [show n+(i - n)=i by omega] at this
 ·trivial
end Go.Fer
namespace Go.Fer
open A (W)
set_option linter.unusedVariables false
set_option linter.unusedSimpArgs false
theorem bG {n:Int} (G:-9223372036854775808<=n) (V:n<9223372036854775808):IntKind.i64.wrap n=n:=by
 show (if (true&&decide (n % 2 ^ 64>=(2 ^ (64 - 1):Int)))=true then n % 2 ^ 64 - 2 ^ 64 else n % 2 ^ 64)=n;grind
theorem ct (a b:Int):Add.add a b=a+b:=rfl
theorem jn (a b:Nat):Add.add a b=a+b:=rfl
theorem US {al:Type} (a b:List al):Append.append a b=a++b:=rfl
theorem bZ (n:Nat):Int.ofNat n=(n:Int):=rfl
theorem qo {x c d:Bool}:(x||!(if (!x)=true then c else d))=(x||!c):=by grind
theorem UT {x c d:Bool}:(x||(if (!x)=true then c else d))=(x||c):=by grind
theorem vj {x c d:Bool}:(x&&(if x=true then c else d))=(x&&c):=by grind
namespace A
variable {al β gq D aK:Type}
theorem bx {m:A al} {p:Prop} {v:al} (h:p->m=pure v):le m (dR p v):=λar=>by
 rw [h ar];exact ⟨trivial,λ_ aS=>aS⟩
theorem sn {m:A al} {p:Prop} {v:al} (h:p->cv m λy=>y=v):le m (dR p v):=λar=>h ar
theorem gI {p:Prop} {v d:al}:(dR p v).val d=v:=by
 unfold val;have h:∃ x,(dR p v).bR x:=⟨v,rfl⟩
 rw [dif_pos h];exact h.choose_spec
theorem fE {v d:al}:(pure v).val d=v:=gI (p:=True)
theorem nW {p:Prop} {v:al}:(dR p v).cr=p:=rfl
theorem vk {p:Prop} {v:al}:(dR p v).Cj:=λ_ _ h k=>h.trans k.symm
theorem iY {g:Bool} {p:Prop} {v d:al}:cg g (dR p v) d=dR (g=true->p) (if g=true then v else d):=by
 cases g
 ·exact (bU (by simp) _).symm
 ·simp [cg]
theorem kO {g:Bool} {v d:al}:cg g (pure v) d=pure (if g=true then v else d):=by cases g<;>rfl
theorem b2 {f:D->A β} {x:D}:W.bC f (.next x:W D β)=f x:=rfl
theorem pr {f:D->A β} {r:β}:W.bC f (.done r:W D β)=pure r:=rfl
end A
def eX {al β aK:Type} (f:al->β->W β aK) (fin:β->aK):List al->β->aK
 | [],b=>fin b
 | x::l,b=>match f x b with
  | .next bf=>eX f fin l bf
  | .done r=>r
def W.hj {D β aK:Type} (g:β->D):W β aK->W D aK
 | .next b=>.next (g b)
 | .done r=>.done r
theorem A.gA {al β D aK:Type} {body:D->A (W D aK)} {s0:D} (l:List al) (mk:Nat->β->D) (f:al->β->W β aK) (fin:β->aK) (I:Nat->β->Prop) (b:β) (mU:s0=mk 0 b) (aY:I 0 b)
  (aG:∀ i (h:i<l.length) b,I i b->body (mk i b)=A.pure (W.hj (mk (i+1)) (f l[i] b))/\∀ bf,f l[i] b=.next bf->I (i+1) bf)
  (aw:∀ b,I l.length b->body (mk l.length b)=A.pure (.done (fin b))):A.loop body s0=A.pure (eX f fin l b):=by
 subst mU;have key:∀ (k:Nat) (r:List al) (b:β),k<=l.length->r=l.drop k->I k b->A.loop body (mk k b)=A.pure (eX f fin r b):=by
  intro k r;induction r generalizing k with
  | nil=>
   intro b ao U eF;have:k=l.length:=by have:=congrArg List.length U;grind
   subst this;exact A.s8 (aw b eF)
  | cons x r aM=>
   intro b ao U eF;have ch:k<l.length:=by
    grind
   rw [List.drop_eq_getElem_cons ch] at U;injection U with aj U
   obtain ⟨G,V⟩:=aG k ch b eF;rw [<-aj] at G V;simp only [eX];cases q8:f x b with
   | next bf=>
    rw [q8] at G;rw [A.Bm G];grind
   | done pV=>
    rw [q8] at G;exact A.s8 G
 grind
theorem A.dK {al β D aK:Type} {body:D->A (W D aK)} {s0:D} (l:List al) (mk:Nat->β->D) (f:al->β->W β aK) (fin:β->aK) (b:β) (mU:s0=mk 0 b)
  (aG:∀ i (h:i<l.length) b,body (mk i b)=A.pure (W.hj (mk (i+1)) (f l[i] b)))
  (aw:∀ b,body (mk l.length b)=A.pure (.done (fin b))):A.loop body s0=A.pure (eX f fin l b):=
 A.gA l mk f fin (λ_ _=>True) b mU trivial (λi h b _=>⟨aG i h b,λ_ _=>trivial⟩) λb _=>aw b
section
variable {al β aK:Type}
theorem rj {p:al->Bool} {r:aK} {fin:β->aK}:∀ (l:List al) (b:β),eX (λx b=>if p x=true then .done r else .next b) fin l b=if l.any p=true then r else fin b
 | [],b=>by rfl
 | x::l,b=>by
  simp only [eX,List.any_cons,Bool.or_eq_true];by_cases h:p x=true
  ·simp [h]
  ·have h:p x=false:=by grind
   simp only [h,Bool.false_eq_true,if_false,false_or];exact rj l b
theorem G2 {p:al->Bool} {r:aK} {fin:β->aK}:∀ (l:List al) (b:β),eX (λx b=>if p x=true then .next b else .done r) fin l b=if l.all p=true then fin b else r
 | [],b=>by rfl
 | x::l,b=>by
  simp only [eX,List.all_cons,Bool.and_eq_true];by_cases h:p x=true
  ·simp only [h,if_true,true_and];exact G2 l b
  grind
theorem er {h:β->al->β} {fin:β->aK}:∀ (l:List al) (b:β),eX (λx b=>.next (h b x)) fin l b=fin (l.foldl h b)
 | [],b=>rfl
 | x::l,b=>by simp only [eX,List.foldl_cons];exact er l (h b x)
theorem UU {p:al->Bool}:∀ (l:List al) (b:List al),l.foldl (λb x=>if p x=true then b++[x] else b) b=b++l.filter p
 | [],b=>by simp
 | x::l,b=>by
  simp only [List.foldl_cons,List.filter_cons];rw [UU l];grind
theorem xE {gq:Type} {g:al->gq}:∀ (l:List al) (b:List gq),l.foldl (λb x=>b++[g x]) b=b++l.map g
 | [],b=>by simp
 | x::l,b=>by simp only [List.foldl_cons,List.map_cons];rw [xE l];simp
end
theorem UW {al:Type} {p q:al->Bool} (h:∀ x,p x=!q x) (l:List al):l.any p=!l.all q:=by
 grind
theorem kP {al β aK:Type} {p q:al->Bool} {r:aK} {fin:β->aK} (l:List al) (b:β) (h:∀ x,p x=!q x):eX (λx b=>if p x=true then .done r else .next b) fin l b=if l.all q=true then fin b else r:=by
 rw [rj,UW h];grind
theorem mW {D β aK:Type} {c:Bool} {mk:β->D} {b:β} {r:aK}:(if c=true then A.pure (W.done r) else A.pure (W.next (mk b)))=A.pure (W.hj mk (if c=true then .done r else .next b)):=by cases c<;>rfl
theorem UX {D β aK:Type} {c:Bool} {mk:β->D} {b:β} {r:aK}:(if c=true then A.pure (W.done r) else A.pure (W.next (mk b)))=A.pure (W.hj mk (if c=true then .done r else .next b)):=by cases c<;>rfl
theorem cY {l:Nat} {i:Nat} (h:i<l):decide ((i:Int)<(l:Int))=true:=by grind
theorem cJ {l:Nat} {i:Nat} (h:i<l):((0:Int)<=(i:Int)/\(i:Int)<(l:Int))=True:=by grind
theorem dm {al:Type} {l:List al} {i:Nat} {d:al} (h:i<l.length):l.getD (Int.toNat (i:Int)) d=l[i]:=by
 grind
theorem xF {al:Type} {l:List al} {i:Int} {d:al} (aY:0<=i) (h:i<(l.length:Int)):l.getD i.toNat d∈l:=by
 grind
def et (a b:Int):z1':=(List.range (b - a+1).toNat).map λ(i:Nat)=>a+(i:Int)
theorem xG (a b:Int):(et a b).length=(b - a+1).toNat:=by simp [et]
theorem Dj {a b:Int} {i:Nat} (h:i<(et a b).length):(et a b)[i]=a+i:=by simp [et]
theorem so {a b n:Int}:n∈et a b<->a<=n/\n<=b:=by
 simp only [et,List.mem_map,List.mem_range];constructor
 ·omega
 ·rintro ⟨G,V⟩;exact ⟨(n - a).toNat,by omega,by omega⟩
end Go.Fer
namespace Go.Fer.n_
open Go.Proofs
abbrev oE:Type:=List (Nat×hE)
def oF {al:Type}:List (Nat×al)->Nat->Option al
 | [],_=>none
 | p::l,k=>if k=p.1 then some p.2 else oF l k
theorem Dk {al:Type} {k:Nat} {c:al}:∀ {l:List (Nat×al)},oF l k=some c->(k,c)∈l
 | [],h=>by cases h
 | p::l,h=>by
  unfold oF at h;split at h
  ·rename_i e;cases h;subst e;simp
  ·exact List.mem_cons_of_mem _ (Dk h)
def sq (T:oE):List (Nat×e1)->Nat->Option e1
 | [],k=>match oF T k with
  | some c=>some (.du c)
  | none=>none
 | p::l,k=>if k=p.1 then some p.2 else sq T l k
def UY (k:Nat) (c:hE):Prop:=h0 Tryz.prog k c.ts c.aW c.sh/\(c.dR=true->∀ x,(c.sh x).Cj)
structure kQ (T:oE):Type where
 ok:∀ p∈T,UY p.1 p.2
abbrev aiv {T:oE} (_:kQ T):oE:=T
def aiw:kQ []:=⟨λp h=>by cases h⟩
def kQ.cons {T:oE} (h:kQ T) {n:Nat} {c:hE} (k:UY n c):kQ ((n,c)::T):=⟨λp ar=>by
 rcases List.mem_cons.1 ar with rfl | ar
 ·exact k
 ·exact h.ok p ar⟩
def Dl (aR:dE):List (Nat×e1)->Prop
 | []=>True
 | p::l=>p.2.hy Tryz.prog aR p.1/\Dl aR l
theorem kQ.G3 {aR:dE} {T:oE} (h:kQ T):∀ {sp:List (Nat×e1)},Dl aR sp->lQ Tryz.prog aR (sq T sp)
 | [],_,k,c,e=>by
  unfold sq at e;split at e
  ·rename_i c' hc;cases e;exact h.ok (k,c') (Dk hc)
  ·cases e
 | p::l,aG,k,c,e=>by
  unfold sq at e;split at e
  ·rename_i ao;cases e;subst ao;exact aG.1
  ·exact kQ.G3 h (sp:=l) aG.2 k c e
def zV:ad->List ad
 | .cQ=>[]
 | .aA a b=>a::zV b
 | t=>[t]
def UZ:ad->ad
 | .bI t=>t
 | t=>t
def U0 {ts U1:ad} (e:U1=ts) {aW:ad} (sh:ts.ai->A aW.ai):U1.ai->A aW.ai:=e ▸ sh
def MW (pt:Nat) (c:hE):Option ES:=
 if h:((zV c.ts).take pt).all ad.gu=true/\f_ ((zV c.ts).take pt++(((zV c.ts).drop pt).map UZ).map .bI)=c.ts then some ⟨(zV c.ts).take pt,((zV c.ts).drop pt).map UZ,c.aW,U0 h.2 c.sh⟩ else none
def U2:z8'->Nat->Option Nat
 | [],_=>none
 | p::l,k=>if k=p.1 then some p.2 else U2 l k
def zW (T:oE) (cl:z8') (G4:List (Nat×wu)):dE where
 tb:=λk=>match oF T k with
  | some c=>some ⟨c.ts,c.aW,c.sh⟩
  | none=>none
 tc:=λk=>match U2 cl k with
  | some pt=>match oF T k with
   | some c=>MW pt c
   | none=>none
  | none=>none
 wx:=oF G4
def Dm:List (Nat×wu)->Prop
 | []=>True
 | p::l=>wv Tryz.prog p.1 p.2/\Dm l
theorem Dm.mem:∀ {l:List (Nat×wu)},Dm l->∀ p∈l,wv Tryz.prog p.1 p.2
 | [],_,p,h=>by cases h
 | q::l,h,p,ar=>by
  rcases List.mem_cons.1 ar with rfl | ar
  ·exact h.1
  ·exact Dm.mem h.2 p ar
theorem aix {k pt:Nat} {c:hE} {v:ES} (h:h0 Tryz.prog k c.ts c.aW c.sh) (e:MW pt c=some v):v.as.all ad.gu=true/\h0 Tryz.prog k (f_ (v.as++v.cs.map .bI)) v.aW v.sh:=by
 unfold MW at e;split at e
 ·rename_i cR;cases e;refine ⟨cR.1,?_⟩;have key:∀ (ts:ad) (e:ts=c.ts),h0 Tryz.prog k ts c.aW (U0 e c.sh):=by rintro _ rfl;exact h
  exact key _ cR.2
 ·cases e
theorem kQ.u {T:oE} (h:kQ T) (cl:z8') (G4:List (Nat×wu)) (M:Dm G4):qF Tryz.prog (zW T cl G4) where
 tb:=λk v e=>by
  simp only [zW] at e;split at e
  ·rename_i c hc;cases e;exact (h.ok (k,c) (Dk hc)).1
  ·cases e
 tc:=λk v e=>by
  simp only [zW] at e;split at e
  ·split at e
   ·rename_i c hc;exact aix (h.ok (k,c) (Dk hc)).1 e
   ·cases e
  ·cases e
 wx:=λk v e=>M.mem (k,v) (Dk e)
abbrev rk (fn:Func):Code:=fn.body.getD .skip
theorem G5 {fn:Func} (h:fn.body.isSome=true):fn.body=some (rk fn):=by
 unfold rk;cases e:fn.body with
 | none=>rw [e] at h;cases h
 | some b=>rfl
abbrev Dn (fn:Func) (ts aW:ad):Bool:=fn.body.isSome&&Dc fn (rk fn) ts aW
theorem G6 {T:oE} (aV:kQ T) {aR:dE} (h9:qF Tryz.prog aR) {sp:List (Nat×e1)} (nT:Dl aR sp) {n:Nat} {fn:Func} (aw:Tryz.prog.funcs[n]?=some fn) {ts aW:ad} {sh:ts.ai->A aW.ai} {ann:dq} {S:ts.ai->A aW.ai} (aG:∀ x,A.le (S x) (sh x)) (cH:Dn fn ts aW=true) (ak:∀ x,C' aR (re vi) xD (sq T sp) fn (rk fn) ann ts aW x=S x):h0 Tryz.prog n ts aW sh:=
 have cH:=Bool.and_eq_true _ _ ▸ cH
 ahw G0 nV h9 G1 (aV.G3 nT) aw (G5 cH.1) cH.2 λx=>A.le_trans (A.le_of_eq (ak x)) (aG x)
def mk {T:oE} (aV:kQ T) {n:Nat} {fn:Func} (aw:Tryz.prog.funcs[n]?=some fn) (c:aO) (ann:dq) {S:c.ts.ai->A c.aW.ai} (aG:∀ x,A.le (S x) (c.sh x)) (cH:Dn fn c.ts c.aW=true:=by kernel_rfl) (ak:∀ x,C' dD (re vi) xD (sq T []) fn (rk fn) ann c.ts c.aW x=S x:=by intro x;kernel_rfl):kQ ((n,c.du)::T):=
 aV.cons ⟨G6 aV mm (sp:=[]) trivial aw aG cH ak,λ_ _=>A.vk⟩
def lU {T:oE} (aV:kQ T) (cl:z8') {n:Nat} {fn:Func} (aw:Tryz.prog.funcs[n]?=some fn) (c:aO) (ann:dq) {S:c.ts.ai->A c.aW.ai} (aG:∀ x,A.le (S x) (c.sh x)) (cH:Dn fn c.ts c.aW=true:=by kernel_rfl) (ak:∀ x,C' (zW T cl []) (re vi) xD (sq T []) fn (rk fn) ann c.ts c.aW x=S x:=by intro x;kernel_rfl):kQ ((n,c.du)::T):=
 aV.cons ⟨G6 aV (aV.u cl [] trivial) (sp:=[]) trivial aw aG cH ak,λ_ _=>A.vk⟩
def pv {T:oE} (aV:kQ T) {aR:dE} (h9:qF Tryz.prog aR) (sp:List (Nat×e1)) (nT:Dl aR sp) {n:Nat} {fn:Func} (aw:Tryz.prog.funcs[n]?=some fn) (c:aO) (ann:dq) {S:c.ts.ai->A c.aW.ai} (aG:∀ x,A.le (S x) (c.sh x)) (cH:Dn fn c.ts c.aW=true:=by kernel_rfl) (ak:∀ x,C' aR (re vi) xD (sq T sp) fn (rk fn) ann c.ts c.aW x=S x:=by intro x;kernel_rfl):kQ ((n,c.du)::T):=
 aV.cons ⟨G6 aV h9 nT aw aG cH ak,λ_ _=>A.vk⟩
def jO {T:oE} (aV:kQ T) (cl:z8') {n:Nat} {fn:Func} (aw:Tryz.prog.funcs[n]?=some fn) (c:aO) (pt:Nat) (ann:dq) {S:c.ts.ai->A c.aW.ai} (aG:∀ x,A.le (S x) (c.sh x)) (hc:∀ x,c.pre x->Db pt (pn c.ts x):=by intro x h;obtain ⟨f,aw,_⟩:=h;exact sk ⟨trivial,ri aw⟩) (cH:Dn fn c.ts c.aW=true:=by kernel_rfl)
  (ak:∀ x,eG (zW T cl []) (re vi) xD (sq T []) ann (rk fn) (GQ pt (pn c.ts x)) (vf (re vi) fn.results.toList c.aW)=S x:=by intro x;kernel_rfl):kQ ((n,c.du)::T):=
 have cH:=Bool.and_eq_true _ _ ▸ cH
 aV.cons ⟨ahy (n:=pt) G0 nV (aV.u cl [] trivial) G1 (aV.G3 (sp:=[]) trivial) aw (G5 cH.1) cH.2 λx=>A.aiu (hc x) (A.le_trans (A.le_of_eq (ak x)) (aG x)),λ_ _=>A.vk⟩
theorem d_ {T:oE} (aV:kQ T) {aR:dE} (sp:List (Nat×e1)) (nT:Dl aR sp) {n:Nat} {fn:Func} (aw:Tryz.prog.funcs[n]?=some fn) {c:cG} (ann:dq) {S:c.ck.ai->A c.bR.ai} (aG:∀ x,A.le (S x) (c.sh x)) (cH:(fn.body.isSome&&Dd fn (rk fn) c.ka c.kx)=true:=by kernel_rfl) (ak:∀ x,MA aR (re vi) xD (sq T sp) fn (rk fn) ann c.ck c.bR c.kx x=S x:=by intro x;kernel_rfl):cO Tryz.prog aR n c:=
 have cH:=Bool.and_eq_true _ _ ▸ cH
 Ug G0 nV G1 (aV.G3 nT) aw (G5 cH.1) cH.2 λx=>A.le_trans (A.le_of_eq (ak x)) (aG x)
theorem MX {aR:dE} {n:Nat} {fn:Func} (aw:Tryz.prog.funcs[n]?=some fn) {c:cG} (aG:∀ x,¬(c.sh x).cr) (cH:(fn.body.isSome&&Dd fn (rk fn) c.ka c.kx)=true:=by kernel_rfl):cO Tryz.prog aR n c:=
 have cH:=Bool.and_eq_true _ _ ▸ cH
 Ug G0 nV G1 (Ψ:=λ_=>none) (λk c h=>by cases h) (ann:=.eM) aw (G5 cH.1) cH.2 λx h=>absurd h (aG x)
end Go.Fer.n_
namespace Go.Fer
open Go.RowKit
theorem aiy {P:Program} {aR:dE} {k:FuncId} {ts e:ad} (tK:ts≠.cQ) {c:cG} (h:cO P aR k c) (h9:qF P aR) {sh:ts.ai->A (ad.slice e).ai} {b0:Nat} (mk:ts.ai->c.ck.ai)
    (aiz:∀ x,c.ck.st (mk x)=⟨fo ((List.range (j3 ts)).map λi=>(i,kp ts x i)),λ_=>⟨0,.fw⟩⟩) (aD:c.ka=j3 ts) (hU:c.ka<=eP) (aiA:c.kx=[none]) (val:c.bR.ai->List e.ai)
    (qi:∀ bn,(c.bR.st bn).az 0=.an b0 0/\(c.bR.st bn).ab b0=⟨0,.bj e (val bn)⟩)
    (rS:∀ x,(sh x).cr->(c.sh (mk x)).cr/\∀ bn,(c.sh (mk x)).bR bn->val bn=(sh x).val (ad.slice e).db):nD (hE.ky ⟨ts,.slice e,sh,true⟩).aW=true/\B5 P k (hE.ky ⟨ts,.slice e,sh,true⟩):=by
  refine ⟨rfl,h.enter,?_⟩;intro (x:ts.ai) (aG:(sh x).cr) y aS F w args bo gf (dY:fl P ts F w args x);cases aS;obtain ⟨iw,GD⟩:=tr (H:=λ_=>⟨0,.fw⟩) (κ:=λ_=>⟨0,0,0,false⟩) ts dY tK;let C:b8:={ P:=P,w0:=w,F0:=F,K0:=λr=>r<w.heap.size,nt:=c.ka,r:=none,dfr:=[],ib:=λ_=>none,b':=⟨0,.cQ,λ_=>False,λ_ _ _ _ _=>False⟩,aP:=aR }
  have CD:∀ i,fo ((List.range (j3 ts)).map λi=>(i,kp ts x i)) i=.undef\/(i<j3 ts/\fo ((List.range (j3 ts)).map λi=>(i,kp ts x i)) i=kp ts x i):=λi=>by
    rcases Ub (l:=(List.range (j3 ts)).map λi=>(i,kp ts x i)) (i:=i) with e | e
    · exact .inl e
    · refine .inr ?_
      generalize bl:fo ((List.range (j3 ts)).map λi=>(i,kp ts x i)) i=z at e
      simp only [List.mem_map,List.mem_range,Prod.mk.injEq] at e
      obtain ⟨j,aH,rfl,rfl⟩:=e
      exact ⟨aH,rfl⟩
  have U:bm C (c.ck.st (mk x)) { tmps:=args.toArray,defers:=[] } w (λ_=>⟨0,0,0,false⟩) F:=by
    rw [aiz];refine { dF := ?_, dfr := rfl, bT := λi => ?_, bE := λb => trivial, an := λb aa => (by cases aa), inj := λb bf aa _ _ => (by cases aa), c_ := bo, ha := λr U => .inl U, hN := λr U => U, hq := λr U => U, eD := λr _ => rfl, size := Nat.le_refl _, en := da.refl w,ga:=hU,kk:=λb r h=>(by cases h),jA:=λb r h=>(by cases h),j1:=λb k h=>(by cases h),kl:=λb k h=>(by cases h),eK:=λl aN L n st e=>?_,jB:=h9,iv:=gf }
    · grind
    · rcases CD i with e | ⟨M,e⟩
      · show bA _ _ _ _ _ (fo _ i) _
        rw [e];trivial
      · show bA _ _ _ _ _ (fo _ i) _
        rw [e]
        have:=GD i M
        simpa [Array.getD_eq_getD_getElem?,List.getD_eq_getElem?_getD] using this
    · rcases CD b5 with h | ⟨h,_⟩
      · grind
      · unfold b5 at h;unfold eP at hU;omega
  obtain ⟨LJ,tB⟩:=rS x aG;refine (h.iO C _ w _ F (mk x) rfl rfl rfl rfl rfl rfl U LJ).mono λa8 w' ⟨v,bn,aE,κ',F',Bp,fW,Ge,bd⟩=>?_;obtain ⟨aiB,xn⟩:=qi bn;rw [aiA] at Ge;obtain ⟨us,fy,Lz,MY⟩:=Ge;obtain ⟨u,rfl⟩:∃ u,us=[u]:=by
    match us,fy with
    | [u],_=>simp
  have MZ:aE=[u]:=by
    obtain ⟨_,MZ,V⟩:=MY;rw [MZ,V]
  have af:v=u:=by simpa using Lz
  have fi:=bd.bT 0;rw [aiB,MZ] at fi;have U3:u=(κ' b0).slice ((c.bR.st bn).ab b0).body.len:=by
    have:=fi.2 (by rw [xn]) (by rw [xn];rfl);simp_all
  rw [xn] at U3;have aT:=bd.bE b0;unfold cB at aT;rw [xn] at aT;obtain ⟨G,V⟩:=aT;have xy:val bn=(sh x).val (ad.slice e).db:=tB bn fW;refine ⟨κ' b0,F',by rw [Bp,af,U3];simp only [bQ.len];rw [xy];rfl,bd.hN,λr U4=>?_,λaD=>?_,λaD=>?_,bd.en.os,bd.en.tape,bd.en.output,bd.size,bd.eD⟩
  · rcases bd.ha r U4 with cR | cR
    · exact .inl cR
    · exact .inr ⟨Nat.le_of_not_lt cR,bd.c_ r U4⟩
  · have:=G aD
    rw [xy] at this
    exact this
  · have ag:=bd.an b0 (by rw [xn];simp [bQ.b1,aD])
    obtain ⟨cs,T,bF,c2,c3,c4,c5⟩:=V aD
    rw [xy] at c3 c5
    exact ⟨⟨Nat.le_of_not_lt ag.2.2,ag.1,ag.2.1⟩,cs,T,bF,c2,c3,c4,c5⟩
end Go.Fer
namespace Go.Fer
open A (W)
set_option linter.unusedVariables false
abbrev bp:Type:=z2'×List (List (Int×z1'×Int×Int))×Int×z2'
abbrev qp:Type:=bp×List (z1')
abbrev e9 (l:z4') (a b:Int):z4':=lD (k:=.int .i64) (v:=.int .i64) l a b
abbrev vl (l:z5') (a:Int×Int×Int) (b:Int):z5':=lD (k:=.st (.aA (.int .i64) (.aA (.int .i64) (.int .i64)))) (v:=.int .i64) l a b
def M0 (lj:Int×Int×Int->A Bool) (x:bp×Int):A Bool:=
 A.bind (lj (x.2,0,IntKind.wrap .i64 (Int.ofNat (List.length x.1.1)-1))) λy=>A.pure y
def G7 (lj:Int×Int×Int->A Bool) (aiC:bp×Int->A Bool) (x:bp×Int×Int):A Bool:=
 A.bind (aiC (x.1,x.2.1)) λy=>A.ae (y=true->(y=true/\y=true)/\(0<=x.2.1/\x.2.1<Int.ofNat (List.length x.1.2.1))/\True) (A.bind (cg y (lj (x.2.2,0,IntKind.wrap .i64 (Int.ofNat (List.length (List.getD x.1.2.1 (Int.toNat x.2.1) []))-1))) false) (λbV=>A.pure (y&&bV)))
def M1 (aiD:z2'×List (List (Int×z1'×Int×Int))×Int×z2'->A Bool) (x:z2'×List (List (Int×z1'×Int×Int))×Int×z2'):A Int:=
 A.bind (aiD x) λy=>if (!y)=true then A.pure 70 else A.bind (A.loop (λ(D:Int×bp×Unit)=>if decide (D.1<Int.ofNat (List.length D.2.1.2.2.2))=true then A.bind (A.loop (λ(D:Int×Int×bp×Unit)=>letI d:=D.2.2.1.2.2.2;letI c:=Int.ofNat (List.length d);letI b:=List.getD d (Int.toNat D.1) (0,0,0,0);letI a:=List.getD d (Int.toNat D.2.1) (0,0,0,0);if decide (D.2.1<D.1)=true then A.ae (0<=D.2.1/\D.2.1<c) (A.ae (0<=D.1/\D.1<c) (if (decide (a.1=b.1)&&decide (a.2.1=b.2.1)&&decide (a.2.2.1=b.2.2.1)&&decide (a.2.2.2≠b.2.2.2))=true then A.bind (A.bind (A.bind (A.bind (A.pure 71) (λr=>A.pure (W.done r))) (λr=>A.pure (W.done r))) (λr=>A.pure (W.done r))) λr=>A.pure (W.done r) else A.pure (W.next (D.1,IntKind.wrap .i64 (Add.add D.2.1 1),D.2.2.1,())))) else A.bind (A.pure (W.next (D.1,D.2.2.1,()))) λr=>A.pure (W.done r)) (D.1,0,D.2.1,())) (W.bC (λ(D:Int×bp×Unit)=>A.pure (W.next (IntKind.wrap .i64 (Add.add D.1 1),D.2.1,())))) else A.bind (A.pure (W.next ())) λr=>A.pure (W.done r)) (0,x,())) (W.bC (λ(D:Unit)=>A.pure 0))
def U5 (aiE:z1'×Int->A Bool) (lj:Int×Int×Int->A Bool) (x:bp×Int×Int×Int×Int):A Bool:=
 letI e:=x.2.2.2;letI c:=List.getD x.1.2.1 (Int.toNat e.1) [];letI b:=List.getD x.1.1 (Int.toNat x.2.1) (0,0,0,0);letI a:=List.getD c (Int.toNat e.2) (0,[],0,0);letI d:=decide (b.1=a.1);A.ae (0<=x.2.1/\x.2.1<Int.ofNat (List.length x.1.1)) (A.ae (0<=e.1/\e.1<Int.ofNat (List.length x.1.2.1)) (A.ae (0<=e.2/\e.2<Int.ofNat (List.length c)) (A.bind (cg d (aiE (a.2.1,b.2.1)) false) (λy=>A.bind (cg (d&&y) (lj (x.2.2.1,a.2.2.1,IntKind.wrap .i64 (Add.add a.2.2.2 x.1.2.2.1))) false) λbV=>A.pure (d&&y&&bV)))))
def M2 (x:z1'):A Bool:=
 A.bind (A.loop (λ(D:z1'×Int×Unit)=>letI c:=D.2.1;letI b:=IntKind.wrap .i64 (c-1);letI a:=Int.ofNat (List.length D.1);if decide (c<a)=true then A.ae (0<=c/\c<a) (A.ae (0<=b/\b<a) (if decide (List.getD D.1 (Int.toNat c) 0<=List.getD D.1 (Int.toNat b) 0)=true then A.bind (A.bind (A.pure false) (λr=>A.pure (W.done r))) λr=>A.pure (W.done r) else A.pure (W.next (D.1,IntKind.wrap .i64 (Add.add c 1),())))) else A.bind (A.pure (W.next ())) λr=>A.pure (W.done r)) (x,1,())) (W.bC (λ(D:Unit)=>A.pure true))
def aiF (x:Int×Int×Int):A Bool:=
 A.pure (decide (x.1>=x.2.1)&&decide (x.1<=x.2.2))
def M3 (lj:Int×Int×Int->A Bool) (x:bp×Int):A Bool:=
 A.bind (lj (x.2,0,IntKind.wrap .i64 (Int.ofNat (List.length x.1.2.1)-1))) λy=>A.pure y
def M4 (aiG:bp×Int->A Bool) (aiH:bp×Int×Int->A Bool) (lj:Int×Int×Int->A Bool) (M5:Int×Int->A Bool) (aiI:Int×z1'×Int×Int->A Bool) (x:z2'×List (List (Int×z1'×Int×Int))×Int×z2'):A Bool:=
 letI c:=decide (Int.ofNat (List.length x.1) > 10)||decide (Int.ofNat (List.length x.2.1) > 6);A.bind (cg (!c) (lj (x.2.2.1,0,99)) false) λy=>if (c||!y||decide (Int.ofNat (List.length x.2.2.2) > 30))=true then A.pure false else A.bind (A.loop (λ(D:Int×bp×Unit)=>letI h:=D.1<Int.ofNat (List.length D.2.1.1);letI b:=List.getD D.2.1.1 (Int.toNat D.1) (0,0,0,0);if decide h=true then A.ae (0<=D.1/\h) (A.bind (lj (b.1,0,9)) (λy=>A.bind (cg (!(!y)) (lj (b.2.1,0,9)) false) λbV=>A.bind (cg (!(!y||!bV)) (M5 b.2.2) false) λdL=>if (!y||!bV||!dL)=true then A.bind (A.bind (A.pure false) (λr=>A.pure (W.done r))) λr=>A.pure (W.done r) else A.pure (W.next (IntKind.wrap .i64 (Add.add D.1 1),D.2.1,())))) else A.bind (A.pure (W.next (D.2.1,()))) λr=>A.pure (W.done r)) (0,x,())) (W.bC (λ(D:bp×Unit)=>A.bind (A.loop (λ(D:Int×bp×Unit)=>letI g:=D.1<Int.ofNat (List.length D.2.1.2.1);if decide g=true then A.bind (A.ae (0<=D.1/\g) (if decide (Int.ofNat (List.length (List.getD D.2.1.2.1 (Int.toNat D.1) [])) > 4)=true then A.bind (A.bind (A.bind (A.pure false) (λr=>A.pure (W.done r))) (λr=>A.pure (W.done r))) λr=>A.pure (W.done r) else A.loop (λ(D:Int×Int×bp×Unit)=>letI j:=D.2.2.1;letI e:=0<=D.1/\D.1<Int.ofNat (List.length j.2.1);letI d:=List.getD j.2.1 (Int.toNat D.1) [];letI i:=D.2.1<Int.ofNat (List.length d);A.ae e (if decide i=true then A.ae e (A.ae (0<=D.2.1/\i) (A.bind (aiI (List.getD d (Int.toNat D.2.1) (0,[],0,0))) (λy=>if (!y)=true then A.bind (A.bind (A.bind (A.bind (A.pure false) (λr=>A.pure (W.done r))) (λr=>A.pure (W.done r))) (λr=>A.pure (W.done r))) λr=>A.pure (W.done r) else A.pure (W.next (D.1,IntKind.wrap .i64 (Add.add D.2.1 1),j,()))))) else A.bind (A.pure (W.next (D.1,j,()))) λr=>A.pure (W.done r))) (D.1,0,D.2.1,()))) (W.bC (λ(D:Int×bp×Unit)=>A.pure (W.next (IntKind.wrap .i64 (Add.add D.1 1),D.2.1,())))) else A.bind (A.pure (W.next (D.2.1,()))) λr=>A.pure (W.done r)) (0,D.1,())) (W.bC (λ(D:bp×Unit)=>A.bind (A.loop (λ(D:Int×bp×Unit)=>letI f:=D.1<Int.ofNat (List.length D.2.1.2.2.2);letI a:=List.getD D.2.1.2.2.2 (Int.toNat D.1) (0,0,0,0);if decide f=true then A.ae (0<=D.1/\f) (A.bind (aiG (D.2.1,a.1)) (λy=>A.bind (cg (!(!y)) (aiH (D.2.1,a.2.1,a.2.2.1)) false) λbV=>A.bind (cg (!(!y||!bV)) (lj (a.2.2.2,0,1)) false) λdL=>if (!y||!bV||!dL)=true then A.bind (A.bind (A.pure false) (λr=>A.pure (W.done r))) λr=>A.pure (W.done r) else A.pure (W.next (IntKind.wrap .i64 (Add.add D.1 1),D.2.1,())))) else A.bind (A.pure (W.next ())) λr=>A.pure (W.done r)) (0,D.1,())) (W.bC (λ(D:Unit)=>A.pure true))))))
def M6 (lj:Int×Int×Int->A Bool) (x:Int×Int):A Bool:=
 A.bind (lj (x.1,0,x.2)) λy=>A.pure (y&&decide (x.2<=999))
def M7 (aiJ:z1'->A Bool) (lj:Int×Int×Int->A Bool) (M5:Int×Int->A Bool) (x:Int×z1'×Int×Int):A Bool:=
 A.bind (A.loop (λ(D:Int×(Int×z1'×Int×Int)×Unit)=>letI b:=D.1<Int.ofNat (List.length D.2.1.2.1);if decide b=true then A.ae (0<=D.1/\b) (A.bind (lj (List.getD D.2.1.2.1 (Int.toNat D.1) 0,0,9)) (λy=>if (!y)=true then A.bind (A.bind (A.pure false) (λr=>A.pure (W.done r))) λr=>A.pure (W.done r) else A.pure (W.next (IntKind.wrap .i64 (Add.add D.1 1),D.2.1,())))) else A.bind (A.pure (W.next (D.2.1,()))) λr=>A.pure (W.done r)) (0,x,())) (W.bC (λ(D:(Int×z1'×Int×Int)×Unit)=>A.bind (lj (D.1.1,0,9)) λy=>letI a:=y&&decide (Int.ofNat (List.length D.1.2.1)<=4);A.bind (cg a (aiJ D.1.2.1) false) λbV=>A.bind (cg (a&&bV) (M5 D.1.2.2) false) λdL=>A.pure (a&&bV&&dL)))
def U6 (aw_:Int×Int->A (Int×Int)) (aiK:Int×Int->A (Int×Int)) (x:Int×Int):A (Int×Int):=
 A.bind (aiK x) λy=>A.pure y
def U7 (aiL:z1'×Int->A Int) (x:z1'×Int):A Bool:=
 A.bind (aiL x) λy=>A.pure (decide (y>=0))
def U8 (x:Int×Int):A (Int×Int):=
 A.ae ((0:Int)<=32) (A.ae ((0:Int)<=32) (A.ae ((0:Int)<=32) (A.ae ((0:Int)<=32) (A.ae ((0:Int)<=32) (A.pure (IntKind.wrap .u64 (Add.add (IntKind.wrap .u64 (Add.add (IntKind.wrap .u64 (jd .u64 x.1 32*jd .u64 x.2 32)) (jd .u64 (IntKind.wrap .u64 (Add.add (IntKind.wrap .u64 (jd .u64 x.1 32*lC .u64 x.2 4294967295)) (jd .u64 (IntKind.wrap .u64 (lC .u64 x.1 4294967295*lC .u64 x.2 4294967295)) 32))) 32))) (jd .u64 (IntKind.wrap .u64 (Add.add (lC .u64 (IntKind.wrap .u64 (Add.add (IntKind.wrap .u64 (jd .u64 x.1 32*lC .u64 x.2 4294967295)) (jd .u64 (IntKind.wrap .u64 (lC .u64 x.1 4294967295*lC .u64 x.2 4294967295)) 32))) 4294967295) (IntKind.wrap .u64 (lC .u64 x.1 4294967295*jd .u64 x.2 32)))) 32)),IntKind.wrap .u64 (x.1*x.2)))))))
def M8 (x:z1'×Int):A Int:=
 A.bind (A.loop (λ(D:z1'×Int×Int×Int×Unit)=>letI a:=D.2.2.2.1;if decide (a<D.2.2.1)=true then A.ae (0<=a/\a<Int.ofNat (List.length D.1)) (if decide (D.2.1=List.getD D.1 (Int.toNat a) 0)=true then A.bind (A.bind (A.pure a) (λr=>A.pure (W.done r))) λr=>A.pure (W.done r) else A.pure (W.next (D.1,D.2.1,D.2.2.1,IntKind.wrap .i64 (Add.add a 1),()))) else A.bind (A.pure (W.next ())) λr=>A.pure (W.done r)) (x.1,x.2,Int.ofNat (List.length x.1),0,())) (W.bC (λ(D:Unit)=>A.pure (-1)))
end Go.Fer
namespace Go.Fer
open A (W)
set_option linter.unusedVariables false
def M9 (aiM:z2'×List (List (Int×z1'×Int×Int))×Int×z2'->A Bool) (x:z2'×List (List (Int×z1'×Int×Int))×Int×z2'):A Int:=
 A.bind (aiM x) λy=>if (!y)=true then A.pure 70 else A.bind (A.loop (λ(D:z2'×Int×Int×z5'×Unit)=>letI c:=D.2.2.1;letI a:=List.getD D.1 (Int.toNat c) (0,0,0,0);letI b:=Option.map (λx=>x.2) (List.find? (λp=>decide (a.1=p.1.1)&&(decide (a.2.1=p.1.2.1)&&decide (a.2.2.1=p.1.2.2))) D.2.2.2.1);if decide (c<D.2.1)=true then A.ae (0<=c/\c<Int.ofNat (List.length D.1)) (if (Option.isSome b&&decide (Option.getD b 0≠a.2.2.2))=true then A.bind (A.bind (A.pure 71) (λr=>A.pure (W.done r))) λr=>A.pure (W.done r) else A.pure (W.next (D.1,D.2.1,IntKind.wrap .i64 (Add.add c 1),vl D.2.2.2.1 (a.1,a.2.1,a.2.2.1) a.2.2.2,()))) else A.bind (A.pure (W.next ())) λr=>A.pure (W.done r)) (x.2.2.2,Int.ofNat (List.length x.2.2.2),0,[],())) (W.bC (λ(D:Unit)=>A.pure 0))
def M_ (mn:bp×Bool->A (Option qp×Int)) (im:bp×Int->A Bool) (x:bp×Int):A ((Int×Int)×Int):=
 letI a:=Int.toNat x.2;A.ae (im x).cr (A.ae (mn (x.1,A.val (im x) false)).cr (if decide ((A.val (mn (x.1,A.val (im x) false)) (none,0)).2≠0)=true then A.pure ((0,0),(A.val (mn (x.1,A.val (im x) false)) (none,0)).2) else A.ae (Option.isSome (A.val (mn (x.1,A.val (im x) false)) (none,0)).1=true) (A.ae (0<=x.2/\x.2<Int.ofNat (List.length (Option.getD (A.val (mn (x.1,A.val (im x) false)) (none,0)).1 (([],[],0,[]),[])).2)) (A.ae ((0:Int)<=0/\0<Int.ofNat (List.length (List.getD (Option.getD (A.val (mn (x.1,A.val (im x) false)) (none,0)).1 (([],[],0,[]),[])).2 a []))) (A.ae (0<=IntKind.wrap .i64 (Int.ofNat (List.length (List.getD (Option.getD (A.val (mn (x.1,A.val (im x) false)) (none,0)).1 (([],[],0,[]),[])).2 a []))-1)/\IntKind.wrap .i64 (Int.ofNat (List.length (List.getD (Option.getD (A.val (mn (x.1,A.val (im x) false)) (none,0)).1 (([],[],0,[]),[])).2 a []))-1)<Int.ofNat (List.length (List.getD (Option.getD (A.val (mn (x.1,A.val (im x) false)) (none,0)).1 (([],[],0,[]),[])).2 a []))) (A.pure ((List.getD (List.getD (Option.getD (A.val (mn (x.1,A.val (im x) false)) (none,0)).1 (([],[],0,[]),[])).2 a []) (Int.toNat 0) 0,List.getD (List.getD (Option.getD (A.val (mn (x.1,A.val (im x) false)) (none,0)).1 (([],[],0,[]),[])).2 a []) (Int.toNat (IntKind.wrap .i64 (Int.ofNat (List.length (List.getD (Option.getD (A.val (mn (x.1,A.val (im x) false)) (none,0)).1 (([],[],0,[]),[])).2 a []))-1))) 0),0)))))))
def M' (mn:bp×Bool->A (Option qp×Int)) (im:bp×Int->A Bool) (xH:bp×Int×Int->A Bool) (aiN:Option qp×Int×Int×Int->A Int) (x:bp×Int×Int×Int):A (Int×Int):=
 letI b:=(x.1,x.2.2);letI a:=(x.1,x.2.1);A.ae (im a).cr (A.ae (A.val (im a) false=true->(A.val (im a) false=true/\A.val (im a) false=true/\A.val (im a) false=true/\True)/\(xH b).cr/\True) (A.ae (True/\(A.val (im a) false=true->A.val (im a) false=true)) (A.ae (mn (x.1,A.val (im a) false&&A.val (xH b) false)).cr (if decide ((A.val (mn (x.1,A.val (im a) false&&A.val (xH b) false)) (none,0)).2≠0)=true then A.pure (0,(A.val (mn (x.1,A.val (im a) false&&A.val (xH b) false)) (none,0)).2) else A.bind (aiN ((A.val (mn (x.1,A.val (im a) false&&A.val (xH b) false)) (none,0)).1,x.2)) λy=>A.pure (y,0)))))
def U9 (oG:Int×Int×Int->A Bool) (aiO:z2'×(Int×Int×Int×Int->A Bool)->A Bool) (aiP:List (List (Int×z1'×Int×Int))×(List (Int×z1'×Int×Int)->A Bool)->A Bool) (Na:z2'×(Int×Int×Int×Int->A Bool)->A Bool) (aiQ:List (Int×z1'×Int×Int)×Option (Int×z1'×Int×Int->A Bool)->A Bool) (aiR:(Int×Int×Int×Int)×Option bp->A Bool) (aiS:Int×Int×Int×Int->A Bool) (aiT:Int×z1'×Int×Int->A Bool) (x:z2'×List (List (Int×z1'×Int×Int))×Int×z2'):A Bool:=
 letI c:=decide (Int.ofNat (List.length x.1)<=10);A.bind (cg c (aiO (x.1,aiS)) false) λy=>letI a:=c&&y&&decide (Int.ofNat (List.length x.2.1)<=6);A.bind (cg a (aiP (x.2.1,λx=>aiQ (x,some aiT))) false) λbV=>A.bind (cg (a&&bV) (oG (x.2.2.1,0,99)) false) λdL=>letI b:=a&&bV&&dL&&decide (Int.ofNat (List.length x.2.2.2)<=30);A.bind (cg b (Na (x.2.2.2,λhv=>aiR (hv,some x))) false) λgB=>A.pure (b&&gB)
def Nb (Dp:z2'×List (List (Int×z1'×Int×Int))×Int×z2'->A Int) (Na:z2'×(Int×Int×Int×Int->A Bool)->A Bool) (aiU:(Int×Int×Int×Int)×Option Int×Option bp×Option Int->A Bool) (x:bp×Bool):A (Option qp×Int):=
 A.bind (Dp x.1) λy=>if decide (y≠0)=true then A.pure (none,y) else if (!x.2)=true then A.pure (none,1) else A.bind (A.loop (λ(D:z2'×Int×Int×bp×z2'×List (List (Int×z1'×Int×Int))×Int×z2'×List (z1')×Unit)=>letI i:=D.2.2.1;letI g:=List.getD D.1 (Int.toNat i) (0,0,0,0);letI c:=D.2.2.2.2;if decide (i<D.2.1)=true then A.bind (A.ae (0<=i/\i<Int.ofNat (List.length D.1)) (A.bind (A.loop (λ(D:z2'×Int×Int×bp×Int×(Int×Int×Int×Int)×z1'×Int×z2'×List (List (Int×z1'×Int×Int))×Int×z2'×List (z1')×Unit)=>letI d:=D.2.2.2;letI a:=d.2.2.2;letI j:=a.2.2;letI e:=j.2.2;if decide (a.2.1<=d.2.2.1.2.2.2)=true then A.bind (A.bind (Na (d.1.2.2.2,λx=>aiU (x,some d.2.1,some d.1,some a.2.1))) (λy=>if y=true then A.ae (cn (Add.add (List.length a.1) (Add.add 0 1))) (A.pure (W.next (D.1,D.2.1,D.2.2.1,d.1,d.2.1,d.2.2.1,a.1++[a.2.1],a.2.1,j.1,j.2.1,e.1,e.2.1,e.2.2.1,()))) else A.pure (W.next (D.1,D.2.1,D.2.2.1,d.1,d.2.1,d.2.2.1,a.1,a.2.1,j.1,j.2.1,e.1,e.2.1,e.2.2.1,())))) (W.bC (λ(D:z2'×Int×Int×bp×Int×(Int×Int×Int×Int)×z1'×Int×z2'×List (List (Int×z1'×Int×Int))×Int×z2'×List (z1')×Unit)=>letI k:=D.2.2.2;letI b:=k.2.2.2;A.pure (W.next (D.1,D.2.1,D.2.2.1,k.1,k.2.1,k.2.2.1,b.1,IntKind.wrap .i64 (Add.add b.2.1 1),b.2.2.1,b.2.2.2.1,b.2.2.2.2.1,b.2.2.2.2.2.1,b.2.2.2.2.2.2.1,())))) else A.bind (A.pure (W.next (D.1,D.2.1,D.2.2.1,d.1,a.1,j.1,j.2.1,e.1,e.2.1,e.2.2.1,()))) λr=>A.pure (W.done r)) (D.1,D.2.1,i,D.2.2.2.1,i,g,[],g.2.2.1,c.1,c.2.1,c.2.2.1,c.2.2.2.1,c.2.2.2.2.1,())) (W.bC (λ(D:z2'×Int×Int×bp×z1'×z2'×List (List (Int×z1'×Int×Int))×Int×z2'×List (z1')×Unit)=>letI f:=D.2.2.2.2;if decide (Int.ofNat (List.length f.1)=0)=true then A.bind (A.bind (A.bind (A.pure (none,3)) (λr=>A.pure (W.done r))) (λr=>A.pure (W.done r))) λr=>A.pure (W.done r) else A.ae True (A.ae (cn (Add.add (List.length f.2.2.2.2.2.1) (Add.add 0 1))) (A.ae True (A.pure (W.next (D.1,D.2.1,D.2.2.1,D.2.2.2.1,f.2.1,f.2.2.1,f.2.2.2.1,f.2.2.2.2.1,f.2.2.2.2.2.1++[f.1],()))))))))) (W.bC (λ(D:z2'×Int×Int×bp×z2'×List (List (Int×z1'×Int×Int))×Int×z2'×List (z1')×Unit)=>letI h:=D.2.2.2.2;A.pure (W.next (D.1,D.2.1,IntKind.wrap .i64 (Add.add D.2.2.1 1),D.2.2.2.1,h.1,h.2.1,h.2.2.1,h.2.2.2.1,h.2.2.2.2.1,())))) else A.bind (A.pure (W.next (c.1,c.2.1,c.2.2.1,c.2.2.2.1,c.2.2.2.2.1,()))) λr=>A.pure (W.done r)) (x.1.1,Int.ofNat (List.length x.1.1),0,x.1,x.1.1,x.1.2.1,x.1.2.2.1,x.1.2.2.2,[],())) (W.bC (λ(D:z2'×List (List (Int×z1'×Int×Int))×Int×z2'×List (z1')×Unit)=>A.pure (some ((D.1,D.2.1,D.2.2.1,D.2.2.2.1),D.2.2.2.2.1),0)))
def aiV (oG:Int×Int×Int->A Bool) (x:bp×Int):A Bool:=
 A.bind (oG (x.2,0,IntKind.wrap .i64 (Int.ofNat (List.length x.1.1)-1))) λy=>A.pure y
def U_ (oG:Int×Int×Int->A Bool) (x:bp×Int×Int):A Bool:=
 letI a:=Int.ofNat (List.length x.1.2.1);A.bind (oG (x.2.1,0,IntKind.wrap .i64 (a-1))) λy=>A.ae (y=true->(y=true/\y=true)/\(0<=x.2.1/\x.2.1<a)/\True) (A.bind (cg y (oG (x.2.2,0,IntKind.wrap .i64 (Int.ofNat (List.length (List.getD x.1.2.1 (Int.toNat x.2.1) []))-1))) false) (λbV=>A.pure (y&&bV)))
def Nc (G8:bp×Int×Int×Int×Int->A Bool) (aiW:Int×Int->A Int) (x:Option qp×Int×Int×Int):A Int:=
 letI b:=(Option.getD x.1 (([],[],0,[]),[])).2;letI e:=List.getD b (Int.toNat x.2.1) [];A.bind (A.ae (Option.isSome x.1=true) (A.ae (0<=x.2.1/\x.2.1<Int.ofNat (List.length b)) (A.loop (λ(D:Option qp×Int×Int×Int×Int×z1'×Int×Int×Unit)=>letI c:=D.2.2.2;letI a:=c.2.2;letI f:=a.2.2.1;if decide (f<a.2.1)=true then A.bind (A.ae (0<=f/\f<Int.ofNat (List.length a.1)) (A.ae (Option.isSome D.1=true) (A.bind (G8 ((Option.getD D.1 (([],[],0,[]),[])).1,D.2.1,List.getD a.1 (Int.toNat f) 0,D.2.2.1,c.1)) (λy=>if y=true then A.pure (W.next (D.1,D.2.1,D.2.2.1,c.1,IntKind.wrap .i64 (Add.add c.2.1 1),a.1,a.2.1,f,())) else A.pure (W.next (D.1,D.2.1,D.2.2.1,c.1,c.2.1,a.1,a.2.1,f,())))))) (W.bC (λ(D:Option qp×Int×Int×Int×Int×z1'×Int×Int×Unit)=>letI g:=D.2.2.2;A.pure (W.next (D.1,D.2.1,D.2.2.1,g.1,g.2.1,g.2.2.1,g.2.2.2.1,IntKind.wrap .i64 (Add.add g.2.2.2.2.1 1),())))) else A.bind (A.pure (W.next (D.1,D.2.1,c.2.1,()))) λr=>A.pure (W.done r)) (x.1,x.2.1,x.2.2.1,x.2.2.2,0,e,Int.ofNat (List.length e),0,())))) (W.bC (λ(D:Option qp×Int×Int×Unit)=>letI d:=(Option.getD D.1 (([],[],0,[]),[])).2;A.ae (Option.isSome D.1=true) (A.ae (0<=D.2.1/\D.2.1<Int.ofNat (List.length d)) (A.bind (aiW (D.2.2.1,Int.ofNat (List.length (List.getD d (Int.toNat D.2.1) [])))) (λy=>A.pure y)))))
def aiX (x:z1'):A Bool:=
 A.bind (A.loop (λ(D:z1'×Int×Unit)=>letI c:=D.2.1;letI b:=IntKind.wrap .i64 (c-1);letI a:=Int.ofNat (List.length D.1);if decide (c<a)=true then A.ae (0<=c/\c<a) (A.ae (0<=b/\b<a) (if decide (List.getD D.1 (Int.toNat c) 0<=List.getD D.1 (Int.toNat b) 0)=true then A.bind (A.bind (A.pure false) (λr=>A.pure (W.done r))) λr=>A.pure (W.done r) else A.pure (W.next (D.1,IntKind.wrap .i64 (Add.add c 1),())))) else A.bind (A.pure (W.next ())) λr=>A.pure (W.done r)) (x,1,())) (W.bC (λ(D:Unit)=>A.pure true))
def aiY (x:Int×Int×Int):A Bool:=
 A.pure (decide (x.2.1<=x.1)&&decide (x.1<=x.2.2))
def U' (Dq:Int->A Bool) (Nd:Int×Int->A Bool) (x:Int×Int×Int×Int):A Bool:=
 A.bind (Dq x.1) λy=>A.bind (cg y (Dq x.2.1) false) λbV=>A.bind (cg (y&&bV) (Nd x.2.2) false) λdL=>A.pure (y&&bV&&dL)
def Va (oG:Int×Int×Int->A Bool) (x:Int):A Bool:=
 A.bind (oG (x,0,9)) λy=>A.pure y
def aiZ (oG:Int×Int×Int->A Bool) (x:Int×Int):A Bool:=
 A.bind (oG (x.1,0,x.2)) λy=>A.pure (y&&decide (x.2<=999))
def Vb (ai0:z1'->A Bool) (ai1:z1'×(Int->A Bool)->A Bool) (Dq:Int->A Bool) (Nd:Int×Int->A Bool) (x:Int×z1'×Int×Int):A Bool:=
 A.bind (Dq x.1) λy=>letI a:=y&&decide (Int.ofNat (List.length x.2.1)<=4);A.bind (cg a (ai1 (x.2.1,Dq)) false) λbV=>A.bind (cg (a&&bV) (ai0 x.2.1) false) λdL=>A.bind (cg (a&&bV&&dL) (Nd x.2.2) false) λgB=>A.pure (a&&bV&&dL&&gB)
def Vc (ai2:List (Int×z1'×Int×Int)×(Int×z1'×Int×Int->A Bool)->A Bool) (x:List (Int×z1'×Int×Int)×Option (Int×z1'×Int×Int->A Bool)):A Bool:=
 letI a:=decide (Int.ofNat (List.length x.1)<=4);A.bind (cg a (ai2 (x.1,Option.getD x.2 λx=>{ cr:=False,bR:=λx=>False })) false) λy=>A.pure (a&&y)
def Vd (im:bp×Int->A Bool) (xH:bp×Int×Int->A Bool) (oG:Int×Int×Int->A Bool) (x:(Int×Int×Int×Int)×Option bp):A Bool:=
 letI a:=Option.getD x.2 ([],[],0,[]);A.bind (im (a,x.1.1)) λy=>A.bind (cg y (xH (a,x.1.2.1,x.1.2.2.1)) false) λbV=>A.bind (cg (y&&bV) (oG (x.1.2.2.2,0,1)) false) λdL=>A.pure (y&&bV&&dL)
def Ve (G8:bp×Int×Int×Int×Int->A Bool) (x:(Int×Int×Int×Int)×Option Int×Option bp×Option Int):A Bool:=
 letI e:=Option.getD x.2.1 0;letI c:=decide (x.1.1≠e);letI b:=(Option.getD x.2.2.1 ([],[],0,[]),e,Option.getD x.2.2.2 0,x.1.2.1,x.1.2.2.1);letI a:=(!c)=true;letI d:=a->a/\True/\True;A.ae d (A.ae d (A.ae (a->(a/\a/\a/\a/\a/\True)/\(G8 b).cr/\True) (A.ae d (A.ae (a->(a/\True)/\True/\True) (A.ae (a->(a/\a)/\True/\True) (A.ae (True/\(c=false->a)) (A.pure (c||decide (A.val (G8 b) false=decide (x.1.2.2.2=1))))))))))
def Vf (oG:Int×Int×Int->A Bool) (hI:z1'×Int->A Bool) (x:bp×Int×Int×Int×Int):A Bool:=
 letI e:=x.2.2.2;letI c:=List.getD x.1.2.1 (Int.toNat e.1) [];letI b:=List.getD x.1.1 (Int.toNat x.2.1) (0,0,0,0);letI a:=List.getD c (Int.toNat e.2) (0,[],0,0);letI d:=decide (b.1=a.1);A.ae (0<=x.2.1/\x.2.1<Int.ofNat (List.length x.1.1)) (A.ae (0<=e.1/\e.1<Int.ofNat (List.length x.1.2.1)) (A.ae (0<=e.2/\e.2<Int.ofNat (List.length c)) (A.bind (cg d (hI (a.2.1,b.2.1)) false) (λy=>A.bind (cg (d&&y) (oG (x.2.2.1,a.2.2.1,IntKind.wrap .i64 (Add.add a.2.2.2 x.1.2.2.1))) false) λbV=>A.pure (d&&y&&bV)))))
def Vg (x:Int×Int):A Int:=
 if decide (x.1=x.2)=true then A.pure 1 else if decide (x.1=0)=true then A.pure 2 else A.pure 3
end Go.Fer
namespace Go.Fer
open A (W)
set_option linter.unusedVariables false
def Nf (Ng:z2'×List (List (Int×z1'×Int×Int))×Int×z2'->A Int) (x:z2'×List (List (Int×z1'×Int×Int))×Int×z2'):A Bool:=
 if (decide (Int.ofNat (List.length x.1) > 40)||decide (Int.ofNat (List.length x.2.1) > 40)||decide (Int.ofNat (List.length x.2.2.2) > 60))=true then A.pure true else A.bind (A.loop (λ(D:Int×bp×Unit)=>letI e:=D.1<Int.ofNat (List.length D.2.1.2.1);if decide e=true then A.bind (A.ae (0<=D.1/\e) (if decide (Int.ofNat (List.length (List.getD D.2.1.2.1 (Int.toNat D.1) [])) > 20)=true then A.bind (A.bind (A.bind (A.pure true) (λr=>A.pure (W.done r))) (λr=>A.pure (W.done r))) λr=>A.pure (W.done r) else A.loop (λ(D:Int×Int×bp×Unit)=>letI g:=D.2.2.1;letI c:=0<=D.1/\D.1<Int.ofNat (List.length g.2.1);letI a:=List.getD g.2.1 (Int.toNat D.1) [];letI f:=D.2.1<Int.ofNat (List.length a);A.ae c (if decide f=true then A.ae c (A.ae (0<=D.2.1/\f) (if decide (Int.ofNat (List.length (List.getD a (Int.toNat D.2.1) (0,[],0,0)).2.1) > 20)=true then A.bind (A.bind (A.bind (A.bind (A.pure true) (λr=>A.pure (W.done r))) (λr=>A.pure (W.done r))) (λr=>A.pure (W.done r))) λr=>A.pure (W.done r) else A.pure (W.next (D.1,IntKind.wrap .i64 (Add.add D.2.1 1),g,())))) else A.bind (A.pure (W.next (D.1,g,()))) λr=>A.pure (W.done r))) (D.1,0,D.2.1,()))) (W.bC (λ(D:Int×bp×Unit)=>A.pure (W.next (IntKind.wrap .i64 (Add.add D.1 1),D.2.1,())))) else A.bind (A.pure (W.next (D.2.1,()))) λr=>A.pure (W.done r)) (0,x,())) (W.bC (λ(D:bp×Unit)=>A.bind (Ng D.1) λy=>if decide (y≠0)=true then A.pure false else A.bind (A.loop (λ(D:Int×bp×Unit)=>letI d:=(List.getD D.2.1.1 (Int.toNat D.1) (0,0,0,0)).2.2;letI b:=D.1<Int.ofNat (List.length D.2.1.1);if decide b=true then A.ae (0<=D.1/\b) (A.ae (0<=D.1/\b) (if decide (IntKind.wrap .i64 (d.2-d.1)>=50)=true then A.bind (A.bind (A.pure true) (λr=>A.pure (W.done r))) λr=>A.pure (W.done r) else A.pure (W.next (IntKind.wrap .i64 (Add.add D.1 1),D.2.1,())))) else A.bind (A.pure (W.next (D.2.1,()))) λr=>A.pure (W.done r)) (0,D.1,())) (W.bC (λ(D:bp×Unit)=>A.pure (decide (Int.ofNat (List.length D.1.1) > 6)||decide (Int.ofNat (List.length D.1.2.1) > 4)||decide (Int.ofNat (List.length D.1.2.2.2) > 10))))))
def ai3 (x:Unit):A bp:=
 A.pure ([(1,2,300,310),(1,3,305,305),(2,1,50,60),(1,2,320,330)],[[(1,[2,3],300,306),(2,[1],40,58)],[(1,[2],310,326)]],5,[(0,1,0,0)])
end Go.Fer
namespace Go.Fer
open A (W)
set_option linter.unusedVariables false
abbrev dy:Type:=Int×Int×Int×Int×z1'
abbrev dN:Type:=z1'×(Int×Int)×Int×Int×Int
abbrev Dr:Type:=Int×Int×Int
abbrev bJ:Type:=bp×z1'×List dy×List dN×List Dr×Int
abbrev dv:Type:=bJ×z4'×z5'
def Vh (ai4:bJ×Bool->A (Int×Int)) (x:bJ):A (Int×Int):=
 A.bind (ai4 (x,true)) λy=>A.pure y
def Vi (oH:bJ×Bool->A (Option dv×Int)) (ai5:Option dv->Prop) (ai6:Option dv->List (z1')) (Nh:Option dv×z1'->A (z3'×Bool)) (ai7:Option dv×z3'->A Bool) (Ni:Option dv×z3'->A Int) (x:bJ):A (Int×Int):=
 A.bind (oH (x,true)) λy=>if decide (y.2≠0)=true then A.pure (0,y.2) else A.ae (ai5 y.1) (A.bind (jK (λ(D:Option (bJ×z4'×z5')×Int×Unit) (y:z1')=>A.bind (A.bind (Nh (D.1,y)) (λbV=>A.bind (cg (!(!bV.2)) (ai7 (D.1,bV.1)) false) λdL=>if (!bV.2||!dL)=true then A.pure (dd.normal,D.1,D.2.1,()) else A.bind (Ni (D.1,bV.1)) λgB=>if (decide (D.2.1=-1)||decide (gB<D.2.1))=true then A.pure (dd.normal,D.1,gB,()) else A.pure (dd.normal,D.1,D.2.1,()))) λp=>A.pure (p.1,p.2.1,p.2.2.1,())) (ai6 y.1) (y.1,-1,())) (λp=>letI a:=decide (p.2.2.1=-1)=true;r7 (if a then A.pure (0,3) else A.pure (p.2.2.1,0)) (λid=>if id=0 then if a then A.pure (0,3) else A.pure (p.2.2.1,0) else A.fail) A.fail p.1))
def Vj (oH:bJ×Bool->A (Option dv×Int)) (Ds:bJ×Int->A Bool) (Nj:z1'×Int×Unit->A (z1'×Unit)) (zX:Option dv×z1'->A Bool) (x:bJ×Int):A (z1'×Int):=
 A.ae (Ds x).cr (A.ae (oH (x.1,A.val (Ds x) false)).cr (if decide ((A.val (oH (x.1,A.val (Ds x) false)) (none,0)).2≠0)=true then A.pure ([],(A.val (oH (x.1,A.val (Ds x) false)) (none,0)).2) else A.bind (Nj ([-1],Int.ofNat (List.length x.1.2.2.2.1),())) λy=>A.bind (A.loop (λ(D:Int×Option ((bp×z1'×List dy×List dN×z3'×Int)×z4'×z5')×Int×Int×z1'×z1'×Unit)=>letI b:=D.2.2.2;letI a:=List.set b.2.2.1 (Int.toNat D.1) b.1;if decide (b.1<D.2.2.1)=true then A.bind (A.ae (0<=D.1/\D.1<Int.ofNat (List.length b.2.2.1)) (A.bind (zX (D.2.1,a)) (λy=>if y=true then A.ae (cn (Add.add (List.length b.2.1) (Add.add 0 1))) (A.pure (W.next (D.1,D.2.1,D.2.2.1,b.1,b.2.1++[b.1],a,()))) else A.pure (W.next (D.1,D.2.1,D.2.2.1,b.1,b.2.1,a,()))))) (W.bC (λ(D:Int×Option ((bp×z1'×List dy×List (z1'×(Int×Int)×Int×Int×Int)×z3'×Int)×z4'×z5')×Int×Int×z1'×z1'×Unit)=>A.pure (W.next (D.1,D.2.1,D.2.2.1,IntKind.wrap .i64 (Add.add D.2.2.2.1 1),D.2.2.2.2.1,D.2.2.2.2.2.1,())))) else A.bind (A.pure (W.next (b.2.1,()))) λr=>A.pure (W.done r)) (x.2,(A.val (oH (x.1,A.val (Ds x) false)) (none,0)).1,Int.ofNat (List.length x.1.2.2.1),0,[],y.1,())) (W.bC (λ(D:z1'×Unit)=>A.pure (D.1,0)))))
def Vk (Dp:z2'×List (List (Int×z1'×Int×Int))×Int×z2'->A Int) (ai8:bJ->A Bool) (x:bJ):A Int:=
 A.bind (Dp x.1) λy=>if decide (y≠0)=true then A.pure y else A.bind (ai8 x) λy=>if (!y)=true then A.pure 80 else A.pure 0
def Vl (Ng:z2'×List (List (Int×z1'×Int×Int))×Int×z2'->A Int) (nX:Int×Int×Int->A Bool) (Vm:bJ×Int×Int×Int×Int×z1'->A Bool) (ai9:z1'×(Int×Int)×Int×Int×Int->A Bool) (x:bJ):A Int:=
 letI a:=decide (Int.ofNat (List.length x.2.1)≠Int.ofNat (List.length x.1.1))||decide (Int.ofNat (List.length x.2.2.1) > 8)||decide (Int.ofNat (List.length x.2.2.2.1) > 6)||decide (Int.ofNat (List.length x.2.2.2.2.1) > 8);A.bind (Ng x.1) λy=>if decide (y≠0)=true then A.pure y else A.bind (cg (!a) (nX (x.2.2.2.2.2,0,99)) false) λy=>if (a||!y)=true then A.pure 80 else A.bind (A.loop (λ(D:Int×(bp×z1'×List (Int×Int×Int×Int×z1')×List dN×z3'×Int)×Unit)=>letI g:=D.1<Int.ofNat (List.length D.2.1.2.1);if decide g=true then A.ae (0<=D.1/\g) (A.bind (nX (List.getD D.2.1.2.1 (Int.toNat D.1) 0,0,10)) (λy=>if (!y)=true then A.bind (A.bind (A.pure 80) (λr=>A.pure (W.done r))) λr=>A.pure (W.done r) else A.pure (W.next (IntKind.wrap .i64 (Add.add D.1 1),D.2.1,())))) else A.bind (A.pure (W.next (D.2.1,()))) λr=>A.pure (W.done r)) (0,x,())) (W.bC (λ(D:(bp×z1'×List dy×List dN×z3'×Int)×Unit)=>A.bind (A.loop (λ(D:Int×(bp×z1'×List dy×List dN×z3'×Int)×Unit)=>letI f:=D.1<Int.ofNat (List.length D.2.1.2.2.1);letI c:=(D.2.1,List.getD D.2.1.2.2.1 (Int.toNat D.1) (0,0,0,0,[]));if decide f=true then A.ae (0<=D.1/\f) (A.ae (Vm c).cr (if (!(A.val (Vm c) false))=true then A.bind (A.bind (A.pure 80) (λr=>A.pure (W.done r))) λr=>A.pure (W.done r) else A.pure (W.next (IntKind.wrap .i64 (Add.add D.1 1),D.2.1,())))) else A.bind (A.pure (W.next (D.2.1,()))) λr=>A.pure (W.done r)) (0,D.1,())) (W.bC (λ(D:(bp×z1'×List dy×List (z1'×(Int×Int)×Int×Int×Int)×z3'×Int)×Unit)=>A.bind (A.loop (λ(D:Int×(bp×z1'×List dy×List (z1'×(Int×Int)×Int×Int×Int)×z3'×Int)×Unit)=>letI e:=D.1<Int.ofNat (List.length D.2.1.2.2.2.1);if decide e=true then A.ae (0<=D.1/\e) (A.bind (ai9 (List.getD D.2.1.2.2.2.1 (Int.toNat D.1) ([],(0,0),0,0,0))) (λy=>if (!y)=true then A.bind (A.bind (A.pure 80) (λr=>A.pure (W.done r))) λr=>A.pure (W.done r) else A.pure (W.next (IntKind.wrap .i64 (Add.add D.1 1),D.2.1,())))) else A.bind (A.pure (W.next (D.2.1,()))) λr=>A.pure (W.done r)) (0,D.1,())) (W.bC (λ(D:(bJ)×Unit)=>A.bind (A.loop (λ(D:Int×(bp×z1'×List dy×List dN×z3'×Int)×Unit)=>letI d:=D.1<Int.ofNat (List.length D.2.1.2.2.2.2.1);letI b:=List.getD D.2.1.2.2.2.2.1 (Int.toNat D.1) (0,0,0);if decide d=true then A.ae (0<=D.1/\d) (A.bind (nX (b.1,0,99)) (λy=>A.bind (cg (!(!y)) (nX (b.2.1,0,IntKind.wrap .i64 (Int.ofNat (List.length D.2.1.1.1)-1))) false) λbV=>A.bind (cg (!(!y||!bV)) (nX (b.2.2,1,10)) false) λdL=>if (!y||!bV||!dL)=true then A.bind (A.bind (A.pure 80) (λr=>A.pure (W.done r))) λr=>A.pure (W.done r) else A.pure (W.next (IntKind.wrap .i64 (Add.add D.1 1),D.2.1,())))) else A.bind (A.pure (W.next ())) λr=>A.pure (W.done r)) (0,D.1,())) (W.bC (λ(D:Unit)=>A.pure 0))))))))
def Vn (oH:bJ×Bool->A (Option dv×Int)) (zX:Option dv×z1'->A Bool) (zY:bJ×z1'->A Bool) (lV:Option dv×z1'->A Int) (x:bJ×z1'):A (Int×Int):=
 A.ae (zY x).cr (A.ae (oH (x.1,A.val (zY x) false)).cr (if decide ((A.val (oH (x.1,A.val (zY x) false)) (none,0)).2≠0)=true then A.pure (0,(A.val (oH (x.1,A.val (zY x) false)) (none,0)).2) else A.bind (zX ((A.val (oH (x.1,A.val (zY x) false)) (none,0)).1,x.2)) λy=>if (!y)=true then A.pure (0,3) else A.bind (lV ((A.val (oH (x.1,A.val (zY x) false)) (none,0)).1,x.2)) λy=>A.pure (y,0)))
def Vo (oH:bJ×Bool->A (Option dv×Int)) (ai_:Option dv->A (z1')) (lV:Option dv×z1'->A Int) (x:bJ×Bool):A (Int×Int):=
 A.bind (oH x) λy=>if decide (y.2≠0)=true then A.pure (0,y.2) else A.bind (ai_ y.1) λbV=>A.bind (lV (y.1,bV)) λy=>A.pure (y,0)
def Nk (Dt:bJ->A Int) (G9:bp×Int->A ((Int×Int)×Int)) (vm:bp×Int×Int×Int->A (Int×Int)) (zZ:z4'×Int->A (z4')) (x:bJ×Bool):A (Option dv×Int):=
 letI e_:=x.1.1.2;letI f1:=x.1.2.2;A.bind (Dt x.1) λy=>if decide (y≠0)=true then A.pure (none,y) else if (!x.2)=true then A.pure (none,1) else A.bind (if decide (Int.ofNat (List.length x.1.2.1) > 0)=true then A.bind (G9 (x.1.1,0)) λy=>if decide (y.2≠0)=true then A.bind (A.pure (none,y.2)) λr=>A.pure (W.done r) else A.pure (W.next (x.1,[],x.1.1.1,e_.1,e_.2.1,e_.2.2,x.1.2.1,f1.1,f1.2.1,f1.2.2.1,f1.2.2.2,())) else A.pure (W.next (x.1,[],x.1.1.1,e_.1,e_.2.1,e_.2.2,x.1.2.1,f1.1,f1.2.1,f1.2.2.1,f1.2.2.2,()))) (W.bC (λ(D:(bp×z1'×List dy×List (z1'×(Int×Int)×Int×Int×Int)×z3'×Int)×z5'×z2'×List (List (Int×z1'×Int×Int))×Int×z2'×z1'×List dy×List (z1'×(Int×Int)×Int×Int×Int)×z3'×Int×Unit)=>letI t:=D.2.2.2.2.2;A.bind (A.loop (λ(D:Int×Int×(bp×z1'×List dy×List dN×z3'×Int)×z5'×z2'×List (List (Int×z1'×Int×Int))×Int×z2'×z1'×List dy×List (z1'×(Int×Int)×Int×Int×Int)×z3'×Int×Unit)=>letI bF:=D.2.2;letI h:=bF.2.2.2.2;letI g1:=h.2.2.2;if decide (D.2.1<D.1)=true then A.bind (A.loop (λ(D:Int×Int×Int×List (List (Int×z1'×Int×Int))×Int×Int×(bp×z1'×List dy×List (z1'×(Int×Int)×Int×Int×Int)×z3'×Int)×z5'×z2'×List (List (Int×z1'×Int×Int))×Int×z2'×z1'×List dy×List dN×z3'×Int×Unit)=>letI i1:=D.2.2.2;letI j:=i1.2.2;letI c:=j.2.2.2;letI o:=c.2.2.2.2;if decide (j.1<i1.2.1)=true then A.bind (A.ae (0<=j.1/\j.1<Int.ofNat (List.length i1.1)) (A.loop (λ(D:Int×Int×Int×Int×List (List (Int×z1'×Int×Int))×Int×Int×Int×Int×(bp×z1'×List dy×List dN×z3'×Int)×z5'×z2'×List (List (Int×z1'×Int×Int))×Int×z2'×z1'×List (Int×Int×Int×Int×z1')×List dN×z3'×Int×Unit)=>letI m1:=D.2.2;letI k:=m1.2.2;letI hO:=k.2.2;letI a:=hO.2.2;letI w:=a.2.2.2;letI f:=w.2.2.2;letI d1:=f.2.2.2;if decide (a.1<hO.2.1)=true then A.bind (A.bind (vm (a.2.1.1,D.1,D.2.1,a.1)) (λy=>if decide (y.1=1)=true then A.ae True (A.ae (True/\True/\True) (A.ae True (A.pure (W.next (D.1,D.2.1,m1.1,m1.2.1,k.1,k.2.1,hO.1,hO.2.1,a.1,a.2.1,vl a.2.2.1 (D.1,D.2.1,a.1) (IntKind.wrap .i64 (Add.add (Option.getD (Option.map (λx=>x.2) (List.find? (λp=>decide (D.1=p.1.1)&&(decide (D.2.1=p.1.2.1)&&decide (a.1=p.1.2.2))) a.2.2.1)) 0) 1)),w.1,w.2.1,w.2.2.1,f.1,f.2.1,f.2.2.1,d1.1,d1.2.1,d1.2.2.1,()))))) else A.pure (W.next (D.1,D.2.1,m1.1,m1.2.1,k.1,k.2.1,hO.1,hO.2.1,a.1,a.2.1,a.2.2.1,w.1,w.2.1,w.2.2.1,f.1,f.2.1,f.2.2.1,d1.1,d1.2.1,d1.2.2.1,())))) (W.bC (λ(D:Int×Int×Int×Int×List (List (Int×z1'×Int×Int))×Int×Int×Int×Int×bJ×z5'×z2'×List (List (Int×z1'×Int×Int))×Int×z2'×z1'×List dy×List dN×z3'×Int×Unit)=>letI aF:=D.2.2.2.2.2;letI g:=aF.2.2.2.2;letI z:=g.2.2.2.2.2;A.pure (W.next (D.1,D.2.1,D.2.2.1,D.2.2.2.1,D.2.2.2.2.1,aF.1,aF.2.1,aF.2.2.1,IntKind.wrap .i64 (Add.add aF.2.2.2.1 1),g.1,g.2.1,g.2.2.1,g.2.2.2.1,g.2.2.2.2.1,z.1,z.2.1,z.2.2.1,z.2.2.2.1,z.2.2.2.2.1,z.2.2.2.2.2.1,())))) else A.bind (A.pure (W.next (D.1,m1.1,m1.2.1,k.1,k.2.1,hO.1,a.2.1,a.2.2.1,w.1,w.2.1,w.2.2.1,f.1,f.2.1,f.2.2.1,d1.1,d1.2.1,d1.2.2.1,()))) λr=>A.pure (W.done r)) (D.1,j.1,D.2.1,D.2.2.1,i1.1,i1.2.1,j.1,Int.ofNat (List.length (List.getD i1.1 (Int.toNat j.1) [])),0,j.2.1,j.2.2.1,c.1,c.2.1,c.2.2.1,c.2.2.2.1,o.1,o.2.1,o.2.2.1,o.2.2.2.1,o.2.2.2.2.1,()))) (W.bC (λ(D:Int×Int×Int×List (List (Int×z1'×Int×Int))×Int×Int×(bp×z1'×List dy×List dN×z3'×Int)×z5'×z2'×List (List (Int×z1'×Int×Int))×Int×z2'×z1'×List dy×List (z1'×(Int×Int)×Int×Int×Int)×z3'×Int×Unit)=>letI G:=D.2.2.2.2;letI i:=G.2.2.2.2;letI aU:=i.2.2.2.2;A.pure (W.next (D.1,D.2.1,D.2.2.1,D.2.2.2.1,G.1,IntKind.wrap .i64 (Add.add G.2.1 1),G.2.2.1,G.2.2.2.1,i.1,i.2.1,i.2.2.1,i.2.2.2.1,aU.1,aU.2.1,aU.2.2.1,aU.2.2.2.1,aU.2.2.2.2.1,())))) else A.bind (A.pure (W.next (D.2.1,D.2.2.1,j.2.1,j.2.2.1,c.1,c.2.1,c.2.2.1,c.2.2.2.1,o.1,o.2.1,o.2.2.1,o.2.2.2.1,o.2.2.2.2.1,()))) λr=>A.pure (W.done r)) (D.2.1,D.1,D.2.1,bF.1.1.2.1,Int.ofNat (List.length bF.1.1.2.1),0,bF.1,bF.2.1,bF.2.2.1,bF.2.2.2.1,h.1,h.2.1,h.2.2.1,g1.1,g1.2.1,g1.2.2.1,g1.2.2.2.1,())) (W.bC (λ(D:Int×Int×(bp×z1'×List dy×List (z1'×(Int×Int)×Int×Int×Int)×z3'×Int)×z5'×z2'×List (List (Int×z1'×Int×Int))×Int×z2'×z1'×List dy×List (z1'×(Int×Int)×Int×Int×Int)×z3'×Int×Unit)=>letI jG:=D.2.2.2;letI m:=jG.2.2.2;A.pure (W.next (D.1,IntKind.wrap .i64 (Add.add D.2.1 1),D.2.2.1,jG.1,jG.2.1,jG.2.2.1,m.1,m.2.1,m.2.2.1,m.2.2.2.1,m.2.2.2.2.1,m.2.2.2.2.2.1,m.2.2.2.2.2.2.1,())))) else A.bind (A.pure (W.next (bF.1,bF.2.1,bF.2.2.1,bF.2.2.2.1,h.1,h.2.1,h.2.2.1,g1.1,g1.2.1,g1.2.2.1,g1.2.2.2.1,()))) λr=>A.pure (W.done r)) (Int.ofNat (List.length D.1.2.1),0,D.1,D.2.1,D.2.2.1,D.2.2.2.1,D.2.2.2.2.1,t.1,t.2.1,t.2.2.1,t.2.2.2.1,t.2.2.2.2.1,t.2.2.2.2.2.1,())) (W.bC (λ(D:(bp×z1'×List (Int×Int×Int×Int×z1')×List dN×z3'×Int)×z5'×z2'×List (List (Int×z1'×Int×Int))×Int×z2'×z1'×List (Int×Int×Int×Int×z1')×List dN×z3'×Int×Unit)=>letI u:=D.2.2.2.2.2;A.bind (A.loop (λ(D:z1'×Int×Int×(bp×z1'×List dy×List dN×z3'×Int)×z5'×z2'×List (List (Int×z1'×Int×Int))×Int×z2'×z1'×List (Int×Int×Int×Int×z1')×List dN×z3'×Int×z4'×Unit)=>letI l:=D.2.2;letI xI:=l.2.2.2;letI n:=List.getD D.1 (Int.toNat l.1) 0;letI d:=xI.2.2.2;letI ca:=d.2.2.2.2;if decide (l.1<D.2.1)=true then A.ae (0<=l.1/\l.1<Int.ofNat (List.length D.1)) (A.ae True (A.ae (zZ ([(l.1,0)],n)).cr (A.ae (cn (Add.add (List.length ca.2.2.1) (List.length (A.val (zZ ([(l.1,0)],n)) [])))) (A.ae True (A.pure (W.next (D.1,D.2.1,IntKind.wrap .i64 (Add.add l.1 1),l.2.1,l.2.2.1,xI.1,xI.2.1,xI.2.2.1,d.1,d.2.1,d.2.2.1,d.2.2.2.1,ca.1,ca.2.1,ca.2.2.1++A.val (zZ ([(l.1,0)],n)) [],()))))))) else A.bind (A.pure (W.next (l.2.1,l.2.2.1,xI.1,xI.2.1,xI.2.2.1,d.1,d.2.1,d.2.2.1,d.2.2.2.1,ca.1,ca.2.1,ca.2.2.1,()))) λr=>A.pure (W.done r)) (D.1.2.1,Int.ofNat (List.length D.1.2.1),0,D.1,D.2.1,D.2.2.1,D.2.2.2.1,D.2.2.2.2.1,u.1,u.2.1,u.2.2.1,u.2.2.2.1,u.2.2.2.2.1,u.2.2.2.2.2.1,[],())) (W.bC (λ(D:(bp×z1'×List dy×List (z1'×(Int×Int)×Int×Int×Int)×z3'×Int)×z5'×z2'×List (List (Int×z1'×Int×Int))×Int×z2'×z1'×List dy×List dN×z3'×Int×z4'×Unit)=>letI q:=D.2.2.2.2.2;A.bind (A.loop (λ(D:z3'×Int×Int×z5'×z2'×List (List (Int×z1'×Int×Int))×Int×z2'×z1'×List (Int×Int×Int×Int×z1')×List dN×z3'×Int×z4'×Unit)=>letI s:=D.2.2;letI ec:=s.2.2.2;letI e:=ec.2.2;letI dB:=e.2.2.2.2;letI b:=List.getD D.1 (Int.toNat s.1) (0,0,0);letI dx:=(b.2.1,b.1);if decide (s.1<D.2.1)=true then A.ae (0<=s.1/\s.1<Int.ofNat (List.length D.1)) (A.ae True (A.ae (zZ ([dx],b.2.2)).cr (A.ae (cn (Add.add (List.length dB.2.2.1) (List.length (A.val (zZ ([dx],b.2.2)) [])))) (A.ae True (A.pure (W.next (D.1,D.2.1,IntKind.wrap .i64 (Add.add s.1 1),s.2.1,s.2.2.1,ec.1,ec.2.1,e.1,e.2.1,e.2.2.1,e.2.2.2.1,dB.1,dB.2.1,dB.2.2.1++A.val (zZ ([dx],b.2.2)) [],()))))))) else A.bind (A.pure (W.next (s.2.1,s.2.2.1,ec.1,ec.2.1,e.1,e.2.1,e.2.2.1,e.2.2.2.1,dB.1,dB.2.1,dB.2.2.1,()))) λr=>A.pure (W.done r)) (D.1.2.2.2.2.1,Int.ofNat (List.length D.1.2.2.2.2.1),0,D.2.1,D.2.2.1,D.2.2.2.1,D.2.2.2.2.1,q.1,q.2.1,q.2.2.1,q.2.2.2.1,q.2.2.2.2.1,q.2.2.2.2.2.1,q.2.2.2.2.2.2.1,())) (W.bC (λ(D:z5'×z2'×List (List (Int×z1'×Int×Int))×Int×z2'×z1'×List (Int×Int×Int×Int×z1')×List dN×z3'×Int×z4'×Unit)=>letI v:=D.2.2.2.2.2;A.pure (some (((D.2.1,D.2.2.1,D.2.2.2.1,D.2.2.2.2.1),v.1,v.2.1,v.2.2.1,v.2.2.2.1,v.2.2.2.2.1),v.2.2.2.2.2.1,D.1),0)))))))))
def Nl (G_:(z1'×(Int×Int)×Int×Int×Int)×Int×Int×Int×Int×z1'->A Int) (x:Option dv×z1'):A (z3'×Bool):=
 A.bind (A.loop (λ(D:Option ((bp×z1'×List dy×List dN×z3'×Int)×z4'×z5')×z1'×Int×Int×z3'×Unit)=>letI l:=D.2;letI g:=Option.isSome D.1=true;letI e:=l.2.2;letI j:=Int.toNat e.1;letI b:=List.getD l.1 j 0;letI a:=(Option.getD D.1 ((([],[],0,[]),[],[],[],[],0),[],[])).1.2.2;letI f:=List.getD a.1 (Int.toNat b) (0,0,0,0,[]);letI d:=List.getD a.2.1 j ([],(0,0),0,0,0);if decide (e.1<l.2.1)=true then A.bind (A.ae (0<=e.1/\e.1<Int.ofNat (List.length l.1)) (if decide (List.getD l.1 j (0:Int)<0)=true then A.pure (W.next (D.1,l.1,l.2.1,e.1,e.2.1,())) else A.ae g (A.ae (0<=e.1/\e.1<Int.ofNat (List.length a.2.1)) (A.ae g (A.ae (0<=b/\b<Int.ofNat (List.length a.1)) (A.bind (A.bind (G_ (d,f)) (λy=>if decide (y=0)=true then A.bind (A.bind (A.bind (A.bind (A.pure ([],false)) (λr=>A.pure (W.done r))) (λr=>A.pure (W.done r))) (λr=>A.pure (W.done r))) λr=>A.pure (W.done r) else if decide (y=2)=true then A.ae g (A.pure (W.next (D.1,IntKind.wrap .i64 (d.2.2.2.1-a.2.2.2),l.1,l.2.1,e.1,e.2.1,f,()))) else A.pure (W.next (D.1,d.2.2.2.1,l.1,l.2.1,e.1,e.2.1,f,())))) (W.bC (λ(D:Option ((bp×z1'×List dy×List (z1'×(Int×Int)×Int×Int×Int)×z3'×Int)×z4'×z5')×Int×z1'×Int×Int×z3'×(Int×Int×Int×Int×z1')×Unit)=>letI h:=D.2.2.2.2;if decide (D.2.1<0)=true then A.bind (A.bind (A.bind (A.pure ([],false)) (λr=>A.pure (W.done r))) (λr=>A.pure (W.done r))) λr=>A.pure (W.done r) else A.loop (λ(D:Option ((bp×z1'×List dy×List dN×z3'×Int)×z4'×z5')×Int×z1'×Int×Int×z1'×Int×Int×z3'×(Int×Int×Int×Int×z1')×Unit)=>letI k:=D.2.2.2;letI c:=k.2.2;letI i:=c.2.2;if decide (i.1<c.2.1)=true then A.ae (0<=i.1/\i.1<Int.ofNat (List.length c.1)) (A.ae (cn (Add.add (List.length i.2.1) (Add.add 0 1))) (A.pure (W.next (D.1,D.2.1,D.2.2.1,k.1,k.2.1,c.1,c.2.1,IntKind.wrap .i64 (Add.add i.1 1),i.2.1++[(i.2.2.1.2.2.2.1,List.getD c.1 (Int.toNat i.1) 0,D.2.1)],i.2.2.1,())))) else A.bind (A.pure (W.next (D.1,D.2.2.1,k.1,k.2.1,i.2.1,()))) λr=>A.pure (W.done r)) (D.1,D.2.1,D.2.2.1,D.2.2.2.1,h.1,h.2.2.1.2.2.2.2,Int.ofNat (List.length h.2.2.1.2.2.2.2),0,h.2.1,h.2.2.1,()))))))))) (W.bC (λ(D:Option (bJ×z4'×z5')×z1'×Int×Int×z3'×Unit)=>A.pure (W.next (D.1,D.2.1,D.2.2.1,IntKind.wrap .i64 (Add.add D.2.2.2.1 1),D.2.2.2.2.1,())))) else A.bind (A.pure (W.next (e.2.1,()))) λr=>A.pure (W.done r)) (x.1,x.2,Int.ofNat (List.length x.2),0,[],())) (W.bC (λ(D:z3'×Unit)=>A.pure (D.1,true)))
def Nn (G':Option dv×(Int×Int)×Int×Int×Int->A Bool) (x:Option dv×z3'):A Bool:=
 A.bind (A.loop (λ(D:Option ((bp×z1'×List dy×List dN×z3'×Int)×z4'×z5')×z3'×Int×Int×Unit)=>letI b:=D.2.2.2.1;if decide (b<D.2.2.1)=true then A.bind (A.ae (0<=b/\b<Int.ofNat (List.length D.2.1)) (A.bind (A.ae (Option.isSome D.1=true) (A.loop (λ(D:Option ((bJ)×z4'×z5')×Bool×z3'×Int×Int×Int×Int×(Int×Int×Int)×Unit)=>letI a:=D.2.2.2.2;if decide (a.2.2.1<a.2.1)=true then A.bind (cg (!D.2.1) (G' (D.1,(a.2.2.1,0),a.2.2.2.1)) false) λy=>A.pure (W.next (D.1,D.2.1||y,D.2.2.1,D.2.2.2.1,a.1,a.2.1,IntKind.wrap .i64 (Add.add a.2.2.1 1),a.2.2.2.1,())) else A.bind (A.pure (W.next (D.1,D.2.1,D.2.2.1,D.2.2.2.1,a.1,()))) λr=>A.pure (W.done r)) (D.1,false,D.2.1,D.2.2.1,b,Int.ofNat (List.length (Option.getD D.1 ((([],[],0,[]),[],[],[],[],0),[],[])).1.2.1),0,List.getD D.2.1 (Int.toNat b) (0,0,0),()))) (W.bC (λ(D:Option ((bp×z1'×List dy×List (z1'×(Int×Int)×Int×Int×Int)×z3'×Int)×z4'×z5')×Bool×z3'×Int×Int×Unit)=>if (!D.2.1)=true then A.bind (A.bind (A.bind (A.pure false) (λr=>A.pure (W.done r))) (λr=>A.pure (W.done r))) λr=>A.pure (W.done r) else A.pure (W.next (D.1,D.2.2.1,D.2.2.2.1,D.2.2.2.2.1,())))))) (W.bC (λ(D:Option ((bp×z1'×List (Int×Int×Int×Int×z1')×List dN×z3'×Int)×z4'×z5')×z3'×Int×Int×Unit)=>A.pure (W.next (D.1,D.2.1,D.2.2.1,IntKind.wrap .i64 (Add.add D.2.2.2.1 1),())))) else A.bind (A.pure (W.next ())) λr=>A.pure (W.done r)) (x.1,x.2,Int.ofNat (List.length x.2),0,())) (W.bC (λ(D:Unit)=>A.pure true))
def No (Nj:z1'×Int×Unit->A (z1'×Unit)) (Np:Option dv×z3'×Int×z4'×z1'×Unit->A (Bool×z4'×z1'×Unit)) (x:Option dv×z3'):A Int:=
 A.ae (Option.isSome x.1=true) (A.bind (Nj ([-1],Int.ofNat (List.length (Option.getD x.1 ((([],[],0,[]),[],[],[],[],0),[],[])).2.1),())) (λy=>A.bind (A.loop (λ(D:Option ((bp×z1'×List dy×List (z1'×(Int×Int)×Int×Int×Int)×z3'×Int)×z4'×z5')×z3'×Int×Int×Int×z1'×Unit)=>letI a:=D.2.2.2;if decide (a.2.1<a.1)=true then A.bind (A.bind (Np (D.1,D.2.1,a.2.1,[],a.2.2.1,())) (λy=>if (!y.1)=true then A.pure (W.next (D.1,D.2.1,IntKind.wrap .i64 (Add.add D.2.2.1 1),a.1,a.2.1,y.2.2.1,())) else A.pure (W.next (D.1,D.2.1,D.2.2.1,a.1,a.2.1,y.2.2.1,())))) (W.bC (λ(D:Option ((bp×z1'×List (Int×Int×Int×Int×z1')×List dN×z3'×Int)×z4'×z5')×z3'×Int×Int×Int×z1'×Unit)=>A.pure (W.next (D.1,D.2.1,D.2.2.1,D.2.2.2.1,IntKind.wrap .i64 (Add.add D.2.2.2.2.1 1),D.2.2.2.2.2.1,())))) else A.bind (A.pure (W.next (D.2.2.1,()))) λr=>A.pure (W.done r)) (x.1,x.2,0,Int.ofNat (List.length x.2),0,y.1,())) (W.bC (λ(D:Int×Unit)=>A.pure D.1))))
def Vp (kA:Int×Int×Int->A Bool) (x:bJ×Int):A Bool:=
 A.bind (kA (x.2,0,IntKind.wrap .i64 (Int.ofNat (List.length x.1.2.2.2.1)-1))) λy=>A.pure y
def ai' (xJ:Int×Int->A (Int×Int)) (x:z1'×Int):A (z1'):=
 A.bind (if decide (x.2<0)=true then A.ae False (A.ae False (A.pure (W.next (x.1,x.2,())))) else A.pure (W.next (x.1,x.2,()))) (W.bC (λ(D:z1'×Int×Unit)=>A.bind (xJ (IntKind.wrap .u64 (Int.ofNat (List.length D.1)),IntKind.wrap .u64 D.2.1)) λy=>A.bind (if (decide (y.1 > 0)||decide (y.2 > 9223372036854775807))=true then A.ae False (A.ae False (A.pure (W.next (D.1,y.2,())))) else A.pure (W.next (D.1,y.2,()))) (W.bC (λ(D:z1'×Int×Unit)=>letI b:=IntKind.wrap .i64 D.2.1;letI f:=Int.toNat b;letI e:=List.take (List.length (List.replicate f (0:Int))-0) D.1;A.ae (0<=b/\b=b/\cn f) (A.ae True (A.bind (A.loop (λ(D:Int×z1'×Unit)=>letI g:=Int.toNat D.1;letI c:=List.take g D.2.1;letI a:=Int.ofNat (List.length D.2.1);letI d:=Int.toNat a-g;if decide (D.1<a)=true then A.ae (0<=D.1/\D.1<=a/\a<=a) (A.ae ((0:Int)<=0/\0<=D.1/\D.1<=a) (A.ae True (A.pure (W.next (IntKind.wrap .i64 (Add.add D.1 (Int.ofNat (if d<=List.length c then d else List.length c))),c++List.take d c++List.drop (Add.add g (List.length (List.take d c))) D.2.1,()))))) else A.bind (A.pure (W.next (D.2.1,()))) λr=>A.pure (W.done r)) (Int.ofNat (if List.length (List.replicate f (0:Int))-0<=List.length D.1 then List.length (List.replicate f (0:Int))-0 else List.length D.1),[]++e++List.drop (Add.add 0 (List.length e)) (List.replicate f (0:Int)),())) (W.bC (λ(D:z1'×Unit)=>A.pure D.1))))))))
def Vq (Nh:Option dv×z1'->A (z3'×Bool)) (Ni:Option dv×z3'->A Int) (x:Option dv×z1'):A Bool:=
 A.bind (Nh x) λy=>A.bind (cg y.2 (Ni (x.1,y.1)) 0) λbV=>A.pure (y.2&&decide (bV=0))
def Vr (Du:Int->A Bool) (Nq:z1'×(Int->A Bool)->A Bool) (aja:List dy×(Int×Int×Int×Int×z1'->A Bool)->A Bool) (ajb:List dN×(z1'×(Int×Int)×Int×Int×Int->A Bool)->A Bool) (ajc:z3'×(Int×Int×Int->A Bool)->A Bool) (ajd:(Int×Int×Int×Int×z1')×Option bp->A Bool) (aje:(Int×Int×Int)×Option bp->A Bool) (ajf:z1'×(Int×Int)×Int×Int×Int->A Bool) (ajg:Int->A Bool) (x:bJ):A Bool:=
 letI e:=x.2.2.2;letI b:=decide (Int.ofNat (List.length x.2.1)=Int.ofNat (List.length x.1.1));A.bind (cg b (Nq (x.2.1,ajg)) false) λy=>letI d:=b&&!y&&decide (Int.ofNat (List.length x.2.2.1)<=8);A.bind (cg d (aja (x.2.2.1,λhv=>ajd (hv,some x.1))) false) λbV=>letI a:=d&&!bV&&decide (Int.ofNat (List.length e.1)<=6);A.bind (cg a (ajb (e.1,ajf)) false) λdL=>letI c:=a&&!dL&&decide (Int.ofNat (List.length e.2.1)<=8);A.bind (cg c (ajc (e.2.1,λhv=>aje (hv,some x.1))) false) λgB=>A.bind (cg (c&&!gB) (Du e.2.2) false) λmo=>A.pure (c&&!gB&&mo)
def ajh (x:Int×Int×Int):A Bool:=
 A.pure (decide (x.2.1<=x.1)&&decide (x.1<=x.2.2))
def Vs (nX:Int×Int×Int->A Bool) (Ha:z1'×Int->A Bool) (x:bJ×Int×Int×Int×Int×z1'):A Bool:=
 letI c:=x.2.2.2.2;letI b:=Int.ofNat (List.length x.1.1.2.1);letI a:=(c.2,IntKind.wrap .i64 (Int.ofNat (List.length (List.getD x.1.1.2.1 (Int.toNat c.1) []))-1));A.bind (nX (x.2.1,0,99)) λy=>A.bind (cg (!(!y)) (nX (x.2.2.1,0,99)) false) λbV=>A.bind (cg (!(!y||!bV)) (nX (x.2.2.2.1,0,99)) false) λdL=>A.bind (cg (!(!y||!bV||!dL)) (nX (c.1,0,IntKind.wrap .i64 (b-1))) false) λgB=>if (!y||!bV||!dL||!gB)=true then A.pure false else A.ae (0<=c.1/\c.1<b) (A.ae (Ha a).cr (A.pure (A.val (Ha a) false)))
def Vt (nX:Int×Int×Int->A Bool) (Ha:z1'×Int->A Bool) (x:z1'×(Int×Int)×Int×Int×Int):A Bool:=
 A.bind (nX (Int.ofNat (List.length x.1),1,8)) λy=>A.bind (cg y (Ha (x.1,99)) false) λbV=>letI a:=y&&bV&&decide (0<=x.2.1.1)&&decide (x.2.1.1<=x.2.1.2)&&decide (x.2.1.2<=99);A.bind (cg a (nX (x.2.2.1,0,99)) false) λdL=>A.bind (cg (a&&dL) (nX (x.2.2.2.1,0,99)) false) λgB=>A.bind (cg (a&&dL&&gB) (nX (x.2.2.2.2,0,100000)) false) λmo=>A.pure (a&&dL&&gB&&mo)
def Vu (kA:Int×Int×Int->A Bool) (x:bJ×Int):A Bool:=
 A.bind (kA (x.2,0,IntKind.wrap .i64 (Int.ofNat (List.length x.1.2.2.1)-1))) λy=>A.pure y
def Vv (kA:Int×Int×Int->A Bool) (hI:z1'×Int->A Bool) (x:(z1'×(Int×Int)×Int×Int×Int)×Int×Int×Int×Int×z1'):A Int:=
 A.bind (hI (x.1.1,x.2.1)) λy=>A.bind (cg (!(!y)) (kA (x.2.2.1,x.1.2.1)) false) λbV=>if (!y||!bV)=true then A.pure 0 else if decide (x.2.2.2.1=x.1.2.2.1)=true then A.pure 1 else if decide (x.2.2.2.1=0)=true then A.pure 2 else A.pure 0
def Nr (aji:z1'×Int->A (z1')) (zX:Option dv×z1'->A Bool) (lV:Option dv×z1'->A Int) (ajj:Option dv->Prop) (ajk:Option dv->List (z1')) (x:Option dv):A (z1'):=
 A.ae (Option.isSome x=true) (A.bind (aji ([-1],Int.ofNat (List.length (Option.getD x ((([],[],0,[]),[],[],[],[],0),[],[])).1.2.2.2.1))) (λy=>A.ae (ajj x) (A.bind (jK (λ(D:Option ((bp×z1'×List dy×List (z1'×(Int×Int)×Int×Int×Int)×z3'×Int)×z4'×z5')×z1'×Unit) (y:z1')=>letI b:=(D.1,y);letI a:=(D.1,D.2.1);A.bind (A.ae (lV b).cr (A.ae (lV a).cr (A.ae (decide (A.val (lV b) 0 > A.val (lV a) 0)=true->(decide (A.val (lV b) 0 > A.val (lV a) 0)=true/\decide (A.val (lV b) 0 > A.val (lV a) 0)=true/\True)/\(zX b).cr/\True) (A.ae (True/\(decide (A.val (lV b) 0 > A.val (lV a) 0)=true->decide (A.val (lV b) 0 > A.val (lV a) 0)=true)) (if (decide (A.val (lV b) 0 > A.val (lV a) 0)&&A.val (zX b) false)=true then A.pure (dd.normal,D.1,y,()) else A.pure (dd.normal,D.1,D.2.1,())))))) λp=>A.pure (p.1,p.2.1,p.2.2.1,())) (ajk x) (x,y,())) (λp=>r7 (A.pure p.2.2.1) (λid=>if id=0 then A.pure p.2.2.1 else A.fail) A.fail p.1))))
def Vw (ajl:bJ×Int->A Bool) (hI:z1'×Int->A Bool) (x:bJ×z1'):A Bool:=
 A.bind (A.loop (λ(D:z1'×z1'×Int×Int×(bp×z1'×List dy×List (z1'×(Int×Int)×Int×Int×Int)×z3'×Int)×Unit)=>letI e:=D.2.2;letI b:=e.2.1;letI c:=Int.toNat b;letI f:=List.getD D.2.1 c 0;letI a:=decide (List.getD D.2.1 c (0:Int)≠-1);if decide (b<e.1)=true then A.ae (0<=b/\b<Int.ofNat (List.length D.2.1)) (A.bind (cg a (ajl (e.2.2.1,f)) false) (λy=>letI d:=(a&&!(!y))=true;A.ae (d->(d/\True/\d)/\((0:Int)<=0/\0<=b/\b<=Int.ofNat (List.length D.1))/\True) (A.bind (cg (a&&!(!y)) (hI (List.take c D.1,f)) false) (λbV=>if (a&&(!y||bV))=true then A.bind (A.bind (A.pure false) (λr=>A.pure (W.done r))) λr=>A.pure (W.done r) else A.pure (W.next (D.1,D.2.1,e.1,IntKind.wrap .i64 (Add.add b 1),e.2.2.1,())))))) else A.bind (A.pure (W.next (D.1,e.2.2.1,()))) λr=>A.pure (W.done r)) (x.2,x.2,Int.ofNat (List.length x.2),0,x.1,())) (W.bC (λ(D:z1'×(bp×z1'×List dy×List dN×z3'×Int)×Unit)=>A.pure (decide (Int.ofNat (List.length D.1)=Int.ofNat (List.length D.2.1.2.2.2.1)))))
def Ns (x:Option dv×z1'):A Int:=
 A.bind (A.loop (λ(D:Option ((bp×z1'×List dy×List dN×z3'×Int)×z4'×z5')×Int×z1'×Int×Int×Unit)=>letI c:=D.2.2;letI b:=(Option.getD D.1 ((([],[],0,[]),[],[],[],[],0),[],[])).1.2.2.2.1;letI a:=c.2.2.1;if decide (a<c.2.1)=true then A.bind (A.ae (0<=a/\a<Int.ofNat (List.length c.1)) (if decide (List.getD c.1 (Int.toNat a) (0:Int)≠-1)=true then A.ae (Option.isSome D.1=true) (A.ae (0<=a/\a<Int.ofNat (List.length b)) (A.pure (W.next (D.1,IntKind.wrap .i64 (Add.add D.2.1 (List.getD b (Int.toNat a) ([],(0,0),0,0,0)).2.2.2.2),c.1,c.2.1,a,())))) else A.pure (W.next (D.1,D.2.1,c.1,c.2.1,a,())))) (W.bC (λ(D:Option ((bp×z1'×List (Int×Int×Int×Int×z1')×List dN×z3'×Int)×z4'×z5')×Int×z1'×Int×Int×Unit)=>A.pure (W.next (D.1,D.2.1,D.2.2.1,D.2.2.2.1,IntKind.wrap .i64 (Add.add D.2.2.2.2.1 1),())))) else A.bind (A.pure (W.next (D.2.1,()))) λr=>A.pure (W.done r)) (x.1,0,x.2,Int.ofNat (List.length x.2),0,())) (W.bC (λ(D:Int×Unit)=>A.pure D.1))
def ajm (xJ:Int×Int->A (Int×Int)) (x:z4'×Int):A (z4'):=
 A.bind (if decide (x.2<0)=true then A.ae False (A.ae False (A.pure (W.next (x.1,x.2,())))) else A.pure (W.next (x.1,x.2,()))) (W.bC (λ(D:z4'×Int×Unit)=>A.bind (xJ (IntKind.wrap .u64 (Int.ofNat (List.length D.1)),IntKind.wrap .u64 D.2.1)) λy=>A.bind (if (decide (y.1 > 0)||decide (y.2 > 9223372036854775807))=true then A.ae False (A.ae False (A.pure (W.next (D.1,y.2,())))) else A.pure (W.next (D.1,y.2,()))) (W.bC (λ(D:z4'×Int×Unit)=>letI b:=IntKind.wrap .i64 D.2.1;letI f:=Int.toNat b;letI d:=List.take (List.length (List.replicate f ((0:Int),(0:Int)))-0) D.1;A.ae (0<=b/\b=b/\cn f) (A.ae True (A.bind (A.loop (λ(D:Int×z4'×Unit)=>letI g:=Int.toNat D.1;letI c:=List.take g D.2.1;letI a:=Int.ofNat (List.length D.2.1);letI e:=Int.toNat a-g;if decide (D.1<a)=true then A.ae (0<=D.1/\D.1<=a/\a<=a) (A.ae ((0:Int)<=0/\0<=D.1/\D.1<=a) (A.ae True (A.pure (W.next (IntKind.wrap .i64 (Add.add D.1 (Int.ofNat (if e<=List.length c then e else List.length c))),c++List.take e c++List.drop (Add.add g (List.length (List.take e c))) D.2.1,()))))) else A.bind (A.pure (W.next (D.2.1,()))) λr=>A.pure (W.done r)) (Int.ofNat (if List.length (List.replicate f ((0:Int),(0:Int)))-0<=List.length D.1 then List.length (List.replicate f ((0:Int),(0:Int)))-0 else List.length D.1),[]++d++List.drop (Add.add 0 (List.length d)) (List.replicate f ((0:Int),(0:Int))),())) (W.bC (λ(D:z4'×Unit)=>A.pure D.1))))))))
def Vx (x:Option dv×(Int×Int)×Int×Int×Int):A Bool:=
 letI c:=decide (x.2.1.2<=x.2.2.2.2);letI a:=c=true;letI b:=a->a/\True/\True;A.ae (a->a/\Option.isSome x.1=true/\True) (A.ae b (A.ae b (A.ae b (A.ae b (A.ae b (A.ae (a->(a/\a/\a/\True)/\True/\True) (A.ae (a->(a/\a)/\True/\True) (A.ae (a->(a/\True)/\True/\True) (A.ae (True/\(a->a)) (A.pure (c&&decide (Option.getD (Option.map (λx=>x.2) (List.find? (λp=>decide (x.2.1.1=p.1.1)&&(decide (x.2.2.1=p.1.2.1)&&decide (x.2.2.2.1=p.1.2.2))) (Option.getD x.1 ((([],[],0,[]),[],[],[],[],0),[],[])).2.2)) (0:Int) > 0))))))))))))
def ajn (x:Int×Int×Int):A Bool:=
 A.pure (decide (x.2.1<=x.1)&&decide (x.1<=x.2.2))
def Vy (kA:Int×Int×Int->A Bool) (vn:Int->A Bool) (Nt:z1'×(Int->A Bool)->A Bool) (ajo:Int×Option bp×Option (Int×Int×Int×Int×z1')->A Bool) (x:(Int×Int×Int×Int×z1')×Option bp):A Bool:=
 letI b:=Option.getD x.2 ([],[],0,[]);A.bind (vn x.1.1) λy=>A.bind (cg (!(!y)) (vn x.1.2.1) false) λbV=>A.bind (cg (!(!y||!bV)) (vn x.1.2.2.1) false) λdL=>letI a:=!y||!bV||!dL;A.bind (cg (!a) (kA (x.1.2.2.2.1,0,IntKind.wrap .i64 (Int.ofNat (List.length b.2.1)-1))) false) λgB=>A.bind (cg (!(a||!gB)) (Nt (x.1.2.2.2.2,λhv=>ajo (hv,some b,some x.1))) false) λmo=>A.pure (a||!gB||!mo)
def Vz (kA:Int×Int×Int->A Bool) (x:Int):A Bool:=
 A.bind (kA (x,0,99)) λy=>A.pure y
def VA (x:z1'×(Int->A Bool)):A Bool:=
 A.bind (A.loop (λ(D:z1'×(Int->A Bool)×z1'×Int×Int×Unit)=>letI e:=D.2.2;letI a:=e.2.2.1;letI d:=List.getD e.1 (Int.toNat a) 0;letI c:=IntKind.wrap .i64 (a-1);if decide (a<e.2.1)=true then A.ae (0<=a/\a<Int.ofNat (List.length e.1)) (A.bind (D.2.1 d) (λy=>letI b:=(!(!y)&&decide (a > 0))=true;A.ae (b->(b/\b)/\(0<=c/\c<Int.ofNat (List.length D.1))/\True) (if (!y||decide (a > 0)&&decide (d<=List.getD D.1 (Int.toNat c) 0))=true then A.bind (A.bind (A.pure false) (λr=>A.pure (W.done r))) λr=>A.pure (W.done r) else A.pure (W.next (D.1,D.2.1,e.1,e.2.1,IntKind.wrap .i64 (Add.add a 1),()))))) else A.bind (A.pure (W.next ())) λr=>A.pure (W.done r)) (x.1,x.2,x.1,Int.ofNat (List.length x.1),0,())) (W.bC (λ(D:Unit)=>A.pure true))
def VB (kA:Int×Int×Int->A Bool) (x:Int×Option bp×Option (Int×Int×Int×Int×z1')):A Bool:=
 letI b:=(Option.getD x.2.1 ([],[],0,[])).2.1;letI a:=(Option.getD x.2.2 (0,0,0,0,[])).2.2.2.1;A.ae (0<=a/\a<Int.ofNat (List.length b)) (A.bind (kA (x.1,0,IntKind.wrap .i64 (Int.ofNat (List.length (List.getD b (Int.toNat a) []))-1))) (λy=>A.pure y))
def VC (kA:Int×Int×Int->A Bool) (vn:Int->A Bool) (Nt:z1'×(Int->A Bool)->A Bool) (Du:Int->A Bool) (x:z1'×(Int×Int)×Int×Int×Int):A Bool:=
 A.bind (kA (Int.ofNat (List.length x.1),1,8)) λy=>A.bind (cg (!(!y)) (Nt (x.1,vn)) false) λbV=>A.bind (cg (!(!y||!bV)) (vn x.2.1.1) false) λdL=>A.bind (cg (!(!y||!bV||!dL)) (vn x.2.1.2) false) λgB=>letI a:=!y||!bV||!dL||!gB||decide (x.2.1.1 > x.2.1.2);A.bind (cg (!a) (vn x.2.2.1) false) λmo=>A.bind (cg (!(a||!mo)) (Du x.2.2.2.1) false) λDv=>A.bind (cg (!(a||!mo||!Dv)) (kA (x.2.2.2.2,0,100000)) false) λNu=>A.pure (a||!mo||!Dv||!Nu)
def VD (kA:Int×Int×Int->A Bool) (x:Int):A Bool:=
 A.bind (kA (x,0,99)) λy=>A.pure y
def VE (kA:Int×Int×Int->A Bool) (Du:Int->A Bool) (x:(Int×Int×Int)×Option bp):A Bool:=
 A.bind (Du x.1.1) λy=>A.bind (cg (!(!y)) (kA (x.1.2.1,0,IntKind.wrap .i64 (Int.ofNat (List.length (Option.getD x.2 ([],[],0,[])).1)-1))) false) λbV=>A.bind (cg (!(!y||!bV)) (kA (x.1.2.2,1,10)) false) λdL=>A.pure (!y||!bV||!dL)
def VF (kA:Int×Int×Int->A Bool) (x:Int):A Bool:=
 A.bind (kA (x,0,10)) λy=>A.pure (!y)
def VG (x:z1'×Int):A Bool:=
 A.bind (A.loop (λ(D:z1'×Int×Int×Unit)=>letI e:=D.2.2.1;letI j:=decide (e > 0);letI i:=List.getD D.1 (Int.toNat e) 0;letI h:=IntKind.wrap .i64 (e-1);letI d:=Int.ofNat (List.length D.1);letI k:=0<=e/\e<d;letI b:=decide (List.getD D.1 (Int.toNat e) (0:Int)<0);letI f:=(!b)=true;letI a:=b||decide (i > D.2.1);letI g:=(!a)=true;letI c:=(!a&&j)=true;letI l:=c->c/\True/\True;if decide (e<d)=true then A.ae k (A.ae (f->(f/\f)/\k/\True) (A.ae (f->f/\True/\True) (A.ae (f->(f/\f)/\True/\True) (A.ae (True/\(b=false->f)) (A.ae (g->(g/\True)/\True/\True) (A.ae (g->True/\True/\g) (A.ae (c->(c/\c)/\k/\True) (A.ae l (A.ae (c->(c/\True)/\True/\True) (A.ae (c->(c/\c)/\(0<=h/\h<d)/\True) (A.ae l (A.ae (c->(c/\c)/\True/\True) (A.ae (g->(g/\(j=true->c))/\True/\True) (A.ae (True/\(a=false->g)) (if (a||j&&decide (i<=List.getD D.1 (Int.toNat h) 0))=true then A.bind (A.bind (A.pure false) (λr=>A.pure (W.done r))) λr=>A.pure (W.done r) else A.pure (W.next (D.1,D.2.1,IntKind.wrap .i64 (Add.add e 1),()))))))))))))))))) else A.bind (A.pure (W.next ())) λr=>A.pure (W.done r)) (x.1,x.2,0,())) (W.bC (λ(D:Unit)=>A.pure true))
def Hb (xK:Option dv×z1'×Int×Nat×(Nat×(List (z1')->Prop)×List (z1')×Bool)×Unit->A (Bool×(Nat×(List (z1')->Prop)×List (z1')×Bool)×Unit)) (x:Option dv×Nat×(Nat×(List (z1')->Prop)×List (z1')×Bool)×Unit):A ((Nat×(List (z1')->Prop)×List (z1')×Bool)×Unit):=
 A.bind (xK (x.1,[],1,x.2.1,x.2.2.1,())) λy=>A.pure (y.2.1,())
def Hc (xK:Option dv×z1'×Int×Nat×(Nat×(List (z1')->Prop)×List (z1')×Bool)×Unit->A (Bool×(Nat×(List (z1')->Prop)×List (z1')×Bool)×Unit)) (x:Option dv×Nat×(Nat×(List (z1')->Prop)×List (z1')×Bool)×Unit):A ((Nat×(List (z1')->Prop)×List (z1')×Bool)×Unit):=
 A.bind (xK (x.1,[],0,x.2.1,x.2.2.1,())) λy=>A.pure (y.2.1,())
def Nv (G':Option dv×(Int×Int)×Int×Int×Int->A Bool) (Np:Option dv×z3'×Int×z4'×z1'×Unit->A (Bool×z4'×z1'×Unit)) (x:Option dv×z3'×Int×z4'×z1'×Unit):A (Bool×z4'×z1'×Unit):=
 letI k:=(Option.getD x.1 ((([],[],0,[]),[],[],[],[],0),[],[])).2.1;A.bind (A.ae (Option.isSome x.1=true) (A.loop (λ(D:Option ((bp×z1'×List dy×List (z1'×(Int×Int)×Int×Int×Int)×z3'×Int)×z4'×z5')×z3'×Int×z4'×Int×Int×z4'×z1'×Unit)=>letI o:=D.2.1;letI i:=D.2.2;letI c:=i.2.2.2;letI m:=c.2.2.1;letI l:=Int.toNat c.1;letI j:=Option.map (λx=>x.2) (List.find? (λp=>decide (c.1=p.1)) c.2.1);letI g:=0<=c.1/\c.1<Int.ofNat (List.length m);letI f:=(D.1,List.getD i.2.1 l (0,0),List.getD o (Int.toNat i.1) (0,0,0));letI d:=e9 c.2.1 c.1 (IntKind.wrap .i64 (Add.add (Option.getD j 0) 1));letI b:=decide (List.getD m l (0:Int)=-1);letI h:=(!b)=true;letI a:=decide (Option.getD j (0:Int) > 0);letI e:=(!a)=true;letI q:=e->e/\True/\True;if decide (c.1<i.2.2.1)=true then A.bind (A.ae (0<=c.1/\c.1<Int.ofNat (List.length i.2.1)) (A.ae (e->(e/\e)/\(0<=i.1/\i.1<Int.ofNat (List.length o))/\True) (A.ae q (A.ae (e->(e/\e/\e/\True)/\(G' f).cr/\True) (A.ae q (A.ae (True/\(a=false->e)) (if (a||!(A.val (G' f) false))=true then A.pure (W.next (D.1,o,i.1,i.2.1,i.2.2.1,c.1,c.2.1,m,())) else A.ae g (A.ae (h->(h/\h)/\g/\True) (if h then A.ae (h/\h/\h/\h/\h/\True) (A.bind (Np (D.1,o,List.getD m l 0,d,m,())) (λy=>if (b||y.1)=true then A.ae (0<=c.1/\c.1<Int.ofNat (List.length y.2.2.1)) (A.bind (A.bind (A.bind (A.pure (true,y.2.1,List.set y.2.2.1 l i.1,())) (λr=>A.pure (W.done r))) (λr=>A.pure (W.done r))) (λr=>A.pure (W.done r))) else A.pure (W.next (D.1,o,i.1,i.2.1,i.2.2.1,c.1,y.2.1,y.2.2.1,())))) else A.ae (True/\(b=false->false=true)) (if (b||false)=true then A.ae g (A.bind (A.bind (A.bind (A.pure (true,d,List.set m l i.1,())) (λr=>A.pure (W.done r))) (λr=>A.pure (W.done r))) (λr=>A.pure (W.done r))) else A.pure (W.next (D.1,o,i.1,i.2.1,i.2.2.1,c.1,d,m,())))))))))))) (W.bC (λ(D:Option ((bp×z1'×List dy×List dN×z3'×Int)×z4'×z5')×z3'×Int×z4'×Int×Int×z4'×z1'×Unit)=>letI n:=D.2.2.2;A.pure (W.next (D.1,D.2.1,D.2.2.1,n.1,n.2.1,IntKind.wrap .i64 (Add.add n.2.2.1 1),n.2.2.2.1,n.2.2.2.2.1,())))) else A.bind (A.pure (W.next (c.2.1,m,()))) λr=>A.pure (W.done r)) (x.1,x.2.1,x.2.2.1,k,Int.ofNat (List.length k),0,x.2.2.2.1,x.2.2.2.2.1,()))) (W.bC (λ(D:z4'×z1'×Unit)=>A.pure (false,D.1,D.2.1,())))
def Nw (G_:(z1'×(Int×Int)×Int×Int×Int)×Int×Int×Int×Int×z1'->A Int) (xK:Option dv×z1'×Int×Nat×(Nat×(List (z1')->Prop)×List (z1')×Bool)×Unit->A (Bool×(Nat×(List (z1')->Prop)×List (z1')×Bool)×Unit)) (hI:z1'×Int->A Bool) (x:Option dv×z1'×Int×Nat×(Nat×(List (z1')->Prop)×List (z1')×Bool)×Unit):A (Bool×(Nat×(List (z1')->Prop)×List (z1')×Bool)×Unit):=
 letI p:=Option.isSome x.1=true;letI o:=Int.ofNat (List.length x.2.1);letI i:=x.2.2.2.2.1;letI e:=(Option.getD x.1 ((([],[],0,[]),[],[],[],[],0),[],[])).1.2.2;A.ae p (if decide (o=Int.ofNat (List.length e.2.1))=true then A.bind (A.ae (x.2.2.2.1=i.1/\i.2.2.2=false/\(∃ (T:List (z1')),i.2.1 (i.2.2.1++x.2.1::T))) (A.any (λx=>True))) λy=>A.pure (y,(i.1,i.2.1,i.2.2.1++[x.2.1],!y),()) else A.bind (A.ae p (A.loop (λ(D:Option dv×z1'×Int×Nat×Int×List dy×Int×Int×(Nat×(List (z1')->Prop)×List (z1')×Bool)×Unit)=>letI q:=D.2.1;letI l:=D.2.2;letI j:=(Option.getD D.1 ((([],[],0,[]),[],[],[],[],0),[],[])).1.2.2.2.1;letI c:=l.2.2;letI m:=List.take (Int.toNat c.1) q;letI k:=c.2.2.2;letI d:=(List.getD j (Int.toNat c.1) ([],(0,0),0,0,0),List.getD c.2.1 (Int.toNat k.1) (0,0,0,0,[]));letI a:=(q,k.1);if decide (k.1<c.2.2.1)=true then A.bind (A.ae (0<=k.1/\k.1<Int.ofNat (List.length c.2.1)) (A.ae (hI a).cr (A.ae ((!(A.val (hI a) false))=true->(!(A.val (hI a) false))=true/\Option.isSome D.1=true/\True) (A.ae ((!(A.val (hI a) false))=true->(!(A.val (hI a) false))=true/\True/\True) (A.ae ((!(A.val (hI a) false))=true->(!(A.val (hI a) false))=true/\True/\True) (A.ae ((!(A.val (hI a) false))=true->(!(A.val (hI a) false))=true/\True/\True) (A.ae ((!(A.val (hI a) false))=true->((!(A.val (hI a) false))=true/\(!(A.val (hI a) false))=true)/\(0<=c.1/\c.1<Int.ofNat (List.length j))/\True) (A.ae ((!(A.val (hI a) false))=true->(!(A.val (hI a) false))=true/\True/\True) (A.ae ((!(A.val (hI a) false))=true->((!(A.val (hI a) false))=true/\(!(A.val (hI a) false))=true/\True)/\(G_ d).cr/\True) (A.ae ((!(A.val (hI a) false))=true->((!(A.val (hI a) false))=true/\True)/\True/\True) (A.ae (True/\(A.val (hI a) false=false->(!(A.val (hI a) false))=true)) (if (A.val (hI a) false||decide (A.val (G_ d) (0:Int)=0))=true then A.pure (W.next (D.1,q,l.1,l.2.1,c.1,c.2.1,c.2.2.1,k.1,k.2.1,())) else A.ae ((0:Int)<=0/\0<=c.1/\c.1=c.1/\c.1<=Int.ofNat (List.length q)) (A.ae (0<Add.add 0 1/\cn (Add.add (List.length m) (Add.add 0 1))) (A.bind (xK (D.1,m++[k.1],l.1,l.2.1,k.2.1,())) (λy=>if (!y.1)=true then A.bind (A.bind (A.bind (A.pure (false,y.2.1,())) (λr=>A.pure (W.done r))) (λr=>A.pure (W.done r))) λr=>A.pure (W.done r) else A.pure (W.next (D.1,q,l.1,l.2.1,c.1,c.2.1,c.2.2.1,k.1,y.2.1,()))))))))))))))))) (W.bC (λ(D:Option dv×z1'×Int×Nat×Int×List dy×Int×Int×(Nat×(List (z1')->Prop)×List (z1')×Bool)×Unit)=>letI n:=D.2.2.2.2;A.pure (W.next (D.1,D.2.1,D.2.2.1,D.2.2.2.1,n.1,n.2.1,n.2.2.1,IntKind.wrap .i64 (Add.add n.2.2.2.1 1),n.2.2.2.2.1,())))) else A.bind (A.pure (W.next (D.1,q,l.1,l.2.1,c.1,k.2.1,()))) λr=>A.pure (W.done r)) (x.1,x.2.1,x.2.2.1,x.2.2.2.1,o,e.1,Int.ofNat (List.length e.1),0,i,()))) (W.bC (λ(D:Option dv×z1'×Int×Nat×Int×(Nat×(List (z1')->Prop)×List (z1')×Bool)×Unit)=>letI s:=D.2.2;letI h:=s.2.2;letI g:=List.take (Int.toNat h.1) D.2.1;letI f:=decide (s.1=0);letI b:=(!f)=true;A.ae (b->(b/\True/\b/\b)/\((0:Int)<=0/\0<=h.1/\h.1=h.1/\h.1<=Int.ofNat (List.length D.2.1))/\True) (if b then A.ae (b/\b) (A.ae (0<Add.add 0 1/\cn (Add.add (List.length g) (Add.add 0 1))) (if b then A.ae (b/\b/\b/\True) (A.bind (xK (D.1,g++[-1],s.1,s.2.1,h.2.1,())) (λy=>A.pure (f||y.1,y.2.1,()))) else A.ae (True/\(f=false->false=true)) (A.pure (f||false,h.2.1,())))) else if b then A.ae (b/\false=true/\b/\b/\True) (A.bind (xK (D.1,g++[-1],s.1,s.2.1,h.2.1,())) (λy=>A.pure (f||y.1,y.2.1,()))) else A.ae (True/\(f=false->false=true)) (A.pure (f||false,h.2.1,()))))))
def ajp (xJ:Int×Int->A (Int×Int)) (x:z1'×Int×Unit):A (z1'×Unit):=
 A.bind (if decide (x.2.1<0)=true then A.ae False (A.ae False (A.pure (W.next (x.1,x.2.1,())))) else A.pure (W.next (x.1,x.2.1,()))) (W.bC (λ(D:z1'×Int×Unit)=>A.bind (xJ (IntKind.wrap .u64 (Int.ofNat (List.length D.1)),IntKind.wrap .u64 D.2.1)) λy=>A.bind (if (decide (y.1 > 0)||decide (y.2 > 9223372036854775807))=true then A.ae False (A.ae False (A.pure (W.next (D.1,y.2,())))) else A.pure (W.next (D.1,y.2,()))) (W.bC (λ(D:z1'×Int×Unit)=>letI b:=IntKind.wrap .i64 D.2.1;letI f:=Int.toNat b;letI e:=List.take (List.length (List.replicate f (0:Int))-0) D.1;A.ae (0<=b/\b=b/\cn f) (A.ae True (A.bind (A.loop (λ(D:Int×z1'×Unit)=>letI g:=Int.toNat D.1;letI c:=List.take g D.2.1;letI a:=Int.ofNat (List.length D.2.1);letI d:=Int.toNat a-g;if decide (D.1<a)=true then A.ae (0<=D.1/\D.1<=a/\a<=a) (A.ae ((0:Int)<=0/\0<=D.1/\D.1<=a) (A.ae True (A.pure (W.next (IntKind.wrap .i64 (Add.add D.1 (Int.ofNat (if d<=List.length c then d else List.length c))),c++List.take d c++List.drop (Add.add g (List.length (List.take d c))) D.2.1,()))))) else A.bind (A.pure (W.next (D.2.1,()))) λr=>A.pure (W.done r)) (Int.ofNat (if List.length (List.replicate f (0:Int))-0<=List.length D.1 then List.length (List.replicate f (0:Int))-0 else List.length D.1),[]++e++List.drop (Add.add 0 (List.length e)) (List.replicate f (0:Int)),())) (W.bC (λ(D:z1'×Unit)=>A.pure (D.1,())))))))))
end Go.Fer
namespace Go.Fer.H
open A (W)
set_option linter.unusedVariables false
set_option maxRecDepth 100000
abbrev bb:Type:=Int×Int×Int×Int×Int×Int
abbrev pw:Type:=Int×Int×Int×Int×Int×Int×Int
abbrev a6:Type:=z4'×List bb×z1'×z4'×pw
abbrev bz:Type:=bb×Int
abbrev dQ:Type:=z1'×List (List bz)
abbrev d':Type:=a6×List bb×List (Option dQ)
abbrev hk:Type:=z4'×List bb×z1'×z4'×Int×Int×Int×Int×Int×Int×Int×List bb×List (Option dQ)×Unit
abbrev e9 (l:z4') (a b:Int):z4':=lD (k:=.int .i64) (v:=.int .i64) l a b
abbrev hl:ad:=.st (.aA (.int .i64) (.aA (.int .i64) (.aA (.int .i64) (.aA (.int .i64) (.aA (.int .i64) (.int .i64))))))
abbrev kR (l:List (Int×bb)) (a:Int) (b:bb):List (Int×bb):=lD (k:=.int .i64) (v:=hl) l a b
abbrev ajq:List UInt8:=0::1::(List.replicate 2 2++(List.replicate 4 3++(List.replicate 8 4++(List.replicate 16 5++(List.replicate 32 6++(List.replicate 64 7++List.replicate 128 8))))))
abbrev _root_.Prod.c8 {fF fG fH fI fJ fz fA:Type} (x:fF×fG×fH×fI×fJ×fz×fA):fz:=x.2.2.2.2.2.1
abbrev _root_.Prod.fp {fF fG fH fI fJ fz fA fQ:Type} (x:fF×fG×fH×fI×fJ×fz×fA×fQ):fA:=x.2.2.2.2.2.2.1
abbrev _root_.Prod.gJ {fF fG fH fI fJ fz fA fQ gl:Type} (x:fF×fG×fH×fI×fJ×fz×fA×fQ×gl):fQ:=x.2.2.2.2.2.2.2.1
abbrev _root_.Prod.iq {fF fG fH fI fJ fz fA fQ gl gK:Type} (x:fF×fG×fH×fI×fJ×fz×fA×fQ×gl×gK):gl:=x.2.2.2.2.2.2.2.2.1
abbrev _root_.Prod.jP {fF fG fH fI fJ fz fA fQ gl gK hn:Type} (x:fF×fG×fH×fI×fJ×fz×fA×fQ×gl×gK×hn):gK:=x.2.2.2.2.2.2.2.2.2.1
abbrev _root_.Prod.kS {fF fG fH fI fJ fz fA fQ gl gK hn hJ:Type} (x:fF×fG×fH×fI×fJ×fz×fA×fQ×gl×gK×hn×hJ):hn:=x.2.2.2.2.2.2.2.2.2.2.1
abbrev _root_.Prod.hK {fF fG fH fI fJ fz fA fQ gl gK hn hJ h':Type} (x:fF×fG×fH×fI×fJ×fz×fA×fQ×gl×gK×hn×hJ×h'):hJ:=x.2.2.2.2.2.2.2.2.2.2.2.1
abbrev _root_.Prod.mX {fF fG fH fI fJ fz fA fQ gl gK hn hJ h' iI:Type} (x:fF×fG×fH×fI×fJ×fz×fA×fQ×gl×gK×hn×hJ×h'×iI):h':=x.2.2.2.2.2.2.2.2.2.2.2.2.1
abbrev _root_.Prod.px {fF fG fH fI fJ fz fA fQ gl gK hn hJ h' iI jo:Type} (x:fF×fG×fH×fI×fJ×fz×fA×fQ×gl×gK×hn×hJ×h'×iI×jo):iI:=x.2.2.2.2.2.2.2.2.2.2.2.2.2.1
abbrev _root_.Prod.sr {fF fG fH fI fJ fz fA fQ gl gK hn hJ h' iI jo ke:Type} (x:fF×fG×fH×fI×fJ×fz×fA×fQ×gl×gK×hn×hJ×h'×iI×jo×ke):jo:=x.2.2.2.2.2.2.2.2.2.2.2.2.2.2.1
abbrev _root_.Prod.xL {fF fG fH fI fJ fz fA fQ gl gK hn hJ h' iI jo ke kT:Type} (x:fF×fG×fH×fI×fJ×fz×fA×fQ×gl×gK×hn×hJ×h'×iI×jo×ke×kT):ke:=x.2.2.2.2.2.2.2.2.2.2.2.2.2.2.2.1
abbrev _root_.Prod.Nx {fF fG fH fI fJ fz fA fQ gl gK hn hJ h' iI jo ke kT lW:Type} (x:fF×fG×fH×fI×fJ×fz×fA×fQ×gl×gK×hn×hJ×h'×iI×jo×ke×kT×lW):kT:=x.2.2.2.2.2.2.2.2.2.2.2.2.2.2.2.2.1
abbrev _root_.Prod.Ny {fF fG fH fI fJ fz fA fQ gl gK hn hJ h' iI jo ke kT lW mY:Type} (x:fF×fG×fH×fI×fJ×fz×fA×fQ×gl×gK×hn×hJ×h'×iI×jo×ke×kT×lW×mY):lW:=x.2.2.2.2.2.2.2.2.2.2.2.2.2.2.2.2.2.1
abbrev _root_.Prod.Nz {fF fG fH fI fJ fz fA fQ gl gK hn hJ h' iI jo ke kT lW mY oI:Type} (x:fF×fG×fH×fI×fJ×fz×fA×fQ×gl×gK×hn×hJ×h'×iI×jo×ke×kT×lW×mY×oI):mY:=x.2.2.2.2.2.2.2.2.2.2.2.2.2.2.2.2.2.2.1
abbrev _root_.Prod.NA {fF fG fH fI fJ fz fA fQ gl gK hn hJ h' iI jo ke kT lW mY oI qq:Type} (x:fF×fG×fH×fI×fJ×fz×fA×fQ×gl×gK×hn×hJ×h'×iI×jo×ke×kT×lW×mY×oI×qq):oI:=x.2.2.2.2.2.2.2.2.2.2.2.2.2.2.2.2.2.2.2.1
abbrev _root_.Prod.NB {fF fG fH fI fJ fz fA fQ gl gK hn hJ h' iI jo ke kT lW mY oI qq ss:Type} (x:fF×fG×fH×fI×fJ×fz×fA×fQ×gl×gK×hn×hJ×h'×iI×jo×ke×kT×lW×mY×oI×qq×ss):qq:=x.2.2.2.2.2.2.2.2.2.2.2.2.2.2.2.2.2.2.2.2.1
abbrev _root_.Prod.ajr {fF fG fH fI fJ fz fA fQ gl gK hn hJ h' iI jo ke kT lW mY oI qq ss vo:Type} (x:fF×fG×fH×fI×fJ×fz×fA×fQ×gl×gK×hn×hJ×h'×iI×jo×ke×kT×lW×mY×oI×qq×ss×vo):ss:=x.2.2.2.2.2.2.2.2.2.2.2.2.2.2.2.2.2.2.2.2.2.1
abbrev _root_.Prod.NC {fF fG fH fI fJ fz fA fQ gl gK hn hJ h' iI jo ke kT lW mY oI qq ss vo z1:Type} (x:fF×fG×fH×fI×fJ×fz×fA×fQ×gl×gK×hn×hJ×h'×iI×jo×ke×kT×lW×mY×oI×qq×ss×vo×z1):vo:=x.2.2.2.2.2.2.2.2.2.2.2.2.2.2.2.2.2.2.2.2.2.2.1
abbrev _root_.Prod.rl {fF fG fH fI fJ fz fA fQ gl gK hn hJ h' iI jo ke kT lW mY oI qq ss vo z1 Hd:Type} (x:fF×fG×fH×fI×fJ×fz×fA×fQ×gl×gK×hn×hJ×h'×iI×jo×ke×kT×lW×mY×oI×qq×ss×vo×z1×Hd):z1:=x.2.2.2.2.2.2.2.2.2.2.2.2.2.2.2.2.2.2.2.2.2.2.2.1
abbrev _root_.Prod.Dw {fF fG fH fI fJ fz fA fQ gl gK hn hJ h' iI jo ke kT lW mY oI qq ss vo z1 Hd ajs:Type} (x:fF×fG×fH×fI×fJ×fz×fA×fQ×gl×gK×hn×hJ×h'×iI×jo×ke×kT×lW×mY×oI×qq×ss×vo×z1×Hd×ajs):Hd:=x.2.2.2.2.2.2.2.2.2.2.2.2.2.2.2.2.2.2.2.2.2.2.2.2.1
def VH (tV:a6×(Option d'->A Bool)->A (Option d'×Int)) (Dx:Option dQ×Int×Int->A (bz×Bool)) (Dy:(z1'->Prop)->A (z1')) (ajt:z4'->A (z1'->Prop)) (aju:Option d'×Option Int×Option Int->A Bool) (x:a6×Int×Int):A (z1'×Int):=
 A.bind (tV (x.1,λhv=>aju (hv,some x.2.1,some x.2.2))) λy=>letI a:=(Option.getD y.1 (([],[],[],[],0,0,0,0,0,0,0),[],[])).2.2;if decide (y.2≠0)=true then A.pure ([],y.2) else A.bind (A.ae (Option.isSome y.1=true) (A.loop (λ(D:List (Option dQ)×Int×Int×Int×Int×z4'×Unit)=>letI b:=D.2.2;if decide (b.1<D.2.1)=true then A.bind (A.ae (0<=b.1/\b.1<Int.ofNat (List.length D.1)) (A.bind (Dx (List.getD D.1 (Int.toNat b.1) none,b.2.1,b.2.2.1)) (λy=>if y.2=true then A.pure (W.next (D.1,D.2.1,b.1,b.2.1,b.2.2.1,e9 D.c8 y.1.1.2.2.2.2.2 (IntKind.wrap .i64 (Add.add (Option.getD (Option.map (λx=>x.2) (List.find? (λp=>decide (y.1.1.2.2.2.2.2=p.1)) D.c8)) 0) 1)),())) else A.pure (W.next (D.1,D.2.1,b.1,b.2.1,b.2.2.1,e9 D.c8 (-1) (IntKind.wrap .i64 (Add.add (Option.getD (Option.map (λx=>x.2) (List.find? (λp=>decide (-1=p.1)) D.c8)) 0) 1)),()))))) (W.bC (λ(D:List (Option dQ)×Int×Int×Int×Int×z4'×Unit)=>A.pure (W.next (D.1,D.2.1,IntKind.wrap .i64 (Add.add D.2.2.1 1),D.2.2.2.1,D.2.2.2.2.1,D.c8,())))) else A.bind (A.pure (W.next (D.c8,()))) λr=>A.pure (W.done r)) (a,Int.ofNat (List.length a),0,x.2.1,x.2.2,[],()))) (W.bC (λ(D:z4'×Unit)=>A.bind (ajt D.1) λy=>A.bind (Dy y) λy=>A.pure (y,0)))
def VI (ND:a6×Int×(Int->A Int)->A ((Int×Int)×Int)) (ajv:Int×Option a6->A Int) (x:a6×Int):A ((Int×Int)×Int):=
 A.bind (ND (x.1,x.2,λhv=>ajv (hv,some x.1))) λy=>A.pure y
def VJ (ND:a6×Int×(Int->A Int)->A ((Int×Int)×Int)) (ajw:Int->A Int) (x:a6×Int):A ((Int×Int)×Int):=
 A.bind (ND (x.1,x.2,ajw)) λy=>A.pure y
def VK (tV:a6×(Option d'->A Bool)->A (Option d'×Int)) (Dz:Option d'×(Option dQ->A (Int×Bool))->A ((Int×Int)×Bool)) (ajx:Option d'×Option Int->A Bool) (ajy:Option dQ×Option Int×Option a6->A (Int×Bool)) (x:a6×Int):A ((Int×Int)×Int):=
 A.bind (tV (x.1,λhv=>ajx (hv,some x.2))) λy=>if decide (y.2≠0)=true then A.pure ((0,0),y.2) else A.bind (Dz (y.1,λhv=>ajy (hv,some x.2,some x.1))) λy=>A.pure (y.1,0)
def VL (tV:a6×(Option d'->A Bool)->A (Option d'×Int)) (Dz:Option d'×(Option dQ->A (Int×Bool))->A ((Int×Int)×Bool)) (ajz:Option d'×Option Int->A Bool) (ajA:Option dQ×Option (Option d')×Option Int×Option a6->A (Int×Bool)) (x:a6×Int):A ((Int×Int)×Int):=
 A.bind (tV (x.1,λhv=>ajz (hv,some x.2))) λy=>if decide (y.2≠0)=true then A.pure ((0,0),y.2) else A.bind (Dz (y.1,λhv=>ajA (hv,some y.1,some x.2,some x.1))) λy=>A.pure (y.1,0)
def VM (ajB:a6->A Bool) (NF:List bb->A (List bb×Bool)) (x:a6):A Int:=
 A.bind (ajB x) λy=>if (!y)=true then A.pure 90 else A.bind (NF x.2.1) λy=>if (!y.2)=true then A.pure 91 else A.pure 0
def VN (ajC:a6->A Bool) (VO:bb×Int×Int×Int×Int×Int×Int->A Bool) (x:a6):A Int:=
 A.bind (ajC x) λy=>if (!y)=true then A.pure 90 else A.bind (A.loop (λ(D:Int×a6×Unit)=>if decide (D.1<Int.ofNat (List.length D.2.1.2.1))=true then A.bind (A.loop (λ(D:Int×Int×a6×Unit)=>letI c:=D.2.2.1;letI b:=Int.ofNat (List.length c.2.1);letI a:=(List.getD c.2.1 (Int.toNat D.2.1) (0,0,0,0,0,0),List.getD c.2.1 (Int.toNat D.1) (0,0,0,0,0,0));if decide (D.2.1<D.1)=true then A.ae (0<=D.2.1/\D.2.1<b) (A.ae (0<=D.1/\D.1<b) (A.ae (VO a).cr (if A.val (VO a) false=true then A.bind (A.bind (A.bind (A.bind (A.pure 91) (λr=>A.pure (W.done r))) (λr=>A.pure (W.done r))) (λr=>A.pure (W.done r))) λr=>A.pure (W.done r) else A.pure (W.next (D.1,IntKind.wrap .i64 (Add.add D.2.1 1),c,()))))) else A.bind (A.pure (W.next (D.1,c,()))) λr=>A.pure (W.done r)) (D.1,0,D.2.1,())) (W.bC (λ(D:Int×a6×Unit)=>A.pure (W.next (IntKind.wrap .i64 (Add.add D.1 1),D.2.1,())))) else A.bind (A.pure (W.next ())) λr=>A.pure (W.done r)) (0,x,())) (W.bC (λ(D:Unit)=>A.pure 0))
def VP (tV:a6×(Option d'->A Bool)->A (Option d'×Int)) (Dx:Option dQ×Int×Int->A (bz×Bool)) (z6:a6×Int×Int->A Int) (ajD:Option d'×Option Int->A Bool) (x:a6×Int):A (z1'×z1'×Int):=
 A.bind (tV (x.1,λhv=>ajD (hv,some x.2))) λy=>if decide (y.2≠0)=true then A.pure ([],[],y.2) else A.bind (A.loop (λ(D:Option d'×Int×a6×Int×z1'×z1'×Unit)=>letI b:=(Option.getD D.1 (([],[],[],[],0,0,0,0,0,0,0),[],[])).2.2;if decide (D.2.1<10)=true then A.bind (A.bind (A.ae (Option.isSome D.1=true) (A.loop (λ(D:Option d'×Int×Int×Int×List (Option dQ)×Int×Int×a6×Int×z1'×z1'×Unit)=>letI d:=D.2.2.2;if decide (D.fp<D.c8)=true then A.bind (A.ae (0<=D.fp/\D.fp<Int.ofNat (List.length d.2.1)) (A.bind (Dx (List.getD d.2.1 (Int.toNat D.fp) none,D.2.1,D.iq)) (λy=>letI a:=y.2=true;letI c:=a->a/\True/\True;A.ae c (A.ae (a->(a/\a/\a/\True)/\(z6 (D.gJ,y.1.2,D.iq)).cr/\True) (A.ae c (A.ae c (A.ae (a->(a/\a)/\True/\True) (A.ae (True/\(a->a)) (if (y.2&&decide (A.val (z6 (D.gJ,y.1.2,D.iq)) 0>=D.gJ.iq))=true then A.pure (W.next (D.1,D.2.1,IntKind.wrap .i64 (Add.add D.2.2.1 1),d.1,d.2.1,D.c8,D.fp,D.gJ,D.iq,D.jP,D.kS,())) else A.pure (W.next (D.1,D.2.1,D.2.2.1,d.1,d.2.1,D.c8,D.fp,D.gJ,D.iq,D.jP,D.kS,()))))))))))) (W.bC (λ(D:Option d'×Int×Int×Int×List (Option dQ)×Int×Int×a6×Int×z1'×z1'×Unit)=>A.pure (W.next (D.1,D.2.1,D.2.2.1,D.2.2.2.1,D.2.2.2.2.1,D.c8,IntKind.wrap .i64 (Add.add D.fp 1),D.gJ,D.iq,D.jP,D.kS,())))) else A.bind (A.pure (W.next (D.1,D.2.1,D.2.2.1,d.1,D.gJ,D.iq,D.jP,D.kS,()))) λr=>A.pure (W.done r)) (D.1,D.2.1,0,D.2.1,b,Int.ofNat (List.length b),0,D.2.2.1,D.2.2.2.1,D.2.2.2.2.1,D.c8,()))) (W.bC (λ(D:Option d'×Int×Int×Int×a6×Int×z1'×z1'×Unit)=>letI e:=D.2.2;A.bind (if decide (e.1 > 0)=true then A.ae (cn (Add.add (List.length D.gJ) (Add.add 0 1))) (A.pure (W.next (D.1,D.2.1,e.1,e.2.1,e.2.2.1,D.c8,D.fp,D.gJ++[D.2.1],()))) else A.pure (W.next (D.1,D.2.1,e.1,e.2.1,e.2.2.1,D.c8,D.fp,D.gJ,()))) (W.bC (λ(D:Option d'×Int×Int×Int×a6×Int×z1'×z1'×Unit)=>letI f:=D.2.2.2;A.ae (Option.isSome D.1=true) (if decide (D.2.2.1=Int.ofNat (List.length (Option.getD D.1 (([],[],[],[],0,0,0,0,0,0,0),[],[])).2.2))=true then A.ae (cn (Add.add (List.length D.fp) (Add.add 0 1))) (A.pure (W.next (D.1,f.1,f.2.1,D.c8,D.fp++[D.2.1],D.gJ,()))) else A.pure (W.next (D.1,f.1,f.2.1,D.c8,D.fp,D.gJ,())))))))) (W.bC (λ(D:Option d'×Int×a6×Int×z1'×z1'×Unit)=>A.pure (W.next (D.1,IntKind.wrap .i64 (Add.add D.2.1 1),D.2.2.1,D.2.2.2.1,D.2.2.2.2.1,D.c8,())))) else A.bind (A.pure (W.next (D.2.2.2.2.1,D.c8,()))) λr=>A.pure (W.done r)) (y.1,0,x.1,x.2,[],[],())) (W.bC (λ(D:z1'×z1'×Unit)=>A.pure (D.1,D.2.1,0)))
def VQ (z7:a6->A Int) (ajE:List bb×Unit->A (Bool×List bb×Unit)) (ajF:(Int×Int×Int×Int×Int×Int->A Bool)×List bb×Unit->A ((Nat×Nat)×List bb×Unit)) (NG:z1'×hk->A (hk)) (ajG:bb×Option a6->A Bool) (x:a6×(Option d'->A Bool)):A (Option d'×Int):=
 A.bind (z7 x.1) λy=>if decide (y≠0)=true then A.pure (none,y) else A.bind (ajE (x.1.2.1,())) λy=>A.ae True (A.ae True (A.bind (ajF (λhv=>ajG (hv,some x.1),y.2.1,())) (λy=>A.ae True (A.bind (A.bind (x.2 (some (x.1,List.drop y.1.1 (List.take y.1.2 y.2.1),[]))) (λbV=>if (!bV)=true then A.bind (A.pure (none,1)) λr=>A.pure (W.done r) else A.pure (W.next (x.1.1,x.1.2.1,x.1.2.2.1,x.1.2.2.2.1,x.1.2.2.2.2.1,x.1.c8,x.1.fp,x.1.gJ,x.1.iq,x.1.jP,x.1.2.2.2.2.2.2.2.2.2.2,y.1,y.2.1,[],())))) (W.bC (λ(D:z4'×List bb×z1'×z4'×Int×Int×Int×Int×Int×Int×Int×(Nat×Nat)×List bb×List (Option dQ)×Unit)=>A.bind (NG ([],D.1,D.2.1,D.2.2.1,D.2.2.2.1,D.2.2.2.2.1,D.c8,D.fp,D.gJ,D.iq,D.jP,D.kS,List.drop D.hK.1 (List.take D.hK.2 D.mX),D.px,())) λy=>A.ae True (if decide (Int.ofNat (List.length y.mX)=0)=true then A.pure (none,3) else A.pure (some ((y.1,y.2.1,y.2.2.1,y.2.2.2.1,y.2.2.2.2.1,y.c8,y.fp,y.gJ,y.iq,y.jP,y.kS),y.hK,y.mX),0))))))))
def VR (jq:Int×Int×Int->A Bool) (DA:Int->A Bool) (x:Option d'×Option Int×Option Int):A Bool:=
 A.bind (jq (Option.getD x.2.1 0,0,9)) λy=>A.bind (cg y (DA (Option.getD x.2.2 0)) false) λbV=>A.pure (y&&bV)
def ajH (x:Int×Int×Int):A Bool:=
 A.pure (decide (x.2.1<=x.1)&&decide (x.1<=x.2.2))
def VS (jq:Int×Int×Int->A Bool) (x:Int):A Bool:=
 A.bind (jq (x,0,9999)) λy=>A.pure y
def VT (x:Option dQ×Int×Int):A (bz×Bool):=
 letI b:=List.getD (Option.getD x.1 ([],[[],[],[],[],[],[],[],[],[],[]])).2 (Int.toNat x.2.1) [];A.bind (A.ae (Option.isSome x.1=true) (A.ae (0<=x.2.1/\x.2.1<Int.ofNat 10) (A.loop (λ(D:Int×Bool×List bz×Int×Int×bz×bz×Unit)=>letI d:=D.2.2;letI c:=d.2.2.1;letI a:=List.getD d.1 (Int.toNat c) ((0,0,0,0,0,0),0);if decide (c<d.2.1)=true then A.bind (A.ae (0<=c/\c<Int.ofNat (List.length d.1)) (if decide (a.2<=D.1)=true then A.pure (W.next (D.1,decide (a.1.2.2.2.1=1),d.1,d.2.1,c,D.c8,a,())) else A.pure (W.next (D.1,D.2.1,d.1,d.2.1,c,D.c8,D.fp,())))) (W.bC (λ(D:Int×Bool×List bz×Int×Int×bz×bz×Unit)=>A.pure (W.next (D.1,D.2.1,D.2.2.1,D.2.2.2.1,IntKind.wrap .i64 (Add.add D.2.2.2.2.1 1),D.c8,D.fp,())))) else A.bind (A.pure (W.next (D.2.1,D.c8,D.fp,()))) λr=>A.pure (W.done r)) (x.2.2,false,b,Int.ofNat (List.length b),0,((0,0,0,0,0,0),0),((0,0,0,0,0,0),0),())))) (W.bC (λ(D:Bool×bz×bz×Unit)=>A.pure (D.2.2.1,D.1)))
def VU (NH:z1'×Unit->A (z1'×Unit)) (ajI:(z1'->Prop)×Unit->A (z1'×Unit)) (x:z1'->Prop):A (z1'):=
 A.bind (ajI (x,())) λy=>A.bind (NH (y.1,())) λy=>A.pure y.1
def ajJ (ajK:Option (z4')->z1'->Prop) (x:z4'):A (z1'->Prop):=
 A.pure (ajK (some x))
def VV (tV:a6×(Option d'->A Bool)->A (Option d'×Int)) (Dz:Option d'×(Option dQ->A (Int×Bool))->A ((Int×Int)×Bool)) (ajL:Option d'×Option Int->A Bool) (ajM:Option dQ×Option (Option d')×Option Int×Option (Int->A Int)->A (Int×Bool)) (x:a6×Int×(Int->A Int)):A ((Int×Int)×Int):=
 A.bind (tV (x.1,λhv=>ajL (hv,some x.2.1))) λy=>if decide (y.2≠0)=true then A.pure ((0,0),y.2) else A.bind (Dz (y.1,λhv=>ajM (hv,some y.1,some x.2.1,some x.2.2))) λy=>if (!y.2)=true then A.pure ((0,0),3) else A.pure (y.1,0)
def VW (He:pw×Int->A Int) (x:Int×Option a6):A Int:=
 A.bind (He ((Option.getD x.2 ([],[],[],[],0,0,0,0,0,0,0)).2.2.2.2,x.1)) λy=>A.pure y
def VX (x:pw×Int):A Int:=
 letI c:=x.1.2;letI b:=IntKind.wrap .i64 (x.2-x.1.1);letI a:=IntKind.wrap .i64 (c.2.1*IntKind.wrap .i64 (Int.tdiv (IntKind.wrap .i64 (IntKind.wrap .i64 (Add.add (if b > 0 then b else 0) c.1)-1)) c.1));if decide (x.2>=c.2.2.2.1)=true then A.pure x.1.c8 else A.ae (c.1≠0) (A.pure (if a<c.2.2.1 then a else c.2.2.1))
def ajN (x:Int):A Int:=
 A.pure x
def VY (DA:Int->A Bool) (x:Option d'×Option Int):A Bool:=
 A.bind (DA (Option.getD x.2 0)) λy=>A.pure y
def VZ (x:Option d'×(Option dQ->A (Int×Bool))):A ((Int×Int)×Bool):=
 letI b:=(Option.getD x.1 (([],[],[],[],0,0,0,0,0,0,0),[],[])).2.2;A.bind (A.ae (Option.isSome x.1=true) (A.loop (λ(D:(Option dQ->A (Int×Bool))×Bool×List (Option dQ)×Int×Int×(Int×Int)×Unit)=>letI c:=D.2.2;letI a:=c.2.2.1;if decide (a<c.2.1)=true then A.bind (A.ae (0<=a/\a<Int.ofNat (List.length c.1)) (A.bind (D.1 (List.getD c.1 (Int.toNat a) none)) (λy=>if (!y.2)=true then A.pure (W.next (D.1,D.2.1,c.1,c.2.1,a,D.c8,())) else if (!D.2.1)=true then A.pure (W.next (D.1,true,c.1,c.2.1,a,(y.1,y.1),())) else A.pure (W.next (D.1,D.2.1,c.1,c.2.1,a,(if y.1<D.c8.1 then y.1 else D.c8.1,if y.1 > D.c8.2 then y.1 else D.c8.2),()))))) (W.bC (λ(D:(Option dQ->A (Int×Bool))×Bool×List (Option dQ)×Int×Int×(Int×Int)×Unit)=>A.pure (W.next (D.1,D.2.1,D.2.2.1,D.2.2.2.1,IntKind.wrap .i64 (Add.add D.2.2.2.2.1 1),D.c8,())))) else A.bind (A.pure (W.next (D.2.1,D.c8,()))) λr=>A.pure (W.done r)) (x.2,false,b,Int.ofNat (List.length b),0,(0,0),()))) (W.bC (λ(D:Bool×(Int×Int)×Unit)=>A.pure (D.2.1,D.1)))
def V0 (Dx:Option dQ×Int×Int->A (bz×Bool)) (x:Option dQ×Option Int×Option a6):A (Int×Bool):=
 A.bind (A.loop (λ(D:Option dQ×Int×a6×Int×Int×Unit)=>letI a:=D.2.2.2;if decide (a.2.1<10)=true then A.bind (A.bind (Dx (D.1,a.2.1,D.2.1)) (λy=>if y.2=true then A.pure (W.next (D.1,D.2.1,D.2.2.1,IntKind.wrap .i64 (Add.add a.1 D.2.2.1.2.2.2.2.2.2.2.2.2.2),a.2.1,())) else A.pure (W.next (D.1,D.2.1,D.2.2.1,a.1,a.2.1,())))) (W.bC (λ(D:Option dQ×Int×a6×Int×Int×Unit)=>A.pure (W.next (D.1,D.2.1,D.2.2.1,D.2.2.2.1,IntKind.wrap .i64 (Add.add D.2.2.2.2.1 1),())))) else A.bind (A.pure (W.next (a.1,()))) λr=>A.pure (W.done r)) (x.1,Option.getD x.2.1 0,Option.getD x.2.2 ([],[],[],[],0,0,0,0,0,0,0),0,0,())) (W.bC (λ(D:Int×Unit)=>A.pure (D.1,true)))
def V1 (z8:Int->A Bool) (x:Option d'×Option Int):A Bool:=
 A.bind (z8 (Option.getD x.2 0)) λy=>A.pure y
def V2 (jq:Int×Int×Int->A Bool) (x:Int):A Bool:=
 A.bind (jq (x,0,99)) λy=>A.pure y
def V3 (He:pw×Int->A Int) (NI:Option d'×Option dQ->A (List bz->Prop)) (x:Option dQ×Option (Option d')×Option Int×Option a6):A (Int×Bool):=
 A.bind (NI (Option.getD x.2.1 none,x.1)) λy=>A.bind (A.any y) λL=>A.bind (jK (λ(D:Int×a6×Int×Unit) (y:bb×Int)=>letI a:=(D.2.1.2.2.2.2,y.2);A.bind (if decide (y.1.2.2.2.2.2=D.1)=true then A.ae (He a).cr (A.pure (dd.normal,IntKind.wrap .i64 (Add.add D.2.2.1 (A.val (He a) 0)),())) else A.pure (dd.normal,D.2.2.1,())) λp=>A.pure (p.1,D.1,D.2.1,p.2.1,())) L (Option.getD x.2.2.1 0,Option.getD x.2.2.2 ([],[],[],[],0,0,0,0,0,0,0),0,())) λp=>r7 (A.pure (p.2.2.2.1,true)) (λid=>if id=0 then A.pure (p.2.2.2.1,true) else A.fail) A.fail p.1
def ajO (ajP:Option (Option dQ)×Option (Option d')->List bz->Prop) (x:Option d'×Option dQ):A (List bz->Prop):=
 A.pure (ajP (some x.2,some x.1))
def V4 (jq:Int×Int×Int->A Bool) (NJ:List bb×(Int×Int×Int×Int×Int×Int->A Bool)->A Bool) (ajQ:Int×Int×Int×Int×Int×Int×Int->A Bool) (Nq:z1'×(Int->A Bool)->A Bool) (ajR:bb×Option a6->A Bool) (ajS:Int->A Bool) (x:a6):A Bool:=
 letI k:=Int.ofNat (List.length x.1);letI d:=decide (k > 3)||decide (Int.ofNat (List.length x.2.1) > 12)||decide (Int.ofNat (List.length x.2.2.1) > 12)||decide (Int.ofNat (List.length x.2.2.2.1) > 4);A.bind (cg (!d) (ajQ x.2.2.2.2) false) λy=>if (d||!y)=true then A.pure false else A.bind (A.loop (λ(D:z4'×Int×Int×a6×Unit)=>letI l:=D.2.2.1;letI e:=List.getD D.1 (Int.toNat l) (0,0);if decide (l<D.2.1)=true then A.ae (0<=l/\l<Int.ofNat (List.length D.1)) (A.bind (jq (e.1,-30,e.2)) (λy=>if (!y||decide (e.2 > 30))=true then A.bind (A.bind (A.pure false) (λr=>A.pure (W.done r))) λr=>A.pure (W.done r) else A.pure (W.next (D.1,D.2.1,IntKind.wrap .i64 (Add.add l 1),D.2.2.2.1,())))) else A.bind (A.pure (W.next (D.2.2.2.1,()))) λr=>A.pure (W.done r)) (x.1,k,0,x,())) (W.bC (λ(D:a6×Unit)=>A.bind (A.loop (λ(D:z4'×Int×Int×a6×Unit)=>letI m:=D.2.2.2.1;letI f:=D.2.2.1;letI j:=decide (f > 0);letI i:=IntKind.wrap .i64 (f-1);letI b:=List.getD D.1 (Int.toNat f) (0,0);letI a:=!(A.val (jq (b.1,0,b.2)) false)||decide (b.2 > 9999);letI h:=(!a)=true;letI c:=(!a&&j)=true;letI g:=c->c/\True/\True;if decide (f<D.2.1)=true then A.ae (0<=f/\f<Int.ofNat (List.length D.1)) (A.ae (jq (b.1,0,b.2)).cr (A.ae ((!(!(A.val (jq (b.1,0,b.2)) false)))=true->(!(!(A.val (jq (b.1,0,b.2)) false)))=true/\True/\True) (A.ae ((!(!(A.val (jq (b.1,0,b.2)) false)))=true->((!(!(A.val (jq (b.1,0,b.2)) false)))=true/\True)/\True/\True) (A.ae (True/\((!(A.val (jq (b.1,0,b.2)) false))=false->(!(!(A.val (jq (b.1,0,b.2)) false)))=true)) (A.ae (h->(h/\True)/\True/\True) (A.ae (h->True/\True/\h) (A.ae g (A.ae g (A.ae (c->(c/\True)/\True/\True) (A.ae (c->(c/\c)/\(0<=i/\i<Int.ofNat (List.length m.2.2.2.1))/\True) (A.ae g (A.ae g (A.ae (c->(c/\c)/\True/\True) (A.ae (h->(h/\(j=true->c))/\True/\True) (A.ae (True/\(a=false->h)) (if (a||j&&decide (b.1<=(List.getD m.2.2.2.1 (Int.toNat i) (0,0)).2))=true then A.bind (A.bind (A.pure false) (λr=>A.pure (W.done r))) λr=>A.pure (W.done r) else A.pure (W.next (D.1,D.2.1,IntKind.wrap .i64 (Add.add f 1),m,())))))))))))))))))) else A.bind (A.pure (W.next (m,()))) λr=>A.pure (W.done r)) (D.1.2.2.2.1,Int.ofNat (List.length D.1.2.2.2.1),0,D.1,())) (W.bC (λ(D:a6×Unit)=>A.bind (NJ (D.1.2.1,λx=>ajR (x,some D.1))) λy=>A.bind (cg (!y) (Nq (D.1.2.2.1,ajS)) false) λbV=>A.pure (!y&&!bV)))))
def ajT (Dy:(z1'->Prop)->A (z1')) (NK:List (Int×bb)->A (z1'->Prop)) (x:List bb):A (List bb×Bool):=
 A.bind (A.loop (λ(D:List bb×Int×Int×List (Int×bb)×Unit)=>letI e:=D.2.2;letI b:=List.getD D.1 (Int.toNat e.1) (0,0,0,0,0,0);letI c:=Option.map (λx=>x.2) (List.find? (λp=>decide (b.1=p.1)) e.2.1);letI a:=Option.getD c (0,0,0,0,0,0);if decide (e.1<D.2.1)=true then A.ae (0<=e.1/\e.1<Int.ofNat (List.length D.1)) (if (Option.isSome c&&!(decide (a.1=b.1)&&(decide (a.2.1=b.2.1)&&(decide (a.2.2.1=b.2.2.1)&&(decide (a.2.2.2.1=b.2.2.2.1)&&(decide (a.2.2.2.2.1=b.2.2.2.2.1)&&decide (a.2.2.2.2.2=b.2.2.2.2.2)))))))=true then A.bind (A.bind (A.pure ([],false)) (λr=>A.pure (W.done r))) λr=>A.pure (W.done r) else A.pure (W.next (D.1,D.2.1,IntKind.wrap .i64 (Add.add e.1 1),kR e.2.1 b.1 b,()))) else A.bind (A.pure (W.next (e.2.1,()))) λr=>A.pure (W.done r)) (x,Int.ofNat (List.length x),0,[],())) (W.bC (λ(D:List (Int×bb)×Unit)=>A.bind (A.bind (NK D.1) (λy=>A.bind (Dy y) λy=>A.loop (λ(D:z1'×Int×Int×List bb×List (Int×bb)×Unit)=>letI d:=D.2.2;if decide (d.1<D.2.1)=true then A.ae (0<=d.1/\d.1<Int.ofNat (List.length D.1)) (A.ae (cn (Add.add (List.length d.2.1) (Add.add 0 1))) (A.pure (W.next (D.1,D.2.1,IntKind.wrap .i64 (Add.add d.1 1),d.2.1++[Option.getD (Option.map (λx=>x.2) (List.find? (λp=>decide (List.getD D.1 (Int.toNat d.1) 0=p.1)) d.2.2.1)) (0,0,0,0,0,0)],d.2.2.1,())))) else A.bind (A.pure (W.next (d.2.1,()))) λr=>A.pure (W.done r)) (y,Int.ofNat (List.length y),0,[],D.1,()))) (W.bC (λ(D:List bb×Unit)=>A.pure (D.1,true)))))
def V5 (fR:Int×Int×Int->A Bool) (ajU:Int×Int×Int×Int×Int×Int×Int->A Bool) (V6:a6×Int×Int×Int×Int×Int×Int->A Bool) (x:a6):A Bool:=
 letI e:=decide (Int.ofNat (List.length x.1) > 3)||decide (Int.ofNat (List.length x.2.1) > 12)||decide (Int.ofNat (List.length x.2.2.1) > 12)||decide (Int.ofNat (List.length x.2.2.2.1) > 4);A.bind (cg (!e) (ajU x.2.2.2.2) false) λy=>if (e||!y)=true then A.pure false else A.bind (A.loop (λ(D:Int×a6×Unit)=>letI f:=D.1<Int.ofNat (List.length D.2.1.1);letI o:=0<=D.1/\f;letI b:=List.getD D.2.1.1 (Int.toNat D.1) (0,0);if decide f=true then A.ae o (A.ae o (A.ae (fR (b.1,-30,b.2)).cr (A.ae ((!(!(A.val (fR (b.1,-30,b.2)) false)))=true->(!(!(A.val (fR (b.1,-30,b.2)) false)))=true/\True/\True) (A.ae ((!(!(A.val (fR (b.1,-30,b.2)) false)))=true->((!(!(A.val (fR (b.1,-30,b.2)) false)))=true/\(!(!(A.val (fR (b.1,-30,b.2)) false)))=true)/\o/\True) (A.ae ((!(!(A.val (fR (b.1,-30,b.2)) false)))=true->(!(!(A.val (fR (b.1,-30,b.2)) false)))=true/\True/\True) (A.ae ((!(!(A.val (fR (b.1,-30,b.2)) false)))=true->(!(!(A.val (fR (b.1,-30,b.2)) false)))=true/\True/\True) (A.ae ((!(!(A.val (fR (b.1,-30,b.2)) false)))=true->((!(!(A.val (fR (b.1,-30,b.2)) false)))=true/\True)/\True/\True) (A.ae (True/\((!(A.val (fR (b.1,-30,b.2)) false))=false->(!(!(A.val (fR (b.1,-30,b.2)) false)))=true)) (if (!(A.val (fR (b.1,-30,b.2)) false)||decide (b.2 > 30))=true then A.bind (A.bind (A.pure false) (λr=>A.pure (W.done r))) λr=>A.pure (W.done r) else A.pure (W.next (IntKind.wrap .i64 (Add.add D.1 1),D.2.1,()))))))))))) else A.bind (A.pure (W.next (D.2.1,()))) λr=>A.pure (W.done r)) (0,x,())) (W.bC (λ(D:a6×Unit)=>A.bind (A.loop (λ(D:Int×a6×Unit)=>letI m:=D.1<Int.ofNat (List.length D.2.1.2.1);letI h:=(D.2.1,List.getD D.2.1.2.1 (Int.toNat D.1) (0,0,0,0,0,0));if decide m=true then A.ae (0<=D.1/\m) (A.ae (V6 h).cr (if (!(A.val (V6 h) false))=true then A.bind (A.bind (A.pure false) (λr=>A.pure (W.done r))) λr=>A.pure (W.done r) else A.pure (W.next (IntKind.wrap .i64 (Add.add D.1 1),D.2.1,())))) else A.bind (A.pure (W.next (D.2.1,()))) λr=>A.pure (W.done r)) (0,D.1,())) (W.bC (λ(D:a6×Unit)=>A.bind (A.loop (λ(D:Int×a6×Unit)=>letI l:=D.1<Int.ofNat (List.length D.2.1.2.2.1);if decide l=true then A.ae (0<=D.1/\l) (A.bind (fR (List.getD D.2.1.2.2.1 (Int.toNat D.1) 0,0,99)) (λy=>if (!y)=true then A.bind (A.bind (A.pure false) (λr=>A.pure (W.done r))) λr=>A.pure (W.done r) else A.pure (W.next (IntKind.wrap .i64 (Add.add D.1 1),D.2.1,())))) else A.bind (A.pure (W.next (D.2.1,()))) λr=>A.pure (W.done r)) (0,D.1,())) (W.bC (λ(D:a6×Unit)=>A.bind (A.loop (λ(D:Int×a6×Unit)=>letI p:=D.2.1.2.2.2.1;letI n:=decide (D.1 > 0);letI k:=IntKind.wrap .i64 (D.1-1);letI g:=Int.ofNat (List.length p);letI c:=List.getD p (Int.toNat D.1) (0,0);letI a:=!(A.val (fR (c.1,0,c.2)) false)||decide (c.2 > 9999);letI j:=(!a)=true;letI d:=(!a&&n)=true;letI i:=d->d/\True/\True;if decide (D.1<g)=true then A.ae (0<=D.1/\D.1<g) (A.ae (fR (c.1,0,c.2)).cr (A.ae ((!(!(A.val (fR (c.1,0,c.2)) false)))=true->(!(!(A.val (fR (c.1,0,c.2)) false)))=true/\True/\True) (A.ae ((!(!(A.val (fR (c.1,0,c.2)) false)))=true->((!(!(A.val (fR (c.1,0,c.2)) false)))=true/\True)/\True/\True) (A.ae (True/\((!(A.val (fR (c.1,0,c.2)) false))=false->(!(!(A.val (fR (c.1,0,c.2)) false)))=true)) (A.ae (j->(j/\True)/\True/\True) (A.ae (j->True/\True/\j) (A.ae i (A.ae i (A.ae (d->(d/\True)/\True/\True) (A.ae (d->(d/\d)/\(0<=k/\k<g)/\True) (A.ae i (A.ae i (A.ae (d->(d/\d)/\True/\True) (A.ae (j->(j/\(n=true->d))/\True/\True) (A.ae (True/\(a=false->j)) (if (a||n&&decide (c.1<=(List.getD p (Int.toNat k) (0,0)).2))=true then A.bind (A.bind (A.pure false) (λr=>A.pure (W.done r))) λr=>A.pure (W.done r) else A.pure (W.next (IntKind.wrap .i64 (Add.add D.1 1),D.2.1,())))))))))))))))))) else A.bind (A.pure (W.next ())) λr=>A.pure (W.done r)) (0,D.1,())) (W.bC (λ(D:Unit)=>A.pure true))))))))
def V7 (x:bb×Int×Int×Int×Int×Int×Int):A Bool:=
 letI a:=decide (x.1.1=x.2.1);A.pure (a&&!(a&&(decide (x.1.2.1=x.2.2.1)&&(decide (x.1.2.2.1=x.2.2.2.1)&&(decide (x.1.2.2.2.1=x.2.2.2.2.1)&&(decide (x.1.2.2.2.2.1=x.c8)&&decide (x.1.2.2.2.2.2=x.2.2.2.2.2.2)))))))
def V8 (lj:Int×Int×Int->A Bool) (x:Int×Int×Int):A Bool:=
 A.bind (lj x) λy=>A.pure y
def ajV (DA:Int->A Bool) (x:Option d'×Option Int):A Bool:=
 A.bind (DA (Option.getD x.2 0)) λy=>A.pure y
def V9 (x:a6×Int×Int):A Int:=
 A.bind (A.loop (λ(D:Int×Int×Int×z4'×Int×Int×Unit)=>letI c:=D.2.2.2;letI b:=IntKind.wrap .i64 (D.2.1-1);letI a:=List.getD c.1 (Int.toNat D.c8) (0,0);if decide (D.c8<c.2.1)=true then A.ae (0<=D.c8/\D.c8<Int.ofNat (List.length c.1)) (A.pure (W.next (D.1,D.2.1,IntKind.wrap .i64 (D.2.2.1-(if IntKind.wrap .i64 (Add.add (IntKind.wrap .i64 ((if b<a.2 then b else a.2)-(if D.1 > a.1 then D.1 else a.1))) 1) > 0 then IntKind.wrap .i64 (Add.add (IntKind.wrap .i64 ((if b<a.2 then b else a.2)-(if D.1 > a.1 then D.1 else a.1))) 1) else 0)),c.1,c.2.1,IntKind.wrap .i64 (Add.add D.c8 1),()))) else A.bind (A.pure (W.next (D.2.2.1,()))) λr=>A.pure (W.done r)) (x.2.1,x.2.2,IntKind.wrap .i64 (x.2.2-x.2.1),x.1.2.2.2.1,Int.ofNat (List.length x.1.2.2.2.1),0,())) (W.bC (λ(D:Int×Unit)=>A.pure D.1))
def V_ (x:z4'):A (z4'):=
 A.bind (A.any (λb=>b=true->x=[])) λy=>if y=true then A.pure [] else A.ae (cn (Add.add 0 (List.length x))) (A.pure ([]++x))
def V' (hI:z1'×Int->A Bool) (x:bb×Option a6):A Bool:=
 A.bind (hI ((Option.getD x.2 ([],[],[],[],0,0,0,0,0,0,0)).2.2.1,x.1.1)) λy=>A.pure y
def Wa (NJ:List bb×(Int×Int×Int×Int×Int×Int->A Bool)->A Bool) (ajW:bb×Option Int->A Bool) (x:Option d'×Option Int):A Bool:=
 A.ae (Option.isSome x.1=true) (A.bind (NJ ((Option.getD x.1 (([],[],[],[],0,0,0,0,0,0,0),[],[])).2.1,λhv=>ajW (hv,some (Option.getD x.2 0)))) (λy=>A.pure y))
def ajX (NL:List bb×(Int×Int×Int×Int×Int×Int->A Bool)->A Int) (x:List bb×(Int×Int×Int×Int×Int×Int->A Bool)):A Bool:=
 A.bind (NL x) λy=>A.pure (decide (y>=0))
def ajY (x:bb×Option Int):A Bool:=
 A.pure (decide (x.1.1=Option.getD x.2 0)&&decide (x.1.2.2.2.1=1))
def Wb (NI:Option d'×Option dQ->A (List bz->Prop)) (x:Option dQ×Option (Option d')×Option Int×Option (Int->A Int)):A (Int×Bool):=
 A.bind (NI (Option.getD x.2.1 none,x.1)) λy=>A.bind (A.any y) λL=>A.bind (jK (λ(D:Int×(Int->A Int)×Int×Bool×Unit) (y:bb×Int)=>A.bind (if decide (y.1.1=D.1)=true then A.bind (D.2.1 y.2) λy=>A.pure (dd.ret,y,true,()) else A.pure (dd.normal,D.2.2.1,D.2.2.2.1,())) λp=>A.pure (p.1,D.1,D.2.1,p.2.1,p.2.2.1,())) L (Option.getD x.2.2.1 0,Option.getD x.2.2.2 λx=>{ cr:=False,bR:=λx=>False },0,false,())) λp=>r7 (A.pure (0,false)) (λid=>if id=0 then A.pure (0,false) else A.fail) (A.pure (p.2.2.2.1,p.2.2.2.2.1)) p.1
def Wc (jq:Int×Int×Int->A Bool) (x:Int×Int×Int×Int×Int×Int×Int):A Bool:=
 A.bind (A.loop (λ(D:Int×Int×pw×z1'×Unit)=>letI a:=D.2;if decide (a.1<D.1)=true then A.ae (0<=a.1/\a.1<Int.ofNat (List.length a.2.2.1)) (A.bind (jq (List.getD a.2.2.1 (Int.toNat a.1) 0,0,100000)) (λy=>if (!y)=true then A.bind (A.bind (A.pure false) (λr=>A.pure (W.done r))) λr=>A.pure (W.done r) else A.pure (W.next (D.1,IntKind.wrap .i64 (Add.add a.1 1),a.2.1,a.2.2.1,())))) else A.bind (A.pure (W.next (a.2.1,()))) λr=>A.pure (W.done r)) (Int.ofNat (Add.add (Add.add (Add.add (Add.add 0 1) 1) 1) 1),0,x,[x.2.2.1,x.2.2.2.1,x.c8,x.2.2.2.2.2.2],())) (W.bC (λ(D:pw×Unit)=>A.bind (jq (D.1.1,0,9999)) λy=>A.bind (cg y (jq (D.1.2.1,1,9999)) false) λbV=>A.bind (cg (y&&bV) (jq (D.1.2.2.2.2.1,1,9999)) false) λdL=>A.pure (y&&bV&&dL)))
def Wd (ajZ:a6×Int×Int×Int×Int×Int×Int->A Bool) (x:bb×Option a6):A Bool:=
 A.bind (ajZ (Option.getD x.2 ([],[],[],[],0,0,0,0,0,0,0),x.1)) λy=>A.pure (!y)
def We (jq:Int×Int×Int->A Bool) (z8:Int->A Bool) (x:a6×Int×Int×Int×Int×Int×Int):A Bool:=
 letI c:=x.2.2.2.2;letI a:=decide (c.1=1)||decide (c.1=2)&&decide (c.2.2=0);A.bind (cg a (z8 x.2.1) false) λy=>A.bind (cg (a&&y) (z8 c.2.2) false) λbV=>A.bind (cg (a&&y&&bV) (jq (x.2.2.1,0,IntKind.wrap .i64 (Int.ofNat (List.length x.1.1)-1))) false) λdL=>letI b:=a&&y&&bV&&dL;A.bind (cg b (jq (x.2.2.2.1,0,9999)) false) λgB=>A.bind (cg (b&&gB) (jq (x.c8,0,9)) false) λmo=>A.pure (b&&gB&&mo)
def Wf (z8:Int->A Bool) (x:Int):A Bool:=
 A.bind (z8 x) λy=>A.pure (!y)
def aj0 (aj1:Option (List (Int×bb))->z1'->Prop) (x:List (Int×bb)):A (z1'->Prop):=
 A.pure (aj1 (some x))
def Wg (fR:Int×Int×Int->A Bool) (x:Int×Int×Int×Int×Int×Int×Int):A Bool:=
 A.bind (fR (x.1,0,9999)) λy=>A.bind (cg y (fR (x.2.1,1,9999)) false) λbV=>A.bind (cg (y&&bV) (fR (x.2.2.2.2.1,1,9999)) false) λdL=>A.bind (cg (y&&bV&&dL) (fR (x.2.2.1,0,100000)) false) λgB=>letI a:=y&&bV&&dL&&gB;A.bind (cg a (fR (x.2.2.2.1,0,100000)) false) λmo=>A.bind (cg (a&&mo) (fR (x.c8,0,100000)) false) λDv=>A.bind (cg (a&&mo&&Dv) (fR (x.2.2.2.2.2.2,0,100000)) false) λNu=>A.pure (a&&mo&&Dv&&Nu)
def Wh (fR:Int×Int×Int->A Bool) (x:a6×Int×Int×Int×Int×Int×Int):A Bool:=
 letI b:=x.2.2.2.2;A.bind (fR (x.2.1,0,99)) λy=>A.bind (cg (!(!y)) (fR (x.2.2.1,0,IntKind.wrap .i64 (Int.ofNat (List.length x.1.1)-1))) false) λbV=>A.bind (cg (!(!y||!bV)) (fR (x.2.2.2.1,0,9999)) false) λdL=>letI a:=!y||!bV||!dL;A.bind (cg (!a) (fR (x.c8,0,9)) false) λgB=>A.bind (cg (!(a||!gB)) (fR (b.2.2,0,99)) false) λmo=>if (a||!gB||!mo)=true then A.pure false else A.pure (decide (b.1=1)||decide (b.1=2)&&decide (b.2.2=0))
def Wi (aw':Int->A Int) (aj2:Int->A Int) (x:Int):A Int:=
 A.bind (aj2 x) λy=>A.pure y
def aj3 (x:List bb×(Int×Int×Int×Int×Int×Int->A Bool)):A Int:=
 A.bind (A.loop (λ(D:List bb×(Int×Int×Int×Int×Int×Int->A Bool)×Int×Int×Unit)=>letI a:=D.2.2.2.1;if decide (a<D.2.2.1)=true then A.ae (0<=a/\a<Int.ofNat (List.length D.1)) (A.bind (D.2.1 (List.getD D.1 (Int.toNat a) (0,0,0,0,0,0))) (λy=>if y=true then A.bind (A.bind (A.pure a) (λr=>A.pure (W.done r))) λr=>A.pure (W.done r) else A.pure (W.next (D.1,D.2.1,D.2.2.1,IntKind.wrap .i64 (Add.add a 1),())))) else A.bind (A.pure (W.next ())) λr=>A.pure (W.done r)) (x.1,x.2,Int.ofNat (List.length x.1),0,())) (W.bC (λ(D:Unit)=>A.pure (-1)))
def DB (x:Int):A Int:=
 A.bind (if decide (x>=4294967296)=true then A.ae ((0:Int)<=32) (A.pure (W.next (jd .u64 x 32,32,()))) else A.pure (W.next (x,0,()))) (W.bC (λ(D:Int×Int×Unit)=>A.bind (if decide (D.1>=65536)=true then A.ae ((0:Int)<=16) (A.pure (W.next (jd .u64 D.1 16,IntKind.wrap .i64 (Add.add D.2.1 16),()))) else A.pure (W.next (D.1,D.2.1,()))) (W.bC (λ(D:Int×Int×Unit)=>A.bind (if decide (D.1>=256)=true then A.ae ((0:Int)<=8) (A.pure (W.next (jd .u64 D.1 8,IntKind.wrap .i64 (Add.add D.2.1 8),()))) else A.pure (W.next (D.1,D.2.1,()))) (W.bC (λ(D:Int×Int×Unit)=>letI a:=IntKind.wrap .u8 D.1;A.ae (0<=a/\a<Int.ofNat 256) (A.pure (IntKind.wrap .i64 (Add.add D.2.1 (IntKind.wrap .i64 (Int.ofNat (List.getD ajq (Int.toNat a) 0).1.1.1)))))))))))
def Wj (x:z1'):A (z1'):=
 A.bind (A.any (λb=>b=true->x=[])) λy=>if y=true then A.pure [] else A.ae (cn (Add.add 0 (List.length x))) (A.pure ([]++x))
def Wk (aj4:Int×Int->A Int) (x:bz×bb×Int):A Int:=
 A.bind (aj4 (x.1.2,x.2.2)) λy=>A.pure y
def Wl (Wm:Int->A Bool) (x:Int×Int):A Int:=
 A.bind (Wm x.1) λy=>A.bind (Wm x.2) λbV=>if y=true then if bV=true then A.pure 0 else A.pure (-1) else if bV=true then A.pure 1 else if decide (x.1<x.2)=true then A.pure (-1) else if decide (x.1 > x.2)=true then A.pure 1 else A.pure 0
def Wn (x:Int):A Bool:=
 A.pure (decide (x≠x))
def Wo (x:(z1'->Prop)×Unit):A (z1'×Unit):=
 A.bind (A.any x.1) λL=>A.bind (jK (λ(D:z1'×Unit) (y:Int)=>A.bind (A.ae (cn (Add.add (List.length D.1) (Add.add 0 1))) (A.pure (dd.normal,D.1++[y],()))) λp=>A.pure (p.1,p.2.1,())) L ([],())) λp=>r7 (A.pure (p.2.1,())) (λid=>if id=0 then A.pure (p.2.1,()) else A.fail) A.fail p.1
def Wp (aj5:(z1'->Prop)×Unit->A (z1'×Unit)) (x:(z1'->Prop)×Unit):A (z1'×Unit):=
 A.bind (aj5 (x.1,())) λy=>A.pure (y.1,())
def Wq (NL:List bb×(Int×Int×Int×Int×Int×Int->A Bool)->A Int) (x:(Int×Int×Int×Int×Int×Int->A Bool)×List bb×Unit):A ((Nat×Nat)×List bb×Unit):=
 A.bind (NL (x.2.1,x.1)) λy=>if decide (y=-1)=true then A.pure ((0,List.length x.2.1),x.2.1,()) else A.bind (A.loop (λ(D:(Int×Int×Int×Int×Int×Int->A Bool)×Int×Int×List bb×Unit)=>letI g:=D.2.1;letI f:=D.2.2;letI e:=List.getD f.2.1 (Int.toNat f.1) (0,0,0,0,0,0);letI c:=Int.ofNat (List.length f.2.1);if decide (f.1<c)=true then A.bind (A.ae (0<=f.1/\f.1<c) (A.bind (D.1 e) (λy=>if (!y)=true then A.ae (0<=g/\g<c) (A.pure (W.next (D.1,IntKind.wrap .i64 (Add.add g 1),f.1,List.set f.2.1 (Int.toNat g) e,()))) else A.pure (W.next (D.1,g,f.1,f.2.1,()))))) (W.bC (λ(D:(Int×Int×Int×Int×Int×Int->A Bool)×Int×Int×List bb×Unit)=>A.pure (W.next (D.1,D.2.1,IntKind.wrap .i64 (Add.add D.2.2.1 1),D.2.2.2.1,())))) else A.bind (A.pure (W.next (g,f.2.1,()))) λr=>A.pure (W.done r)) (x.1,y,IntKind.wrap .i64 (Add.add y 1),x.2.1,())) (W.bC (λ(D:Int×List bb×Unit)=>letI d:=Int.toNat D.1;letI b:=Int.ofNat (List.length D.2.1);letI a:=List.take d D.2.1++List.replicate (Int.toNat b-d) (0,0,0,0,0,0)++List.drop (Add.add d (List.length (List.replicate (Int.toNat b-d) ((0,0,0,0,0,0):bb)))) D.2.1;A.ae (0<=D.1/\D.1<=b/\b<=b) (A.ae True (A.ae ((0:Int)<=0/\0<=D.1/\D.1<=Int.ofNat (List.length a)) (A.pure ((Int.toNat 0,d),a,()))))))
def Hf (z6:a6×Int×Int->A Int) (x:Nat×Option dQ×Option d'×(Nat×(List bz->Prop)×List bz×Bool)×Unit):A ((Nat×(List bz->Prop)×List bz×Bool)×Unit):=
 A.ae (Option.isSome x.2.1=true) (A.loop (λ(D:Nat×Option d'×List (List bz)×Int×(Nat×(List bz->Prop)×List bz×Bool)×Unit)=>letI g:=D.2.2.2;if decide (g.1<10)=true then A.bind (A.ae (0<=g.1/\g.1<Int.ofNat 10) (A.loop (λ(D:Nat×Option d'×List bz×Int×List (List bz)×Int×(Nat×(List bz->Prop)×List bz×Bool)×Unit)=>letI h:=D.fp;letI f:=D.2.2;letI d:=Int.ofNat (List.length f.1);letI i:=0<=f.2.1/\f.2.1<d;letI c:=IntKind.wrap .i64 (Add.add f.2.1 1);letI b:=List.getD f.1 (Int.toNat f.2.1) ((0,0,0,0,0,0),0);letI a:=((Option.getD D.2.1 (([],[],[],[],0,0,0,0,0,0,0),[],[])).1,b.2,(List.getD f.1 (Int.toNat c) ((0,0,0,0,0,0),0)).2);if decide (c<d)=true then A.ae i (A.ae (Option.isSome D.2.1=true) (A.ae i (A.ae (0<=c/\c<d) (A.ae (z6 a).cr (A.bind (A.ae (D.1=h.1/\h.2.2.2=false/\(∃ (T:List bz),h.2.1 (h.2.2.1++(b.1,A.val (z6 a) 0)::T))) (A.any (λx=>True))) (λy=>letI e:=(h.1,h.2.1,h.2.2.1++[(b.1,A.val (z6 a) 0)],!y);if (!y)=true then A.bind (A.bind (A.bind (A.pure (e,())) (λr=>A.pure (W.done r))) (λr=>A.pure (W.done r))) λr=>A.pure (W.done r) else A.pure (W.next (D.1,D.2.1,f.1,IntKind.wrap .i64 (Add.add f.2.1 2),f.2.2.1,D.c8,e,())))))))) else A.bind (A.pure (W.next (D.1,D.2.1,f.2.2.1,D.c8,h,()))) λr=>A.pure (W.done r)) (D.1,D.2.1,List.getD D.2.2.1 (Int.toNat g.1) [],0,D.2.2.1,g.1,g.2.1,()))) (W.bC (λ(D:Nat×Option d'×List (List bz)×Int×(Nat×(List bz->Prop)×List bz×Bool)×Unit)=>A.pure (W.next (D.1,D.2.1,D.2.2.1,IntKind.wrap .i64 (Add.add D.2.2.2.1 1),D.2.2.2.2.1,())))) else A.bind (A.pure (g.2.1,())) λr=>A.pure (W.done r)) (x.1,x.2.2.1,(Option.getD x.2.1 ([],[[],[],[],[],[],[],[],[],[],[]])).2,0,x.2.2.2.1,()))
def Wr (x:Int×Int×(bz×bb×Int->A Int)×List bz×Unit):A (List bz×Unit):=
 A.loop (λ(D:Int×Int×(bz×bb×Int->A Int)×Int×List bz×Unit)=>letI i:=D.2.2.2;if decide (i.1<D.2.1)=true then A.bind (A.loop (λ(D:Int×Int×(bz×bb×Int->A Int)×Int×Int×List bz×Unit)=>letI k:=D.2.2;letI d:=Int.ofNat (List.length D.c8);letI c:=k.2.2.1;letI j:=0<=c/\c<d;letI g:=decide (c > D.1);letI f:=List.getD D.c8 (Int.toNat c) ((0,0,0,0,0,0),0);letI b:=IntKind.wrap .i64 (c-1);letI e:=List.getD D.c8 (Int.toNat b) ((0,0,0,0,0,0),0);letI h:=List.set D.c8 (Int.toNat c) e;letI a:=g=true;letI l:=a->a/\True/\True;A.ae (a->(a/\a)/\j/\True) (A.ae l (A.ae (a->(a/\True)/\True/\True) (A.ae (a->(a/\a)/\(0<=b/\b<d)/\True) (A.ae l (A.ae (a->a/\a/\a/\True) (A.bind (cg g (k.1 (f,e)) 0) (λy=>if (g&&decide (y<0))=true then A.ae (0<=b/\b<d) (A.ae j (A.ae j (A.ae (0<=b/\b<Int.ofNat (List.length h)) (A.pure (W.next (D.1,D.2.1,k.1,k.2.1,b,List.set h (Int.toNat b) f,())))))) else A.bind (A.pure (W.next (D.1,D.2.1,k.1,k.2.1,D.c8,()))) λr=>A.pure (W.done r))))))))) (D.1,D.2.1,D.2.2.1,i.1,i.1,i.2.1,())) (W.bC (λ(D:Int×Int×(bz×bb×Int->A Int)×Int×List bz×Unit)=>A.pure (W.next (D.1,D.2.1,D.2.2.1,IntKind.wrap .i64 (Add.add D.2.2.2.1 1),D.2.2.2.2.1,())))) else A.bind (A.pure (i.2.1,())) λr=>A.pure (W.done r)) (x.1,x.2.1,x.2.2.1,IntKind.wrap .i64 (Add.add x.1 1),x.2.2.2.1,())
def NM (x:Nat×z4'×(Nat×(z1'->Prop)×z1'×Bool)×Unit):A ((Nat×(z1'->Prop)×z1'×Bool)×Unit):=
 A.bind (A.pure ()) λy=>A.loop (λ(D:Nat×(Nat×(z1'->Prop)×z1'×Bool)×(Option (Int×Int)×z4')×Unit)=>letI c:=D.2.1;letI b:=D.2.2.1;A.bind (FO b.2) λy=>if Option.isSome y=true then A.bind (A.ae (Option.isSome (nL b.1 b.2 y)=true) (A.pure ())) λbV=>A.bind (A.ae (D.1=c.1/\c.2.2.2=false/\(∃ (T:z1'),c.2.1 (c.2.2.1++Option.getD (Option.map (λx=>x.1) (nL b.1 b.2 y)) 0::T))) (A.any (λx=>True))) λdL=>letI a:=(c.1,c.2.1,c.2.2.1++[Option.getD (Option.map (λx=>x.1) (nL b.1 b.2 y)) 0],!dL);if (!dL)=true then A.bind (A.pure (a,())) λr=>A.pure (W.done r) else A.pure (W.next (D.1,a,(nL b.1 b.2 y,Co b.2 y),())) else A.bind (A.pure (c,())) λr=>A.pure (W.done r)) (x.1,x.2.2.1,(none,x.2.1),())
def NN (x:Nat×List (Int×bb)×(Nat×(z1'->Prop)×z1'×Bool)×Unit):A ((Nat×(z1'->Prop)×z1'×Bool)×Unit):=
 A.bind (A.pure ()) λy=>A.loop (λ(D:Nat×(Nat×(z1'->Prop)×z1'×Bool)×(Option pw×List (Int×bb))×Unit)=>letI c:=D.2.1;letI b:=D.2.2.1;A.bind (FO b.2) λy=>if Option.isSome y=true then A.bind (A.ae (Option.isSome (nL b.1 b.2 y)=true) (A.pure ())) λbV=>A.bind (A.ae (D.1=c.1/\c.2.2.2=false/\(∃ (T:z1'),c.2.1 (c.2.2.1++Option.getD (Option.map (λx=>x.1) (nL b.1 b.2 y)) 0::T))) (A.any (λx=>True))) λdL=>letI a:=(c.1,c.2.1,c.2.2.1++[Option.getD (Option.map (λx=>x.1) (nL b.1 b.2 y)) 0],!dL);if (!dL)=true then A.bind (A.pure (a,())) λr=>A.pure (W.done r) else A.pure (W.next (D.1,a,(nL b.1 b.2 y,Co b.2 y),())) else A.bind (A.pure (c,())) λr=>A.pure (W.done r)) (x.1,x.2.2.1,(none,x.2.1),())
def aj6 (Dy:(z1'->Prop)->A (z1')) (NK:List (Int×bb)->A (z1'->Prop)) (x:List bb×Unit):A (Bool×List bb×Unit):=
 A.bind (A.loop (λ(D:List bb×Int×Int×List (Int×bb)×Unit)=>letI e:=D.2.2;letI b:=List.getD D.1 (Int.toNat e.1) (0,0,0,0,0,0);letI c:=Option.map (λx=>x.2) (List.find? (λp=>decide (b.1=p.1)) e.2.1);letI a:=Option.getD c (0,0,0,0,0,0);if decide (e.1<D.2.1)=true then A.ae (0<=e.1/\e.1<Int.ofNat (List.length D.1)) (if (Option.isSome c&&!(decide (a.1=b.1)&&(decide (a.2.1=b.2.1)&&(decide (a.2.2.1=b.2.2.1)&&(decide (a.2.2.2.1=b.2.2.2.1)&&(decide (a.2.2.2.2.1=b.2.2.2.2.1)&&decide (a.2.2.2.2.2=b.2.2.2.2.2)))))))=true then A.bind (A.bind (A.pure (false,[],())) (λr=>A.pure (W.done r))) λr=>A.pure (W.done r) else A.pure (W.next (D.1,D.2.1,IntKind.wrap .i64 (Add.add e.1 1),kR e.2.1 b.1 b,()))) else A.bind (A.pure (W.next (e.2.1,()))) λr=>A.pure (W.done r)) (x.1,Int.ofNat (List.length x.1),0,[],())) (W.bC (λ(D:List (Int×bb)×Unit)=>A.bind (A.bind (NK D.1) (λy=>A.bind (Dy y) λy=>A.loop (λ(D:z1'×Int×Int×List bb×List (Int×bb)×Unit)=>letI d:=D.2.2;if decide (d.1<D.2.1)=true then A.ae (0<=d.1/\d.1<Int.ofNat (List.length D.1)) (A.ae (cn (Add.add (List.length d.2.1) (Add.add 0 1))) (A.pure (W.next (D.1,D.2.1,IntKind.wrap .i64 (Add.add d.1 1),d.2.1++[Option.getD (Option.map (λx=>x.2) (List.find? (λp=>decide (List.getD D.1 (Int.toNat d.1) 0=p.1)) d.2.2.1)) (0,0,0,0,0,0)],d.2.2.1,())))) else A.bind (A.pure (W.next (d.2.1,()))) λr=>A.pure (W.done r)) (y,Int.ofNat (List.length y),0,[],D.1,()))) (W.bC (λ(D:List bb×Unit)=>A.pure (true,D.1,())))))
abbrev lk:Type:=List bz×List bz×List bz×List bz×List bz×List bz×List bz×List bz×List bz×List bz×hk
def mq:Nat->lk->List bz
 | 0,r=>r.1
 | 1,r=>r.2.1
 | 2,r=>r.2.2.1
 | 3,r=>r.2.2.2.1
 | 4,r=>r.2.2.2.2.1
 | 5,r=>r.2.2.2.2.2.1
 | 6,r=>r.2.2.2.2.2.2.1
 | 7,r=>r.2.2.2.2.2.2.2.1
 | 8,r=>r.2.2.2.2.2.2.2.2.1
 | 9,r=>r.2.2.2.2.2.2.2.2.2.1
 | _,_=>[]
def Hg:Nat->List bz->lk->lk
 | 0,v,r=>(v,r.2)
 | 1,v,r=>(r.1,v,r.2.2)
 | 2,v,r=>(r.1,r.2.1,v,r.2.2.2)
 | 3,v,r=>(r.1,r.2.1,r.2.2.1,v,r.2.2.2.2)
 | 4,v,r=>(r.1,r.2.1,r.2.2.1,r.2.2.2.1,v,r.2.2.2.2.2)
 | 5,v,r=>(r.1,r.2.1,r.2.2.1,r.2.2.2.1,r.2.2.2.2.1,v,r.2.2.2.2.2.2)
 | 6,v,r=>(r.1,r.2.1,r.2.2.1,r.2.2.2.1,r.2.2.2.2.1,r.2.2.2.2.2.1,v,r.2.2.2.2.2.2.2)
 | 7,v,r=>(r.1,r.2.1,r.2.2.1,r.2.2.2.1,r.2.2.2.2.1,r.2.2.2.2.2.1,r.2.2.2.2.2.2.1,v,r.2.2.2.2.2.2.2.2)
 | 8,v,r=>(r.1,r.2.1,r.2.2.1,r.2.2.2.1,r.2.2.2.2.1,r.2.2.2.2.2.1,r.2.2.2.2.2.2.1,r.2.2.2.2.2.2.2.1,v,r.2.2.2.2.2.2.2.2.2)
 | 9,v,r=>(r.1,r.2.1,r.2.2.1,r.2.2.2.1,r.2.2.2.2.1,r.2.2.2.2.2.1,r.2.2.2.2.2.2.1,r.2.2.2.2.2.2.2.1,r.2.2.2.2.2.2.2.2.1,v,r.2.2.2.2.2.2.2.2.2.2)
 | _,_,r=>r
abbrev Ws (r:lk):hk:=r.2.2.2.2.2.2.2.2.2.2
def NO {X:Type} (l:List bz) (x:bz) (i k:Int) (aN B:A X):A X:=
 letI z:=decide (i > 0);letI y:=IntKind.wrap .i64 (i-1);letI n:=decide (x.1.2.2.2.1≠k);letI m:=(!n)=true;letI b:=(!n&&z)=true;letI c:=b->b/\True/\True;A.ae (m->(m/\True)/\True/\True) (A.ae (m->True/\True/\m) (A.ae c (A.ae (b->(b/\True)/\True/\True) (A.ae (b->(b/\b)/\(0<=y/\y<Int.ofNat (List.length l))/\True) (A.ae c (A.ae c (A.ae (b->(b/\b)/\True/\True) (A.ae (m->(m/\(z=true->b))/\True/\True) (A.ae (True/\(n=false->m)) (if (n||z&&decide (x.2=(List.getD l (Int.toNat y) ((0,0,0,0,0,0),0)).2))=true then aN else B))))))))))
def Hh (k:Nat) (D:Int×Int×Int×z1'×lk):A (W (Int×Int×Int×z1'×lk) (W (Int×z1'×lk) (W (z1'×lk) (Option dQ×Bool×hk)))):=
 letI i:=D.2.2.1;letI l:=mq k D.2.2.2.2;letI x:=List.getD l (Int.toNat i) ((0,0,0,0,0,0),0);if decide (i<D.2.1)=true then A.ae (0<=i/\i<Int.ofNat (List.length l)) (A.bind (A.ae ((2:Int)≠0) (if decide (Int.tmod i (2:Int)=1)=true then A.pure (W.next (i,2,D.1,D.2.1,i,x,D.2.2.2)) else A.pure (W.next (i,1,D.1,D.2.1,i,x,D.2.2.2)))) (W.bC (λ(bn:Int×Int×Int×Int×Int×bz×z1'×lk)=>letI r:=bn.2.2.2.2.2.2.2;NO (mq k r) bn.2.2.2.2.2.1 bn.1 bn.2.1 (A.bind (A.bind (A.bind (A.pure (none,false,Ws r)) (λr=>A.pure (W.done r))) (λr=>A.pure (W.done r))) λr=>A.pure (W.done r)) (A.pure (W.next (bn.2.2.1,bn.2.2.2.1,IntKind.wrap .i64 (Add.add bn.2.2.2.2.1 1),bn.2.2.2.2.2.2)))))) else A.bind (A.pure (W.next (D.1,D.2.2.2))) λr=>A.pure (W.done r)
def DC (Wt:(bz×bb×Int->A Int)×List bz×Unit->A (List bz×Unit)) (Wu:bz×bb×Int->A Int):Nat->Nat->z1'×lk->A (W (z1'×lk) (Option dQ×Bool×hk))
 | 0,_,s=>A.pure (.next s)
 | n+1,k,s=>A.bind (A.ae (0<=Int.ofNat k/\Int.ofNat k<Int.ofNat 10) (A.bind (Wt (Wu,mq k s.2,())) (λy=>A.loop (Hh k) (Int.ofNat k,Int.ofNat (List.length y.1),0,s.1,Hg k y.1 s.2)))) (W.bC (λ(bn:Int×z1'×lk)=>A.ae (IntKind.wrap .i64 (Add.add bn.1 1)=Int.ofNat (k+1)) (DC Wt Wu n (k+1) bn.2)))
def Hi {X:Type} (f:Nat->A X) (v:Int):Nat->A X
 | 0=>f 0
 | n+1=>if v=Int.ofNat (Add.add n 1) then f (n+1) else Hi f v n
def Wv {X:Type} (D:z1'×List bb×Int×Int×z1'×lk) (u:Nat):A (W (z1'×List bb×Int×Int×z1'×lk) X):=
 letI a:=List.getD D.2.1 (Int.toNat D.2.2.2.1) (0,0,0,0,0,0);letI r:=D.2.2.2.2.2;letI p:=0<=Int.ofNat u/\Int.ofNat u<Int.ofNat 10;A.ae True (A.ae p (A.ae (0<=a.2.1/\a.2.1<Int.ofNat (List.length D.1)) (A.ae (cn (Add.add (List.length (mq u r)) (Add.add 0 1))) (A.ae True (A.ae p (A.pure (W.next (D.1,D.2.1,D.2.2.1,D.2.2.2.1,D.2.2.2.2.1,Hg u (mq u r++[((a.1,a.2.1,a.2.2.1,a.2.2.2.1,Int.ofNat u,a.2.2.2.2.2),IntKind.wrap .i64 (Add.add a.2.2.1 (List.getD D.1 (Int.toNat a.2.1) 0)))]) r))))))))
def Ww (aj7:z1'->A (z1')) (aj8:(bz×bb×Int->A Int)×List bz×Unit->A (List bz×Unit)) (aj9:bz×bb×Int->A Int) (x:z1'×hk):A (Option dQ×Bool×hk):=
 A.bind (A.bind (aj7 x.1) (λy=>A.pure (W.next (x.1,y,x.2.1,x.2.2.1,x.2.2.2.1,x.2.2.2.2.1,x.c8,x.fp,x.gJ,x.iq,x.jP,x.kS,x.hK,x.mX,x.px,[],[],[],[],[],[],[],[],[],[],())))) (W.bC (λ(D:z1'×z1'×z4'×List bb×z1'×z4'×Int×Int×Int×Int×Int×Int×Int×List bb×List (Option dQ)×List bz×List bz×List bz×List bz×List bz×List bz×List bz×List bz×List bz×List bz×Unit)=>A.bind (A.ae True (A.loop (λ(D:z1'×List bb×Int×Int×z1'×lk)=>letI a:=List.getD D.2.1 (Int.toNat D.2.2.2.1) (0,0,0,0,0,0);letI u:=a.2.2.2.2.1;if decide (D.2.2.2.1<D.2.2.1)=true then A.bind (A.ae (0<=D.2.2.2.1/\D.2.2.2.1<Int.ofNat (List.length D.2.1)) (A.ae (0<=u/\u<Int.ofNat 10) (Hi (Wv D) u 9))) (W.bC (λ(D:z1'×List bb×Int×Int×z1'×lk)=>A.pure (W.next (D.1,D.2.1,D.2.2.1,IntKind.wrap .i64 (Add.add D.2.2.2.1 1),D.2.2.2.2)))) else A.bind (A.pure (W.next D.2.2.2.2)) λr=>A.pure (W.done r)) (D.1,D.px,Int.ofNat (List.length D.px),0,D.2.1,D.xL,D.Nx,D.Ny,D.Nz,D.NA,D.NB,D.ajr,D.NC,D.rl,D.Dw,D.2.2.1,D.2.2.2.1,D.2.2.2.2.1,D.c8,D.fp,D.gJ,D.iq,D.jP,D.kS,D.hK,D.mX,D.px,D.sr,()))) (W.bC (λ(D:z1'×lk)=>A.bind (A.ae True (A.ae (0=Int.ofNat 0) (DC aj8 aj9 10 0 D))) (W.bC (λ(D:z1'×lk)=>A.pure (some (D.1,[mq 0 D.2,mq 1 D.2,mq 2 D.2,mq 3 D.2,mq 4 D.2,mq 5 D.2,mq 6 D.2,mq 7 D.2,mq 8 D.2,mq 9 D.2]),true,Ws D.2)))))))
def Wx (aj_:Int×Int×(bz×bb×Int->A Int)×List bz×Unit->A (List bz×Unit)) (x:Int×Int×Int×(bz×bb×Int->A Int)×List bz×Unit):A (List bz×Unit):=
 A.loop (λ(D:Int×Int×Int×(bz×bb×Int->A Int)×Bool×Bool×List bz×Unit)=>if decide (IntKind.wrap .i64 (D.2.1-D.1)<=12)=true then A.bind (aj_ (D.1,D.2.1,D.2.2.2.1,D.fp,())) λy=>A.bind (A.pure (y.1,())) λr=>A.pure (W.done r) else A.fail) (x.1,x.2.1,x.2.2.1,x.2.2.2.1,true,true,x.2.2.2.2.1,())
def Wy (NG:z1'×hk->A (hk)) (aj':z1'×hk->A (Option dQ×Bool×hk)) (x:z1'×hk):A (hk):=
 letI d:=Int.ofNat (List.length x.2.1);letI a:=Int.ofNat (List.length x.1);A.ae True (if decide (a=d)=true then A.bind (A.bind (aj' (x.1,x.2.1,x.2.2.1,x.2.2.2.1,x.2.2.2.2.1,x.c8,x.fp,x.gJ,x.iq,x.jP,x.kS,x.hK,x.mX,x.px,())) (λy=>if y.2.1=true then A.ae True (A.ae (cn (Add.add (List.length y.sr) (Add.add 0 1))) (A.ae True (A.pure (W.next (y.2.2.1,y.2.2.2.1,y.2.2.2.2.1,y.c8,y.fp,y.gJ,y.iq,y.jP,y.kS,y.hK,y.mX,y.px,y.sr++[y.1],()))))) else A.pure (W.next (y.2.2.1,y.2.2.2.1,y.2.2.2.2.1,y.c8,y.fp,y.gJ,y.iq,y.jP,y.kS,y.hK,y.mX,y.px,y.sr,())))) (W.bC (λ(D:hk)=>A.pure (D.1,D.2.1,D.2.2.1,D.2.2.2.1,D.2.2.2.2.1,D.c8,D.fp,D.gJ,D.iq,D.jP,D.kS,D.hK,D.mX,()))) else A.ae True (A.ae (0<=a/\a<d) (A.loop (λ(D:z1'×Int×Int×hk)=>letI c:=D.2.2;letI b:=D.2.1;letI e:=List.take (Int.toNat b) D.1;A.ae True (A.ae (0<=b/\b<Int.ofNat (List.length c.2.1)) (if decide (c.1<=(List.getD c.2.1 (Int.toNat b) (0,0)).2)=true then A.ae ((0:Int)<=0/\0<=b/\b=b/\b<=Int.ofNat (List.length D.1)) (A.ae (0<Add.add 0 1/\cn (Add.add (List.length e) (Add.add 0 1))) (A.bind (NG (e++[c.1],c.2.1,c.2.2.1,D.c8,D.fp,D.gJ,D.iq,D.jP,D.kS,D.hK,D.mX,D.px,D.sr,D.xL,())) (λy=>A.pure (W.next (D.1,b,IntKind.wrap .i64 (Add.add c.1 1),y.1,y.2.1,y.2.2.1,y.2.2.2.1,y.2.2.2.2.1,y.c8,y.fp,y.gJ,y.iq,y.jP,y.kS,y.hK,y.mX,()))))) else A.bind (A.pure (c.2.1,c.2.2.1,D.c8,D.fp,D.gJ,D.iq,D.jP,D.kS,D.hK,D.mX,D.px,D.sr,D.xL,())) λr=>A.pure (W.done r)))) (x.1,a,(List.getD x.2.1 (Int.toNat a) (0,0)).1,x.2.1,x.2.2.1,x.2.2.2.1,x.2.2.2.2.1,x.c8,x.fp,x.gJ,x.iq,x.jP,x.kS,x.hK,x.mX,x.px,()))))
def Wz (aka:Int->A Int) (akb:Int×Int×Int×(bz×bb×Int->A Int)×List bz×Unit->A (List bz×Unit)) (x:(bz×bb×Int->A Int)×List bz×Unit):A (List bz×Unit):=
 letI a:=Int.ofNat (List.length x.2.1);A.bind (aka (IntKind.wrap .u64 a)) λy=>A.bind (akb (0,a,y,x.1,x.2.1,())) λy=>A.pure (y.1,())
end Go.Fer.H
