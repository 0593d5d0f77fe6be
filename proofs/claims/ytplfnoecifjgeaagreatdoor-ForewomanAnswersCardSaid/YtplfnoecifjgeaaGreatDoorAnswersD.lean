/- Part 4 of the proof of Answers: shallow programs of Go functions, and what they compute. No condition. -/
import Derived.Test.YtplfnoecifjgeaaGreatDoorAnswersC
import Derived.RangeFuncBound
import Derived.Scope
import Derived.RangeFuncLeaves
import Derived.OpenShut
import Derived.WideKeyArgs
import Derived.ChangeSame
import Derived.Test.YtplfnoecifjgeaaGreatDoorProg
import Derived.KernelRfl
noncomputable section
set_option linter.unusedVariables false
set_option linter.unusedSimpArgs false
namespace Go.Fer
open Go.RowKit
theorem aih{C:b8}(iP:C.r=none){β:Type}{s:aA}{a:Act}{w:World}(M:cr C s a w){g:Operand}{ps:Array Tmp}{assign body:Code}{rH n:Nat}{eS:Nat->aG}(aB:aZ C.aN s.ay g=.sf rH n eS){ic:Ag}(UI:Dx C.P rH ic)
    {x:ic.ts.aj} {bU:List Nat} (ah:(iY ic.ts ((List.range n).map eS)).run s.aa=some (x,bU)) {sh rin rout:dF} (d':n6 sh rout ic.aJ ps.toList C.nt=true) {n_:sh.aj} (n7:sh.jb (s.cy bU)=some n_) (gO:ic.pre x)
    {run:aA->A (di×rout.aj)} {k:di->aA->A β} {O:β->Prop} (hm:A.cu (jQ (λD y=>uq sh rin rout ic.aJ ps.toList D y run) (ic.seq x) n_) λp=>A.cu (k p.1 (sh.st p.2)) O)
    (DT:∀ l,HC C.P C.aN C.nt assign body l run) {Q:Exit->Act->World->Prop}
    (al:∀ u,C.jS u->∀ e s' a' w',cr (C.hl u) s' a' w'->A.cu (k e s') O->Q e.pK a' w'):(Code.rangeFunc g ps assign body).wpIn (dQ C.r) 0 C.P Q a w:=by
  obtain⟨κ,F,M⟩:=M;obtain⟨Aw,f1,gP,f2⟩:=bk.lk (qy _ ah) M;obtain⟨κ,ej,f3,cL⟩:=dF.Ap n7 gP;have ae:=kc M g;rw[aB]at ae;obtain⟨aC,qp,im,ayD⟩:=ae;have aii:fo C.P ic.ts Aw w aC x:=vx M.bB f1 ic.ts ah f2 (by grind) λi G dI=>by
    grind
  have pE:∀ D:sh.aj,(sh.st D).ay b4=.undef:=λD=>by
    simp only[n6,Bool.and_eq_true,Bool.not_eq_true']at d';exact xV sh.bS c8 D b4 d'.1.1.1.2
  rw[iP];refine wpIn_rangeFunc λfn _=>?_;have aS:w.heap.size<((w.alloc (.deferred (some []))).alloc (.loop (e_ fn a.tmps ps assign body w.heap.size .ready .normal))).heap.size:=by simp;omega
  have ai:w.heap.size+1<((w.alloc (.deferred (some []))).alloc (.loop (e_ fn a.tmps ps assign body w.heap.size .ready .normal))).heap.size:=by simp
  have DW:((w.alloc (.deferred (some []))).alloc (.loop (e_ fn a.tmps ps assign body w.heap.size .ready .normal))).heap[w.heap.size+1]?=some (.loop (e_ fn a.tmps ps assign body w.heap.size .ready .normal)):=by
    have:=qo (w.alloc (.deferred (some []))) (.loop (e_ fn a.tmps ps assign body w.heap.size .ready .normal));simp_all
  have DX:((w.alloc (.deferred (some []))).alloc (.loop (e_ fn a.tmps ps assign body w.heap.size .ready .normal))).heap[w.heap.size]?=some (.deferred (some [])):=
    (pr _ _ (by simp)).trans (qo w _)
  have uC:∀ r,r<w.heap.size->((w.alloc (.deferred (some []))).alloc (.loop (e_ fn a.tmps ps assign body w.heap.size .ready .normal))).heap[r]?=w.heap[r]?:=λr h=>UB h;have DY:(Instr.enterLoop fn a.tmps ps assign body none).run C.P w=.ok (w.heap.size+1,[oW w.heap.size]) ((w.alloc (.deferred (some []))).alloc (.loop (e_ fn a.tmps ps assign body w.heap.size .ready .normal))):=run_enterLoop_outer fn a.tmps ps assign body;have x7:dc w ((w.alloc (.deferred (some []))).alloc (.loop (e_ fn a.tmps ps assign body w.heap.size .ready .normal))):=⟨rfl,rfl,rfl⟩
  have Nj:((w.alloc (.deferred (some []))).alloc (.loop (e_ fn a.tmps ps assign body w.heap.size .ready .normal))).heap.size=w.heap.size+2:=by simp
  generalize (w.alloc (.deferred (some []))).alloc (.loop (e_ fn a.tmps ps assign body w.heap.size .ready .normal))=b_ at aS ai DW DX uC DY x7 Nj;have qF:c1 ej w b_:=⟨by omega,λr h=>uC r (cL.da r h)⟩
  have dW:fo C.P ic.ts ej b_ aC x:=(aii.mono f3 (c1.refl _ _)).mono (λ_ h=>h) qF;have ez:bk { C with w0:=b_,F0:=ej,K0:=λ_=>False } (sh.st n_) a b_ κ ej:=
    cL.vP cL.dD cL.dfr cL.gj cL.bS (λdE kG e3 iZ iv e=>by have e:(sh.st n_).ay b4=.aW dE kG e3 iZ iv:=e;grind)
      (λr h=>uC r (by
        rcases h with h | ⟨b,W,rfl⟩
        · exact cL.da r h
        · exact (cL.own b W).1)) (by omega) (λ_ h=>.inl h) (λ_ h=>h) (λ_ h=>h.elim) (λ_ h=>h.elim) (λ_ _ h=>h) (Nat.le_refl _) (dc.refl _)
  have Nk:=UH (UC (S:=λT=>T=ic.seq x) (C:=C) (CI:={ C with w0:=b_,F0:=ej,K0:=λ_=>False }) (sh:=sh) (rin:=rin) (rout:=rout) (ps:=ps) (assign:=assign) (body:=body) (a:=a) (fn:=fn) (l:=w.heap.size+1) (B:=w.heap.size) (run:=run) (k:=k) (O:=O)
    rfl (by omega) (by rw[M.dD];omega) (by rw[M.dD];grind))
  have fj:∀ b,((sh.st n_).aa b).body.bY (κ b)=true->¬((κ b).aa=w.heap.size+1\/(κ b).aa=w.heap.size):=λb W h=>by
    have:=(cL.own b W).1;omega
  have vQ:=UI.iV (w.heap.size+1) _ ej (λr=>(∃ b,((sh.st n_).aa b).body.bY (κ b)=true/\(κ b).aa=r)\/r=w.heap.size+1\/r=w.heap.size) b_ aC x dW gO Nk (λr h=>ez.da r h) ez.iC
    (λr h=>by
      rcases h with⟨b,W,rfl⟩ | rfl | rfl
      · exact⟨(ez.own b W).1,(ez.own b W).2.1⟩
      · exact⟨ai,λh=>by have:=cL.da _ h;omega⟩
      · exact⟨aS,λh=>by have:=cL.da _ h;omega⟩)
    ⟨.normal,n_,κ,ez,DW,DX,λb W=>⟨.inl ⟨b,W,rfl⟩,fj b W⟩,.inr (.inl rfl),.inr (.inr rfl),λh=>by have:=cL.da _ h;omega,λh=>by have:=cL.da _ h;omega,rfl,λ_=>⟨rfl,λR jT=>by grind⟩,λh=>by cases h⟩
  refine⟨w.heap.size+1,[oW w.heap.size],b_,{ target:=.fn (.func rH) #[],args:=aC.toArray++#[.func (.yield (w.heap.size+1)) #[] #[]] },b_,rH,(aC++[Value.func (.yield (w.heap.size+1)) #[] #[]]).toArray,b_,DY,?_,λ_ _=>trivial,?_,λh=>(by cases h),callsIn_wide.2 (vQ.mono λe eV ⟨v,iZ,st,F',gB,he,gu,hinv,g1,eh,g3,g4,g5,g6,g7⟩=>?_)⟩
  · have e:a.eval (.const (.func (.yield (w.heap.size+1)) #[] #[]))=.func (.yield (w.heap.size+1)) #[] #[]:=rfl
    simp[resolve,qp,Deferred.ofValue,e]
  · have:=UI.enter (aC++[Value.func (.yield (w.heap.size+1)) #[] #[]]).toArray b_
    simpa [invoke]using this
  subst he;obtain⟨e,D,κ',mF,E,U,ag,a6,bM,dt,gK,_,iU,qk⟩:=hinv;refine⟨sS e,_,run_endLoop E (by cases st<;>simp[e_]),?_⟩;have HH:w.heap.size+1<eV.heap.size:=(Array.getElem?_eq_some_iff.1 E).1;generalize bb:Obj.loop _=ca;have hK:A.cu (k e (sh.st D)) O:=by
    cases st with
    | true=>grind
    | false=>
      obtain⟨rfl,fi⟩:=iU rfl;exact (fi [] (show iZ++[]=ic.seq x by grind)).2 _ rfl
  have vJ:∀ r,C.K0 r->r<w.heap.size:=λr h=>Nat.lt_of_lt_of_le (M.hv r h) M.size;have uA:∀ r,C.K0 r->(eV.putObj (w.heap.size+1) ca).heap[r]?=C.w0.heap[r]?:=λr h=>by
    have cj:=vJ r h;rw[World.putObj_heap_other (by omega),g4 r (by omega) λaR=>?_,uC r cj]
    · exact M.eG r h
    · rcases aR with⟨b,W,rfl⟩ | rfl | rfl
      · exact (cL.own b W).2.2 h
      · omega
      · omega
  have x8:dc C.w0 (eV.putObj (w.heap.size+1) ca):=by
    have:=(M.ep.trans x7).trans g7;exact⟨this.os,this.tape,this.output⟩
  have AE:C.jS ⟨eV.putObj (w.heap.size+1) ca,λr=>C.K0 r\/r=w.heap.size,[w.heap.size]⟩:=
    { sR := λB aS => by
        have:B=w.heap.size:=by grind
        subst this;exact⟨.inr rfl,(World.putObj_heap_other (by omega)).trans U⟩
      ew:=λB aS=>by
        have:B=w.heap.size:=by grind
        subst this;exact⟨λh=>by grind,M.size⟩
      mE:=by simp
      hn:=λ_ h=>.inl h
      eG:=uA
      size:=by have:=M.size;simp;omega
      ep:=x8 }
  have n8:cr (C.hl ⟨eV.putObj (w.heap.size+1) ca,λr=>C.K0 r\/r=w.heap.size,[w.heap.size]⟩) (sh.st D) { a with defers:=[oW w.heap.size]++a.defers } (eV.putObj (w.heap.size+1) ca):=by
    have Nl:∀ r,F' r->C.F0 r\/¬(C.K0 r\/r=w.heap.size):=λr a_=>by
      rcases eh r a_ with h | h | h
      · rcases cL.hh r h with ds | ds
        · exact .inl ds
        · exact .inr λal=>al.elim ds λe=>by have:=cL.da r h;omega
      · rcases h with⟨b,W,rfl⟩ | rfl | rfl
        · exact .inr λal=>al.elim (cL.own b W).2.2 λe=>fj b W (.inr e)
        · exact (dt a_).elim
        · exact (gK a_).elim
      grind
    refine⟨κ',F',mF.vP (r:=C.r) mF.dD (by show [oW w.heap.size]++a.defers=_;rw[M.dfr];rfl) mF.gj mF.bS (λdE kG e3 iZ iv e=>by have e:(sh.st D).ay b4=.aW dE kG e3 iZ iv:=e;grind)
      (λr h=>World.putObj_heap_other λe=>by
        grind) (by simp) Nl (λr h=>g1 r (cL.hS r h)) (λr h=>?_) (λ_ _=>rfl) (λb W h=>?_) (Nat.le_refl _) (dc.refl _)⟩
    · simp only[World.putObj_size]
      grind
    · rcases h with h | h
      · rcases (g5 _ (ag b W).1).1 with aR | aR
        · rcases aR with⟨bd,dd,e⟩ | e | e
          · exact (cL.own bd dd).2.2 (e ▸ h)
          · exact (ag b W).2 (.inl e)
          · exact (ag b W).2 (.inr e)
        grind
      grind
  have bp:=al _ AE e _ _ _ n8 hK;cases e with
  | normal=>exact bp
  | exit id=>exact wpIn_exit bp
  | ret=>exact wpIn_ret bp
theorem aij{C:b8}(iP:C.r=none){β:Type}{s:aA}{a:Act}{w:World}(M:cr C s a w){g:Operand}{ps:Array Tmp}{assign body:Code}{aJ:ab}{S:List aJ.aj->Prop}(aB:aZ C.aN s.ay g=.val (.cq aJ) S)
    {sh rin rout:dF} (d':n6 sh rout aJ ps.toList C.nt=true) {n_:sh.aj} (n7:sh.jb s=some n_) (eB:∃ L,S L)
    {run:aA->A (di×rout.aj)} {k:di->aA->A β} {O:β->Prop} (hm:∀ L,S L->A.cu (jQ (λD y=>uq sh rin rout aJ ps.toList D y run) L n_) λp=>A.cu (k p.1 (sh.st p.2)) O)
    (DT:∀ l,HC C.P C.aN C.nt assign body l run) {Q:Exit->Act->World->Prop}
    (al:∀ u,C.jS u->∀ e s' a' w',cr (C.hl u) s' a' w'->A.cu (k e s') O->Q e.pK a' w'):(Code.rangeFunc g ps assign body).wpIn (dQ C.r) 0 C.P Q a w:=by
  obtain⟨κ,F,M⟩:=M;obtain⟨κ,ej,f3,cL⟩:=dF.Ap n7 M;have ae:=kc M g;rw[aB]at ae;have qp:=fb _ f3 (c1.refl _ _) ((dT rfl).1 ae).2;simp only[bH]at qp;obtain⟨u,hu,_,aik⟩:=qp;have hu:=(List.cons.inj hu).1;have pE:∀ D:sh.aj,(sh.st D).ay b4=.undef:=λD=>by
    simp only[n6,Bool.and_eq_true,Bool.not_eq_true']at d';exact xV sh.bS c8 D b4 d'.1.1.1.2
  rw[iP];refine wpIn_rangeFunc λfn _=>?_;have aS:w.heap.size<((w.alloc (.deferred (some []))).alloc (.loop (e_ fn a.tmps ps assign body w.heap.size .ready .normal))).heap.size:=by simp;omega
  have ai:w.heap.size+1<((w.alloc (.deferred (some []))).alloc (.loop (e_ fn a.tmps ps assign body w.heap.size .ready .normal))).heap.size:=by simp
  have DW:((w.alloc (.deferred (some []))).alloc (.loop (e_ fn a.tmps ps assign body w.heap.size .ready .normal))).heap[w.heap.size+1]?=some (.loop (e_ fn a.tmps ps assign body w.heap.size .ready .normal)):=by
    have:=qo (w.alloc (.deferred (some []))) (.loop (e_ fn a.tmps ps assign body w.heap.size .ready .normal));simp_all
  have DX:((w.alloc (.deferred (some []))).alloc (.loop (e_ fn a.tmps ps assign body w.heap.size .ready .normal))).heap[w.heap.size]?=some (.deferred (some [])):=
    (pr _ _ (by simp)).trans (qo w _)
  have uC:∀ r,r<w.heap.size->((w.alloc (.deferred (some []))).alloc (.loop (e_ fn a.tmps ps assign body w.heap.size .ready .normal))).heap[r]?=w.heap[r]?:=λr h=>UB h;have DY:(Instr.enterLoop fn a.tmps ps assign body none).run C.P w=.ok (w.heap.size+1,[oW w.heap.size]) ((w.alloc (.deferred (some []))).alloc (.loop (e_ fn a.tmps ps assign body w.heap.size .ready .normal))):=run_enterLoop_outer fn a.tmps ps assign body;have x7:dc w ((w.alloc (.deferred (some []))).alloc (.loop (e_ fn a.tmps ps assign body w.heap.size .ready .normal))):=⟨rfl,rfl,rfl⟩
  have Nj:((w.alloc (.deferred (some []))).alloc (.loop (e_ fn a.tmps ps assign body w.heap.size .ready .normal))).heap.size=w.heap.size+2:=by simp
  generalize (w.alloc (.deferred (some []))).alloc (.loop (e_ fn a.tmps ps assign body w.heap.size .ready .normal))=b_ at aS ai DW DX uC DY x7 Nj;have qF:c1 ej w b_:=⟨by omega,λr h=>uC r (cL.da r h)⟩
  have ez:bk { C with w0:=b_,F0:=ej,K0:=λ_=>False } (sh.st n_) a b_ κ ej:=
    cL.vP cL.dD cL.dfr cL.gj cL.bS (λdE kG e3 iZ iv e=>by have e:(sh.st n_).ay b4=.aW dE kG e3 iZ iv:=e;grind)
      (λr h=>uC r (by
        rcases h with h | ⟨b,W,rfl⟩
        · exact cL.da r h
        · exact (cL.own b W).1)) (by omega) (λ_ h=>.inl h) (λ_ h=>h) (λ_ h=>h.elim) (λ_ h=>h.elim) (λ_ _ h=>h) (Nat.le_refl _) (dc.refl _)
  have Nk:=UC (S:=S) (C:=C) (CI:={ C with w0:=b_,F0:=ej,K0:=λ_=>False }) (sh:=sh) (rin:=rin) (rout:=rout) (ps:=ps) (assign:=assign) (body:=body) (a:=a) (fn:=fn) (l:=w.heap.size+1) (B:=w.heap.size) (run:=run) (k:=k) (O:=O)
    rfl (by omega) (by rw[M.dD];omega) (by rw[M.dD];grind)
  have fj:∀ b,((sh.st n_).aa b).body.bY (κ b)=true->¬((κ b).aa=w.heap.size+1\/(κ b).aa=w.heap.size):=λb W h=>by
    have:=(cL.own b W).1;omega
  obtain⟨rH,cZ,ail,sK,Mq⟩:=aik ej b_ (λ_ h=>h) qF (λr h=>ez.da r h) ez.iC eB;have vQ:=Mq (w.heap.size+1) _ (λr=>(∃ b,((sh.st n_).aa b).body.bY (κ b)=true/\(κ b).aa=r)\/r=w.heap.size+1\/r=w.heap.size)
    (λr h=>by
      rcases h with⟨b,W,rfl⟩ | rfl | rfl
      · exact⟨(ez.own b W).1,(ez.own b W).2.1⟩
      · exact⟨ai,λh=>by have:=cL.da _ h;omega⟩
      · exact⟨aS,λh=>by have:=cL.da _ h;omega⟩)
    Nk ⟨.normal,n_,κ,ez,DW,DX,λb W=>⟨.inl ⟨b,W,rfl⟩,fj b W⟩,.inr (.inl rfl),.inr (.inr rfl),λh=>by have:=cL.da _ h;omega,λh=>by have:=cL.da _ h;omega,rfl,λ_=>⟨rfl,λR jT=>hm R jT⟩,λh=>by cases h⟩
  refine⟨w.heap.size+1,[oW w.heap.size],b_,{ target:=.fn (.func rH) cZ,args:=#[.func (.yield (w.heap.size+1)) #[] #[]] },b_,rH,#[Value.func (.yield (w.heap.size+1)) #[] #[]]++cZ,b_,DY,?_,λ_ _=>trivial,?_,λh=>(by cases h),callsIn_wide.2 (vQ.mono λe eV ⟨v,pre,st,F',gB,he,gu,hinv,g1,eh,g3,g4,g5,g6,Nn⟩=>?_)⟩
  · have e:a.eval (.const (.func (.yield (w.heap.size+1)) #[] #[]))=.func (.yield (w.heap.size+1)) #[] #[]:=rfl
    simp[resolve,hu,ail,Deferred.ofValue,e]
  · have:=sK (#[Value.func (.yield (w.heap.size+1)) #[] #[]]++cZ) b_
    simpa [invoke]using this
  have g7:dc b_ eV:=⟨Nn.1,Nn.2.1,Nn.2.2⟩
  subst he;obtain⟨e,D,κ',mF,E,U,ag,a6,bM,dt,gK,_,iU,qk⟩:=hinv;refine⟨sS e,_,run_endLoop E (by cases st<;>simp[e_]),?_⟩;have HH:w.heap.size+1<eV.heap.size:=(Array.getElem?_eq_some_iff.1 E).1;generalize bb:Obj.loop _=ca;have hK:A.cu (k e (sh.st D)) O:=by
    cases st with
    | true=>grind
    | false=>
      obtain⟨rfl,fi⟩:=iU rfl;exact (fi [] (show S (pre++[]) by grind)).2 _ rfl
  have vJ:∀ r,C.K0 r->r<w.heap.size:=λr h=>Nat.lt_of_lt_of_le (M.hv r h) M.size;have uA:∀ r,C.K0 r->(eV.putObj (w.heap.size+1) ca).heap[r]?=C.w0.heap[r]?:=λr h=>by
    have cj:=vJ r h;rw[World.putObj_heap_other (by omega),g4 r (by omega) λaR=>?_,uC r cj]
    · exact M.eG r h
    · rcases aR with⟨b,W,rfl⟩ | rfl | rfl
      · exact (cL.own b W).2.2 h
      · omega
      · omega
  have x8:dc C.w0 (eV.putObj (w.heap.size+1) ca):=by
    have:=(M.ep.trans x7).trans g7;exact⟨this.os,this.tape,this.output⟩
  have AE:C.jS ⟨eV.putObj (w.heap.size+1) ca,λr=>C.K0 r\/r=w.heap.size,[w.heap.size]⟩:=
    { sR := λB aS => by
        have:B=w.heap.size:=by grind
        subst this;exact⟨.inr rfl,(World.putObj_heap_other (by omega)).trans U⟩
      ew:=λB aS=>by
        have:B=w.heap.size:=by grind
        subst this;exact⟨λh=>by grind,M.size⟩
      mE:=by simp
      hn:=λ_ h=>.inl h
      eG:=uA
      size:=by have:=M.size;simp;omega
      ep:=x8 }
  have n8:cr (C.hl ⟨eV.putObj (w.heap.size+1) ca,λr=>C.K0 r\/r=w.heap.size,[w.heap.size]⟩) (sh.st D) { a with defers:=[oW w.heap.size]++a.defers } (eV.putObj (w.heap.size+1) ca):=by
    have Nl:∀ r,F' r->C.F0 r\/¬(C.K0 r\/r=w.heap.size):=λr a_=>by
      rcases eh r a_ with h | h | h
      · rcases cL.hh r h with ds | ds
        · exact .inl ds
        · exact .inr λal=>al.elim ds λe=>by have:=cL.da r h;omega
      · rcases h with⟨b,W,rfl⟩ | rfl | rfl
        · exact .inr λal=>al.elim (cL.own b W).2.2 λe=>fj b W (.inr e)
        · exact (dt a_).elim
        · exact (gK a_).elim
      grind
    refine⟨κ',F',mF.vP (r:=C.r) mF.dD (by show [oW w.heap.size]++a.defers=_;rw[M.dfr];rfl) mF.gj mF.bS (λdE kG e3 iZ iv e=>by have e:(sh.st D).ay b4=.aW dE kG e3 iZ iv:=e;grind)
      (λr h=>World.putObj_heap_other λe=>by
        grind) (by simp) Nl (λr h=>g1 r (cL.hS r h)) (λr h=>?_) (λ_ _=>rfl) (λb W h=>?_) (Nat.le_refl _) (dc.refl _)⟩
    · simp only[World.putObj_size]
      grind
    · rcases h with h | h
      · rcases (g5 _ (ag b W).1).1 with aR | aR
        · rcases aR with⟨bd,dd,e⟩ | e | e
          · exact (cL.own bd dd).2.2 (e ▸ h)
          · exact (ag b W).2 (.inl e)
          · exact (ag b W).2 (.inr e)
        grind
      grind
  have bp:=al _ AE e _ _ _ n8 hK;cases e with
  | normal=>exact bp
  | exit id=>exact wpIn_exit bp
  | ret=>exact wpIn_ret bp
end Go.Fer
namespace Go.Fer
open Go.RowKit
open A (V)
section
variable {F:Fence} {n:Nat} {P:Program} {Q:Exit->Act->World->Prop} {a:Act} {w:World}
theorem aim{c:Code}{HL β:Type}{body:HL->A (V HL β)}{O:β->Prop}(I:HL->Act->World->Prop)
  (round:∀ D a w,I D a w->(body D).b1->(∀ r,(body D).bQ (.done r)->O r)->c.wpIn F n P (Exit.then (λa' w'=>∃ iK,(body D).bQ (.next iK)/\I iK a' w') Q) a w)
  {D:HL} (aD:A.Cb body D) (af:∀ r,A.zn body D r->O r) (ez:I D a w):(Code.loop c).wpIn F n P Q a w:=by
 intro b k cs rN W M;have key:∀ D,A.Cb body D->(∀ r,A.zn body D r->O r)->∀ a w,I D a w->
   ∃ e a' w',Q e a' w'/\ArrivesIn (Machine.fenced P F) P (lone (b.atR a (.code c::.inLoop c::k)) cs w) b k cs e a' w':=by
  intro D aD;induction aD with
  | mk D h _ aH=>
   intro af a w ez;obtain⟨e,l1,l2,bp,e8⟩:=round D a w ez h (λr M=>af r (.done _ _ M)) b (.inLoop c::k) cs rN W M;cases e with
   | normal=>
    obtain⟨iK,qL,ain⟩:=bp;obtain⟨No,Np,Nq,Nr,Ns⟩:=aH iK qL (λr M=>af r (.next _ _ _ qL M)) l1 l2 ain;exact⟨No,Np,Nq,Nr,.of_steps (StepsIn.trans e8 (.one (fenced_calm W M rfl) stepR_inLoop)) Ns⟩
   | exit id=>exact⟨_,l1,l2,bp,.pass (x:=.inLoop c) rfl (λ_ _=>.inl (by simp)) e8⟩
   | goto l=>exact⟨_,l1,l2,bp,.pass (x:=.inLoop c) rfl (λ_ _=>.inl (by simp)) e8⟩
   | ret=>exact⟨_,l1,l2,bp,.pass (x:=.inLoop c) rfl (λ_ _=>.inl (by simp)) e8⟩
   | panic Nt=>exact⟨_,l1,l2,bp,.pass (x:=.inLoop c) rfl (λ_ _=>.inl (by simp)) e8⟩
   | outgrown=>exact⟨_,l1,l2,bp,.pass (x:=.inLoop c) rfl (λ_ _=>.inl (by simp)) e8⟩
 obtain⟨e,a',w',bp,e8⟩:=key D aD af a w ez;exact⟨e,a',w',bp,.of_steps (.one (fenced_calm W M rfl) stepR_loop) e8⟩
theorem aio{p q:Prop}(bp:q)(h:q->p):p/\q:=⟨h bp,bp⟩
def HM(F:Fence)(n:Nat)(P:Program)(c:Code)(Q:Exit->Act->World->Prop)(a:Act)(w:World):Prop:=
 ∀ (b:Frame) (k:List Item) (cs:List Frame),b.roundOf=F.round->F.fn b.fn->F.room (cs.length+1+n)->
  ∃ e a' w',Q e a' w'/\ArrivesIn (Machine.fenced P F) P (lone (b.atR a (.code c::.inLoop c::k)) cs w) b k cs e a' w'
theorem aip{c:Code}(h:HM F n P c Q a w):(Code.loop c).wpIn F n P Q a w:=λb k cs rN W M=>by
 obtain⟨e,a',w',bp,e8⟩:=h b k cs rN W M;exact⟨e,a',w',bp,.of_steps (.one (fenced_calm W M rfl) stepR_loop) e8⟩
theorem aiq{c:Code}(h:c.wpIn F n P (Exit.then (λa' w'=>HM F n P c Q a' w') Q) a w):HM F n P c Q a w:=λb k cs rN W M=>by
 obtain⟨e,l1,l2,bp,e8⟩:=h b (.inLoop c::k) cs rN W M;cases e with
 | normal=>
  obtain⟨No,Np,Nq,Nr,Ns⟩:=bp b k cs rN W M;exact⟨No,Np,Nq,Nr,.of_steps (StepsIn.trans e8 (.one (fenced_calm W M rfl) stepR_inLoop)) Ns⟩
 | exit id=>exact⟨_,l1,l2,bp,.pass (x:=.inLoop c) rfl (λ_ _=>.inl (by simp)) e8⟩
 | goto l=>exact⟨_,l1,l2,bp,.pass (x:=.inLoop c) rfl (λ_ _=>.inl (by simp)) e8⟩
 | ret=>exact⟨_,l1,l2,bp,.pass (x:=.inLoop c) rfl (λ_ _=>.inl (by simp)) e8⟩
 | panic Nt=>exact⟨_,l1,l2,bp,.pass (x:=.inLoop c) rfl (λ_ _=>.inl (by simp)) e8⟩
 | outgrown=>exact⟨_,l1,l2,bp,.pass (x:=.inLoop c) rfl (λ_ _=>.inl (by simp)) e8⟩
theorem AF{b:Frame}{k:List Item}{cs:List Frame}{c:Code}:step P (lone (b.atR a (.code (.scope c)::k)) cs w)=.next (lone (b.atR a (.code c::.inScope c::k)) cs w):=
 step_lone_go (by rfl)
theorem air{b:Frame}{k:List Item}{cs:List Frame}{c:Code}:step P (lone (b.atR a (.inScope c::k)) cs w)=.next (lone (b.atR a k) cs w):=
 step_lone_go (by rfl)
theorem ais{c:Code}(h:c.wpIn F n P (Exit.noGoto Q) a w):(Code.scope c).wpIn F n P Q a w:=by
 intro b k cs rN W M;have aT:(lone (b.atR a (.code (.scope c)::k)) cs w).fenced P F:=fenced_calm W M rfl;obtain⟨e,l1,l2,bp,e8⟩:=h b (.inScope c::k) cs rN W M;cases e with
 | normal=>exact⟨.normal,l1,l2,bp,.head aT AF (StepsIn.trans e8 (.one (fenced_calm W M rfl) air))⟩
 | exit id=>
  have ah:exitTo id (.inScope c::k)=exitTo id k:=by rfl
  exact⟨.exit id,l1,l2,bp,λk' al=>.head aT AF (e8.1 k' (by grind)),λa_ al=>let ⟨k₁,E,U⟩:=e8.2 a_ (by grind);⟨k₁,E,.head aT AF U⟩⟩
 | goto l=>exact bp.elim
 | ret=>exact⟨.ret,l1,l2,bp,.of_steps (.one aT AF) e8⟩
 | panic Nt=>exact⟨.panic Nt,l1,l2,bp,.of_steps (.one aT AF) e8⟩
 | outgrown=>exact⟨.outgrown,l1,l2,bp,.of_steps (.one aT AF) e8⟩
end
section
variable {T:Nat->ab} {be:Nat->Option aM} {Ψ:Nat->Option e2}
def Nu{D β:Type}(m:A (V D β))(O:β->Prop)(st:V D β):Prop:=
 match st with
 | .next s=>m.bQ (.next s)
 | .done r=>O r
theorem ait{C:b8}{s s':aA}{i:Nat}{a:Act}{w:World}(h:L' s i=some s')(M:cr C s a w):cr C s' a w:=by
 obtain⟨κ,F,M⟩:=M;unfold L' at h;split at h
 ·rename_i b g n off aD;split at h
  ·rename_i e xs bR;split at h
   ·rename_i aB;cases h;have ae:=M.bS i;rw[aD]at ae;obtain⟨aQ,aV,bK⟩:=ae.2 aB (by rw[bR];rfl);rw[bR]at aQ bK;have aS:=M.bB b;unfold cC at aS;rw[bR]at aS;obtain⟨cs,T,bC,c2,c3,c4,c5⟩:=aS.2 aV;have aQ:n<xs.length:=aQ;obtain⟨bh,d1,d2⟩:=c5 n aQ;have d2:bH C.P (.slice e) F w bh xs[n]:=d2;obtain⟨u,rfl,hu⟩:=Ch (t:=.slice e) rfl d2;have tV:cs.getD ((κ b).off+n) Go.undef=u:=by
     have:=d1 0 (by simp);simp only[ab.size,Nat.mul_one,Nat.add_zero]at this;rw[Array.getD_eq_getD_getElem?,this];rfl
    have gq:fp s.aa κ (λq=>if q=b then (⟨g,.gi (.st (.slice e)) xs n (.val (.slice e) (xs.getD n []))⟩:bJ) else s.aa q) κ:=
     rf aB (λh=>by cases h) (λ_=>by rw[bR];exact⟨rfl,rfl,rfl⟩) (λh=>by cases h) (λh=>by cases h)
    have cL:=M.pt (b:=b) (x:=⟨g,.gi (.st (.slice e)) xs n (.val (.slice e) (xs.getD n []))⟩) (w':=w) (by rw[bR];simp[bP.bY,aV]) (by simp[bP.bY,aV]) gq (λh=>by cases h) (λh=>by cases h) (λ_ _=>rfl) rfl (dc.refl w) λH mW cj he=>
     ⟨aV,cs,T,bC,c2,c3,c4,⟨rfl,aQ⟩,λj aE _=>c5 j aE,by rw[tV,show xs.getD n []=xs[n] by simp[aQ]];exact (dT rfl).2 ⟨hu,d2⟩,by rw[tV];exact Ky (t:=.slice e) rfl d2⟩
    refine⟨κ,F,{ cL with bS:=λj=>?_,dD:=cL.dD,dfr:=cL.dfr,bB:=cL.bB,eK:=λl aJ L m st aY=>?_ }⟩
    ·show bx _ _ _ _ _ (if j=i then _ else _) _;split
     ·rename_i aE;subst aE;refine⟨⟨by show g<=(if b=b then _ else _:bJ).gen;simp,ae.1.2⟩,λ_ _=>?_⟩;show _<(if b=b then _ else _:bJ).body.len/\_/\_=Value.pointer (some ⟨_,_+_*(if b=b then _ else _:bJ).body.eZ,_⟩);simp only[if_true];exact⟨aQ,aV,bK⟩
     ·exact cL.bS j
    ·have aY:(if b4=i then _ else _)=aG.aW l aJ L m st:=aY;split at aY
     ·cases aY
     ·exact cL.eK l aJ L m st aY
   ·cases h
  ·cases h
 ·cases h
theorem aiu{C:b8}{s s':aA}{b:Nat}{a:Act}{w:World}(h:Ma s b=some s')(M:cr C s a w):cr C s' a w:=by
 obtain⟨κ,F,M⟩:=M;unfold Ma at h;split at h
 ·rename_i e xs n v bR;split at h
  ·rename_i y bU aR;split at h
   ·cases h
   ·rename_i qw;cases h;have qw:b ∉ bU:=by simpa using qw
    obtain⟨F',f1,a_,f2⟩:=bk.lk (mV aR) M;have zV:(s.cy bU).aa b=s.aa b:=by simp[aA.cy,qw]
    have aS:=M.bB b;have Nv:=a_.bB b;unfold cC at aS Nv;rw[zV,bR]at Nv;rw[bR]at aS;obtain⟨aT,cs,T,bC,c2,c3,c4,c5,lO,oK,xn⟩:=Nv;obtain⟨_,dh,hV,UJ,_,_,_,_,_,aiv,_⟩:=aS;rw[bC]at UJ;cases UJ;have vt:=mr M.bB f1 aR f2 aiv;obtain⟨HE,oX⟩:=(dT rfl).1 vt;have gq:fp (s.cy bU).aa κ (λq=>if q=b then (⟨(s.aa b).gen,.bg (.st (.slice e)) (xs.set n y)⟩:bJ) else (s.cy bU).aa q) κ:=
     rf (by rw[zV]) (λh=>by cases h) (λ_=>by rw[zV,bR];exact⟨rfl,by simp[bP.len],rfl⟩) (λh=>by cases h) (λh=>by cases h)
    refine⟨κ,F',a_.pt (b:=b) (w':=w) (by rw[zV,bR];simp[bP.bY,aT]) (by simp[bP.bY,aT]) gq (λh=>by cases h) (λh=>by cases h) (λ_ _=>rfl) rfl (dc.refl w) λH mW cj he=>⟨λau=>(by rw[aT]at au;cases au),λ_=>⟨cs,T,bC,c2,by simpa using c3,c4,λj aE=>?_⟩⟩⟩;by_cases re:j=n
    ·subst re;refine⟨[cs.getD ((κ b).off+j) Go.undef],λq bp=>?_,?_⟩
     ·have bp:q=0:=by simpa using bp
      subst bp;have:(κ b).off+j<cs.size:=by
       have:=c5.2;simp only[ab.size,Nat.mul_one]at c2;omega
      simp[ab.size,this]
     ·rw[List.getElem_set_self];exact oX
    ·obtain⟨bh,d1,d2⟩:=lO j (by simpa using aE) re;exact⟨bh,d1,by rw[List.getElem_set_ne (Ne.symm re)];exact d2⟩
  ·cases h
 ·cases h
theorem aiw:∀ (ann:cA),(∀ (C:b8) (_:C.P.follows .mixedOrders=true) (_:dR C.P T) (_:jo C.P be) (_:l0 C.P C.aN Ψ) (_:C.r=none\/ann.eg=true) {β:Type} (c:Code) (s:aA) (k:di->aA->A β) (O:β->Prop) (Q:Exit->Act->World->Prop) (a:Act) (w:World),ls C.nt c=true->cr C s a w->A.cu (eH C.aN T be Ψ ann c s k) O->(∀ u,C.jS u->∀ e s' a' w',cr (C.hl u) s' a' w'->A.cu (k e s') O->Q e.pK a' w')->c.wpIn (dQ C.r) 0 C.P Q a w)/\(ann.oQ=true->∀ (C:b8) (_:C.P.follows .mixedOrders=true) (_:dR C.P T) (_:jo C.P be) (_:l0 C.P C.aN Ψ) (_:C.r=none\/ann.eg=true) {β:Type} (c:Code) (s:aA) (k:di->aA->A β) (O:β->Prop) (Q:Exit->Act->World->Prop) (a:Act) (w:World),ls C.nt c=true->cr C s a w->A.cu (eH C.aN T be Ψ ann (.loop c) s k) O->(∀ u,C.jS u->∀ e s' a' w',cr (C.hl u) s' a' w'->A.cu (k e s') O->Q e.pK a' w')->HM (dQ C.r) 0 C.P c Q a w):=by
 intro ann;induction ann with
 | eM=>
  refine⟨?_,λ_ C ek aU cz cW fT β c s k O Q a w hc M hm al=>by unfold eH at hm;exact (gG hm).elim⟩;intro C ek aU cz cW fT β c s k O Q a w hc M hm al;unfold eH at hm;split at hm
  ·rename_i id ops draw;cases draw with
   | true=>exact ahP ek aU (TY cz cW) cW (λo af=>List.all_eq_true.1 hc o af) (λs' a' w' a_ fi=>al C.hG C.vO .normal s' a' w' a_ fi) M hm
   | false=>
    refine wpIn_region ?_;have:=MU (Q:=Q) (ops:=ops) aU cz cW (λo af=>List.all_eq_true.1 hc o af) (k:=k .normal) (O:=O) (λs' a' w' a_ fi=>al C.hG C.vO .normal s' a' w' a_ fi) ops.toList 0 [] s a w (by simp) (λp an=>by cases an) M hm;rw[List.range_eq_range'];omega
  ·exact wpIn_skip (al C.hG C.vO .normal s a w M hm)
  ·exact wpIn_label (al C.hG C.vO .normal s a w M hm)
  ·exact wpIn_exit (al C.hG C.vO (.exit _) s a w M hm)
  ·exact wpIn_ret (al C.hG C.vO .ret s a w M hm)
  ·exact (gG hm).elim
 | seq x y hz lx=>
  have hz:=hz.1;have lx:=lx.1;refine⟨?_,λh=>by simp[cA.oQ]at h⟩;intro C ek aU cz cW fT β c s k O Q a w hc M hm al;have l3:C.r=none\/x.eg=true:=fT.imp id λh=>by simp only[cA.eg,Bool.and_eq_true]at h;grind
  have qM:C.r=none\/y.eg=true:=fT.imp id λh=>by simp only[cA.eg,Bool.and_eq_true]at h;grind
  unfold eH at hm;split at hm
  ·rename_i n' AG;simp only[ls,Bool.and_eq_true]at hc;refine wpIn_seq (hz C ek aU cz cW l3 n' s _ O _ a w hc.1 M hm λu hu e s' a' w' a_ fi=>?_);cases e with
   | normal=>exact lx (C.hl u) ek aU cz cW qM AG s' k O Q a' w' hc.2 a_ fi λv ae=>by rw[b8.AB];exact al _ (hu.then ae)
   | exit id=>exact al u hu (.exit id) s' a' w' a_ fi
   | ret=>exact al u hu .ret s' a' w' a_ fi
  ·exact (gG hm).elim
 | join sh x y hz lx=>
  have hz:=hz.1;have lx:=lx.1;refine⟨?_,λh=>by simp[cA.oQ]at h⟩;intro C ek aU cz cW fT β c s k O Q a w hc M hm al;have l3:C.r=none\/x.eg=true:=fT.imp id λh=>by simp only[cA.eg,Bool.and_eq_true]at h;grind
  have qM:C.r=none\/y.eg=true:=fT.imp id λh=>by simp only[cA.eg,Bool.and_eq_true]at h;grind
  unfold eH at hm;split at hm
  ·rename_i n' AG;simp only[ls,Bool.and_eq_true]at hc;rw[A.fY]at hm;refine wpIn_seq (hz C ek aU cz cW l3 n' s _ _ _ a w hc.1 M hm λu hu e s' a' w' a_ fi=>?_);cases e with
   | normal=>
    obtain⟨D,n7,U⟩:=uz fi;have ag:=A.d_.1 U;exact lx (C.hl u) ek aU cz cW qM AG _ k O Q a' w' hc.2 (dF.xQ n7 a_) ag λv ae=>by rw[b8.AB];exact al _ (hu.then ae)
   | exit id=>
    simp only[xO,A.fY,A.d_,V.bD]at fi;exact al u hu (.exit id) s' a' w' a_ fi
   | ret=>
    simp only[xO,A.fY,A.d_,V.bD]at fi;exact al u hu .ret s' a' w' a_ fi
  ·exact (gG hm).elim
 | cond x y hz lx=>
  have hz:=hz.1;have lx:=lx.1;refine⟨?_,λh=>by simp[cA.oQ]at h⟩;intro C ek aU cz cW fT β c s k O Q a w hc M hm al;have l3:C.r=none\/x.eg=true:=fT.imp id λh=>by simp only[cA.eg,Bool.and_eq_true]at h;grind
  have qM:C.r=none\/y.eg=true:=fT.imp id λh=>by simp only[cA.eg,Bool.and_eq_true]at h;grind
  unfold eH at hm;split at hm
  ·rename_i co n' AG;simp only[ls,Bool.and_eq_true]at hc;unfold Td at hm;split at hm
   ·rename_i t hu;obtain⟨κ,F,eU⟩:=M;have ae:=kc eU co;rw[hu]at ae;refine wpIn_cond_split (fc.1 ae) (λaL=>?_) (λaL=>?_)
    ·subst aL;exact hz C ek aU cz cW l3 n' s k O Q a w hc.1 ⟨κ,F,eU⟩ hm al
    ·subst aL;exact lx C ek aU cz cW qM AG s k O Q a w hc.2 ⟨κ,F,eU⟩ hm al
   ·rename_i g t hu;rw[A.kR]at hm;obtain⟨bb,hm⟩:=hm;obtain⟨κ,F,eU⟩:=M;have ae:=kc eU co;rw[hu]at ae;refine wpIn_cond_split (fc.1 (ae.1 bb)) (λaL=>?_) (λaL=>?_)
    ·subst aL;exact hz C ek aU cz cW l3 n' s k O Q a w hc.1 ⟨κ,F,eU⟩ hm al
    ·subst aL;exact lx C ek aU cz cW qM AG s k O Q a w hc.2 ⟨κ,F,eU⟩ hm al
   ·exact (gG hm).elim
  ·exact (gG hm).elim
 | block x hz=>
  have hz:=hz.1;refine⟨?_,λh=>by simp[cA.oQ]at h⟩;intro C ek aU cz cW fT β c s k O Q a w hc M hm al;have l3:C.r=none\/x.eg=true:=fT;unfold eH at hm;split at hm
  ·rename_i id n';refine wpIn_block (hz C ek aU cz cW l3 n' s _ O _ a w hc M hm λu hu e s' a' w' a_ fi=>?_);cases e with
   | normal=>exact al u hu .normal s' a' w' a_ fi
   | exit G1=>
    simp only[Tc]at fi;simp only[di.pK,Exit.inBlock];split at fi
    ·rename_i e;rw[if_pos e];exact al u hu .normal s' a' w' a_ fi
    ·rename_i e;rw[if_neg e];exact al u hu (.exit G1) s' a' w' a_ fi
   | ret=>exact al u hu .ret s' a' w' a_ fi
  ·exact (gG hm).elim
 | loop sh x hz=>
  have hz:=hz.1;refine⟨?_,λh=>by simp[cA.oQ]at h⟩;intro C ek aU cz cW fT β c s k O Q a w hc M hm al;have l3:C.r=none\/x.eg=true:=fT;unfold eH at hm;split at hm
  ·rename_i n';obtain⟨D,n7,U⟩:=uz hm;refine aim (I:=λD a w=>∃ u,C.jS u/\cr (C.hl u) (sh.st D) a w) (O:=O) (λD a w ⟨v,ae,ez⟩ rv DG=>?_) U.1 U.2 ⟨C.hG,C.vO,dF.xQ n7 M⟩;refine hz (C.hl v) ek aU cz cW l3 n' (sh.st D) _ (Nu (eH C.aN T be Ψ x n' (sh.st D) (xO k λs'=>sh.nd s' λiK=>A.pure (V.next iK))) O) _ a w hc ez ⟨rv,λst gu=>?_⟩ λu hu e s' a' w' a_ fi=>?_
   ·cases st with
    | next iK=>exact gu
    | done r=>exact DG r gu
   ·cases e with
    | normal=>
     obtain⟨iK,Nd,ag⟩:=uz fi;have a6:=A.d_.1 ag;exact⟨iK,a6,_,ae.then hu,by rw[<-b8.AB];exact dF.xQ Nd a_⟩
    | exit id=>
     simp only[xO,A.fY,A.d_,Nu]at fi;exact al _ (ae.then hu) (.exit id) s' a' w' (by rw[<-b8.AB];omega) fi
    | ret=>
     simp only[xO,A.fY,A.d_,Nu]at fi;exact al _ (ae.then hu) .ret s' a' w' (by rw[<-b8.AB];omega) fi
  ·exact (gG hm).elim
 | scope x hz=>
  have hz:=hz.1;refine⟨?_,λh=>by simp[cA.oQ]at h⟩;intro C ek aU cz cW fT β c s k O Q a w hc M hm al;have l3:C.r=none\/x.eg=true:=fT;unfold eH at hm;split at hm
  ·rename_i n';refine ais (hz C ek aU cz cW l3 n' s _ O _ a w hc M hm λu hu e s' a' w' a_ fi=>?_);have:=al u hu e s' a' w' a_ fi;cases e<;>exact this
  ·exact (gG hm).elim
 | range sh rin rout x y hz lx=>
  have hz:=hz.1;have lx:=lx.1;refine⟨?_,λh=>by simp[cA.oQ]at h⟩;intro C ek aU cz cW fT β c s k O Q a w hc M hm al;unfold eH at hm;split at hm
  ·rename_i g ps assign body;simp only[ls,Bool.and_eq_true,List.all_eq_true,decide_eq_true_eq]at hc;obtain⟨ayE,UK,UL⟩:=hc;split at hm
   ·rename_i rH n eS aB;split at hm
    ·rename_i ic aix;split at hm
     ·rename_i ayF bU ah;split at hm
      ·rename_i d';simp only[Bool.and_eq_true]at d';obtain⟨d',l3,qM⟩:=d';obtain⟨D,n7,U⟩:=uz hm;rw[A.kR,A.fY]at U;simp only[Te]at U;have iP:C.r=none:=fT.resolve_right λh=>by cases h
       have Nw:n6 sh rout ic.aJ ps.toList C.nt=true:=by
        simp only[n6,Bool.and_eq_true,List.all_eq_true,decide_eq_true_eq]at d' ⊢;grind
       refine aih iP M aB (cW rH _ aix) ah Nw n7 U.1 U.2 (λl=>?_) al;intro C1 js tY rO uh ev b' b_ qJ kh km;have h:=hz C1 (js ▸ ek) (js ▸ aU) (js ▸ cz) (by grind) (.inr l3) assign ev (G2 λdM=>eH C.aN T be Ψ y body dM λe eI=>rout.nd eI λbl=>A.pure (e,bl)) qJ
        (Exit.then (λa2 c7=>∃ u dM,C1.jS u/\cr (C1.hl u) dM a2 c7/\
         ∀ (hy:b8),hy.P=C.P->hy.aN=C.aN->hy.nt=C.nt->hy.r=some l->∀ (c7:World),cr hy dM a2 c7->
          body.wpIn (dQ (some l)) 0 C.P (λe a3 eV=>∃ (aY:di) (v:n9) (eI:aA) (bl:rout.aj),e=aY.pK/\hy.jS v/\cr (hy.hl v) eI a3 eV/\rout.jb eI=some bl/\qJ (aY,bl)) a2 c7) (λ_ _ _=>False)) b' b_ (rO ▸ UK) kh (tY ▸ km)
        λu hu e dM a2 c7 cL pN=>?_
       ·grind
       ·cases e with
        | normal=>
         refine⟨u,dM,hu,cL,λhy x9 Nx Ny aiy c7 mF=>?_⟩;have h:=lx hy (x9 ▸ ek) (x9 ▸ aU) (x9 ▸ cz) (by grind) (.inr qM) body dM (λe eI=>rout.nd eI λbl=>A.pure (e,bl)) qJ
          (λe a3 eV=>∃ (aY:di) (v:n9) (eI:aA) (bl:rout.aj),e=aY.pK/\hy.jS v/\cr (hy.hl v) eI a3 eV/\rout.jb eI=some bl/\qJ (aY,bl)) a2 c7 (Ny ▸ UL) mF (Nx ▸ pN) λv ae e eI a3 eV oY HN=>by
           obtain⟨bl,f',bM⟩:=uz HN;exact⟨e,v,eI,bl,rfl,ae,oY,f',A.d_.1 bM⟩
         grind
        | exit id=>exact (gG pN).elim
        | ret=>exact (gG pN).elim
      ·exact (gG hm).elim
     ·exact (gG hm).elim
    ·exact (gG hm).elim
   ·rename_i aJ S aB;split at hm
    ·rename_i d';simp only[Bool.and_eq_true]at d';obtain⟨d',l3,qM⟩:=d';obtain⟨D,n7,U⟩:=uz hm;rw[A.fY]at U;have iP:C.r=none:=fT.resolve_right λh=>by cases h
     have Nw:n6 sh rout aJ ps.toList C.nt=true:=by
      simp only[n6,Bool.and_eq_true,List.all_eq_true,decide_eq_true_eq]at d' ⊢;grind
     refine aij iP M aB Nw n7 U.1 (λL iO=>by have ag:=A.fY.1 (U.2 L iO);simp only[Te]at ag;exact ag) (λl=>?_) al;intro C1 js tY rO uh ev b' b_ qJ kh km;have h:=hz C1 (js ▸ ek) (js ▸ aU) (js ▸ cz) (by grind) (.inr l3) assign ev (G2 λdM=>eH C.aN T be Ψ y body dM λe eI=>rout.nd eI λbl=>A.pure (e,bl)) qJ
      (Exit.then (λa2 c7=>∃ u dM,C1.jS u/\cr (C1.hl u) dM a2 c7/\
       ∀ (hy:b8),hy.P=C.P->hy.aN=C.aN->hy.nt=C.nt->hy.r=some l->∀ (c7:World),cr hy dM a2 c7->
        body.wpIn (dQ (some l)) 0 C.P (λe a3 eV=>∃ (aY:di) (v:n9) (eI:aA) (bl:rout.aj),e=aY.pK/\hy.jS v/\cr (hy.hl v) eI a3 eV/\rout.jb eI=some bl/\qJ (aY,bl)) a2 c7) (λ_ _ _=>False)) b' b_ (rO ▸ UK) kh (tY ▸ km)
      λu hu e dM a2 c7 cL pN=>?_
     ·grind
     ·cases e with
      | normal=>
       refine⟨u,dM,hu,cL,λhy x9 Nx Ny aiy c7 mF=>?_⟩;have h:=lx hy (x9 ▸ ek) (x9 ▸ aU) (x9 ▸ cz) (by grind) (.inr qM) body dM (λe eI=>rout.nd eI λbl=>A.pure (e,bl)) qJ
        (λe a3 eV=>∃ (aY:di) (v:n9) (eI:aA) (bl:rout.aj),e=aY.pK/\hy.jS v/\cr (hy.hl v) eI a3 eV/\rout.jb eI=some bl/\qJ (aY,bl)) a2 c7 (Ny ▸ UL) mF (Nx ▸ pN) λv ae e eI a3 eV oY HN=>by
         obtain⟨bl,f',bM⟩:=uz HN;exact⟨e,v,eI,bl,rfl,ae,oY,f',A.d_.1 bM⟩
       grind
      | exit id=>exact (gG pN).elim
      | ret=>exact (gG pN).elim
    ·exact (gG hm).elim
   ·exact (gG hm).elim
  ·exact (gG hm).elim
 | n5 x y hz lx=>
  refine aio (λ_ C ek aU cz cW fT β c s k O Q a w hc M hm al=>?_) λkey C ek aU cz cW fT β c s k O Q a w hc M hm al=>?_
  ·have l3:C.r=none\/x.eg=true:=fT.imp id λh=>by simp only[cA.eg,Bool.and_eq_true]at h;grind
   have qM:C.r=none\/y.eg=true:=fT.imp id λh=>by simp only[cA.eg,Bool.and_eq_true]at h;grind
   unfold eH at hm;simp only at hm;split at hm
   ·rename_i hu;refine aiq (hz.1 C ek aU cz cW l3 c s _ O _ a w hc M hm λu xT e s' a' w' a_ fi=>?_);cases e with
    | normal=>exact lx.2 hu (C.hl u) ek aU cz cW qM c s' k O Q a' w' hc a_ fi λv ae=>by rw[b8.AB];exact al _ (xT.then ae)
    | exit id=>exact al u xT (.exit id) s' a' w' a_ fi
    | ret=>exact al u xT .ret s' a' w' a_ fi
   ·exact (gG hm).elim
  ·cases c with
   | loop n'=>exact aip (key rfl C ek aU cz cW fT n' s k O Q a w hc M hm al)
   | _=>unfold eH at hm;exact (gG hm).elim
 | G0=>
  refine⟨?_,λh=>by simp[cA.oQ]at h⟩;intro C ek aU cz cW fT β c s k O Q a w hc M hm al;unfold eH at hm;split at hm
  ·rename_i id ops draw;split at hm
   ·rename_i h;rw[Bool.and_eq_true]at h;obtain⟨rfl,h⟩:=h;exact ahV ek (fT.resolve_right (by simp[cA.eg])) h aU (TY cz cW) cW (λo af=>List.all_eq_true.1 hc o af) (λs' a' w' a_ fi=>al C.hG C.vO .normal s' a' w' a_ fi) M hm
   ·exact (gG hm).elim
  ·exact (gG hm).elim
 | nZ i x aH=>
  have aH:=aH.1;refine⟨?_,λh=>by simp[cA.oQ]at h⟩;intro C ek aU cz cW fT β c s k O Q a w hc M hm al;unfold eH at hm;split at hm
  ·rename_i s' ae;exact aH C ek aU cz cW fT c s' k O Q a w hc (ait ae M) hm al
  ·exact (gG hm).elim
 | GZ b x aH=>
  have aH:=aH.1;refine⟨?_,λh=>by simp[cA.oQ]at h⟩;intro C ek aU cz cW fT β c s k O Q a w hc M hm al;unfold eH at hm;split at hm
  ·rename_i s' ae;exact aH C ek aU cz cW fT c s' k O Q a w hc (aiu ae M) hm al
  ·exact (gG hm).elim
 | num i n x aH=>
  have aH:=aH.1;refine⟨?_,λh=>by simp[cA.oQ]at h⟩;intro C ek aU cz cW fT β c s k O Q a w hc M hm al;unfold eH at hm;split at hm
  ·rename_i v f ae;rw[A.kR]at hm;have h:=hm.2;rw[afy ae hm.1]at h;exact aH C ek aU cz cW fT c s k O Q a w hc M h al
  ·exact (gG hm).elim
 | split i off n x aH=>
  have aH:=aH.1;refine⟨?_,λh=>by simp[cA.oQ]at h⟩;intro C ek aU cz cW fT β c s k O Q a w hc M hm al;unfold eH at hm;split at hm
  ·rename_i v f ae;rw[A.kR]at hm;have h:=S' hm.2 hm.1.1 hm.1.2;rw[afx ae hm.1.1]at h;exact aH C ek aU cz cW fT c s k O Q a w hc M h al
  ·exact (gG hm).elim
theorem UM(ann:cA):∀ (C:b8) (_:C.P.follows .mixedOrders=true) (_:dR C.P T) (_:jo C.P be) (_:l0 C.P C.aN Ψ) (_:C.r=none\/ann.eg=true) {β:Type} (c:Code) (s:aA) (k:di->aA->A β) (O:β->Prop) (Q:Exit->Act->World->Prop) (a:Act) (w:World),ls C.nt c=true->cr C s a w->A.cu (eH C.aN T be Ψ ann c s k) O->(∀ u,C.jS u->∀ e s' a' w',cr (C.hl u) s' a' w'->A.cu (k e s') O->Q e.pK a' w')->c.wpIn (dQ C.r) 0 C.P Q a w:=(aiw ann).1
end
end Go.Fer
namespace Go.Fer
open Go.RowKit
def DZ(T:Nat->ab)(s:aA):List ResultVar->Option (List aG)
 | []=>some []
 | r::l=>match DZ T s l with
  | none=>none
  | some aC=>match r with
   | .tmp t=>some (s.ay t::aC)
   | .cell a ty=>match (zB (T ty) (s.ay a)).run s.aa with
    | some v=>some (v::aC)
    | none=>none
def Nz(t:ab)(n:Nat):Bool:=
 match t with
 | .az _ _=>n != 1
 | .cS=>n == 0
 | _=>n == 1
def vR(T:Nat->ab)(kF:List ResultVar)(aW:ab)(e:di)(s:aA):A aW.aj:=
 match e with
 | .exit _=>A.fail
 | _=>match DZ T s kF with
  | some avs=>match (iY aW avs).run s.aa with
   | some (y,_)=>A.pure y
   | none=>A.fail
  | none=>A.fail
def AH(t:ab)(x:t.aj)(n:Nat):List (Nat×aG):=(List.range n).map λi=>(i,kA t x i)
def sU(t:ab):Nat:=if t=.cS then 0 else j' t
def pP(t:ab)(x:t.aj):aA:=SZ (AH t x (sU t)) []
def D0(aP:dC)(T:Nat->ab)(be:Nat->Option aM)(Ψ:Nat->Option e2)(fn:Func)(c:Code)(ann:cA)(ts aW:ab)(x:ts.aj):A aW.aj:=
 eH aP T be Ψ ann c (pP ts x) (vR T fn.results.toList aW)
def HO(av:aG):aG:=match av with | .val (.bG e) p=>.dU e (p.getD e.de) | v=>v
def D1(av:aG):Prop:=match av with | .val (.bG _) p=>p.isSome=true | _=>True
def HP(n:Nat)(s:aA):aA:=⟨λi=>if i<n\/eP<i then s.ay i else HO (s.ay i),s.aa⟩
def D2(n:Nat)(s:aA):Prop:=∀ i,¬(i<n\/eP<i)->D1 (s.ay i)
def aiz(aP:dC)(T:Nat->ab)(be:Nat->Option aM)(Ψ:Nat->Option e2)(fn:Func)(c:Code)(ann:cA)(n:Nat)(ts aW:ab)(x:ts.aj):A aW.aj:=
 A.ad (D2 n (pP ts x)) (eH aP T be Ψ ann c (HP n (pP ts x)) (vR T fn.results.toList aW))
def D3(fn:Func)(c:Code)(ts aW:ab):Bool:=
 ls fn.ntmps c && Nz aW fn.results.size && decide (sU ts <= fn.ntmps) && !(fn.name == "runtime.NumGoroutine") && decide (fn.ntmps <= eP)
def AI:z9'->List aG->Option (List aG)
 | [],[]=>some []
 | none::g,v::aC=>match AI g aC with
  | some l=>some (v::l)
  | none=>none
 | some n::g,v::aC=>match v,AI g aC with
  | .agg m f,some l=>if m=n then some ((List.range n).map f++l) else none
  | _,_=>none
 | _,_=>none
def HQ(T:Nat->ab)(kF:List ResultVar)(kH:z9')(bQ:dF)(e:di)(s:aA):A bQ.aj:=
 match e with
 | .exit _=>A.fail
 | _=>match DZ T s kF with
  | some avs=>match AI kH avs with
   | some l=>match decide (l.length<=eP) with
    | true=>bQ.nd (sD s l) λbl=>A.pure bl
    | false=>A.fail
   | none=>A.fail
  | none=>A.fail
def NA(aP:dC)(T:Nat->ab)(be:Nat->Option aM)(Ψ:Nat->Option e2)(fn:Func)(c:Code)(ann:cA)(cm bQ:dF)(kH:z9')(D:cm.aj):A bQ.aj:=
 eH aP T be Ψ ann c (cm.st D) (HQ T fn.results.toList kH bQ)
def D4(fn:Func)(c:Code)(kk:Nat)(kH:z9'):Bool:=
 ls fn.ntmps c && decide (fn.results.size = kH.length) && decide (kk <= fn.ntmps) && !(fn.name == "runtime.NumGoroutine") && decide (fn.ntmps <= eP)
section
variable {C:b8} {T:Nat->ab} {be:Nat->Option aM} {Ψ:Nat->Option e2}
def AJ(tmps:Array Value)(r:ResultVar):Sem Value:=
 match r with
 | .tmp t=>pure (tmps.getD t undef)
 | .cell b t=>do loadVar t (<-asAddr (tmps.getD b undef))
theorem UN(fn:Func)(tmps:Array Value):results fn tmps=(fn.results.mapM (AJ tmps) >>= λaC=>pure (if h:aC.size=1 then aC[0] else .tuple aC)):=by
 rfl
theorem UO(aU:dR C.P T){s:aA}{a:Act}{w:World}{κ:Nat->bA}{F:Nat->Prop}(M:bk C s a w κ F):∀ (kF:List ResultVar) {avs:List aG},DZ T s kF=some avs->
  ∃ aC:List Value,(kF.mapM (AJ a.tmps)).run C.P w=.ok aC w/\aC.length=kF.length/\avs.length=kF.length/\
   ∀ i (h:i<avs.length) (ds:i<aC.length),bx C.P s.aa κ F w avs[i] aC[i]:=by
 intro kF;induction kF with
 | nil=>intro avs h;cases h;simp
 | cons r kF aH=>
  intro avs h;simp only[DZ]at h;split at h
  ·cases h
  ·rename_i l ai;obtain⟨aC,E,U,ag,a6⟩:=aH ai;have one:∃ av v,avs=av::l/\(AJ a.tmps r).run C.P w=.ok v w/\bx C.P s.aa κ F w av v:=by
    split at h
    ·rename_i t;cases h;exact⟨_,_,rfl,rfl,M.bS t⟩
    ·rename_i b ty;split at h
     ·rename_i v ae;cases h;obtain⟨u,aQ,aV⟩:=RY aU M ae (M.bS b);refine⟨v,u,rfl,?_,aV⟩;unfold Instr.loadAt at aQ;unfold AJ;simp only;generalize a.tmps.getD b Go.undef=z at aQ ⊢;cases z with
      | pointer p=>
       cases p with
       | none=>simp[Instr.sureAddr]at aQ
       | some p=>simpa [Instr.sureAddr,asAddr]using aQ
      | _=>simp[Instr.sureAddr]at aQ
     grind
   obtain⟨av,v,rfl,aQ,aV⟩:=one;refine⟨v::aC,?_,by grind,by grind,λi G dI=>?_⟩
   ·simp_all
   grind
theorem aiA(aU:dR C.P T){fn:Func}{aW:ab}(rP:Nz aW fn.results.size=true){e:di}{s:aA}{a:Act}{w:World}{O:aW.aj->Prop}(M:cr C s a w)(hm:A.cu (vR T fn.results.toList aW e s) O) :
  (∀ id,e≠.exit id)/\∃ κ F v y,bk C s a w κ F/\(results fn a.tmps).run C.P w=.ok v w/\O y/\∃ F',(∀ r,F' r->C.F0 r\/¬C.K0 r)/\(∀ r,F' r->r<w.heap.size)/\tN C.P aW F' w v y:=by
 obtain⟨κ,F,M⟩:=M;unfold vR at hm;split at hm
 ·exact (gG hm).elim
 ·rename_i eB;refine⟨λid he=>eB id he,?_⟩;split at hm
  ·rename_i avs NB;split at hm
   ·rename_i y l aR;obtain⟨aC,E,U,ag,a6⟩:=UO aU M _ NB;obtain⟨F',f1,a_,f2⟩:=bk.lk (qy _ aR) M;have dW:=vx (F':=F') M.bB f1 aW aR f2 (by omega) a6;have c6:(results fn a.tmps).run C.P w=.ok (if h:aC.toArray.size=1 then aC.toArray[0] else .tuple aC.toArray) w:=by
     rw[UN,Sem.run_bind];have:(fn.results.mapM (AJ a.tmps)).run C.P w=.ok aC.toArray w:=by
      rw[Array.mapM_eq_mapM_toList,map_eq_pure_bind,Sem.run_bind,E];rfl
     simp_all
    refine⟨κ,F,_,y,M,c6,A.d_.1 hm,F',a_.hh,a_.da,aC,?_,dW⟩;have cd:aC.length=fn.results.size:=by omega
    rw[<-cd]at rP;clear c6 dW E a6 U cd aR;have one:aC.length=1->aC=[if h:aC.toArray.size=1 then aC.toArray[0] else .tuple aC.toArray]:=by
     intro h;match aC,h with
     | [v],_=>rfl
    cases aW<;>simp only[Nz,beq_iff_eq,bne_iff_ne,ne_eq]at rP<;>simp only[zp];case az=>rw[dif_neg (by simpa using rP)]
    case cS=>
     have:aC=[]:=List.length_eq_zero_iff.1 rP;subst this;exact⟨rfl,rfl⟩
    all_goals exact one rP
   ·exact (gG hm).elim
  ·exact (gG hm).elim
theorem UP{l:List (Nat×aG)}{i:Nat}:fq l i=.undef\/(i,fq l i)∈l:=by
 induction l with
 | nil=>exact .inl rfl
 | cons p l aH=>
  simp only[fq];grind
theorem uD{P : Program}{k : FuncId}{fn : Func}{c : Code}(ar : P.funcs[k]? = some fn)(W : fn.body = some c)(au : (fn.name == "runtime.NumGoroutine") = false)(args : Array Value)(w : World) :
  (callFunc k args).run P w=.ok (.enter k args) w:=by
 have au : ¬ fn.name = "runtime.NumGoroutine" := by grind
 simp[callFunc,ar,W,au]
def pQ(w:World):List Nat->World
 | []=>w
 | B::ms=>pQ (w.putObj B (.deferred none)) ms
theorem UQ:∀ (ms:List Nat) (w:World),(pQ w ms).heap.size=w.heap.size
 | [],_=>rfl
 | _::ms,_=>(UQ ms _).trans World.putObj_size
theorem NC:∀ (ms:List Nat) (w:World) {r:Nat},r ∉ ms->(pQ w ms).heap[r]?=w.heap[r]?
 | [],_,_,_=>rfl
 | B::ms,w,r,h=>by
  simp only[List.mem_cons,not_or]at h;exact (NC ms _ h.2).trans (World.putObj_heap_other h.1)
theorem UR:∀ (ms:List Nat) (w:World),dc w (pQ w ms)
 | [],w=>dc.refl w
 | B::ms,w=>by
  have h:dc w (w.putObj B (.deferred none)):=⟨rfl,rfl,rfl⟩
  exact h.trans (UR ms _)
theorem ND{P:Program}{fn:Func}{tmps:Array Value}{R:Ending->World->Prop}:∀ (ms:List Nat) (w:World),ms.Nodup->(∀ B∈ms,w.heap[B]?=some (.deferred (some [])))->
  (∃ v,(results fn tmps).run P (pQ w ms)=.ok v (pQ w ms)/\R (.returned v) (pQ w ms))->LeavesInM Fence.wide 0 P fn tmps R (ms.map oW) .returning w
 | [],w,_,_,h=>h
 | B::ms,w,au,aS,h=>by
  simp only[List.nodup_cons]at au;refine⟨by simp,.inl ⟨B,_,rfl,run_takeDeferred (aS B (by simp)),?_⟩⟩;exact ND ms _ au.2 (λaiB ds=>(World.putObj_heap_other λe=>au.1 (by grind)).trans (aS aiB (List.mem_cons_of_mem _ ds))) h
theorem cr.US{u:n9}{s:aA}{a:Act}{w:World}(hu:C.jS u)(aiC:∀ r,C.F0 r->r<C.w0.heap.size)(vJ:∀ r,C.K0 r->r<C.w0.heap.size)(h:cr (C.hl u) s a w) :
  cr { C with dfr:=u.ms.map oW++C.dfr } s a (pQ w u.ms)/\a.defers=u.ms.map oW++C.dfr/\∀ B∈u.ms,w.heap[B]?=some (.deferred (some [])):=by
 obtain⟨κ,F,h⟩:=h;have ayG:∀ B∈u.ms,¬F B:=λB aS ar=>by
  obtain⟨E,_⟩:=hu.sR B aS;rcases h.hh B ar with U | U
  ·have:=aiC B U;have:=(hu.ew B aS).2;omega
  ·exact U E
 have cd:=UQ u.ms w;have hc:=UR u.ms w;refine⟨⟨κ,F,h.HB (w0:=C.w0) (w':=pQ w u.ms) (K0:=C.K0) (r:=C.r) (λr M=>hu.hn r M) (λr M=>NC _ _ λhm=>?_) (Nat.le_of_eq cd.symm) hc vJ (λr M=>?_) ?_ ?_⟩,h.dfr,λB aS=>?_⟩
 ·rcases M with M | M
  ·grind
  ·exact M (hu.sR r hm).1
 ·exact (NC _ _ λhm=>(hu.ew r hm).1 M).trans ((h.eG r (hu.hn r M)).trans (hu.eG r M))
 ·rw[cd];exact Nat.le_trans hu.size h.size
 ·exact (hu.ep.trans h.ep).trans hc
 ·exact (h.eG B (hu.sR B aS).1).trans (hu.sR B aS).2
theorem UT{P:Program}{aP:dC}(ek:P.follows .mixedOrders=true){k:FuncId}{fn:Func}{c:Code}{ann:cA}{ts aW:ab}{sh:ts.aj->A aW.aj}(aU:dR P T)(ie:rb P aP)(cz:jo P be)(cW:l0 P aP Ψ)(ar:P.funcs[k]?=some fn)(W:fn.body=some c)
    (cK:D3 fn c ts aW=true) {s0:ts.aj->aA} {pre:ts.aj->Prop} (nh:∀ x C a w,cr C (pP ts x) a w->pre x->cr C (s0 x) a w)
    (nP:∀ x,A.le (A.ad (pre x) (eH aP T be Ψ ann c (s0 x) (vR T fn.results.toList aW))) (sh x)):h6 P k ts aW sh:=by
  simp only[D3,Bool.and_eq_true,Bool.not_eq_true',decide_eq_true_eq]at cK;obtain⟨⟨⟨⟨D5,rP⟩,aiD⟩,NF⟩,uw⟩:=cK;refine⟨uD ar W NF,λF w args x bm gm dW rv=>?_⟩;obtain⟨⟨gO,E⟩,U⟩:=nP x rv;have hlen:args.length=sU ts/\∀ i,i<sU ts->∀ (H:Nat->bJ) (κ:Nat->bA),bx P H κ F w (kA ts x i) (args.getD i Go.undef):=by
    unfold sU;split
    · rename_i e
      subst e
      have:args=[]:=dW.1
      grind
    · rename_i e
      exact⟨(ua (H:=λ_=>⟨0,.fx⟩) (κ:=λ_=>⟨0,0,0,false⟩) ts dW e).1,λi G H κ=>(ua ts dW e).2 i G⟩
  let C:b8:={ P:=P,w0:=w,F0:=F,K0:=λr=>r<w.heap.size,nt:=fn.ntmps,r:=none,dfr:=[],ik:=λ_=>none,cc:=⟨0,.cS,λ_=>False,λ_ _ _ _ _=>False⟩,aN:=aP }
  let a0:Act:={ tmps:=args.toArray++Array.replicate (fn.ntmps - args.toArray.size) undef,defers:=[] }
  let aiE:Nat->bA:=λ_=>⟨0,0,0,false⟩
  have qG:∀ i,(pP ts x).ay i=.undef\/(i<sU ts/\(pP ts x).ay i=kA ts x i):=λi=>by
    rcases UP (l:=AH ts x (sU ts)) (i:=i) with e | e
    · exact .inl e
    · refine .inr ?_
      generalize bj:fq (AH ts x (sU ts)) i=z at e
      simp only[AH,List.mem_map,List.mem_range,Prod.mk.injEq]at e
      obtain⟨j,aE,rfl,rfl⟩:=e
      exact⟨aE,bj⟩
  have M:cr C (pP ts x) a0 w:=by
    refine⟨aiE, F, { dD := ?_, dfr := rfl, bS := λi => ?_, bB := λb => trivial, own := λb W => (by cases W), inj := λb bd W _ _ => (by cases W), da := bm, hh := λr M => .inl M, hS := λr M => M, hv := λr M => M, eG := λr _ => rfl, size := Nat.le_refl _, ep := dc.refl w,gj:=uw,ku:=λb r h=>(by cases h),jG:=λb r h=>(by cases h),j9:=λb k h=>(by cases h),kv:=λb k h=>(by cases h),eK:=λl aJ L n st e=>?_,jH:=ie,iC:=gm }⟩
    · grind
    · rcases qG i with e | ⟨G,e⟩
      · rw[e];simp only[bx]
      · rw[e]
        have:a0.tmps.getD i Go.undef=args.getD i Go.undef:=by
          have dI:i<args.length:=by omega
          simp[a0,Array.getD_eq_getD_getElem?,List.getD_eq_getElem?_getD,Array.getElem?_append,dI]
        grind
    · rcases qG b4 with h | ⟨h,_⟩
      · grind
      · unfold b4 eP at *;omega
  refine callsIn_wide.1 (callsIn_of_wp_marks (F:=Fence.wide) (n:=0) ar W trivial ?_);have hw:=UM ann C ek aU cz cW (.inl rfl) (k:=vR T fn.results.toList aW) (O:=(eH aP T be Ψ ann c (s0 x) (vR T fn.results.toList aW)).bQ) (Q:=bodyPostM Fence.wide 0 P fn λe w'=>∃ v y,e=.returned v/\(sh x).bQ y/\tN P aW (vg F w w') w' v y/\Below w.heap.size w w') c (s0 x) a0 w D5 (nh x C a0 w M gO) ⟨E,λ_ h=>h⟩;refine hw λu hu e s' a' w' a_ hm=>?_;obtain⟨cL,aq,aS⟩:=cr.US hu bm (λ_ h=>h) a_;obtain⟨eB,κ,Aw,v,y,eU,c6,aR,F',f1,f2,gn⟩:=aiA (C:={ C with dfr:=u.ms.map oW++C.dfr }) aU rP cL hm;have um:LeavesInM Fence.wide 0 P fn a'.tmps (λe w'=>∃ v y,e=.returned v/\(sh x).bQ y/\tN P aW (vg F w w') w' v y/\Below w.heap.size w w') a'.defers .returning w':=by
    rw[aq];simp only[C,List.append_nil];refine ND u.ms w' hu.mE aS ⟨v,c6,v,y,rfl,U y aR,?_,eU.ep.os,eU.ep.tape,eU.ep.output,eU.size,eU.eG⟩;obtain⟨aC,aQ,aV,bK⟩:=gn;refine⟨aC,aQ,aV,fb aW (λr M=>?_) (c1.refl _ _) bK⟩;rcases f1 r M with h | h
    · exact .inl h
    · exact .inr ⟨Nat.le_of_not_lt h,f2 r M⟩
  cases e with
  | normal=>exact um
  | exit id=>grind
  | ret=>exact um
theorem aiF{P:Program}{aP:dC}(ek:P.follows .mixedOrders=true){k:FuncId}{fn:Func}{c:Code}{ann:cA}{ts aW:ab}{sh:ts.aj->A aW.aj}(aU:dR P T)(ie:rb P aP)(cz:jo P be)(cW:l0 P aP Ψ)(ar:P.funcs[k]?=some fn)(W:fn.body=some c)
  (cK:D3 fn c ts aW=true) (nP:∀ x,A.le (D0 aP T be Ψ fn c ann ts aW x) (sh x)):h6 P k ts aW sh:=
 UT ek aU ie cz cW ar W cK (ann:=ann) (s0:=pP ts) (pre:=λ_=>True) (λ_ _ _ _ h _=>h) λx aD=>⟨⟨trivial,(nP x aD).1⟩,(nP x aD).2⟩
theorem aiG{C:b8}{s:aA}{a:Act}{w:World}{n:Nat}(h:cr C s a w)(hc:D2 n s):cr C (HP n s) a w:=by
 obtain⟨κ,F,M⟩:=h;refine⟨κ,F,{ M with bS:=λi=>?_,dD:=M.dD,dfr:=M.dfr,bB:=M.bB,eK:=λl aJ L m st e=>?_ }⟩
 ·show bx C.P s.aa κ F w (if i<n\/eP<i then s.ay i else HO (s.ay i)) _;split
  ·exact M.bS i
  ·rename_i G;have ae:=M.bS i;have an:=hc i G;unfold HO;unfold D1 at an;split
   ·rename_i e p he;rw[he]at ae an;have an:p.isSome=true:=an;obtain⟨_,ae⟩:=(dT rfl).1 ae;simp only[bH]at ae;rcases ae with⟨_,rfl⟩ | ⟨q,y,bh,bp,rfl,aQ,aV⟩
    ·cases an
    ·exact⟨q,bh,(List.cons.inj bp).1,aQ,aV⟩
   omega
 ·have e:(if b4<n\/eP<b4 then s.ay b4 else HO (s.ay b4))=.aW l aJ L m st:=e;rw[if_pos (.inr (by decide))]at e;exact M.eK l aJ L m st e
theorem aiH{P:Program}{aP:dC}(ek:P.follows .mixedOrders=true){k:FuncId}{fn:Func}{c:Code}{ann:cA}{n:Nat}{ts aW:ab}{sh:ts.aj->A aW.aj}(aU:dR P T)(ie:rb P aP)(cz:jo P be)(cW:l0 P aP Ψ)(ar:P.funcs[k]?=some fn)(W:fn.body=some c)
  (cK:D3 fn c ts aW=true) (nP:∀ x,A.le (aiz aP T be Ψ fn c ann n ts aW x) (sh x)):h6 P k ts aW sh:=
 UT ek aU ie cz cW ar W cK (ann:=ann) (s0:=λx=>HP n (pP ts x)) (pre:=λx=>D2 n (pP ts x)) (λ_ _ _ _ h an=>aiG h an) nP
theorem NG{H:Nat->bJ}{κ:Nat->bA}{F:Nat->Prop}{w:World}{P:Program}:∀ (g:z9') {avs l:List aG} {us:List Value},AI g avs=some l->avs.length=us.length->(∀ i (h:i<avs.length) (ds:i<us.length),bx P H κ F w avs[i] us[i])->
  ∃ aC:List Value,Dp g us aC/\l.length=aC.length/\∀ i,i<aC.length->bx P H κ F w (l.getD i .undef) (aC.getD i undef)
 | [],[],l,us,h,ai,_=>by
  cases h;have:us=[]:=List.eq_nil_of_length_eq_zero ai.symm;subst this;exact⟨[],rfl,rfl,λi G=>by cases G⟩
 | [],_::_,_,_,h,_,_=>by cases h
 | none::_,[],_,_,h,_,_=>by cases h
 | some _::_,[],_,_,h,_,_=>by cases h
 | none::g,av::avs,l,[],_,ai,_=>by cases ai
 | some n::g,av::avs,l,[],_,ai,_=>by cases ai
 | none::g,av::avs,l,u::us,h,ai,ae=>by
  simp only[AI]at h;split at h
  ·rename_i dE HI;cases h;obtain⟨aC,E,U,ag⟩:=NG g HI (by grind) λi h ds=>ae (i+1) (Nat.succ_lt_succ h) (Nat.succ_lt_succ ds);refine⟨u::aC,⟨aC,rfl,E⟩,by grind,λi G=>?_⟩;cases i with
   | zero=>exact ae 0 (Nat.zero_lt_succ _) (Nat.zero_lt_succ _)
   | succ i=>grind
  grind
 | some n::g,av::avs,l,u::us,h,ai,ae=>by
  simp only[AI]at h;split at h
  ·rename_i m f dE HI;split at h
   ·rename_i SB;cases h;subst SB;obtain⟨aC,E,U,ag⟩:=NG g HI (by grind) λi h ds=>ae (i+1) (Nat.succ_lt_succ h) (Nat.succ_lt_succ ds);obtain⟨cs,aQ,aV,bK⟩:bx P H κ F w (.agg m f) u:=ae 0 (Nat.zero_lt_succ _) (Nat.zero_lt_succ _);refine⟨cs++aC,⟨cs.toArray,aC,aQ,by omega,λc hc=>?_,by simp,E⟩,by grind,λi G=>?_⟩
    ·obtain⟨j,aE,rfl⟩:=List.mem_iff_getElem.1 (by omega:c∈cs);grind
    grind
   grind
  grind
def aiI(P:Program)(aP:dC)(T:Nat->ab)(fn:Func)(c:Code)(ic:cJ):Prop:=
 ∀ (C:b8) (D:ic.cm.aj) (Q:Exit->Act->World->Prop) (a:Act) (w:World),C.P=P->C.aN=aP->C.nt=fn.ntmps->C.r=none->C.dfr=[]->ls C.nt c=true->cr C (ic.cm.st D) a w->(ic.sh D).b1->
  (∀ u,C.jS u->∀ e s' a' w',cr (C.hl u) s' a' w'->A.cu (HQ T fn.results.toList ic.kH ic.bQ e s') (ic.sh D).bQ->Q e.pK a' w')->c.wpIn (dQ C.r) 0 C.P Q a w
theorem aiJ{P:Program}{aP:dC}{k:FuncId}{fn:Func}{c:Code}{ic:cJ}(aU:dR P T)(ar:P.funcs[k]?=some fn)(W:fn.body=some c)
  (cK:D4 fn c ic.kk ic.kH=true) (aiK:aiI P aP T fn c ic):cQ P aP k ic:=by
 simp only[D4,Bool.and_eq_true,Bool.not_eq_true',decide_eq_true_eq]at cK;obtain⟨⟨⟨⟨D5,rP⟩,aiD⟩,NF⟩,uw⟩:=cK;refine⟨uD ar W NF,λC a w κ F D js AK iP rJ sB ie M rv=>?_⟩;subst js;subst AK;subst ie;have ayH:a.tmps.size=ic.kk:=M.dD.trans sB;have eT:∀ i,(a.tmps++Array.replicate (fn.ntmps - a.tmps.size) undef).getD i undef=a.tmps.getD i undef:=λi=>by
  simp only[Array.getD_eq_getD_getElem?,Array.getElem?_append];grind
 have a_:bk { C with nt:=fn.ntmps,dfr:=[],r:=none } (ic.cm.st D) { tmps:=a.tmps++Array.replicate (fn.ntmps - a.tmps.size) undef,defers:=[] } C.w0 κ F:=
  { M with dD:=(by grind),dfr:=rfl,gj:=uw,bS:=λi=>(by rw[eT];exact M.bS i),bB:=M.bB }
 refine callsIn_wide.1 (callsIn_of_wp_marks (F:=Fence.wide) (n:=0) ar W trivial ?_);refine aiK { C with nt:=fn.ntmps,dfr:=[],r:=none } D _ _ C.w0 rfl rfl rfl rfl rfl D5 ⟨κ,F,a_⟩ rv λu hu e s' a' w' a_ hm=>?_;obtain⟨⟨ng,ej,cL⟩,aq,aS⟩:=cr.US hu (λr h=>M.da r (M.hS r h)) M.hv a_;have key:(∀ id,e≠.exit id)/\LeavesInM Fence.wide 0 C.P fn a'.tmps (λe w'=>∃ v bl aC κ' F',e=.returned v/\(ic.sh D).bQ bl/\G8 ic.kH v aC/\bk { C with nt:=aC.length } (ic.bQ.st bl) { tmps:=aC.toArray,defers:=[] } w' κ' F') a'.defers .returning w':=by
  unfold HQ at hm;split at hm
  ·exact (gG hm).elim
  ·rename_i eB;refine⟨λid he=>eB id he,?_⟩;split at hm
   ·rename_i avs NB;split at hm
    ·rename_i l ai;split at hm
     ·rename_i cj;have cj:l.length<=eP:=of_decide_eq_true cj;obtain⟨us,aQ,aV,bK,fz⟩:=UO (C:={ C with nt:=fn.ntmps,dfr:=u.ms.map oW++[],r:=none }) aU cL _ NB;obtain⟨aC,g1,eh,g3⟩:=NG ic.kH ai (by omega) fz;obtain⟨bl,f',bM⟩:=uz hm;have a8:=cL.args (avs:=l) (us:=aC) (by omega) eh g3;obtain⟨HF,Uy,_,mF⟩:=dF.Ap f' a8;rw[aq];simp only[List.append_nil];have c6:(results fn a'.tmps).run C.P (pQ w' u.ms)=.ok (if us.length=1 then us.getD 0 undef else .tuple us.toArray) (pQ w' u.ms):=by
       rw[UN,Sem.run_bind];have:(fn.results.mapM (AJ a'.tmps)).run C.P (pQ w' u.ms)=.ok us.toArray (pQ w' u.ms):=by
        rw[Array.mapM_eq_mapM_toList,map_eq_pure_bind,Sem.run_bind,aQ];rfl
       rw[this];simp only[Result.andThen_ok,Sem.run_pure,List.size_toArray];grind
      refine ND u.ms w' hu.mE aS ⟨_,c6,_,bl,aC,HF,Uy,rfl,A.d_.1 bM,⟨us,?_,rfl,g1⟩,?_⟩
      ·rw[aV];simpa using rP
      ·have e:({ C with nt:=aC.length }:b8)={ C with nt:=aC.length,dfr:=[],r:=none }:=by
        cases C;simp only at iP rJ;subst iP;subst rJ;rfl
       rw[e];exact mF
     ·exact (gG hm).elim
    ·exact (gG hm).elim
   ·exact (gG hm).elim
 cases e with
 | normal=>exact key.2
 | exit id=>grind
 | ret=>exact key.2
theorem UU{P:Program}{aP:dC}(ek:P.follows .mixedOrders=true){k:FuncId}{fn:Func}{c:Code}{ann:cA}{ic:cJ}(aU:dR P T)(cz:jo P be)(cW:l0 P aP Ψ)(ar:P.funcs[k]?=some fn)(W:fn.body=some c)
  (cK:D4 fn c ic.kk ic.kH=true) (nP:∀ D,A.le (NA aP T be Ψ fn c ann ic.cm ic.bQ ic.kH D) (ic.sh D)):cQ P aP k ic:=
 aiJ aU ar W cK λC D Q a w js ie _ iP _ D5 M rv al=>by
  subst js;subst ie;obtain⟨E,U⟩:=nP D rv;exact UM ann C ek aU cz cW (.inl iP) c (ic.cm.st D) (HQ T fn.results.toList ic.kH ic.bQ) (NA C.aN T be Ψ fn c ann ic.cm ic.bQ ic.kH D).bQ Q a w D5 M ⟨E,λ_ h=>h⟩ λu hu e s' a' w' a_ hm=>al u hu e s' a' w' a_ ⟨hm.1,λy aR=>U y (hm.2 y aR)⟩
end
def rQ:List (Nat×ab)->Nat->ab
 | [],_=>.cS
 | p::l,i=>if i=p.1 then p.2 else rQ l i
def UW(P:Program)(l:List (Nat×ab)):Bool:=l.all λp=>cD P p.2 (.inl p.1)
theorem aiL{P:Program}{l:List (Nat×ab)}(h:UW P l=true):dR P (rQ l):=by
 intro id;induction l with
 | nil=>exact .inl rfl
 | cons p l aH=>
  simp only[UW,List.all_cons,Bool.and_eq_true]at h;simp only[rQ];split
  ·rename_i e;subst e;exact .inr h.1
  ·exact aH h.2
end Go.Fer
namespace Go.Fer
open Go.RowKit
theorem UX{P:Program}{aP:dC}{k:FuncId}{c:cJ}(h:cQ P aP k c)(ie:rb P aP){ic:Ag}(mk:ic.ts.aj->Nat->(List ic.aJ.aj->Prop)->c.cm.aj)(au:c.kk=j' ic.ts+1)(hZ:c.kk<=eP)(uv:ic.ts≠.cS)
    (fj:∀ x l L i,(c.cm.st (mk x l L)).ay i=.undef\/(i<j' ic.ts/\(c.cm.st (mk x l L)).ay i=kA ic.ts x i)\/(i=j' ic.ts/\(c.cm.st (mk x l L)).ay i=.hg l)\/(i=b4/\(c.cm.st (mk x l L)).ay i=.aW l ic.aJ L [] false))
    (iG:c.cm.bB=[]) (qL:∀ bl,∃ n st l L,(c.bQ.st bl).ay b4=.aW l ic.aJ L n st)
    (ss:∀ x l,ic.pre x->(c.sh (mk x l (λT=>T=ic.seq x))).b1/\∀ bl,(c.sh (mk x l (λT=>T=ic.seq x))).bQ bl->∀ dE e3 n,(c.bQ.st bl).ay b4=.aW dE ic.aJ e3 n false->n=ic.seq x):Dx P k ic:=by
  refine⟨h.enter,λl I F Y w args x dW gO cK bm gm iH ez=>?_⟩;obtain⟨iD,HD⟩:=ua (H:=λ_=>⟨0,.fx⟩) (κ:=λ_=>⟨0,0,0,false⟩) ic.ts dW uv;have uE:∀ b,(c.cm.st (mk x l (λT=>T=ic.seq x))).aa b=⟨0,.fx⟩:=λb=>by
    show eO (hk c8 c.cm.bB (eC c8 c.cm.bS (mk x l (λT=>T=ic.seq x))).2) b=_;generalize (eC c8 c.cm.bS (mk x l (λT=>T=ic.seq x))).2=z;revert z;rw[iG];intro z;rfl
  have cd:(args++[Value.func (.yield l) #[] #[]]).length=c.kk:=by grind
  have M:bk { P:=P,w0:=w,F0:=F,K0:=λr=>r<w.heap.size/\¬Y r,nt:=c.kk,r:=none,dfr:=[],ik:=λ_=>none,cc:=⟨l,ic.aJ,λT=>T=ic.seq x,I⟩,aN:=aP } (c.cm.st (mk x l (λT=>T=ic.seq x)))
      { tmps:=(args++[Value.func (.yield l) #[] #[]]).toArray,defers:=[] } w (λ_=>⟨0,0,0,false⟩) F:=
    { dD := by omega
      dfr:=rfl
      bS:=λi=>by
        rcases fj x l (λT=>T=ic.seq x) i with e | ⟨G,e⟩ | ⟨G,e⟩ | ⟨G,e⟩
        · rw[e];trivial
        · rw[e]
          have:=(ua (H:=(c.cm.st (mk x l (λT=>T=ic.seq x))).aa) (κ:=λ_=>⟨0,0,0,false⟩) ic.ts dW uv).2 i G
          have aO:(args++[Value.func (.yield l) #[] #[]]).toArray.getD i undef=args.getD i undef:=by
            rw[Array.getD_eq_getD_getElem?,List.getD_eq_getElem?_getD,List.getElem?_toArray,List.getElem?_append_left (by omega)]
          grind
        · rw[e]
          show (args++[Value.func (.yield l) #[] #[]]).toArray.getD i undef=_
          simp_all
        · rw[e];trivial
      bB:=λb=>by unfold cC;rw[uE b];trivial
      own:=λb W=>by rw[uE b]at W;cases W
      inj:=λb bd W _ _=>by rw[uE b]at W;cases W
      da:=bm
      hh:=λr M=>.inl M
      hS:=λr M=>M
      hv:=λr M=>M.1
      eG:=λ_ _=>rfl
      size:=Nat.le_refl _
      ep:=dc.refl _
      gj:=hZ
      ku:=λb r h=>by cases h
      jG:=λb r h=>by cases h
      j9:=λb k h=>by cases h
      kv:=λb k h=>by cases h
      eK:=λdE kG e3 n st e=>by
        rcases fj x l (λT=>T=ic.seq x) b4 with aY | ⟨G,_⟩ | ⟨G,_⟩ | ⟨_,aY⟩
        · grind
        · unfold b4 eP at *;omega
        · grind
        · rw[aY]at e
          cases e
          exact⟨⟨I,rfl⟩,cK,Y,λr M=>⟨(iH r M).1,(iH r M).2,λk=>k.2 M⟩,λb W=>(by rw[uE b]at W;cases W),lL.zr.2 ez⟩
      jH:=ie,iC:=gm }
  obtain⟨aD,um⟩:=ss x l gO;refine (h.iV _ _ w _ F _ rfl rfl rfl rfl rfl rfl M aD).mono λe w' ⟨v,bl,aC,κ',F',he,f',_,a_⟩=>?_;obtain⟨n,st,dE,e3,qG⟩:=qL bl;obtain⟨⟨aiM,NH⟩,_,gB,ag,a6,NI⟩:=a_.eK dE ic.aJ e3 n st qG;refine⟨v,n,st,F',gB,he,λgu=>?_,lL.zr.1 NI,a_.hS,λr cL=>?_,a_.da,λr E U=>a_.eG r ⟨E,U⟩,λr cL=>⟨?_,(ag r cL).1,(ag r cL).2.1⟩,a_.size,a_.ep⟩
  · grind
  · rcases a_.hh r cL with h | h
    · exact .inl h
    · by_cases aR:Y r
      · exact .inr (.inl aR)
      · exact .inr (.inr (Nat.le_of_not_lt λcj=>h ⟨cj,aR⟩))
  grind
theorem NJ{P:Program}{aP:dC}{k:FuncId}{c:cJ}(h:cQ P aP k c)(ie:rb P aP){cs:List ab}{aJ:ab}{S:(gh (cs.map .bG)).aj->List aJ.aj->Prop}(mk:(gh (cs.map .bG)).aj->Nat->(List aJ.aj->Prop)->c.cm.aj)
    (au:c.kk=j' (gh (cs.map .bG))+1) (hZ:c.kk<=eP) (uv:gh (cs.map .bG)≠.cS)
    (fj:∀ x l L i,(∃ T,S x T)->(c.cm.st (mk x l L)).ay i=.undef\/(i<j' (gh (cs.map .bG))+1/\0<i/\∃ e y,(c.cm.st (mk x l L)).ay i=.dU e y/\kA (gh (cs.map .bG)) x (i - 1)=.val (.bG e) (some y))\/(i=0/\(c.cm.st (mk x l L)).ay i=.hg l)\/(i=b4/\(c.cm.st (mk x l L)).ay i=.aW l aJ L [] false))
    (iG:c.cm.bB=[]) (qL:∀ bl,∃ n st l L,(c.bQ.st bl).ay b4=.aW l aJ L n st)
    (ss:∀ x l,(∃ L,S x L)->(c.sh (mk x l (S x))).b1/\∀ bl,(c.sh (mk x l (S x))).bQ bl->∀ dE e3 p,(c.bQ.st bl).ay b4=.aW dE aJ e3 p false->S x p):xa P k ⟨cs,aJ,S⟩:=by
  refine⟨h.enter,λF w args x bm gm dW eB l UY Y iH aiN aiO=>?_⟩;have cK:=UH aiN;obtain⟨iD,HD⟩:=ua (H:=λ_=>⟨0,.fx⟩) (κ:=λ_=>⟨0,0,0,false⟩) (gh (cs.map .bG)) dW uv;have uE:∀ b,(c.cm.st (mk x l (S x))).aa b=⟨0,.fx⟩:=λb=>by
    show eO (hk c8 c.cm.bB (eC c8 c.cm.bS (mk x l (S x))).2) b=_;generalize (eC c8 c.cm.bS (mk x l (S x))).2=z;revert z;rw[iG];intro z;rfl
  have cd:(Value.func (.yield l) #[] #[]::args).length=c.kk:=by grind
  have M:bk { P:=P,w0:=w,F0:=F,K0:=λr=>r<w.heap.size/\¬Y r,nt:=c.kk,r:=none,dfr:=[],ik:=λ_=>none,cc:=⟨l,aJ,S x,UY⟩,aN:=aP } (c.cm.st (mk x l (S x)))
      { tmps:=(Value.func (.yield l) #[] #[]::args).toArray,defers:=[] } w (λ_=>⟨0,0,0,false⟩) F:=
    { dD := by omega
      dfr:=rfl
      bS:=λi=>by
        rcases fj x l (S x) i eB with e | ⟨G,oN,lI,y,e,aiP⟩ | ⟨G,e⟩ | ⟨G,e⟩
        · rw[e];trivial
        · rw[e]
          have:=(ua (H:=(c.cm.st (mk x l (S x))).aa) (κ:=λ_=>⟨0,0,0,false⟩) (gh (cs.map .bG)) dW uv).2 (i - 1) (by omega)
          have aO:(Value.func (.yield l) #[] #[]::args).toArray.getD i undef=args.getD (i - 1) undef:=by
            obtain⟨j,rfl⟩:∃ j,i=j+1:=⟨i - 1,by omega⟩
            simp
          rw[aO]
          rw[aiP]at this
          obtain⟨_,ae⟩:=(dT rfl).1 this
          simp only[bH]at ae
          rcases ae with⟨_,au⟩ | ⟨q,mZ,bh,bp,CQ,aQ,aV⟩
          · cases au
          · cases CQ
            exact⟨q,bh,(List.cons.inj bp).1,aQ,aV⟩
        · rw[e]
          subst G
          rfl
        · rw[e];trivial
      bB:=λb=>by unfold cC;rw[uE b];trivial
      own:=λb W=>by rw[uE b]at W;cases W
      inj:=λb bd W _ _=>by rw[uE b]at W;cases W
      da:=bm
      hh:=λr M=>.inl M
      hS:=λr M=>M
      hv:=λr M=>M.1
      eG:=λ_ _=>rfl
      size:=Nat.le_refl _
      ep:=dc.refl _
      gj:=hZ
      ku:=λb r h=>by cases h
      jG:=λb r h=>by cases h
      j9:=λb k h=>by cases h
      kv:=λb k h=>by cases h
      eK:=λdE kG e3 n st e=>by
        rcases fj x l (S x) b4 eB with aY | ⟨G,_⟩ | ⟨G,_⟩ | ⟨_,aY⟩
        · grind
        · grind
        · grind
        · rw[aY]at e
          cases e
          exact⟨⟨UY,rfl⟩,cK,Y,λr M=>⟨(iH r M).1,(iH r M).2,λk=>k.2 M⟩,λb W=>(by rw[uE b]at W;cases W),lL.zr.2 aiO⟩
      jH:=ie,iC:=gm }
  obtain⟨aD,um⟩:=ss x l eB;have e8:#[Value.func (.yield l) #[] #[]]++args.toArray=(Value.func (.yield l) #[] #[]::args).toArray:=by simp
  rw[e8];refine (h.iV _ _ w _ F _ rfl rfl rfl rfl rfl rfl M aD).mono λe w' ⟨v,bl,aC,κ',F',he,f',_,a_⟩=>?_;obtain⟨n,st,dE,e3,qG⟩:=qL bl;obtain⟨⟨aiM,NH⟩,_,gB,ag,a6,NI⟩:=a_.eK dE aJ e3 n st qG;refine⟨v,n,st,F',gB,he,λgu=>?_,lL.zr.1 NI,a_.hS,λr cL=>?_,a_.da,λr E U=>a_.eG r ⟨E,U⟩,λr cL=>⟨?_,(ag r cL).1,(ag r cL).2.1⟩,a_.size,⟨a_.ep.os,a_.ep.tape,a_.ep.output⟩⟩
  · grind
  · rcases a_.hh r cL with h | h
    · exact .inl h
    · by_cases aR:Y r
      · exact .inr (.inl aR)
      · exact .inr (.inr (Nat.le_of_not_lt λcj=>h ⟨cj,aR⟩))
  grind
end Go.Fer
namespace Go.Fer
open Go.RowKit Go.ChangeShapes Go.WideShapes
def ab.hL:ab->Bool
 | .bool | .int _ | .str | .cS=>true
 | .st t=>t.hL
 | .az a b=>a.hL&&b.hL
 | .slice e=>e.hL
 | _=>false
def ab.hC:(t:ab)->t.aj->Prop
 | .int k,x=>fQ k x
 | .str,x=>x.length<2 ^ 63
 | .st t,x=>t.hC x
 | .az a b,x=>a.hC x.1/\b.hC x.2
 | .slice e,xs=>xs.length<2 ^ 63/\∀ y∈xs,e.hC y
 | .array n e,xs=>xs.length=n/\∀ y∈xs,e.hC y
 | _,_=>True
theorem AL{P:Program}{w:World}{F:Nat->Prop}:∀ (t:ab) {cs:List Value} {x:t.aj},bH P t F w cs x->t.hC x
 | .bool,_,_,_=>trivial
 | .int _,_,_,h=>h.2
 | .str,_,_,h=>h.2
 | .cS,_,_,_=>trivial
 | .st t,_,_,h=>by simp only[bH]at h;exact AL t h
 | .az a b,_,_,h=>by
  simp only[bH]at h;obtain⟨c,d,_,E,U⟩:=h;exact⟨AL a E,AL b U⟩
 | .slice e,_,xs,h=>by
  simp only[bH]at h;obtain⟨a,cap,_,E,U,ag,a6⟩:=h;refine⟨by omega,λy aR=>?_⟩;obtain⟨i,G,rfl⟩:=List.mem_iff_getElem.1 aR;cases a with
  | none=>have:=ag rfl;omega
  | some p=>
   obtain⟨bh,_,k⟩:=(a6 p rfl (by omega)).2.2 i G;exact AL e k
 | .array n e,_,xs,h=>by
  simp only[bH]at h;obtain⟨fm,_,E,U,ag⟩:=h;refine⟨U,λy aR=>?_⟩;obtain⟨i,G,rfl⟩:=List.mem_iff_getElem.1 aR;exact AL e (ag i G (by omega))
 | .bG _,_,_,_=>trivial
 | .map _ _,_,_,_=>trivial
 | .fn _ _,_,_,_=>trivial
 | .cq _,_,_,_=>trivial
 | .en,_,_,_=>trivial
section
variable {H:Type} {enc:TypeId×Value->H} {P:Program} {w:World}
theorem b7.cells{t:ab}{id:TypeId}(h:b7 P t id):P.cellsOf id=t.size:=by
 obtain⟨i,z,E,U,_⟩:=kz h.ky;simp[Program.cellsOf,E,U]
theorem UZ{a:Addr}{n:Nat}{bh:List Value}(h:w.cells? 0 a n=some bh)(au:0<n):a.spot=none/\a.block<w.heap.size/\bh.length=n/\∀ j (aE:j<bh.length),w.cell? ⟨a.block,a.off+j,none⟩=some bh[j]:=by
 have W:=World.cells?_block h au;have oa:a.spot=none:=by
  unfold World.cells? at h;split at h
  ·obtain⟨m,rfl⟩:∃ m,n=m+1:=⟨n - 1,by omega⟩
   rw[List.range_succ_eq_map]at h;simp only[List.mapM_cons,Option.bind_eq_bind,Option.bind_eq_some_iff]at h;obtain⟨v,ae,_⟩:=h;cases aD:a.spot with
   | none=>rfl
   | some x=>simp[World.cell?,Addr.add,aD]at ae;split at ae<;>cases ae
  ·cases h
 unfold World.cells? at h;split at h
 ·have hlen:bh.length=n:=by
   have:∀ (l:List Nat) (r:List Value),l.mapM (λi=>w.cell? (a.add i))=some r->r.length=l.length:=by
    intro l;induction l with
    | nil=>intro r M;simp at M;subst M;rfl
    | cons x l aH=>
     intro r M;simp only[List.mapM_cons,Option.bind_eq_bind,Option.bind_eq_some_iff,Option.pure_def,Option.some.injEq]at M;obtain⟨v,_,ql,a_,rfl⟩:=M;simp[aH ql a_]
   simpa using this _ _ h
  refine⟨oa,W,hlen,λj aE=>?_⟩;have:∀ (l:List Nat) (r:List Value),l.mapM (λi=>w.cell? (a.add i))=some r->∀ j (E:j<l.length) (U:j<r.length),w.cell? (a.add l[j])=some r[j]:=by
   intro l;induction l with
   | nil=>intro r _ j E;simp at E
   | cons x l aH=>
    intro r M j E U;simp only[List.mapM_cons,Option.bind_eq_bind,Option.bind_eq_some_iff,Option.pure_def,Option.some.injEq]at M;obtain⟨v,ae,ql,a_,rfl⟩:=M;cases j with
    | zero=>exact ae
    | succ j=>exact aH ql a_ j (by simpa using E) (by simpa using U)
  have E:=this _ _ h j (by simp;omega) aE;rw[<-E];have zF:a.add ((List.range n)[j]'(by simp;omega))=⟨a.block,a.off+j,none⟩:=by
   cases a;simp only at oa;subst oa;simp[Addr.add]
  rw[zF]
 ·cases h
def qN(w:World):Nat->Prop:=λr=>r<w.heap.size
def ab.oZ(n:Nat):(t:ab)->t.aj->Prop
 | .st t,x=>t.oZ n x
 | .az a b,x=>a.oZ n x.1/\b.oZ n x.2
 | .slice e,xs=>xs.length<=n/\∀ y∈xs,e.oZ n y
 | _,_=>True
structure B'(b:DataW H->Nat):Prop where
 len:∀ e s,e.length<=b (.slice e s)
 Ca:∀ e s d,d∈e->b d<=b (.slice e s)
 Rp:∀ l d,d∈l->b d<=b (.agg l)
variable {b:DataW H->Nat} {N:Nat}
theorem aiQ(W:B' b)(t:ab):(t.hL=true->∀ {id:TypeId} {ch:Nat} {cs:List Value} {x:DataW H×List MemPlace},b7 P t id->DataW.trod enc P w 0 (λ_=>true) true ch id cs=some x->b x.1<=N->∃ y,bH P t (qN w) w cs y/\t.oZ N y)/\
  (t.hL=true->∀ {l:List Field} {off n:Nat} {cs:List Value},cD P t (.inr (l,off))=true->(∀ f∈l,∃ x,DataW.trod enc P w 0 (λ_=>true) true n f.type ((cs.drop f.offset).take (P.cellsOf f.type))=some x/\b x.1<=N)->∃ y,bH P t (qN w) w ((cs.drop off).take t.size) y/\t.oZ N y):=by
 induction t with
 | bool=>
  refine⟨λ_ {id ch cs x} aL h _=>?_,λ_ {l off n cs} h=>by simp[cD]at h⟩;have hu:P.underlying id=some .bool:=by
   unfold b7 at aL;simp only[cD,Bool.and_eq_true]at aL;obtain⟨_,aL⟩:=aL;split at aL
   ·assumption
   ·cases aL
  obtain⟨b,rfl,_⟩:=DataW.trod_bool hu h;exact⟨_,rfl,trivial⟩
 | int k=>
  refine⟨λ_ {id ch cs x} aL h _=>?_,λ_ {l off n cs} h=>by simp[cD]at h⟩;obtain⟨n,rfl,_,hw⟩:=DataW.trod_int aL.int h;simp only[Lit.wf,Bool.and_eq_true,decide_eq_true_eq]at hw;exact⟨n,⟨rfl,hw⟩,trivial⟩
 | str=>
  refine⟨λ_ {id ch cs x} aL h _=>?_,λ_ {l off n cs} h=>by simp[cD]at h⟩;obtain⟨s,rfl,_,hw⟩:=DataW.trod_string aL.str h;refine⟨s.data.toList,⟨by simp,?_⟩,trivial⟩;have:s.data.toList.length=s.size:=by rw[Array.length_toList];rfl
  rw[this];have:maxLen<2 ^ 63:=by decide
  omega
 | cS=>exact⟨λ_ {id ch cs x} aL h _=>by simp[b7,cD]at aL,λ_ {l off n cs} h=>by simp[cD]at h⟩
 | st t aH=>
  refine⟨λai {id ch cs x} aL h ni=>?_,λ_ {l off n cs} h=>by simp[cD]at h⟩;have ai:t.hL=true:=ai;have HR:P.cellsOf id=t.size:=aL.cells;obtain⟨eS,hu⟩:=aL.st;obtain⟨xs,n,_,rfl,hlen,SJ,ar⟩:=DataW.trod_struct hu h;unfold b7 at aL;simp only[cD,Bool.and_eq_true]at aL;obtain⟨_,aL⟩:=aL;rw[hu]at aL;have jm:∀ f∈eS.toList,∃ x,DataW.trod enc P w 0 (λ_=>true) true n f.type ((cs.drop f.offset).take (P.cellsOf f.type))=some x/\b x.1<=N:=by
   intro f aiR;obtain⟨i,G,rfl⟩:=List.mem_iff_getElem.1 aiR;have dI:i<eS.size:=by simpa using G
   refine⟨xs[i]'(by omega),?_,Nat.le_trans (W.Rp _ _ (List.mem_map_of_mem (List.getElem_mem _))) ni⟩;rw[ar i _ (by simp[dI])];exact List.getElem?_eq_getElem _
  simp only at aL;split at aL
  ·have aL:=of_decide_eq_true aL;subst aL;have:cs=[]:=by
    have:=hlen.trans HR;simpa [ab.size]using this
   subst this;exact⟨(),rfl,trivial⟩
  ·rename_i f fT;simp only[Bool.and_eq_true,beq_iff_eq,bne_iff_ne]at aL;obtain⟨⟨⟨aT,E⟩,_⟩,_⟩:=aL;obtain⟨x,ah,aiS⟩:=jm f (by rw[fT];simp);have hc:P.cellsOf f.type=t.size:=b7.cells E;rw[aT,hc,List.drop_zero,List.take_of_length_le (by omega)]at ah;exact aH.1 ai E ah aiS
  ·obtain⟨y,aR⟩:=aH.2 ai aL jm;rw[List.drop_zero,List.take_of_length_le (by omega)]at aR;exact⟨y,aR⟩
 | az a b fw eJ=>
  refine⟨λ_ {id ch cs x} aL h _=>by simp[b7,cD]at aL,λai {l off n cs} aL h=>?_⟩;simp only[ab.hL,Bool.and_eq_true]at ai;have join:∀ {y:a.aj} {z:b.aj},bH P a (qN w) w ((cs.drop off).take a.size) y/\a.oZ N y->bH P b (qN w) w ((cs.drop (off+a.size)).take b.size) z/\b.oZ N z->∃ y,bH P (.az a b) (qN w) w ((cs.drop off).take (ab.az a b).size) y/\(ab.az a b).oZ N y:=by
   intro y z aR bj;refine⟨(y,z),⟨_,_,?_,aR.1,bj.1⟩,aR.2,bj.2⟩;simp only[ab.size];rw[List.take_add,List.drop_drop]
  match l,aL with
  | f::g::[],aL=>
   simp only[cD,Bool.and_eq_true,beq_iff_eq,bne_iff_ne]at aL;obtain⟨⟨⟨⟨aT,E⟩,_⟩,_⟩,⟨⟨⟨hn,aQ⟩,_⟩,_⟩⟩:=aL;obtain⟨x,ah,au⟩:=h f (by simp);obtain⟨dH,nW,C2⟩:=h g (by simp);rw[aT,b7.cells E]at ah;rw[hn,b7.cells aQ]at nW;obtain⟨y,aR⟩:=fw.1 ai.1 E ah au;obtain⟨z,bj⟩:=eJ.1 ai.2 aQ nW C2;exact join aR bj
  | f::g::e::eS,aL=>
   simp only[cD,Bool.and_eq_true,beq_iff_eq,bne_iff_ne]at aL;obtain⟨⟨⟨⟨aT,E⟩,_⟩,_⟩,aQ⟩:=aL;obtain⟨x,ah,au⟩:=h f (by simp);rw[aT,b7.cells E]at ah;obtain⟨y,aR⟩:=fw.1 ai.1 E ah au;obtain⟨z,bj⟩:=eJ.2 ai.2 aQ λiF rL=>h iF (List.mem_cons_of_mem _ rL);exact join aR bj
 | slice e aH=>
  refine⟨λai {id ch cs x} aL h ni=>?_,λ_ {l off n cs} h=>by simp[cD]at h⟩;have ai:e.hL=true:=ai;obtain⟨i,hu,he,cd⟩:=aL.sl;have HR:=he.cells;rcases DataW.trod_slice hu h with⟨rfl,_⟩ | ⟨a,len,cap,elems,ck,n,rfl,rfl,ah,_,U0,xr,ki,eT,U1,_⟩
  ·exact⟨[],⟨none,0,rfl,Nat.le_refl _,by decide,λ_=>rfl,λp an=>by cases an⟩,Nat.zero_le _,λy aR=>by cases aR⟩
  ·rw[ah]at ni;have ll:0<P.cellsOf i:=by rw[HR];omega
   have key:∀ j,j<len->∃ bh y,w.cells? 0 (a.add (j*P.cellsOf i)) (P.cellsOf i)=some bh/\bH P e (qN w) w bh y/\e.oZ N y:=by
    intro j aE;have:=eT j aE;rw[List.getElem?_eq_getElem (by omega)]at this;obtain⟨bh,E,U⟩:=Option.bind_eq_some_iff.1 this;obtain⟨y,aR⟩:=aH.1 ai he U (Nat.le_trans (W.Ca _ _ _ (List.mem_map_of_mem (List.getElem_mem _))) ni);exact⟨bh,y,E,aR⟩
   have aiT:0<cap->a.spot=none/\a.block<w.heap.size:=by
    intro hc;have:∃ bh,w.cells? 0 (a.add (0*P.cellsOf i)) (P.cellsOf i)=some bh:=by
     by_cases K7:0<len
     ·obtain⟨bh,_,E,_⟩:=key 0 K7;exact⟨bh,E⟩
     ·obtain⟨m1,m2⟩:=U1 rfl;have bj:len=0:=by omega
      subst bj;have:=m2 0 (by omega);rw[List.getElem?_eq_getElem (by omega)]at this;obtain⟨bh,E,_⟩:=Option.bind_eq_some_iff.1 this;exact⟨bh,E⟩
    obtain⟨bh,E⟩:=this;have ax:a.add (0*P.cellsOf i)=a:=by unfold Addr.add;simp
    rw[ax]at E;obtain⟨aQ,aV,_⟩:=UZ E ll;exact⟨aQ,aV⟩
   have:∃ ys:List e.aj,ys.length=len/\∀ j (aE:j<ys.length),∃ bh,w.cells? 0 (a.add (j*P.cellsOf i)) (P.cellsOf i)=some bh/\bH P e (qN w) w bh ys[j]/\e.oZ N ys[j]:=by
    clear eT ki h U0 U1 ni;induction len with
    | zero=>exact⟨[],rfl,λj aE=>by simp at aE⟩
    | succ m aiU=>
     obtain⟨ys,kd,cT⟩:=aiU λj aE=>key j (by omega);obtain⟨bh,y,E,U⟩:=key m (by omega);refine⟨ys++[y],by simp[kd],λj aE=>?_⟩;by_cases xv:j<ys.length
     ·rw[List.getElem_append_left xv];exact cT j xv
     ·have:j=m:=by simp at aE;omega
      subst this;refine⟨bh,E,?_⟩;rw[List.getElem_append_right (by omega)];simpa [kd]using U
   have aiV:len<=N:=by have:=W.len (elems.map (·.1)) (ck.map (·.1));rw[List.length_map,ki]at this;exact Nat.le_trans this ni
   obtain⟨ys,rfl,kd⟩:=this;have zS:maxLen<2 ^ 63:=by decide
   refine⟨ys,⟨some a,cap,rfl,U0,by omega,(by simp),λp an vj=>?_⟩,aiV,λy aR=>by
    obtain⟨j,aE,rfl⟩:=List.mem_iff_getElem.1 aR;obtain⟨bh,_,E,U⟩:=kd j aE;exact U⟩
   cases an;obtain⟨aQ,aV⟩:=aiT vj;refine⟨aV,aQ,λj aE=>?_⟩;obtain⟨bh,d1,d2,_⟩:=kd j aE;obtain⟨m1,m2,m3,m4⟩:=UZ d1 ll;refine⟨bh,⟨aV,rfl,λq bp=>?_⟩,d2⟩;have:=m4 q bp;have ax:a.add (j*P.cellsOf i)=⟨a.block,a.off+j*e.size,none⟩:=by
    rw[HR];cases a;simp only at aQ;subst aQ;unfold Addr.add;split
    ·rename_i aT;simp[aT]
    ·rfl
   rw[ax]at this;exact this
 | array n e aH=>exact⟨λh=>by simp[ab.hL]at h,λh=>by simp[ab.hL]at h⟩
 | bG e aH=>exact⟨λh=>by simp[ab.hL]at h,λh=>by simp[ab.hL]at h⟩
 | map k v w8 w9=>exact⟨λh=>by simp[ab.hL]at h,λh=>by simp[ab.hL]at h⟩
 | fn a b fw eJ=>exact⟨λh=>by simp[ab.hL]at h,λh=>by simp[ab.hL]at h⟩
 | cq a aH=>exact⟨λh=>by simp[ab.hL]at h,λh=>by simp[ab.hL]at h⟩
 | en=>exact⟨λh=>by simp[ab.hL]at h,λh=>by simp[ab.hL]at h⟩
theorem U2(W:B' b){t:ab}(ai:t.hL=true){id:TypeId}(aL:b7 P t id){base:Nat}{v:Value}{d:DataW H}{ps:List MemPlace}(cK:Value.okWide P w .any base id v)
  (h:DataW.Trod enc P w 0 (λ_=>true) true id v d ps) (ni:b d<=N):∃ y,eo P t (qN w) w v y/\t.oZ N y:=by
 obtain⟨n,au⟩:=h;obtain⟨y,aR,ar⟩:=(aiQ W t).1 ai aL au ni;refine⟨y,⟨?_,aR⟩,ar⟩;cases t with
 | bool=>
  simp only[bH]at aR;have hu:P.underlying id=some .bool:=by
   unfold b7 at aL;simp only[cD,Bool.and_eq_true]at aL;obtain⟨_,aL⟩:=aL;split at aL
   ·assumption
   ·cases aL
  simp only[Value.okWide,hu,Cell.okWide,Cell.ok]at cK;cases v<;>first | rfl | exact cK.elim
 | int k=>
  simp only[Value.okWide,aL.int,Cell.okWide,Cell.ok]at cK;cases v<;>first | rfl | exact cK.elim
 | str=>
  simp only[Value.okWide,aL.str,Cell.okWide,Cell.ok]at cK;cases v<;>first | rfl | exact cK.elim
 | cS=>simp[b7,cD]at aL
 | st t=>
  obtain⟨eS,hu⟩:=aL.st;simp only[Value.okWide,hu]at cK;obtain⟨cs,rfl,hc,_⟩:=cK;exact⟨cs,rfl,hc.trans aL.cells⟩
 | az a b=>simp[b7,cD]at aL
 | slice e=>
  obtain⟨i,hu,_⟩:=aL.sl;simp only[Value.okWide,hu,Cell.okWide,Cell.ok]at cK;cases v<;>first | rfl | exact cK.elim
 | array n e=>simp[ab.hL]at ai
 | bG e=>simp[ab.hL]at ai
 | map k v=>simp[ab.hL]at ai
 | fn a b=>simp[ab.hL]at ai
 | cq a=>simp[ab.hL]at ai
 | en=>simp[ab.hL]at ai
def x_(P:Program):List TypeId->ab->Bool
 | [id],t=>cD P t (.inl id)&&t.hL
 | id::ids,.az a b=>cD P a (.inl id)&&a.hL&&x_ P ids b
 | _,_=>false
theorem U3(W:B' b):∀ (ids:List TypeId) (ts:ab) {base:Nat} {aC:List Value} {bh:List (DataW H)} {ps:List MemPlace},x_ P ids ts=true->DataW.TrodAll enc P w 0 (λ_=>true) true ids aC bh ps->
  (∀ (j:Nat) t v,ids[j]?=some t->aC[j]?=some v->Value.okWide P w .any base t v)->(∀ d∈bh,b d<=N)->∃ x,fo P ts (qN w) w aC x/\ts.oZ N x
 | [],ts,_,aC,bh,ps,h,_,_,_=>by simp[x_]at h
 | [id],t,_,aC,bh,ps,h,ir,cK,ni=>by
  simp only[x_,Bool.and_eq_true]at h;obtain⟨v0,NK,d0,NL,Gj,CE,rfl,rfl,rfl,aT,sV⟩:=trodAll_cons ir;obtain⟨rfl,rfl,rfl⟩:=trodAll_nil sV;obtain⟨y,⟨xY,sM⟩,ar⟩:=U2 W h.2 h.1 (cK 0 id v0 rfl rfl) aT (ni _ (List.mem_cons_self ..));refine⟨y,⟨?_,by simpa [eg]using sM⟩,ar⟩;cases t<;>first | exact⟨v0,rfl,xY⟩ | (simp[cD]at h;done)
 | id::aiW::ids,ts,base,aC,bh,ps,h,ir,cK,ni=>by
  cases ts with
  | az a b=>
   simp only[x_,Bool.and_eq_true]at h;obtain⟨v0,NK,d0,NL,Gj,CE,rfl,rfl,rfl,aT,sV⟩:=trodAll_cons ir;obtain⟨y,⟨xY,sM⟩,ar⟩:=U2 W h.1.2 h.1.1 (cK 0 id v0 rfl rfl) aT (ni _ (List.mem_cons_self ..));obtain⟨z,⟨aiX,aiY⟩,aB⟩:=U3 W (aiW::ids) b h.2 sV (λj t v E U=>cK (j+1) t v (by simpa using E) (by simpa using U)) λd aq=>ni d (List.mem_cons_of_mem _ aq);exact⟨(y,z),⟨⟨xY,aiX⟩,_,_,Kw _ _,sM,aiY⟩,ar,aB⟩
  | _=>simp[x_]at h
theorem U4(ai:laidOutB P=true){w':World}{U5:Nat->Bool}:∀ (ids:List TypeId) {aC:List Value} {bh:List (DataW H)} {ps:List MemPlace},(ids.all λt=>P.readableRec t&&decide (t<P.types.size))=true->
  DataW.TrodAll enc P w 0 (λ_=>true) true ids aC bh ps->(∀ p∈ps,w.sameAt w' p)->(∀ p∈ps,U5 p.block=true)->DataW.TrodAll enc P w' 0 U5 true ids aC bh ps
 | [],_,_,_,_,h,_,_=>by
  obtain⟨rfl,rfl,rfl⟩:=trodAll_nil h;rfl
 | id::ids,aC,bh,ps,M,h,E,U=>by
  simp only[List.all_cons,Bool.and_eq_true,decide_eq_true_eq]at M;obtain⟨v0,NK,d0,NL,Gj,CE,rfl,rfl,rfl,aT,sV⟩:=trodAll_cons h;exact trodAll_cons_mk (Go.WideElems.Trod_stays ai M.1.1 M.1.2 aT (λp an=>E p (List.mem_append_left _ an)) (λp an=>U p (List.mem_append_left _ an)))
   (U4 ai ids M.2 sV (λp an=>E p (List.mem_append_right _ an)) (λp an=>U p (List.mem_append_right _ an)))
theorem ac2(W:B' b){k:FuncId}{fn:Func}{ts:ab}{sh:ts.aj->A (ab.bool).aj}{spec:ChangeSpec}{rt:TypeId}(aiZ:laidOutB P=true)(xw:h6 P k ts .bool sh)(ai0:∀ x,ts.hC x->ts.oZ N x->A.cu (sh x) λy=>y=true)
  (dW:x_ P fn.params.toList ts=true) (ai1:(fn.params.toList.all λt=>P.readableRec t&&decide (t<P.types.size))=true) (gn:fn.resultTypes=#[rt]) (ai2:P.underlying rt=some .bool)
  (ae:spec.vars=[]) (tK:∀ (H:Type) (bh:List (DataW H)),bh.length=fn.params.size->spec.fn H bh={ results:=[.lit (.bool true)],args:=bh })
  {base:Nat} {args:Array Value} {bh gs:List (DataW H)} {before:List MemPlace} (x':∀ (j:Nat) t v,fn.params[j]?=some t->args[j]?=some v->Value.okWide P w .any base t v)
  (w4:DataW.Whole enc P fn.params.toList spec.vars false w args.toList bh gs before) (ni:∀ d∈bh,b d<=N) (gm:nR P (qN w) w:=by exact λb W=>absurd (show b<0 from W) (Nat.not_lt_zero b)) :
  Calls P k args w λe qK=>∃ v,e=.returned v/\spec.post enc P fn false true false false w args v qK:=by
 have cj:=w4.lt;have U6:=w4;obtain⟨p,q,ir,NM,rfl,tX,_⟩:=w4;have bp:gs=[]/\q=[]:=by
  rw[ae]at NM;cases gs with
  | nil=>exact⟨rfl,NM⟩
  | cons _ _=>exact NM.elim
 obtain⟨rfl,rfl⟩:=bp;simp only[List.append_nil]at U6 cj tX;obtain⟨x,ah,ar⟩:=U3 W fn.params.toList ts dW ir (λj t v E U=>x' j t v (by simpa using E) (by simpa using U)) ni;obtain⟨aD,af⟩:=ai0 x (AL ts ah.2) ar;have vu:bh.length=fn.params.size:=by
  have:∀ (ids:List TypeId) {aC:List Value} {bh:List (DataW H)} {ps:List MemPlace},DataW.TrodAll enc P w 0 (λ_=>true) true ids aC bh ps->bh.length=ids.length:=by
   intro ids;induction ids with
   | nil=>intro aC bh ps h;obtain⟨rfl,rfl,rfl⟩:=trodAll_nil h;rfl
   | cons id ids aH=>intro aC bh ps h;obtain⟨v0,NK,d0,NL,Gj,CE,rfl,rfl,rfl,aT,sV⟩:=trodAll_cons h;simp[aH sV]
  simpa using this _ ir
 have hc:=xw.iV (qN w) w args.toList x (λ_ h=>h) gm ah aD;refine hc.mono λe qK ⟨v,y,he,aR,M,W⟩=>?_;have aR:=af y aR;subst aR;obtain⟨aC,cf,cI⟩:=M;have ai3:v=.bool true:=by
  simp only[zp]at cf;subst cf;obtain⟨⟨u,hu,nP⟩,nX⟩:=cI;simp only[List.cons.injEq,and_true]at hu;subst hu;simp only[kS]at nP;simp only[Kw,nP,ac7,bH]at nX;simpa using nX
 subst ai3;have rz:∀ p'∈p,w.sameAt qK p':=by
  intro p' an;have E:=W.block _ (cj p' an);cases p' with
  | cell b off=>simp only[World.sameAt,World.cell?];simp only[MemPlace.block]at E;rw[E]
  | map b=>exact E
 refine⟨_,he,bh,[],p,[],p,[],U6,?_,?_,?_,?_,λh=>by cases h⟩
 ·rw[List.append_nil,tK H bh vu,gn];exact trodAll_cons_mk (shut_bool ai2 true) trodAll_mk0
 ·rw[List.append_nil,tK H bh vu];exact U4 aiZ _ ai1 ir rz λp' an=>by simpa using cj p' an
 ·rw[ae,List.append_nil,tK H bh vu];rfl
 ·refine⟨W.os,W.output,λi G=>?_⟩;have E:=W.block i G;rw[E];exact (World.keptBut_refl w λHS=>HS∈p/\(HS∈[]\/HS∈p\/HS∈[])).2.2 i G
end
end Go.Fer
namespace Go.Fer.oE
open Go.Proofs
abbrev t2:ab:=.int .i64
abbrev t3:ab:=.int .i64
abbrev t4:ab:=.bool
abbrev t5:ab:=.int .u8
abbrev ai4:ab:=.int .u8
abbrev ai5:ab:=.st (.az t2 (.az t3 (.az t4 ai4)))
abbrev t9:ab:=.str
abbrev ai6:ab:=.str
abbrev ai7:ab:=.str
abbrev t21:ab:=.int .i32
abbrev ya:ab:=.st (.az t3 t3)
abbrev AM:ab:=.st (.az t3 (.az t3 ya))
abbrev t22:ab:=.slice AM
abbrev eW:ab:=.slice t3
abbrev AN:ab:=.st (.az t3 (.az eW ya))
abbrev HT:ab:=.slice AN
abbrev yb:ab:=.st HT
abbrev D6:ab:=.slice yb
abbrev AO:ab:=.st (.az t3 (.az t3 (.az t3 t3)))
abbrev HU:ab:=.slice AO
abbrev uF:ab:=.st (.az t22 (.az D6 (.az t3 HU)))
abbrev yc:ab:=.st (.az t3 (.az t3 (.az t3 (.az t3 eW))))
abbrev t28:ab:=.slice yc
abbrev vS:ab:=.st (.az eW (.az ya (.az t3 (.az t3 t3))))
abbrev HV:ab:=.slice vS
abbrev rR:ab:=.st (.az t3 (.az t3 t3))
abbrev AP:ab:=.slice rR
abbrev t32:ab:=.st (.az uF (.az eW (.az t28 (.az HV (.az AP t3)))))
abbrev qO:ab:=.slice ya
abbrev jc:ab:=.st (.az t3 (.az t3 (.az t3 (.az t3 (.az t3 t3)))))
abbrev ob:ab:=.slice jc
abbrev NN:ab:=.st (.az t3 (.az t3 (.az t3 (.az t3 (.az t3 (.az t3 t3))))))
abbrev tJ:ab:=.st (.az qO (.az ob (.az eW (.az qO NN))))
abbrev w5:ab:=.st (.az t32 tJ)
abbrev ai8:ab:=.int .i64
abbrev FM:ab:=.slice t9
abbrev ai9:ab:=.st (.az t3 (.az t3 (.az t3 t3)))
abbrev Kv:ab:=.st (.az t3 (.az t3 (.az t3 (.az t3 (.az t3 (.az t3 (.az t3 t3)))))))
abbrev qP:ab:=.st w5
abbrev t105:ab:=.bG qP
abbrev U7:ab:=.en
abbrev NO:ab:=.st (.az t3 (.az t4 U7))
abbrev NP:ab:=.map t9 NO
abbrev D7:ab:=.slice eW
abbrev yd:ab:=.st (.az uF D7)
abbrev U8:ab:=.bG yd
abbrev NQ:ab:=.fn t3 t3
abbrev qQ:ab:=.st (.az jc t3)
abbrev NR:ab:=.slice qQ
abbrev NS:ab:=.array 10 NR
abbrev D8:ab:=.st (.az eW NS)
abbrev pR:ab:=.bG D8
abbrev NT:ab:=.slice pR
abbrev rS:ab:=.st (.az tJ (.az ob NT))
abbrev vT:ab:=.bG rS
abbrev U9:ab:=.fn t3 t4
abbrev ai_:ab:=.fn vT t4
abbrev ai':ab:=.fn (.az jc t3) t4
abbrev t138:ab:=.cq (.az jc t3)
abbrev U_:ab:=.fn pR (.az t3 t4)
abbrev HW:ab:=.map t3 t3
abbrev NU:ab:=.cq t3
abbrev aja:ab:=.cq t3
abbrev U':ab:=.st (.az t3 t3)
abbrev Va:ab:=.slice U'
abbrev Vb:ab:=.st (.az t3 (.az t3 t3))
abbrev Vc:ab:=.map Vb t3
abbrev t222:ab:=.st (.az t32 (.az Va Vc))
abbrev o0:ab:=.bG t222
abbrev ajb:ab:=.fn eW t4
abbrev t164:ab:=.cq eW
abbrev Vd:ab:=.st (.az t3 (.az t3 t3))
abbrev ajc:ab:=.slice Vd
abbrev t171:ab:=.slice t5
abbrev Ve:ab:=.fn vS t4
abbrev Vf:ab:=.fn AO t4
abbrev NV:ab:=.fn jc t4
abbrev t228:ab:=.int .u64
abbrev ajd:ab:=.slice t3
abbrev aje:ab:=.bG uF
abbrev ajf:ab:=.bG yb
abbrev ajg:ab:=.array 4 t9
abbrev Vg:ab:=.st (.az t3 (.az t3 t3))
abbrev ajh:ab:=.map Vg t3
abbrev HX:ab:=.map t3 jc
abbrev aji:ab:=.int .u32
abbrev Vh:ab:=.int .u64
abbrev Vi:ab:=.fn yc t4
abbrev Vj:ab:=.fn rR t4
abbrev Vk:ab:=.fn AN t4
abbrev Vl:ab:=.slice ob
abbrev Vm:ab:=.fn AM t4
abbrev Vn:ab:=.fn yb t4
abbrev D9:ab:=.fn (.az qQ qQ) t3
abbrev ajj:ab:=.int .i64
abbrev ajk:ab:=.slice D7
abbrev ajl:ab:=.int .i64
abbrev Vo:ab:=.int .u64
abbrev ajm:ab:=.bG t3
abbrev Vp:ab:=.st (.az jc t3)
abbrev ajn:ab:=.slice Vp
abbrev Vq:ab:=.st (.az t3 eW)
abbrev ajo:ab:=.slice Vq
abbrev ajp:ab:=.bG t5
abbrev ajq:ab:=.array 24 t5
abbrev ajr:ab:=.bG Vo
abbrev ajs:ab:=.slice AP
abbrev ajt:ab:=.array 256 t5
abbrev Vr:ab:=.st (.az t5 t5)
abbrev aju:ab:=.array 16 Vr
abbrev Vs:ab:=.st t9
abbrev ajv:ab:=.bG Vs
abbrev ajw:ab:=.array 20 Vh
abbrev ajx:ab:=.array 65 t5
abbrev ajy:ab:=.array 32 t5
abbrev ajz:ab:=.array 64 t5
abbrev ajA:ab:=.int .u8
def vU:List (Nat×ab):=[(2,t2),(3,t3),(4,t4),(5,t5),(8,ai5),(9,t9),(10,ai6),(11,ai7),(21,t21),(22,t22),(23,D6),(24,HU),(26,uF),(27,eW),(28,t28),(29,HV),(30,AP),(32,t32),(33,qO),(34,ob),(36,NN),(38,tJ),(40,w5),(42,AO),(44,ai8),(48,FM),(58,ya),(63,ai9),(74,Kv),(87,vS),(91,rR),(93,yc),(105,t105),(107,NP),(111,qP),(115,U8),(121,D7),(123,yd),(125,jc),(128,NQ),(130,vT),(133,U9),(134,ai_),(137,pR),(138,t138),(140,U_),(141,NR),(142,NS),(144,qQ),(148,HW),(149,NT),(151,rS),(153,NU),(154,aja),(157,o0),(162,ajb),(164,t164),(165,ajc),(171,t171),(177,Ve),(188,U7),(190,NO),(196,AM),(197,HT),(199,yb),(201,AN),(203,Vf),(209,NV),(215,ai'),(217,D8),(219,Vc),(220,Va),(222,t222),(224,Vb),(227,U'),(228,t228),(235,Vd),(237,ajd),(249,aje),(253,ajf),(261,ajg),(269,ajh),(271,Vg),(273,HX),(282,aji),(285,Vh),(289,Vi),(290,Vj),(297,Vk),(298,Vl),(304,Vm),(306,Vn),(311,D9),(313,ajj),(336,ajk),(351,ajl),(359,Vo),(363,ajm),(368,ajn),(372,Vp),(374,ajo),(380,ajp),(386,ajq),(398,ajr),(402,Vq),(403,ajs),(408,ajt),(410,Vr),(411,aju),(414,ajv),(416,Vs),(418,ajw),(419,ajx),(423,ajy),(424,ajz),(432,ajA)]
theorem oc:dR Tryz.prog (rQ vU):=aiL (by kernel_rfl)
theorem HY:Tryz.prog.follows .mixedOrders=true:=by kernel_rfl
def ye(_:Nat):Option aM:=none
theorem HZ:jo Tryz.prog ye:=λk c h=>by cases h
def dB:dC:={ tO:=λ_=>none,tP:=λ_=>none }
theorem mG:rb Tryz.prog dB where
 tO:=λk v h=>by cases h
 tP:=λk v h=>by cases h
end Go.Fer.oE
namespace Go.Fer
open Go.RowKit
def hI.kI(c:hI):aM:=⟨c.ts,.az c.aW .cS,λx=>(c.sh x).b1,λx=>((c.sh x).val c.aW.de,())⟩
end Go.Fer
namespace Go.Fer
theorem A.ajB{ak:Type}{p:Prop}{m n:A ak}(h:n.b1->p)(k:A.le m n):A.le (A.ad p m) n:=λaD=>⟨⟨h aD,(k aD).1⟩,(k aD).2⟩
theorem rT{ak:Type}{o:Option ak}{x:ak}(h:o=some x):o.isSome=true:=by rw[h];rfl
def NW(ts:ab)(x:ts.aj)(n:Nat):Nat->Prop
 | 0=>True
 | k+1=>NW ts x n k/\D1 (kA ts x (n+k))
theorem Vt{ts:ab}{x:ts.aj}{n:Nat}:∀ {k:Nat},NW ts x n k->∀ i,i<k->D1 (kA ts x (n+i))
 | 0,_,i,h=>by omega
 | k+1,hc,i,h=>by
  by_cases e:i=k
  ·rw[e];exact hc.2
  ·exact Vt hc.1 i (by omega)
theorem Vu(ts:ab)(x:ts.aj):∀ (l:List Nat) (i:Nat),fq (l.map λi=>(i,kA ts x i)) i=if i∈l then kA ts x i else .undef
 | [],i=>by simp[fq]
 | j::l,i=>by
  simp only[List.map_cons,fq];by_cases e:i=j
  ·subst e;simp
  ·rw[if_neg e,Vu ts x l i];simp[e]
theorem sW{ts:ab}{x:ts.aj}{n:Nat}(h:NW ts x n (sU ts - n)):D2 n (pP ts x):=λi G=>by
 show D1 (fq (AH ts x (sU ts)) i);unfold AH;rw[Vu];split
 ·rename_i hm;rw[List.mem_range]at hm;have au:¬i<n:=λh=>G (.inl h);have:=Vt h (i - n) (by omega);rwa [show n+(i - n)=i by omega]at this
 ·trivial
end Go.Fer
namespace Go.Fer
open A (V)
theorem bF{n:Int}(E:-9223372036854775808<=n)(U:n<9223372036854775808):IntKind.i64.wrap n=n:=by
 show (if (true&&decide (n % 2 ^ 64>=(2 ^ (64 - 1):Int)))=true then n % 2 ^ 64 - 2 ^ 64 else n % 2 ^ 64)=n;grind
theorem cn(a b:Int):Add.add a b=a+b:=rfl
theorem gY(a b:Nat):Add.add a b=a+b:=rfl
theorem Vv{ak:Type}(a b:List ak):Append.append a b=a++b:=rfl
theorem bW(n:Nat):Int.ofNat n=(n:Int):=rfl
theorem qR{x c d:Bool}:(x||!(if (!x)=true then c else d))=(x||!c):=by grind
theorem Vw{x c d:Bool}:(x||(if (!x)=true then c else d))=(x||c):=by grind
theorem vV{x c d:Bool}:(x&&(if x=true then c else d))=(x&&c):=by grind
namespace A
variable {ak β gA D aI:Type}
theorem bu{m:A ak}{p:Prop}{v:ak}(h:p->m=pure v):le m (dP p v):=λan=>by
 rw[h an];exact⟨trivial,λ_ aR=>aR⟩
theorem sX{m:A ak}{p:Prop}{v:ak}(h:p->cu m λy=>y=v):le m (dP p v):=λan=>h an
theorem gQ{p:Prop}{v d:ak}:(dP p v).val d=v:=by
 unfold val;have h:∃ x,(dP p v).bQ x:=⟨v,rfl⟩
 rw[dif_pos h];exact h.choose_spec
theorem e4{v d:ak}:(pure v).val d=v:=gQ (p:=True)
theorem od{p:Prop}{v:ak}:(dP p v).b1=p:=rfl
theorem vW{p:Prop}{v:ak}:(dP p v).Da:=λ_ _ h k=>h.trans k.symm
theorem jd{g:Bool}{p:Prop}{v d:ak}:ct g (dP p v) d=dP (g=true->p) (if g=true then v else d):=by
 cases g
 ·exact (bO (by simp) _).symm
 ·simp[ct]
theorem kn{g:Bool}{v d:ak}:ct g (pure v) d=pure (if g=true then v else d):=by cases g<;>rfl
theorem b2{f:D->A β}{x:D}:V.bD f (.next x:V D β)=f x:=rfl
theorem pS{f:D->A β}{r:β}:V.bD f (.done r:V D β)=pure r:=rfl
end A
def eX{ak β aI:Type}(f:ak->β->V β aI)(fin:β->aI):List ak->β->aI
 | [],b=>fin b
 | x::l,b=>match f x b with
  | .next bd=>eX f fin l bd
  | .done r=>r
def V.ho{D β aI:Type}(g:β->D):V β aI->V D aI
 | .next b=>.next (g b)
 | .done r=>.done r
theorem A.gv{ak β D aI:Type}{body:D->A (V D aI)}{s0:D}(l:List ak)(mk:Nat->β->D)(f:ak->β->V β aI)(fin:β->aI)(I:Nat->β->Prop)(b:β)(nh:s0=mk 0 b)(aT:I 0 b)
  (aD:∀ i (h:i<l.length) b,I i b->body (mk i b)=A.pure (V.ho (mk (i+1)) (f l[i] b))/\∀ bd,f l[i] b=.next bd->I (i+1) bd)
  (ar:∀ b,I l.length b->body (mk l.length b)=A.pure (.done (fin b))):A.loop body s0=A.pure (eX f fin l b):=by
 subst nh;have key:∀ (k:Nat) (r:List ak) (b:β),k<=l.length->r=l.drop k->I k b->A.loop body (mk k b)=A.pure (eX f fin r b):=by
  intro k r;induction r generalizing k with
  | nil=>
   intro b al M ez;have:k=l.length:=by have:=congrArg List.length M;grind
   subst this;exact A.sc (ar b ez)
  | cons x r aH=>
   intro b al M ez;have cj:k<l.length:=by
    grind
   rw[List.drop_eq_getElem_cons cj]at M;injection M with ah M
   obtain⟨E,U⟩:=aD k cj b ez;rw[<-ah]at E U;simp only[eX];cases rL:f x b with
   | next bd=>
    rw[rL]at E;rw[A.zo E];grind
   | done ql=>
    rw[rL]at E;exact A.sc E
 grind
theorem A.et{ak β D aI:Type}{body:D->A (V D aI)}{s0:D}(l:List ak)(mk:Nat->β->D)(f:ak->β->V β aI)(fin:β->aI)(b:β)(nh:s0=mk 0 b)
  (aD:∀ i (h:i<l.length) b,body (mk i b)=A.pure (V.ho (mk (i+1)) (f l[i] b)))
  (ar:∀ b,body (mk l.length b)=A.pure (.done (fin b))):A.loop body s0=A.pure (eX f fin l b):=
 A.gv l mk f fin (λ_ _=>True) b nh trivial (λi h b _=>⟨aD i h b,λ_ _=>trivial⟩) λb _=>ar b
section
variable {ak β aI:Type}
theorem rU{p:ak->Bool}{r:aI}{fin:β->aI}:∀ (l:List ak) (b:β),eX (λx b=>if p x=true then .done r else .next b) fin l b=if l.any p=true then r else fin b
 | [],b=>by rfl
 | x::l,b=>by
  simp only[eX,List.any_cons,Bool.or_eq_true];by_cases h:p x=true
  ·simp[h]
  ·have h:p x=false:=by grind
   simp only[h,Bool.false_eq_true,if_false,false_or];exact rU l b
theorem H0{p:ak->Bool}{r:aI}{fin:β->aI}:∀ (l:List ak) (b:β),eX (λx b=>if p x=true then .next b else .done r) fin l b=if l.all p=true then fin b else r
 | [],b=>by rfl
 | x::l,b=>by
  simp only[eX,List.all_cons,Bool.and_eq_true];by_cases h:p x=true
  ·simp only[h,if_true,true_and];exact H0 l b
  grind
theorem fr{h:β->ak->β}{fin:β->aI}:∀ (l:List ak) (b:β),eX (λx b=>.next (h b x)) fin l b=fin (l.foldl h b)
 | [],b=>rfl
 | x::l,b=>by simp only[eX,List.foldl_cons];exact fr l (h b x)
theorem Vx{p:ak->Bool}:∀ (l:List ak) (b:List ak),l.foldl (λb x=>if p x=true then b++[x] else b) b=b++l.filter p
 | [],b=>by simp
 | x::l,b=>by
  simp only[List.foldl_cons,List.filter_cons];rw[Vx l];grind
theorem yf{gA:Type}{g:ak->gA}:∀ (l:List ak) (b:List gA),l.foldl (λb x=>b++[g x]) b=b++l.map g
 | [],b=>by simp
 | x::l,b=>by simp only[List.foldl_cons,List.map_cons];rw[yf l];simp
end
theorem Vy{ak:Type}{p q:ak->Bool}(h:∀ x,p x=!q x)(l:List ak):l.any p=!l.all q:=by
 grind
theorem k0{ak β aI:Type}{p q:ak->Bool}{r:aI}{fin:β->aI}(l:List ak)(b:β)(h:∀ x,p x=!q x):eX (λx b=>if p x=true then .done r else .next b) fin l b=if l.all q=true then fin b else r:=by
 rw[rU,Vy h];grind
theorem nj{D β aI:Type}{c:Bool}{mk:β->D}{b:β}{r:aI}:(if c=true then A.pure (V.done r) else A.pure (V.next (mk b)))=A.pure (V.ho mk (if c=true then .done r else .next b)):=by cases c<;>rfl
theorem Vz{D β aI:Type}{c:Bool}{mk:β->D}{b:β}{r:aI}:(if c=true then A.pure (V.done r) else A.pure (V.next (mk b)))=A.pure (V.ho mk (if c=true then .done r else .next b)):=by cases c<;>rfl
theorem cX{l:Nat}{i:Nat}(h:i<l):decide ((i:Int)<(l:Int))=true:=by grind
theorem cH{l:Nat}{i:Nat}(h:i<l):((0:Int)<=(i:Int)/\(i:Int)<(l:Int))=True:=by grind
theorem dk{ak:Type}{l:List ak}{i:Nat}{d:ak}(h:i<l.length):l.getD (Int.toNat (i:Int)) d=l[i]:=by
 grind
theorem yg{ak:Type}{l:List ak}{i:Int}{d:ak}(aT:0<=i)(h:i<(l.length:Int)):l.getD i.toNat d∈l:=by
 grind
def ee(a b:Int):z1':=(List.range (b - a+1).toNat).map λ(i:Nat)=>a+(i:Int)
theorem yh(a b:Int):(ee a b).length=(b - a+1).toNat:=by simp[ee]
theorem D_{a b:Int}{i:Nat}(h:i<(ee a b).length):(ee a b)[i]=a+i:=by simp[ee]
theorem pT{a b n:Int}:n∈ee a b<->a<=n/\n<=b:=by
 simp only[ee,List.mem_map,List.mem_range];constructor
 ·omega
 ·rintro⟨E,U⟩;exact⟨(n - a).toNat,by omega,by omega⟩
end Go.Fer
namespace Go.Fer.oE
open Go.Proofs
abbrev o1:Type:=List (Nat×hI)
def o2{ak:Type}:List (Nat×ak)->Nat->Option ak
 | [],_=>none
 | p::l,k=>if k=p.1 then some p.2 else o2 l k
theorem D'{ak:Type}{k:Nat}{c:ak}:∀ {l:List (Nat×ak)},o2 l k=some c->(k,c)∈l
 | [],h=>by cases h
 | p::l,h=>by
  unfold o2 at h;split at h
  ·rename_i e;cases h;subst e;simp
  ·exact List.mem_cons_of_mem _ (D' h)
def sY(T:o1):List (Nat×e2)->Nat->Option e2
 | [],k=>match o2 T k with
  | some c=>some (.du c)
  | none=>none
 | p::l,k=>if k=p.1 then some p.2 else sY T l k
def VA(k:Nat)(c:hI):Prop:=h6 Tryz.prog k c.ts c.aW c.sh/\(c.dP=true->∀ x,(c.sh x).Da)
structure k1(T:o1):Type where
 ok:∀ p∈T,VA p.1 p.2
abbrev ajC{T:o1}(_:k1 T):o1:=T
def ajD:k1 []:=⟨λp h=>by cases h⟩
def k1.cons{T:o1}(h:k1 T){n:Nat}{c:hI}(k:VA n c):k1 ((n,c)::T):=⟨λp an=>by
 rcases List.mem_cons.1 an with rfl | an
 ·exact k
 ·exact h.ok p an⟩
def Ea(aP:dC):List (Nat×e2)->Prop
 | []=>True
 | p::l=>p.2.hC Tryz.prog aP p.1/\Ea aP l
theorem k1.H2{aP:dC}{T:o1}(h:k1 T):∀ {sp:List (Nat×e2)},Ea aP sp->l0 Tryz.prog aP (sY T sp)
 | [],_,k,c,e=>by
  unfold sY at e;split at e
  ·rename_i c' hc;cases e;exact h.ok (k,c') (D' hc)
  ·cases e
 | p::l,aD,k,c,e=>by
  unfold sY at e;split at e
  ·rename_i al;cases e;subst al;exact aD.1
  ·exact k1.H2 h (sp:=l) aD.2 k c e
def AQ:ab->List ab
 | .cS=>[]
 | .az a b=>a::AQ b
 | t=>[t]
def VB:ab->ab
 | .bG t=>t
 | t=>t
def VC{ts VD:ab}(e:VD=ts){aW:ab}(sh:ts.aj->A aW.aj):VD.aj->A aW.aj:=e ▸ sh
def NX(pU:Nat)(c:hI):Option FT:=
 if h:((AQ c.ts).take pU).all ab.gC=true/\gh ((AQ c.ts).take pU++(((AQ c.ts).drop pU).map VB).map .bG)=c.ts then some ⟨(AQ c.ts).take pU,((AQ c.ts).drop pU).map VB,c.aW,VC h.2 c.sh⟩ else none
def VE:z8'->Nat->Option Nat
 | [],_=>none
 | p::l,k=>if k=p.1 then some p.2 else VE l k
def AR(T:o1)(cl:z8')(H3:List (Nat×w_)):dC where
 tO:=λk=>match o2 T k with
  | some c=>some ⟨c.ts,c.aW,c.sh⟩
  | none=>none
 tP:=λk=>match VE cl k with
  | some pU=>match o2 T k with
   | some c=>NX pU c
   | none=>none
  | none=>none
 xb:=o2 H3
def Eb:List (Nat×w_)->Prop
 | []=>True
 | p::l=>xa Tryz.prog p.1 p.2/\Eb l
theorem Eb.mem:∀ {l:List (Nat×w_)},Eb l->∀ p∈l,xa Tryz.prog p.1 p.2
 | [],_,p,h=>by cases h
 | q::l,h,p,an=>by
  rcases List.mem_cons.1 an with rfl | an
  ·exact h.1
  ·exact Eb.mem h.2 p an
theorem ajE{k pU:Nat}{c:hI}{v:FT}(h:h6 Tryz.prog k c.ts c.aW c.sh)(e:NX pU c=some v):v.as.all ab.gC=true/\h6 Tryz.prog k (gh (v.as++v.cs.map .bG)) v.aW v.sh:=by
 unfold NX at e;split at e
 ·rename_i cT;cases e;refine⟨cT.1,?_⟩;have key:∀ (ts:ab) (e:ts=c.ts),h6 Tryz.prog k ts c.aW (VC e c.sh):=by rintro _ rfl;exact h
  exact key _ cT.2
 ·cases e
theorem k1.u{T:o1}(h:k1 T)(cl:z8')(H3:List (Nat×w_))(G:Eb H3):rb Tryz.prog (AR T cl H3) where
 tO:=λk v e=>by
  simp only[AR]at e;split at e
  ·rename_i c hc;cases e;exact (h.ok (k,c) (D' hc)).1
  ·cases e
 tP:=λk v e=>by
  simp only[AR]at e;split at e
  ·split at e
   ·rename_i c hc;exact ajE (h.ok (k,c) (D' hc)).1 e
   ·cases e
  ·cases e
 xb:=λk v e=>G.mem (k,v) (D' e)
abbrev rV(fn:Func):Code:=fn.body.getD .skip
theorem H4{fn:Func}(h:fn.body.isSome=true):fn.body=some (rV fn):=by
 unfold rV;cases e:fn.body with
 | none=>rw[e]at h;cases h
 | some b=>rfl
abbrev Ec(fn:Func)(ts aW:ab):Bool:=fn.body.isSome&&D3 fn (rV fn) ts aW
theorem H5{T:o1}(aU:k1 T){aP:dC}(ie:rb Tryz.prog aP){sp:List (Nat×e2)}(oa:Ea aP sp){n:Nat}{fn:Func}(ar:Tryz.prog.funcs[n]?=some fn){ts aW:ab}{sh:ts.aj->A aW.aj}{ann:cA}{S:ts.aj->A aW.aj}(aD:∀ x,A.le (S x) (sh x))(cK:Ec fn ts aW=true)(ai:∀ x,D0 aP (rQ vU) ye (sY T sp) fn (rV fn) ann ts aW x=S x):h6 Tryz.prog n ts aW sh:=
 have cK:=Bool.and_eq_true _ _ ▸ cK
 aiF HY oc ie HZ (aU.H2 oa) ar (H4 cK.1) cK.2 λx=>A.le_trans (A.le_of_eq (ai x)) (aD x)
def mk{T:o1}(aU:k1 T){n:Nat}{fn:Func}(ar:Tryz.prog.funcs[n]?=some fn)(c:aM)(ann:cA){S:c.ts.aj->A c.aW.aj}(aD:∀ x,A.le (S x) (c.sh x))(cK:Ec fn c.ts c.aW=true:=by kernel_rfl)(ai:∀ x,D0 dB (rQ vU) ye (sY T []) fn (rV fn) ann c.ts c.aW x=S x:=by intro x;kernel_rfl):k1 ((n,c.du)::T):=
 aU.cons ⟨H5 aU mG (sp:=[]) trivial ar aD cK ai,λ_ _=>A.vW⟩
def l4{T:o1}(aU:k1 T)(cl:z8'){n:Nat}{fn:Func}(ar:Tryz.prog.funcs[n]?=some fn)(c:aM)(ann:cA){S:c.ts.aj->A c.aW.aj}(aD:∀ x,A.le (S x) (c.sh x))(cK:Ec fn c.ts c.aW=true:=by kernel_rfl)(ai:∀ x,D0 (AR T cl []) (rQ vU) ye (sY T []) fn (rV fn) ann c.ts c.aW x=S x:=by intro x;kernel_rfl):k1 ((n,c.du)::T):=
 aU.cons ⟨H5 aU (aU.u cl [] trivial) (sp:=[]) trivial ar aD cK ai,λ_ _=>A.vW⟩
def pV{T:o1}(aU:k1 T){aP:dC}(ie:rb Tryz.prog aP)(sp:List (Nat×e2))(oa:Ea aP sp){n:Nat}{fn:Func}(ar:Tryz.prog.funcs[n]?=some fn)(c:aM)(ann:cA){S:c.ts.aj->A c.aW.aj}(aD:∀ x,A.le (S x) (c.sh x))(cK:Ec fn c.ts c.aW=true:=by kernel_rfl)(ai:∀ x,D0 aP (rQ vU) ye (sY T sp) fn (rV fn) ann c.ts c.aW x=S x:=by intro x;kernel_rfl):k1 ((n,c.du)::T):=
 aU.cons ⟨H5 aU ie oa ar aD cK ai,λ_ _=>A.vW⟩
def jU{T:o1}(aU:k1 T)(cl:z8'){n:Nat}{fn:Func}(ar:Tryz.prog.funcs[n]?=some fn)(c:aM)(pU:Nat)(ann:cA){S:c.ts.aj->A c.aW.aj}(aD:∀ x,A.le (S x) (c.sh x))(hc:∀ x,c.pre x->D2 pU (pP c.ts x):=by intro x h;obtain⟨f,ar,_⟩:=h;exact sW ⟨trivial,rT ar⟩)(cK:Ec fn c.ts c.aW=true:=by kernel_rfl)
  (ai:∀ x,eH (AR T cl []) (rQ vU) ye (sY T []) ann (rV fn) (HP pU (pP c.ts x)) (vR (rQ vU) fn.results.toList c.aW)=S x:=by intro x;kernel_rfl):k1 ((n,c.du)::T):=
 have cK:=Bool.and_eq_true _ _ ▸ cK
 aU.cons ⟨aiH (n:=pU) HY oc (aU.u cl [] trivial) HZ (aU.H2 (sp:=[]) trivial) ar (H4 cK.1) cK.2 λx=>A.ajB (hc x) (A.le_trans (A.le_of_eq (ai x)) (aD x)),λ_ _=>A.vW⟩
theorem dY{T:o1}(aU:k1 T){aP:dC}(sp:List (Nat×e2))(oa:Ea aP sp){n:Nat}{fn:Func}(ar:Tryz.prog.funcs[n]?=some fn){c:cJ}(ann:cA){S:c.cm.aj->A c.bQ.aj}(aD:∀ x,A.le (S x) (c.sh x))(cK:(fn.body.isSome&&D4 fn (rV fn) c.kk c.kH)=true:=by kernel_rfl)(ai:∀ x,NA aP (rQ vU) ye (sY T sp) fn (rV fn) ann c.cm c.bQ c.kH x=S x:=by intro x;kernel_rfl):cQ Tryz.prog aP n c:=
 have cK:=Bool.and_eq_true _ _ ▸ cK
 UU HY oc HZ (aU.H2 oa) ar (H4 cK.1) cK.2 λx=>A.le_trans (A.le_of_eq (ai x)) (aD x)
theorem NY{aP:dC}{n:Nat}{fn:Func}(ar:Tryz.prog.funcs[n]?=some fn){c:cJ}(aD:∀ x,¬(c.sh x).b1)(cK:(fn.body.isSome&&D4 fn (rV fn) c.kk c.kH)=true:=by kernel_rfl):cQ Tryz.prog aP n c:=
 have cK:=Bool.and_eq_true _ _ ▸ cK
 UU HY oc HZ (Ψ:=λ_=>none) (λk c h=>by cases h) (ann:=.eM) ar (H4 cK.1) cK.2 λx h=>absurd h (aD x)
end Go.Fer.oE
namespace Go.Fer
open Go.RowKit
theorem ajF{P:Program}{aP:dC}{k:FuncId}{ts e:ab}(uv:ts≠.cS){c:cJ}(h:cQ P aP k c)(ie:rb P aP){sh:ts.aj->A (ab.slice e).aj}{b0:Nat}(mk:ts.aj->c.cm.aj)
    (ajG:∀ x,c.cm.st (mk x)=⟨fq ((List.range (j' ts)).map λi=>(i,kA ts x i)),λ_=>⟨0,.fx⟩⟩) (au:c.kk=j' ts) (hZ:c.kk<=eP) (ajH:c.kH=[none]) (val:c.bQ.aj->List e.aj)
    (qL:∀ bl,(c.bQ.st bl).ay 0=.own b0 0/\(c.bQ.st bl).aa b0=⟨0,.bg e (val bl)⟩)
    (ss:∀ x,(sh x).b1->(c.sh (mk x)).b1/\∀ bl,(c.sh (mk x)).bQ bl->val bl=(sh x).val (ab.slice e).de):nU (hI.kI ⟨ts,.slice e,sh,true⟩).aW=true/\CV P k (hI.kI ⟨ts,.slice e,sh,true⟩):=by
  refine⟨rfl,h.enter,?_⟩;intro (x:ts.aj) (aD:(sh x).b1) y aR F w args bm gm (dW:fo P ts F w args x);cases aR;obtain⟨iD,HD⟩:=ua (H:=λ_=>⟨0,.fx⟩) (κ:=λ_=>⟨0,0,0,false⟩) ts dW uv;let C:b8:={ P:=P,w0:=w,F0:=F,K0:=λr=>r<w.heap.size,nt:=c.kk,r:=none,dfr:=[],ik:=λ_=>none,cc:=⟨0,.cS,λ_=>False,λ_ _ _ _ _=>False⟩,aN:=aP }
  have Du:∀ i,fq ((List.range (j' ts)).map λi=>(i,kA ts x i)) i=.undef\/(i<j' ts/\fq ((List.range (j' ts)).map λi=>(i,kA ts x i)) i=kA ts x i):=λi=>by
    rcases UP (l:=(List.range (j' ts)).map λi=>(i,kA ts x i)) (i:=i) with e | e
    · exact .inl e
    · refine .inr ?_
      generalize bj:fq ((List.range (j' ts)).map λi=>(i,kA ts x i)) i=z at e
      simp only[List.mem_map,List.mem_range,Prod.mk.injEq]at e
      obtain⟨j,aE,rfl,rfl⟩:=e
      exact⟨aE,rfl⟩
  have M:bk C (c.cm.st (mk x)) { tmps:=args.toArray,defers:=[] } w (λ_=>⟨0,0,0,false⟩) F:=by
    rw[ajG];refine { dD := ?_, dfr := rfl, bS := λi => ?_, bB := λb => trivial, own := λb W => (by cases W), inj := λb bd W _ _ => (by cases W), da := bm, hh := λr M => .inl M, hS := λr M => M, hv := λr M => M, eG := λr _ => rfl, size := Nat.le_refl _, ep := dc.refl w,gj:=hZ,ku:=λb r h=>(by cases h),jG:=λb r h=>(by cases h),j9:=λb k h=>(by cases h),kv:=λb k h=>(by cases h),eK:=λl aJ L n st e=>?_,jH:=ie,iC:=gm }
    · grind
    · rcases Du i with e | ⟨G,e⟩
      · show bx _ _ _ _ _ (fq _ i) _
        rw[e];trivial
      · show bx _ _ _ _ _ (fq _ i) _
        rw[e]
        have:=HD i G
        simpa [Array.getD_eq_getD_getElem?,List.getD_eq_getElem?_getD]using this
    · rcases Du b4 with h | ⟨h,_⟩
      · grind
      · unfold b4 at h;unfold eP at hZ;omega
  obtain⟨MI,ui⟩:=ss x aD;refine (h.iV C _ w _ F (mk x) rfl rfl rfl rfl rfl rfl M MI).mono λaY w' ⟨v,bl,aC,κ',F',Cf,f',Hf,a_⟩=>?_;obtain⟨ajI,x1⟩:=qL bl;rw[ajH]at Hf;obtain⟨us,fA,Mz,NZ⟩:=Hf;obtain⟨u,rfl⟩:∃ u,us=[u]:=by
    match us,fA with
    | [u],_=>simp
  have N0:aC=[u]:=by
    obtain⟨_,N0,U⟩:=NZ;rw[N0,U]
  have ae:v=u:=by simpa using Mz
  have fj:=a_.bS 0;rw[ajI,N0]at fj;have VF:u=(κ' b0).slice ((c.bQ.st bl).aa b0).body.len:=by
    have:=fj.2 (by rw[x1]) (by rw[x1];rfl);simp_all
  rw[x1]at VF;have aS:=a_.bB b0;unfold cC at aS;rw[x1]at aS;obtain⟨E,U⟩:=aS;have x':val bl=(sh x).val (ab.slice e).de:=ui bl f';refine⟨κ' b0,F',by rw[Cf,ae,VF];simp only[bP.len];rw[x'];rfl,a_.hS,λr VG=>?_,λau=>?_,λau=>?_,a_.ep.os,a_.ep.tape,a_.ep.output,a_.size,a_.eG⟩
  · rcases a_.hh r VG with cT | cT
    · exact .inl cT
    · exact .inr ⟨Nat.le_of_not_lt cT,a_.da r VG⟩
  · have:=E au
    rw[x']at this
    exact this
  · have af:=a_.own b0 (by rw[x1];simp[bP.bY,au])
    obtain⟨cs,T,bC,c2,c3,c4,c5⟩:=U au
    rw[x']at c3 c5
    exact⟨⟨Nat.le_of_not_lt af.2.2,af.1,af.2.1⟩,cs,T,bC,c2,c3,c4,c5⟩
end Go.Fer
namespace Go.Fer
open A (V)
abbrev bz:Type:=z2'×List (List (Int×z1'×Int×Int))×Int×z2'
abbrev qS:Type:=bz×List (z1')
abbrev e'(l:z4')(a b:Int):z4':=lN (k:=.int .i64) (v:=.int .i64) l a b
abbrev vY(l:z5')(a:Int×Int×Int)(b:Int):z5':=lN (k:=.st (.az (.int .i64) (.az (.int .i64) (.int .i64)))) (v:=.int .i64) l a b
def N1(ly:Int×Int×Int->A Bool)(x:bz×Int):A Bool:=
 A.bind (ly (x.2,0,IntKind.wrap .i64 (Int.ofNat (List.length x.1.1)-1))) λy=>A.pure y
def H6(ly:Int×Int×Int->A Bool)(ajJ:bz×Int->A Bool)(x:bz×Int×Int):A Bool:=
 A.bind (ajJ (x.1,x.2.1)) λy=>A.ad (y=true->(y=true/\y=true)/\(0<=x.2.1/\x.2.1<Int.ofNat (List.length x.1.2.1))/\True) (A.bind (ct y (ly (x.2.2,0,IntKind.wrap .i64 (Int.ofNat (List.length (List.getD x.1.2.1 (Int.toNat x.2.1) []))-1))) false) (λb3=>A.pure (y&&b3)))
def N2(ajK:z2'×List (List (Int×z1'×Int×Int))×Int×z2'->A Bool)(x:z2'×List (List (Int×z1'×Int×Int))×Int×z2'):A Int:=
 A.bind (ajK x) λy=>if (!y)=true then A.pure 70 else A.bind (A.loop (λ(D:Int×bz×Unit)=>if decide (D.1<Int.ofNat (List.length D.2.1.2.2.2))=true then A.bind (A.loop (λ(D:Int×Int×bz×Unit)=>letI d:=D.2.2.1.2.2.2;letI c:=Int.ofNat (List.length d);letI b:=List.getD d (Int.toNat D.1) (0,0,0,0);letI a:=List.getD d (Int.toNat D.2.1) (0,0,0,0);if decide (D.2.1<D.1)=true then A.ad (0<=D.2.1/\D.2.1<c) (A.ad (0<=D.1/\D.1<c) (if (decide (a.1=b.1)&&decide (a.2.1=b.2.1)&&decide (a.2.2.1=b.2.2.1)&&decide (a.2.2.2≠b.2.2.2))=true then A.bind (A.bind (A.bind (A.bind (A.pure 71) (λr=>A.pure (V.done r))) (λr=>A.pure (V.done r))) (λr=>A.pure (V.done r))) λr=>A.pure (V.done r) else A.pure (V.next (D.1,IntKind.wrap .i64 (Add.add D.2.1 1),D.2.2.1,())))) else A.bind (A.pure (V.next (D.1,D.2.2.1,()))) λr=>A.pure (V.done r)) (D.1,0,D.2.1,())) (V.bD (λ(D:Int×bz×Unit)=>A.pure (V.next (IntKind.wrap .i64 (Add.add D.1 1),D.2.1,())))) else A.bind (A.pure (V.next ())) λr=>A.pure (V.done r)) (0,x,())) (V.bD (λ(D:Unit)=>A.pure 0))
def VH(ajL:z1'×Int->A Bool)(ly:Int×Int×Int->A Bool)(x:bz×Int×Int×Int×Int):A Bool:=
 letI e:=x.2.2.2;letI c:=List.getD x.1.2.1 (Int.toNat e.1) [];letI b:=List.getD x.1.1 (Int.toNat x.2.1) (0,0,0,0);letI a:=List.getD c (Int.toNat e.2) (0,[],0,0);letI d:=decide (b.1=a.1);A.ad (0<=x.2.1/\x.2.1<Int.ofNat (List.length x.1.1)) (A.ad (0<=e.1/\e.1<Int.ofNat (List.length x.1.2.1)) (A.ad (0<=e.2/\e.2<Int.ofNat (List.length c)) (A.bind (ct d (ajL (a.2.1,b.2.1)) false) (λy=>A.bind (ct (d&&y) (ly (x.2.2.1,a.2.2.1,IntKind.wrap .i64 (Add.add a.2.2.2 x.1.2.2.1))) false) λb3=>A.pure (d&&y&&b3)))))
def N3(x:z1'):A Bool:=
 A.bind (A.loop (λ(D:z1'×Int×Unit)=>letI c:=D.2.1;letI b:=IntKind.wrap .i64 (c-1);letI a:=Int.ofNat (List.length D.1);if decide (c<a)=true then A.ad (0<=c/\c<a) (A.ad (0<=b/\b<a) (if decide (List.getD D.1 (Int.toNat c) 0<=List.getD D.1 (Int.toNat b) 0)=true then A.bind (A.bind (A.pure false) (λr=>A.pure (V.done r))) λr=>A.pure (V.done r) else A.pure (V.next (D.1,IntKind.wrap .i64 (Add.add c 1),())))) else A.bind (A.pure (V.next ())) λr=>A.pure (V.done r)) (x,1,())) (V.bD (λ(D:Unit)=>A.pure true))
def ajM(x:Int×Int×Int):A Bool:=
 A.pure (decide (x.1>=x.2.1)&&decide (x.1<=x.2.2))
def N4(ly:Int×Int×Int->A Bool)(x:bz×Int):A Bool:=
 A.bind (ly (x.2,0,IntKind.wrap .i64 (Int.ofNat (List.length x.1.2.1)-1))) λy=>A.pure y
def N5(ajN:bz×Int->A Bool)(ajO:bz×Int×Int->A Bool)(ly:Int×Int×Int->A Bool)(N6:Int×Int->A Bool)(ajP:Int×z1'×Int×Int->A Bool)(x:z2'×List (List (Int×z1'×Int×Int))×Int×z2'):A Bool:=
 letI c:=decide (Int.ofNat (List.length x.1) > 10)||decide (Int.ofNat (List.length x.2.1) > 6);A.bind (ct (!c) (ly (x.2.2.1,0,99)) false) λy=>if (c||!y||decide (Int.ofNat (List.length x.2.2.2) > 30))=true then A.pure false else A.bind (A.loop (λ(D:Int×bz×Unit)=>letI h:=D.1<Int.ofNat (List.length D.2.1.1);letI b:=List.getD D.2.1.1 (Int.toNat D.1) (0,0,0,0);if decide h=true then A.ad (0<=D.1/\h) (A.bind (ly (b.1,0,9)) (λy=>A.bind (ct (!(!y)) (ly (b.2.1,0,9)) false) λb3=>A.bind (ct (!(!y||!b3)) (N6 b.2.2) false) λdK=>if (!y||!b3||!dK)=true then A.bind (A.bind (A.pure false) (λr=>A.pure (V.done r))) λr=>A.pure (V.done r) else A.pure (V.next (IntKind.wrap .i64 (Add.add D.1 1),D.2.1,())))) else A.bind (A.pure (V.next (D.2.1,()))) λr=>A.pure (V.done r)) (0,x,())) (V.bD (λ(D:bz×Unit)=>A.bind (A.loop (λ(D:Int×bz×Unit)=>letI g:=D.1<Int.ofNat (List.length D.2.1.2.1);if decide g=true then A.bind (A.ad (0<=D.1/\g) (if decide (Int.ofNat (List.length (List.getD D.2.1.2.1 (Int.toNat D.1) [])) > 4)=true then A.bind (A.bind (A.bind (A.pure false) (λr=>A.pure (V.done r))) (λr=>A.pure (V.done r))) λr=>A.pure (V.done r) else A.loop (λ(D:Int×Int×bz×Unit)=>letI j:=D.2.2.1;letI e:=0<=D.1/\D.1<Int.ofNat (List.length j.2.1);letI d:=List.getD j.2.1 (Int.toNat D.1) [];letI i:=D.2.1<Int.ofNat (List.length d);A.ad e (if decide i=true then A.ad e (A.ad (0<=D.2.1/\i) (A.bind (ajP (List.getD d (Int.toNat D.2.1) (0,[],0,0))) (λy=>if (!y)=true then A.bind (A.bind (A.bind (A.bind (A.pure false) (λr=>A.pure (V.done r))) (λr=>A.pure (V.done r))) (λr=>A.pure (V.done r))) λr=>A.pure (V.done r) else A.pure (V.next (D.1,IntKind.wrap .i64 (Add.add D.2.1 1),j,()))))) else A.bind (A.pure (V.next (D.1,j,()))) λr=>A.pure (V.done r))) (D.1,0,D.2.1,()))) (V.bD (λ(D:Int×bz×Unit)=>A.pure (V.next (IntKind.wrap .i64 (Add.add D.1 1),D.2.1,())))) else A.bind (A.pure (V.next (D.2.1,()))) λr=>A.pure (V.done r)) (0,D.1,())) (V.bD (λ(D:bz×Unit)=>A.bind (A.loop (λ(D:Int×bz×Unit)=>letI f:=D.1<Int.ofNat (List.length D.2.1.2.2.2);letI a:=List.getD D.2.1.2.2.2 (Int.toNat D.1) (0,0,0,0);if decide f=true then A.ad (0<=D.1/\f) (A.bind (ajN (D.2.1,a.1)) (λy=>A.bind (ct (!(!y)) (ajO (D.2.1,a.2.1,a.2.2.1)) false) λb3=>A.bind (ct (!(!y||!b3)) (ly (a.2.2.2,0,1)) false) λdK=>if (!y||!b3||!dK)=true then A.bind (A.bind (A.pure false) (λr=>A.pure (V.done r))) λr=>A.pure (V.done r) else A.pure (V.next (IntKind.wrap .i64 (Add.add D.1 1),D.2.1,())))) else A.bind (A.pure (V.next ())) λr=>A.pure (V.done r)) (0,D.1,())) (V.bD (λ(D:Unit)=>A.pure true))))))
def N7(ly:Int×Int×Int->A Bool)(x:Int×Int):A Bool:=
 A.bind (ly (x.1,0,x.2)) λy=>A.pure (y&&decide (x.2<=999))
def N8(ajQ:z1'->A Bool)(ly:Int×Int×Int->A Bool)(N6:Int×Int->A Bool)(x:Int×z1'×Int×Int):A Bool:=
 A.bind (A.loop (λ(D:Int×(Int×z1'×Int×Int)×Unit)=>letI b:=D.1<Int.ofNat (List.length D.2.1.2.1);if decide b=true then A.ad (0<=D.1/\b) (A.bind (ly (List.getD D.2.1.2.1 (Int.toNat D.1) 0,0,9)) (λy=>if (!y)=true then A.bind (A.bind (A.pure false) (λr=>A.pure (V.done r))) λr=>A.pure (V.done r) else A.pure (V.next (IntKind.wrap .i64 (Add.add D.1 1),D.2.1,())))) else A.bind (A.pure (V.next (D.2.1,()))) λr=>A.pure (V.done r)) (0,x,())) (V.bD (λ(D:(Int×z1'×Int×Int)×Unit)=>A.bind (ly (D.1.1,0,9)) λy=>letI a:=y&&decide (Int.ofNat (List.length D.1.2.1)<=4);A.bind (ct a (ajQ D.1.2.1) false) λb3=>A.bind (ct (a&&b3) (N6 D.1.2.2) false) λdK=>A.pure (a&&b3&&dK)))
def VI(ayI:Int×Int->A (Int×Int))(ajR:Int×Int->A (Int×Int))(x:Int×Int):A (Int×Int):=
 A.bind (ajR x) λy=>A.pure y
def VJ(ajS:z1'×Int->A Int)(x:z1'×Int):A Bool:=
 A.bind (ajS x) λy=>A.pure (decide (y>=0))
def VK(x:Int×Int):A (Int×Int):=
 A.ad ((0:Int)<=32) (A.ad ((0:Int)<=32) (A.ad ((0:Int)<=32) (A.ad ((0:Int)<=32) (A.ad ((0:Int)<=32) (A.pure (IntKind.wrap .u64 (Add.add (IntKind.wrap .u64 (Add.add (IntKind.wrap .u64 (jl .u64 x.1 32*jl .u64 x.2 32)) (jl .u64 (IntKind.wrap .u64 (Add.add (IntKind.wrap .u64 (jl .u64 x.1 32*lM .u64 x.2 4294967295)) (jl .u64 (IntKind.wrap .u64 (lM .u64 x.1 4294967295*lM .u64 x.2 4294967295)) 32))) 32))) (jl .u64 (IntKind.wrap .u64 (Add.add (lM .u64 (IntKind.wrap .u64 (Add.add (IntKind.wrap .u64 (jl .u64 x.1 32*lM .u64 x.2 4294967295)) (jl .u64 (IntKind.wrap .u64 (lM .u64 x.1 4294967295*lM .u64 x.2 4294967295)) 32))) 4294967295) (IntKind.wrap .u64 (lM .u64 x.1 4294967295*jl .u64 x.2 32)))) 32)),IntKind.wrap .u64 (x.1*x.2)))))))
def N9(x:z1'×Int):A Int:=
 A.bind (A.loop (λ(D:z1'×Int×Int×Int×Unit)=>letI a:=D.2.2.2.1;if decide (a<D.2.2.1)=true then A.ad (0<=a/\a<Int.ofNat (List.length D.1)) (if decide (D.2.1=List.getD D.1 (Int.toNat a) 0)=true then A.bind (A.bind (A.pure a) (λr=>A.pure (V.done r))) λr=>A.pure (V.done r) else A.pure (V.next (D.1,D.2.1,D.2.2.1,IntKind.wrap .i64 (Add.add a 1),()))) else A.bind (A.pure (V.next ())) λr=>A.pure (V.done r)) (x.1,x.2,Int.ofNat (List.length x.1),0,())) (V.bD (λ(D:Unit)=>A.pure (-1)))
def N_(ajT:z2'×List (List (Int×z1'×Int×Int))×Int×z2'->A Bool)(x:z2'×List (List (Int×z1'×Int×Int))×Int×z2'):A Int:=
 A.bind (ajT x) λy=>if (!y)=true then A.pure 70 else A.bind (A.loop (λ(D:z2'×Int×Int×z5'×Unit)=>letI c:=D.2.2.1;letI a:=List.getD D.1 (Int.toNat c) (0,0,0,0);letI b:=Option.map (λx=>x.2) (List.find? (λp=>decide (a.1=p.1.1)&&(decide (a.2.1=p.1.2.1)&&decide (a.2.2.1=p.1.2.2))) D.2.2.2.1);if decide (c<D.2.1)=true then A.ad (0<=c/\c<Int.ofNat (List.length D.1)) (if (Option.isSome b&&decide (Option.getD b 0≠a.2.2.2))=true then A.bind (A.bind (A.pure 71) (λr=>A.pure (V.done r))) λr=>A.pure (V.done r) else A.pure (V.next (D.1,D.2.1,IntKind.wrap .i64 (Add.add c 1),vY D.2.2.2.1 (a.1,a.2.1,a.2.2.1) a.2.2.2,()))) else A.bind (A.pure (V.next ())) λr=>A.pure (V.done r)) (x.2.2.2,Int.ofNat (List.length x.2.2.2),0,[],())) (V.bD (λ(D:Unit)=>A.pure 0))
def N'(mH:bz×Bool->A (Option qS×Int))(iw:bz×Int->A Bool)(x:bz×Int):A ((Int×Int)×Int):=
 letI a:=Int.toNat x.2;A.ad (iw x).b1 (A.ad (mH (x.1,A.val (iw x) false)).b1 (if decide ((A.val (mH (x.1,A.val (iw x) false)) (none,0)).2≠0)=true then A.pure ((0,0),(A.val (mH (x.1,A.val (iw x) false)) (none,0)).2) else A.ad (Option.isSome (A.val (mH (x.1,A.val (iw x) false)) (none,0)).1=true) (A.ad (0<=x.2/\x.2<Int.ofNat (List.length (Option.getD (A.val (mH (x.1,A.val (iw x) false)) (none,0)).1 (([],[],0,[]),[])).2)) (A.ad ((0:Int)<=0/\0<Int.ofNat (List.length (List.getD (Option.getD (A.val (mH (x.1,A.val (iw x) false)) (none,0)).1 (([],[],0,[]),[])).2 a []))) (A.ad (0<=IntKind.wrap .i64 (Int.ofNat (List.length (List.getD (Option.getD (A.val (mH (x.1,A.val (iw x) false)) (none,0)).1 (([],[],0,[]),[])).2 a []))-1)/\IntKind.wrap .i64 (Int.ofNat (List.length (List.getD (Option.getD (A.val (mH (x.1,A.val (iw x) false)) (none,0)).1 (([],[],0,[]),[])).2 a []))-1)<Int.ofNat (List.length (List.getD (Option.getD (A.val (mH (x.1,A.val (iw x) false)) (none,0)).1 (([],[],0,[]),[])).2 a []))) (A.pure ((List.getD (List.getD (Option.getD (A.val (mH (x.1,A.val (iw x) false)) (none,0)).1 (([],[],0,[]),[])).2 a []) (Int.toNat 0) 0,List.getD (List.getD (Option.getD (A.val (mH (x.1,A.val (iw x) false)) (none,0)).1 (([],[],0,[]),[])).2 a []) (Int.toNat (IntKind.wrap .i64 (Int.ofNat (List.length (List.getD (Option.getD (A.val (mH (x.1,A.val (iw x) false)) (none,0)).1 (([],[],0,[]),[])).2 a []))-1))) 0),0)))))))
def Oa(mH:bz×Bool->A (Option qS×Int))(iw:bz×Int->A Bool)(yi:bz×Int×Int->A Bool)(ajU:Option qS×Int×Int×Int->A Int)(x:bz×Int×Int×Int):A (Int×Int):=
 letI b:=(x.1,x.2.2);letI a:=(x.1,x.2.1);A.ad (iw a).b1 (A.ad (A.val (iw a) false=true->(A.val (iw a) false=true/\A.val (iw a) false=true/\A.val (iw a) false=true/\True)/\(yi b).b1/\True) (A.ad (True/\(A.val (iw a) false=true->A.val (iw a) false=true)) (A.ad (mH (x.1,A.val (iw a) false&&A.val (yi b) false)).b1 (if decide ((A.val (mH (x.1,A.val (iw a) false&&A.val (yi b) false)) (none,0)).2≠0)=true then A.pure (0,(A.val (mH (x.1,A.val (iw a) false&&A.val (yi b) false)) (none,0)).2) else A.bind (ajU ((A.val (mH (x.1,A.val (iw a) false&&A.val (yi b) false)) (none,0)).1,x.2)) λy=>A.pure (y,0)))))
def VL(o3:Int×Int×Int->A Bool)(ajV:z2'×(Int×Int×Int×Int->A Bool)->A Bool)(ajW:List (List (Int×z1'×Int×Int))×(List (Int×z1'×Int×Int)->A Bool)->A Bool)(Ob:z2'×(Int×Int×Int×Int->A Bool)->A Bool)(ajX:List (Int×z1'×Int×Int)×Option (Int×z1'×Int×Int->A Bool)->A Bool)(ajY:(Int×Int×Int×Int)×Option bz->A Bool)(ajZ:Int×Int×Int×Int->A Bool)(aj0:Int×z1'×Int×Int->A Bool)(x:z2'×List (List (Int×z1'×Int×Int))×Int×z2'):A Bool:=
 letI c:=decide (Int.ofNat (List.length x.1)<=10);A.bind (ct c (ajV (x.1,ajZ)) false) λy=>letI a:=c&&y&&decide (Int.ofNat (List.length x.2.1)<=6);A.bind (ct a (ajW (x.2.1,λx=>ajX (x,some aj0))) false) λb3=>A.bind (ct (a&&b3) (o3 (x.2.2.1,0,99)) false) λdK=>letI b:=a&&b3&&dK&&decide (Int.ofNat (List.length x.2.2.2)<=30);A.bind (ct b (Ob (x.2.2.2,λhA=>ajY (hA,some x))) false) λga=>A.pure (b&&ga)
def Oc(Ed:z2'×List (List (Int×z1'×Int×Int))×Int×z2'->A Int)(Ob:z2'×(Int×Int×Int×Int->A Bool)->A Bool)(aj1:(Int×Int×Int×Int)×Option Int×Option bz×Option Int->A Bool)(x:bz×Bool):A (Option qS×Int):=
 A.bind (Ed x.1) λy=>if decide (y≠0)=true then A.pure (none,y) else if (!x.2)=true then A.pure (none,1) else A.bind (A.loop (λ(D:z2'×Int×Int×bz×z2'×List (List (Int×z1'×Int×Int))×Int×z2'×List (z1')×Unit)=>letI i:=D.2.2.1;letI g:=List.getD D.1 (Int.toNat i) (0,0,0,0);letI c:=D.2.2.2.2;if decide (i<D.2.1)=true then A.bind (A.ad (0<=i/\i<Int.ofNat (List.length D.1)) (A.bind (A.loop (λ(D:z2'×Int×Int×bz×Int×(Int×Int×Int×Int)×z1'×Int×z2'×List (List (Int×z1'×Int×Int))×Int×z2'×List (z1')×Unit)=>letI d:=D.2.2.2;letI a:=d.2.2.2;letI j:=a.2.2;letI e:=j.2.2;if decide (a.2.1<=d.2.2.1.2.2.2)=true then A.bind (A.bind (Ob (d.1.2.2.2,λx=>aj1 (x,some d.2.1,some d.1,some a.2.1))) (λy=>if y=true then A.ad (b9 (Add.add (List.length a.1) (Add.add 0 1))) (A.pure (V.next (D.1,D.2.1,D.2.2.1,d.1,d.2.1,d.2.2.1,a.1++[a.2.1],a.2.1,j.1,j.2.1,e.1,e.2.1,e.2.2.1,()))) else A.pure (V.next (D.1,D.2.1,D.2.2.1,d.1,d.2.1,d.2.2.1,a.1,a.2.1,j.1,j.2.1,e.1,e.2.1,e.2.2.1,())))) (V.bD (λ(D:z2'×Int×Int×bz×Int×(Int×Int×Int×Int)×z1'×Int×z2'×List (List (Int×z1'×Int×Int))×Int×z2'×List (z1')×Unit)=>letI k:=D.2.2.2;letI b:=k.2.2.2;A.pure (V.next (D.1,D.2.1,D.2.2.1,k.1,k.2.1,k.2.2.1,b.1,IntKind.wrap .i64 (Add.add b.2.1 1),b.2.2.1,b.2.2.2.1,b.2.2.2.2.1,b.2.2.2.2.2.1,b.2.2.2.2.2.2.1,())))) else A.bind (A.pure (V.next (D.1,D.2.1,D.2.2.1,d.1,a.1,j.1,j.2.1,e.1,e.2.1,e.2.2.1,()))) λr=>A.pure (V.done r)) (D.1,D.2.1,i,D.2.2.2.1,i,g,[],g.2.2.1,c.1,c.2.1,c.2.2.1,c.2.2.2.1,c.2.2.2.2.1,())) (V.bD (λ(D:z2'×Int×Int×bz×z1'×z2'×List (List (Int×z1'×Int×Int))×Int×z2'×List (z1')×Unit)=>letI f:=D.2.2.2.2;if decide (Int.ofNat (List.length f.1)=0)=true then A.bind (A.bind (A.bind (A.pure (none,3)) (λr=>A.pure (V.done r))) (λr=>A.pure (V.done r))) λr=>A.pure (V.done r) else A.ad True (A.ad (b9 (Add.add (List.length f.2.2.2.2.2.1) (Add.add 0 1))) (A.ad True (A.pure (V.next (D.1,D.2.1,D.2.2.1,D.2.2.2.1,f.2.1,f.2.2.1,f.2.2.2.1,f.2.2.2.2.1,f.2.2.2.2.2.1++[f.1],()))))))))) (V.bD (λ(D:z2'×Int×Int×bz×z2'×List (List (Int×z1'×Int×Int))×Int×z2'×List (z1')×Unit)=>letI h:=D.2.2.2.2;A.pure (V.next (D.1,D.2.1,IntKind.wrap .i64 (Add.add D.2.2.1 1),D.2.2.2.1,h.1,h.2.1,h.2.2.1,h.2.2.2.1,h.2.2.2.2.1,())))) else A.bind (A.pure (V.next (c.1,c.2.1,c.2.2.1,c.2.2.2.1,c.2.2.2.2.1,()))) λr=>A.pure (V.done r)) (x.1.1,Int.ofNat (List.length x.1.1),0,x.1,x.1.1,x.1.2.1,x.1.2.2.1,x.1.2.2.2,[],())) (V.bD (λ(D:z2'×List (List (Int×z1'×Int×Int))×Int×z2'×List (z1')×Unit)=>A.pure (some ((D.1,D.2.1,D.2.2.1,D.2.2.2.1),D.2.2.2.2.1),0)))
def aj2(o3:Int×Int×Int->A Bool)(x:bz×Int):A Bool:=
 A.bind (o3 (x.2,0,IntKind.wrap .i64 (Int.ofNat (List.length x.1.1)-1))) λy=>A.pure y
def VM(o3:Int×Int×Int->A Bool)(x:bz×Int×Int):A Bool:=
 letI a:=Int.ofNat (List.length x.1.2.1);A.bind (o3 (x.2.1,0,IntKind.wrap .i64 (a-1))) λy=>A.ad (y=true->(y=true/\y=true)/\(0<=x.2.1/\x.2.1<a)/\True) (A.bind (ct y (o3 (x.2.2,0,IntKind.wrap .i64 (Int.ofNat (List.length (List.getD x.1.2.1 (Int.toNat x.2.1) []))-1))) false) (λb3=>A.pure (y&&b3)))
def Od(H7:bz×Int×Int×Int×Int->A Bool)(aj3:Int×Int->A Int)(x:Option qS×Int×Int×Int):A Int:=
 letI b:=(Option.getD x.1 (([],[],0,[]),[])).2;letI e:=List.getD b (Int.toNat x.2.1) [];A.bind (A.ad (Option.isSome x.1=true) (A.ad (0<=x.2.1/\x.2.1<Int.ofNat (List.length b)) (A.loop (λ(D:Option qS×Int×Int×Int×Int×z1'×Int×Int×Unit)=>letI c:=D.2.2.2;letI a:=c.2.2;letI f:=a.2.2.1;if decide (f<a.2.1)=true then A.bind (A.ad (0<=f/\f<Int.ofNat (List.length a.1)) (A.ad (Option.isSome D.1=true) (A.bind (H7 ((Option.getD D.1 (([],[],0,[]),[])).1,D.2.1,List.getD a.1 (Int.toNat f) 0,D.2.2.1,c.1)) (λy=>if y=true then A.pure (V.next (D.1,D.2.1,D.2.2.1,c.1,IntKind.wrap .i64 (Add.add c.2.1 1),a.1,a.2.1,f,())) else A.pure (V.next (D.1,D.2.1,D.2.2.1,c.1,c.2.1,a.1,a.2.1,f,())))))) (V.bD (λ(D:Option qS×Int×Int×Int×Int×z1'×Int×Int×Unit)=>letI g:=D.2.2.2;A.pure (V.next (D.1,D.2.1,D.2.2.1,g.1,g.2.1,g.2.2.1,g.2.2.2.1,IntKind.wrap .i64 (Add.add g.2.2.2.2.1 1),())))) else A.bind (A.pure (V.next (D.1,D.2.1,c.2.1,()))) λr=>A.pure (V.done r)) (x.1,x.2.1,x.2.2.1,x.2.2.2,0,e,Int.ofNat (List.length e),0,())))) (V.bD (λ(D:Option qS×Int×Int×Unit)=>letI d:=(Option.getD D.1 (([],[],0,[]),[])).2;A.ad (Option.isSome D.1=true) (A.ad (0<=D.2.1/\D.2.1<Int.ofNat (List.length d)) (A.bind (aj3 (D.2.2.1,Int.ofNat (List.length (List.getD d (Int.toNat D.2.1) [])))) (λy=>A.pure y)))))
def aj4(x:z1'):A Bool:=
 A.bind (A.loop (λ(D:z1'×Int×Unit)=>letI c:=D.2.1;letI b:=IntKind.wrap .i64 (c-1);letI a:=Int.ofNat (List.length D.1);if decide (c<a)=true then A.ad (0<=c/\c<a) (A.ad (0<=b/\b<a) (if decide (List.getD D.1 (Int.toNat c) 0<=List.getD D.1 (Int.toNat b) 0)=true then A.bind (A.bind (A.pure false) (λr=>A.pure (V.done r))) λr=>A.pure (V.done r) else A.pure (V.next (D.1,IntKind.wrap .i64 (Add.add c 1),())))) else A.bind (A.pure (V.next ())) λr=>A.pure (V.done r)) (x,1,())) (V.bD (λ(D:Unit)=>A.pure true))
def aj5(x:Int×Int×Int):A Bool:=
 A.pure (decide (x.2.1<=x.1)&&decide (x.1<=x.2.2))
def VN(Ee:Int->A Bool)(Oe:Int×Int->A Bool)(x:Int×Int×Int×Int):A Bool:=
 A.bind (Ee x.1) λy=>A.bind (ct y (Ee x.2.1) false) λb3=>A.bind (ct (y&&b3) (Oe x.2.2) false) λdK=>A.pure (y&&b3&&dK)
def VO(o3:Int×Int×Int->A Bool)(x:Int):A Bool:=
 A.bind (o3 (x,0,9)) λy=>A.pure y
def aj6(o3:Int×Int×Int->A Bool)(x:Int×Int):A Bool:=
 A.bind (o3 (x.1,0,x.2)) λy=>A.pure (y&&decide (x.2<=999))
def VP(aj7:z1'->A Bool)(aj8:z1'×(Int->A Bool)->A Bool)(Ee:Int->A Bool)(Oe:Int×Int->A Bool)(x:Int×z1'×Int×Int):A Bool:=
 A.bind (Ee x.1) λy=>letI a:=y&&decide (Int.ofNat (List.length x.2.1)<=4);A.bind (ct a (aj8 (x.2.1,Ee)) false) λb3=>A.bind (ct (a&&b3) (aj7 x.2.1) false) λdK=>A.bind (ct (a&&b3&&dK) (Oe x.2.2) false) λga=>A.pure (a&&b3&&dK&&ga)
def VQ(aj9:List (Int×z1'×Int×Int)×(Int×z1'×Int×Int->A Bool)->A Bool)(x:List (Int×z1'×Int×Int)×Option (Int×z1'×Int×Int->A Bool)):A Bool:=
 letI a:=decide (Int.ofNat (List.length x.1)<=4);A.bind (ct a (aj9 (x.1,Option.getD x.2 λx=>{ b1:=False,bQ:=λx=>False })) false) λy=>A.pure (a&&y)
def VR(iw:bz×Int->A Bool)(yi:bz×Int×Int->A Bool)(o3:Int×Int×Int->A Bool)(x:(Int×Int×Int×Int)×Option bz):A Bool:=
 letI a:=Option.getD x.2 ([],[],0,[]);A.bind (iw (a,x.1.1)) λy=>A.bind (ct y (yi (a,x.1.2.1,x.1.2.2.1)) false) λb3=>A.bind (ct (y&&b3) (o3 (x.1.2.2.2,0,1)) false) λdK=>A.pure (y&&b3&&dK)
def VS(H7:bz×Int×Int×Int×Int->A Bool)(x:(Int×Int×Int×Int)×Option Int×Option bz×Option Int):A Bool:=
 letI e:=Option.getD x.2.1 0;letI c:=decide (x.1.1≠e);letI b:=(Option.getD x.2.2.1 ([],[],0,[]),e,Option.getD x.2.2.2 0,x.1.2.1,x.1.2.2.1);letI a:=(!c)=true;letI d:=a->a/\True/\True;A.ad d (A.ad d (A.ad (a->(a/\a/\a/\a/\a/\True)/\(H7 b).b1/\True) (A.ad d (A.ad (a->(a/\True)/\True/\True) (A.ad (a->(a/\a)/\True/\True) (A.ad (True/\(c=false->a)) (A.pure (c||decide (A.val (H7 b) false=decide (x.1.2.2.2=1))))))))))
def VT(o3:Int×Int×Int->A Bool)(hM:z1'×Int->A Bool)(x:bz×Int×Int×Int×Int):A Bool:=
 letI e:=x.2.2.2;letI c:=List.getD x.1.2.1 (Int.toNat e.1) [];letI b:=List.getD x.1.1 (Int.toNat x.2.1) (0,0,0,0);letI a:=List.getD c (Int.toNat e.2) (0,[],0,0);letI d:=decide (b.1=a.1);A.ad (0<=x.2.1/\x.2.1<Int.ofNat (List.length x.1.1)) (A.ad (0<=e.1/\e.1<Int.ofNat (List.length x.1.2.1)) (A.ad (0<=e.2/\e.2<Int.ofNat (List.length c)) (A.bind (ct d (hM (a.2.1,b.2.1)) false) (λy=>A.bind (ct (d&&y) (o3 (x.2.2.1,a.2.2.1,IntKind.wrap .i64 (Add.add a.2.2.2 x.1.2.2.1))) false) λb3=>A.pure (d&&y&&b3)))))
def VU(x:Int×Int):A Int:=
 if decide (x.1=x.2)=true then A.pure 1 else if decide (x.1=0)=true then A.pure 2 else A.pure 3
def Of(Og:z2'×List (List (Int×z1'×Int×Int))×Int×z2'->A Int)(x:z2'×List (List (Int×z1'×Int×Int))×Int×z2'):A Bool:=
 if (decide (Int.ofNat (List.length x.1) > 40)||decide (Int.ofNat (List.length x.2.1) > 40)||decide (Int.ofNat (List.length x.2.2.2) > 60))=true then A.pure true else A.bind (A.loop (λ(D:Int×bz×Unit)=>letI e:=D.1<Int.ofNat (List.length D.2.1.2.1);if decide e=true then A.bind (A.ad (0<=D.1/\e) (if decide (Int.ofNat (List.length (List.getD D.2.1.2.1 (Int.toNat D.1) [])) > 20)=true then A.bind (A.bind (A.bind (A.pure true) (λr=>A.pure (V.done r))) (λr=>A.pure (V.done r))) λr=>A.pure (V.done r) else A.loop (λ(D:Int×Int×bz×Unit)=>letI g:=D.2.2.1;letI c:=0<=D.1/\D.1<Int.ofNat (List.length g.2.1);letI a:=List.getD g.2.1 (Int.toNat D.1) [];letI f:=D.2.1<Int.ofNat (List.length a);A.ad c (if decide f=true then A.ad c (A.ad (0<=D.2.1/\f) (if decide (Int.ofNat (List.length (List.getD a (Int.toNat D.2.1) (0,[],0,0)).2.1) > 20)=true then A.bind (A.bind (A.bind (A.bind (A.pure true) (λr=>A.pure (V.done r))) (λr=>A.pure (V.done r))) (λr=>A.pure (V.done r))) λr=>A.pure (V.done r) else A.pure (V.next (D.1,IntKind.wrap .i64 (Add.add D.2.1 1),g,())))) else A.bind (A.pure (V.next (D.1,g,()))) λr=>A.pure (V.done r))) (D.1,0,D.2.1,()))) (V.bD (λ(D:Int×bz×Unit)=>A.pure (V.next (IntKind.wrap .i64 (Add.add D.1 1),D.2.1,())))) else A.bind (A.pure (V.next (D.2.1,()))) λr=>A.pure (V.done r)) (0,x,())) (V.bD (λ(D:bz×Unit)=>A.bind (Og D.1) λy=>if decide (y≠0)=true then A.pure false else A.bind (A.loop (λ(D:Int×bz×Unit)=>letI d:=(List.getD D.2.1.1 (Int.toNat D.1) (0,0,0,0)).2.2;letI b:=D.1<Int.ofNat (List.length D.2.1.1);if decide b=true then A.ad (0<=D.1/\b) (A.ad (0<=D.1/\b) (if decide (IntKind.wrap .i64 (d.2-d.1)>=50)=true then A.bind (A.bind (A.pure true) (λr=>A.pure (V.done r))) λr=>A.pure (V.done r) else A.pure (V.next (IntKind.wrap .i64 (Add.add D.1 1),D.2.1,())))) else A.bind (A.pure (V.next (D.2.1,()))) λr=>A.pure (V.done r)) (0,D.1,())) (V.bD (λ(D:bz×Unit)=>A.pure (decide (Int.ofNat (List.length D.1.1) > 6)||decide (Int.ofNat (List.length D.1.2.1) > 4)||decide (Int.ofNat (List.length D.1.2.2.2) > 10))))))
def aj_(x:Unit):A bz:=
 A.pure ([(1,2,300,310),(1,3,305,305),(2,1,50,60),(1,2,320,330)],[[(1,[2,3],300,306),(2,[1],40,58)],[(1,[2],310,326)]],5,[(0,1,0,0)])
abbrev dx:Type:=Int×Int×Int×Int×z1'
abbrev dL:Type:=z1'×(Int×Int)×Int×Int×Int
abbrev Ef:Type:=Int×Int×Int
abbrev bI:Type:=bz×z1'×List dx×List dL×List Ef×Int
abbrev dv:Type:=bI×z4'×z5'
def VV(aj':bI×Bool->A (Int×Int))(x:bI):A (Int×Int):=
 A.bind (aj' (x,true)) λy=>A.pure y
def VW(o4:bI×Bool->A (Option dv×Int))(aka:Option dv->Prop)(akb:Option dv->List (z1'))(Oh:Option dv×z1'->A (z3'×Bool))(akc:Option dv×z3'->A Bool)(Oi:Option dv×z3'->A Int)(x:bI):A (Int×Int):=
 A.bind (o4 (x,true)) λy=>if decide (y.2≠0)=true then A.pure (0,y.2) else A.ad (aka y.1) (A.bind (jQ (λ(D:Option (bI×z4'×z5')×Int×Unit) (y:z1')=>A.bind (A.bind (Oh (D.1,y)) (λb3=>A.bind (ct (!(!b3.2)) (akc (D.1,b3.1)) false) λdK=>if (!b3.2||!dK)=true then A.pure (di.normal,D.1,D.2.1,()) else A.bind (Oi (D.1,b3.1)) λga=>if (decide (D.2.1=-1)||decide (ga<D.2.1))=true then A.pure (di.normal,D.1,ga,()) else A.pure (di.normal,D.1,D.2.1,()))) λp=>A.pure (p.1,p.2.1,p.2.2.1,())) (akb y.1) (y.1,-1,())) (λp=>letI a:=decide (p.2.2.1=-1)=true;sI (if a then A.pure (0,3) else A.pure (p.2.2.1,0)) (λid=>if id=0 then if a then A.pure (0,3) else A.pure (p.2.2.1,0) else A.fail) A.fail p.1))
def VX(o4:bI×Bool->A (Option dv×Int))(Eg:bI×Int->A Bool)(Oj:z1'×Int×Unit->A (z1'×Unit))(AS:Option dv×z1'->A Bool)(x:bI×Int):A (z1'×Int):=
 A.ad (Eg x).b1 (A.ad (o4 (x.1,A.val (Eg x) false)).b1 (if decide ((A.val (o4 (x.1,A.val (Eg x) false)) (none,0)).2≠0)=true then A.pure ([],(A.val (o4 (x.1,A.val (Eg x) false)) (none,0)).2) else A.bind (Oj ([-1],Int.ofNat (List.length x.1.2.2.2.1),())) λy=>A.bind (A.loop (λ(D:Int×Option ((bz×z1'×List dx×List dL×z3'×Int)×z4'×z5')×Int×Int×z1'×z1'×Unit)=>letI b:=D.2.2.2;letI a:=List.set b.2.2.1 (Int.toNat D.1) b.1;if decide (b.1<D.2.2.1)=true then A.bind (A.ad (0<=D.1/\D.1<Int.ofNat (List.length b.2.2.1)) (A.bind (AS (D.2.1,a)) (λy=>if y=true then A.ad (b9 (Add.add (List.length b.2.1) (Add.add 0 1))) (A.pure (V.next (D.1,D.2.1,D.2.2.1,b.1,b.2.1++[b.1],a,()))) else A.pure (V.next (D.1,D.2.1,D.2.2.1,b.1,b.2.1,a,()))))) (V.bD (λ(D:Int×Option ((bz×z1'×List dx×List (z1'×(Int×Int)×Int×Int×Int)×z3'×Int)×z4'×z5')×Int×Int×z1'×z1'×Unit)=>A.pure (V.next (D.1,D.2.1,D.2.2.1,IntKind.wrap .i64 (Add.add D.2.2.2.1 1),D.2.2.2.2.1,D.2.2.2.2.2.1,())))) else A.bind (A.pure (V.next (b.2.1,()))) λr=>A.pure (V.done r)) (x.2,(A.val (o4 (x.1,A.val (Eg x) false)) (none,0)).1,Int.ofNat (List.length x.1.2.2.1),0,[],y.1,())) (V.bD (λ(D:z1'×Unit)=>A.pure (D.1,0)))))
def VY(Ed:z2'×List (List (Int×z1'×Int×Int))×Int×z2'->A Int)(akd:bI->A Bool)(x:bI):A Int:=
 A.bind (Ed x.1) λy=>if decide (y≠0)=true then A.pure y else A.bind (akd x) λy=>if (!y)=true then A.pure 80 else A.pure 0
def VZ(Og:z2'×List (List (Int×z1'×Int×Int))×Int×z2'->A Int)(oe:Int×Int×Int->A Bool)(V0:bI×Int×Int×Int×Int×z1'->A Bool)(ake:z1'×(Int×Int)×Int×Int×Int->A Bool)(x:bI):A Int:=
 letI a:=decide (Int.ofNat (List.length x.2.1)≠Int.ofNat (List.length x.1.1))||decide (Int.ofNat (List.length x.2.2.1) > 8)||decide (Int.ofNat (List.length x.2.2.2.1) > 6)||decide (Int.ofNat (List.length x.2.2.2.2.1) > 8);A.bind (Og x.1) λy=>if decide (y≠0)=true then A.pure y else A.bind (ct (!a) (oe (x.2.2.2.2.2,0,99)) false) λy=>if (a||!y)=true then A.pure 80 else A.bind (A.loop (λ(D:Int×(bz×z1'×List (Int×Int×Int×Int×z1')×List dL×z3'×Int)×Unit)=>letI g:=D.1<Int.ofNat (List.length D.2.1.2.1);if decide g=true then A.ad (0<=D.1/\g) (A.bind (oe (List.getD D.2.1.2.1 (Int.toNat D.1) 0,0,10)) (λy=>if (!y)=true then A.bind (A.bind (A.pure 80) (λr=>A.pure (V.done r))) λr=>A.pure (V.done r) else A.pure (V.next (IntKind.wrap .i64 (Add.add D.1 1),D.2.1,())))) else A.bind (A.pure (V.next (D.2.1,()))) λr=>A.pure (V.done r)) (0,x,())) (V.bD (λ(D:(bz×z1'×List dx×List dL×z3'×Int)×Unit)=>A.bind (A.loop (λ(D:Int×(bz×z1'×List dx×List dL×z3'×Int)×Unit)=>letI f:=D.1<Int.ofNat (List.length D.2.1.2.2.1);letI c:=(D.2.1,List.getD D.2.1.2.2.1 (Int.toNat D.1) (0,0,0,0,[]));if decide f=true then A.ad (0<=D.1/\f) (A.ad (V0 c).b1 (if (!(A.val (V0 c) false))=true then A.bind (A.bind (A.pure 80) (λr=>A.pure (V.done r))) λr=>A.pure (V.done r) else A.pure (V.next (IntKind.wrap .i64 (Add.add D.1 1),D.2.1,())))) else A.bind (A.pure (V.next (D.2.1,()))) λr=>A.pure (V.done r)) (0,D.1,())) (V.bD (λ(D:(bz×z1'×List dx×List (z1'×(Int×Int)×Int×Int×Int)×z3'×Int)×Unit)=>A.bind (A.loop (λ(D:Int×(bz×z1'×List dx×List (z1'×(Int×Int)×Int×Int×Int)×z3'×Int)×Unit)=>letI e:=D.1<Int.ofNat (List.length D.2.1.2.2.2.1);if decide e=true then A.ad (0<=D.1/\e) (A.bind (ake (List.getD D.2.1.2.2.2.1 (Int.toNat D.1) ([],(0,0),0,0,0))) (λy=>if (!y)=true then A.bind (A.bind (A.pure 80) (λr=>A.pure (V.done r))) λr=>A.pure (V.done r) else A.pure (V.next (IntKind.wrap .i64 (Add.add D.1 1),D.2.1,())))) else A.bind (A.pure (V.next (D.2.1,()))) λr=>A.pure (V.done r)) (0,D.1,())) (V.bD (λ(D:(bI)×Unit)=>A.bind (A.loop (λ(D:Int×(bz×z1'×List dx×List dL×z3'×Int)×Unit)=>letI d:=D.1<Int.ofNat (List.length D.2.1.2.2.2.2.1);letI b:=List.getD D.2.1.2.2.2.2.1 (Int.toNat D.1) (0,0,0);if decide d=true then A.ad (0<=D.1/\d) (A.bind (oe (b.1,0,99)) (λy=>A.bind (ct (!(!y)) (oe (b.2.1,0,IntKind.wrap .i64 (Int.ofNat (List.length D.2.1.1.1)-1))) false) λb3=>A.bind (ct (!(!y||!b3)) (oe (b.2.2,1,10)) false) λdK=>if (!y||!b3||!dK)=true then A.bind (A.bind (A.pure 80) (λr=>A.pure (V.done r))) λr=>A.pure (V.done r) else A.pure (V.next (IntKind.wrap .i64 (Add.add D.1 1),D.2.1,())))) else A.bind (A.pure (V.next ())) λr=>A.pure (V.done r)) (0,D.1,())) (V.bD (λ(D:Unit)=>A.pure 0))))))))
def V1(o4:bI×Bool->A (Option dv×Int))(AS:Option dv×z1'->A Bool)(AT:bI×z1'->A Bool)(l5:Option dv×z1'->A Int)(x:bI×z1'):A (Int×Int):=
 A.ad (AT x).b1 (A.ad (o4 (x.1,A.val (AT x) false)).b1 (if decide ((A.val (o4 (x.1,A.val (AT x) false)) (none,0)).2≠0)=true then A.pure (0,(A.val (o4 (x.1,A.val (AT x) false)) (none,0)).2) else A.bind (AS ((A.val (o4 (x.1,A.val (AT x) false)) (none,0)).1,x.2)) λy=>if (!y)=true then A.pure (0,3) else A.bind (l5 ((A.val (o4 (x.1,A.val (AT x) false)) (none,0)).1,x.2)) λy=>A.pure (y,0)))
def V2(o4:bI×Bool->A (Option dv×Int))(akf:Option dv->A (z1'))(l5:Option dv×z1'->A Int)(x:bI×Bool):A (Int×Int):=
 A.bind (o4 x) λy=>if decide (y.2≠0)=true then A.pure (0,y.2) else A.bind (akf y.1) λb3=>A.bind (l5 (y.1,b3)) λy=>A.pure (y,0)
def Ol(Eh:bI->A Int)(H8:bz×Int->A ((Int×Int)×Int))(sZ:bz×Int×Int×Int->A (Int×Int))(AU:z4'×Int->A (z4'))(x:bI×Bool):A (Option dv×Int):=
 letI ey:=x.1.1.2;letI f1:=x.1.2.2;A.bind (Eh x.1) λy=>if decide (y≠0)=true then A.pure (none,y) else if (!x.2)=true then A.pure (none,1) else A.bind (if decide (Int.ofNat (List.length x.1.2.1) > 0)=true then A.bind (H8 (x.1.1,0)) λy=>if decide (y.2≠0)=true then A.bind (A.pure (none,y.2)) λr=>A.pure (V.done r) else A.pure (V.next (x.1,[],x.1.1.1,ey.1,ey.2.1,ey.2.2,x.1.2.1,f1.1,f1.2.1,f1.2.2.1,f1.2.2.2,())) else A.pure (V.next (x.1,[],x.1.1.1,ey.1,ey.2.1,ey.2.2,x.1.2.1,f1.1,f1.2.1,f1.2.2.1,f1.2.2.2,()))) (V.bD (λ(D:(bz×z1'×List dx×List (z1'×(Int×Int)×Int×Int×Int)×z3'×Int)×z5'×z2'×List (List (Int×z1'×Int×Int))×Int×z2'×z1'×List dx×List (z1'×(Int×Int)×Int×Int×Int)×z3'×Int×Unit)=>letI t:=D.2.2.2.2.2;A.bind (A.loop (λ(D:Int×Int×(bz×z1'×List dx×List dL×z3'×Int)×z5'×z2'×List (List (Int×z1'×Int×Int))×Int×z2'×z1'×List dx×List (z1'×(Int×Int)×Int×Int×Int)×z3'×Int×Unit)=>letI bC:=D.2.2;letI h:=bC.2.2.2.2;letI g1:=h.2.2.2;if decide (D.2.1<D.1)=true then A.bind (A.loop (λ(D:Int×Int×Int×List (List (Int×z1'×Int×Int))×Int×Int×(bz×z1'×List dx×List (z1'×(Int×Int)×Int×Int×Int)×z3'×Int)×z5'×z2'×List (List (Int×z1'×Int×Int))×Int×z2'×z1'×List dx×List dL×z3'×Int×Unit)=>letI i1:=D.2.2.2;letI j:=i1.2.2;letI c:=j.2.2.2;letI o:=c.2.2.2.2;if decide (j.1<i1.2.1)=true then A.bind (A.ad (0<=j.1/\j.1<Int.ofNat (List.length i1.1)) (A.loop (λ(D:Int×Int×Int×Int×List (List (Int×z1'×Int×Int))×Int×Int×Int×Int×(bz×z1'×List dx×List dL×z3'×Int)×z5'×z2'×List (List (Int×z1'×Int×Int))×Int×z2'×z1'×List (Int×Int×Int×Int×z1')×List dL×z3'×Int×Unit)=>letI m1:=D.2.2;letI k:=m1.2.2;letI gD:=k.2.2;letI a:=gD.2.2;letI w:=a.2.2.2;letI f:=w.2.2.2;letI d1:=f.2.2.2;if decide (a.1<gD.2.1)=true then A.bind (A.bind (sZ (a.2.1.1,D.1,D.2.1,a.1)) (λy=>if decide (y.1=1)=true then A.ad True (A.ad (True/\True/\True) (A.ad True (A.pure (V.next (D.1,D.2.1,m1.1,m1.2.1,k.1,k.2.1,gD.1,gD.2.1,a.1,a.2.1,vY a.2.2.1 (D.1,D.2.1,a.1) (IntKind.wrap .i64 (Add.add (Option.getD (Option.map (λx=>x.2) (List.find? (λp=>decide (D.1=p.1.1)&&(decide (D.2.1=p.1.2.1)&&decide (a.1=p.1.2.2))) a.2.2.1)) 0) 1)),w.1,w.2.1,w.2.2.1,f.1,f.2.1,f.2.2.1,d1.1,d1.2.1,d1.2.2.1,()))))) else A.pure (V.next (D.1,D.2.1,m1.1,m1.2.1,k.1,k.2.1,gD.1,gD.2.1,a.1,a.2.1,a.2.2.1,w.1,w.2.1,w.2.2.1,f.1,f.2.1,f.2.2.1,d1.1,d1.2.1,d1.2.2.1,())))) (V.bD (λ(D:Int×Int×Int×Int×List (List (Int×z1'×Int×Int))×Int×Int×Int×Int×bI×z5'×z2'×List (List (Int×z1'×Int×Int))×Int×z2'×z1'×List dx×List dL×z3'×Int×Unit)=>letI ax:=D.2.2.2.2.2;letI g:=ax.2.2.2.2;letI z:=g.2.2.2.2.2;A.pure (V.next (D.1,D.2.1,D.2.2.1,D.2.2.2.1,D.2.2.2.2.1,ax.1,ax.2.1,ax.2.2.1,IntKind.wrap .i64 (Add.add ax.2.2.2.1 1),g.1,g.2.1,g.2.2.1,g.2.2.2.1,g.2.2.2.2.1,z.1,z.2.1,z.2.2.1,z.2.2.2.1,z.2.2.2.2.1,z.2.2.2.2.2.1,())))) else A.bind (A.pure (V.next (D.1,m1.1,m1.2.1,k.1,k.2.1,gD.1,a.2.1,a.2.2.1,w.1,w.2.1,w.2.2.1,f.1,f.2.1,f.2.2.1,d1.1,d1.2.1,d1.2.2.1,()))) λr=>A.pure (V.done r)) (D.1,j.1,D.2.1,D.2.2.1,i1.1,i1.2.1,j.1,Int.ofNat (List.length (List.getD i1.1 (Int.toNat j.1) [])),0,j.2.1,j.2.2.1,c.1,c.2.1,c.2.2.1,c.2.2.2.1,o.1,o.2.1,o.2.2.1,o.2.2.2.1,o.2.2.2.2.1,()))) (V.bD (λ(D:Int×Int×Int×List (List (Int×z1'×Int×Int))×Int×Int×(bz×z1'×List dx×List dL×z3'×Int)×z5'×z2'×List (List (Int×z1'×Int×Int))×Int×z2'×z1'×List dx×List (z1'×(Int×Int)×Int×Int×Int)×z3'×Int×Unit)=>letI E:=D.2.2.2.2;letI i:=E.2.2.2.2;letI aQ:=i.2.2.2.2;A.pure (V.next (D.1,D.2.1,D.2.2.1,D.2.2.2.1,E.1,IntKind.wrap .i64 (Add.add E.2.1 1),E.2.2.1,E.2.2.2.1,i.1,i.2.1,i.2.2.1,i.2.2.2.1,aQ.1,aQ.2.1,aQ.2.2.1,aQ.2.2.2.1,aQ.2.2.2.2.1,())))) else A.bind (A.pure (V.next (D.2.1,D.2.2.1,j.2.1,j.2.2.1,c.1,c.2.1,c.2.2.1,c.2.2.2.1,o.1,o.2.1,o.2.2.1,o.2.2.2.1,o.2.2.2.2.1,()))) λr=>A.pure (V.done r)) (D.2.1,D.1,D.2.1,bC.1.1.2.1,Int.ofNat (List.length bC.1.1.2.1),0,bC.1,bC.2.1,bC.2.2.1,bC.2.2.2.1,h.1,h.2.1,h.2.2.1,g1.1,g1.2.1,g1.2.2.1,g1.2.2.2.1,())) (V.bD (λ(D:Int×Int×(bz×z1'×List dx×List (z1'×(Int×Int)×Int×Int×Int)×z3'×Int)×z5'×z2'×List (List (Int×z1'×Int×Int))×Int×z2'×z1'×List dx×List (z1'×(Int×Int)×Int×Int×Int)×z3'×Int×Unit)=>letI jM:=D.2.2.2;letI m:=jM.2.2.2;A.pure (V.next (D.1,IntKind.wrap .i64 (Add.add D.2.1 1),D.2.2.1,jM.1,jM.2.1,jM.2.2.1,m.1,m.2.1,m.2.2.1,m.2.2.2.1,m.2.2.2.2.1,m.2.2.2.2.2.1,m.2.2.2.2.2.2.1,())))) else A.bind (A.pure (V.next (bC.1,bC.2.1,bC.2.2.1,bC.2.2.2.1,h.1,h.2.1,h.2.2.1,g1.1,g1.2.1,g1.2.2.1,g1.2.2.2.1,()))) λr=>A.pure (V.done r)) (Int.ofNat (List.length D.1.2.1),0,D.1,D.2.1,D.2.2.1,D.2.2.2.1,D.2.2.2.2.1,t.1,t.2.1,t.2.2.1,t.2.2.2.1,t.2.2.2.2.1,t.2.2.2.2.2.1,())) (V.bD (λ(D:(bz×z1'×List (Int×Int×Int×Int×z1')×List dL×z3'×Int)×z5'×z2'×List (List (Int×z1'×Int×Int))×Int×z2'×z1'×List (Int×Int×Int×Int×z1')×List dL×z3'×Int×Unit)=>letI u:=D.2.2.2.2.2;A.bind (A.loop (λ(D:z1'×Int×Int×(bz×z1'×List dx×List dL×z3'×Int)×z5'×z2'×List (List (Int×z1'×Int×Int))×Int×z2'×z1'×List (Int×Int×Int×Int×z1')×List dL×z3'×Int×z4'×Unit)=>letI l:=D.2.2;letI pW:=l.2.2.2;letI n:=List.getD D.1 (Int.toNat l.1) 0;letI d:=pW.2.2.2;letI b':=d.2.2.2.2;if decide (l.1<D.2.1)=true then A.ad (0<=l.1/\l.1<Int.ofNat (List.length D.1)) (A.ad True (A.ad (AU ([(l.1,0)],n)).b1 (A.ad (b9 (Add.add (List.length b'.2.2.1) (List.length (A.val (AU ([(l.1,0)],n)) [])))) (A.ad True (A.pure (V.next (D.1,D.2.1,IntKind.wrap .i64 (Add.add l.1 1),l.2.1,l.2.2.1,pW.1,pW.2.1,pW.2.2.1,d.1,d.2.1,d.2.2.1,d.2.2.2.1,b'.1,b'.2.1,b'.2.2.1++A.val (AU ([(l.1,0)],n)) [],()))))))) else A.bind (A.pure (V.next (l.2.1,l.2.2.1,pW.1,pW.2.1,pW.2.2.1,d.1,d.2.1,d.2.2.1,d.2.2.2.1,b'.1,b'.2.1,b'.2.2.1,()))) λr=>A.pure (V.done r)) (D.1.2.1,Int.ofNat (List.length D.1.2.1),0,D.1,D.2.1,D.2.2.1,D.2.2.2.1,D.2.2.2.2.1,u.1,u.2.1,u.2.2.1,u.2.2.2.1,u.2.2.2.2.1,u.2.2.2.2.2.1,[],())) (V.bD (λ(D:(bz×z1'×List dx×List (z1'×(Int×Int)×Int×Int×Int)×z3'×Int)×z5'×z2'×List (List (Int×z1'×Int×Int))×Int×z2'×z1'×List dx×List dL×z3'×Int×z4'×Unit)=>letI q:=D.2.2.2.2.2;A.bind (A.loop (λ(D:z3'×Int×Int×z5'×z2'×List (List (Int×z1'×Int×Int))×Int×z2'×z1'×List (Int×Int×Int×Int×z1')×List dL×z3'×Int×z4'×Unit)=>letI s:=D.2.2;letI dN:=s.2.2.2;letI e:=dN.2.2;letI dr:=e.2.2.2.2;letI b:=List.getD D.1 (Int.toNat s.1) (0,0,0);letI df:=(b.2.1,b.1);if decide (s.1<D.2.1)=true then A.ad (0<=s.1/\s.1<Int.ofNat (List.length D.1)) (A.ad True (A.ad (AU ([df],b.2.2)).b1 (A.ad (b9 (Add.add (List.length dr.2.2.1) (List.length (A.val (AU ([df],b.2.2)) [])))) (A.ad True (A.pure (V.next (D.1,D.2.1,IntKind.wrap .i64 (Add.add s.1 1),s.2.1,s.2.2.1,dN.1,dN.2.1,e.1,e.2.1,e.2.2.1,e.2.2.2.1,dr.1,dr.2.1,dr.2.2.1++A.val (AU ([df],b.2.2)) [],()))))))) else A.bind (A.pure (V.next (s.2.1,s.2.2.1,dN.1,dN.2.1,e.1,e.2.1,e.2.2.1,e.2.2.2.1,dr.1,dr.2.1,dr.2.2.1,()))) λr=>A.pure (V.done r)) (D.1.2.2.2.2.1,Int.ofNat (List.length D.1.2.2.2.2.1),0,D.2.1,D.2.2.1,D.2.2.2.1,D.2.2.2.2.1,q.1,q.2.1,q.2.2.1,q.2.2.2.1,q.2.2.2.2.1,q.2.2.2.2.2.1,q.2.2.2.2.2.2.1,())) (V.bD (λ(D:z5'×z2'×List (List (Int×z1'×Int×Int))×Int×z2'×z1'×List (Int×Int×Int×Int×z1')×List dL×z3'×Int×z4'×Unit)=>letI v:=D.2.2.2.2.2;A.pure (some (((D.2.1,D.2.2.1,D.2.2.2.1,D.2.2.2.2.1),v.1,v.2.1,v.2.2.1,v.2.2.2.1,v.2.2.2.2.1),v.2.2.2.2.2.1,D.1),0)))))))))
def Om(H9:(z1'×(Int×Int)×Int×Int×Int)×Int×Int×Int×Int×z1'->A Int)(x:Option dv×z1'):A (z3'×Bool):=
 A.bind (A.loop (λ(D:Option ((bz×z1'×List dx×List dL×z3'×Int)×z4'×z5')×z1'×Int×Int×z3'×Unit)=>letI l:=D.2;letI g:=Option.isSome D.1=true;letI e:=l.2.2;letI j:=Int.toNat e.1;letI b:=List.getD l.1 j 0;letI a:=(Option.getD D.1 ((([],[],0,[]),[],[],[],[],0),[],[])).1.2.2;letI f:=List.getD a.1 (Int.toNat b) (0,0,0,0,[]);letI d:=List.getD a.2.1 j ([],(0,0),0,0,0);if decide (e.1<l.2.1)=true then A.bind (A.ad (0<=e.1/\e.1<Int.ofNat (List.length l.1)) (if decide (List.getD l.1 j (0:Int)<0)=true then A.pure (V.next (D.1,l.1,l.2.1,e.1,e.2.1,())) else A.ad g (A.ad (0<=e.1/\e.1<Int.ofNat (List.length a.2.1)) (A.ad g (A.ad (0<=b/\b<Int.ofNat (List.length a.1)) (A.bind (A.bind (H9 (d,f)) (λy=>if decide (y=0)=true then A.bind (A.bind (A.bind (A.bind (A.pure ([],false)) (λr=>A.pure (V.done r))) (λr=>A.pure (V.done r))) (λr=>A.pure (V.done r))) λr=>A.pure (V.done r) else if decide (y=2)=true then A.ad g (A.pure (V.next (D.1,IntKind.wrap .i64 (d.2.2.2.1-a.2.2.2),l.1,l.2.1,e.1,e.2.1,f,()))) else A.pure (V.next (D.1,d.2.2.2.1,l.1,l.2.1,e.1,e.2.1,f,())))) (V.bD (λ(D:Option ((bz×z1'×List dx×List (z1'×(Int×Int)×Int×Int×Int)×z3'×Int)×z4'×z5')×Int×z1'×Int×Int×z3'×(Int×Int×Int×Int×z1')×Unit)=>letI h:=D.2.2.2.2;if decide (D.2.1<0)=true then A.bind (A.bind (A.bind (A.pure ([],false)) (λr=>A.pure (V.done r))) (λr=>A.pure (V.done r))) λr=>A.pure (V.done r) else A.loop (λ(D:Option ((bz×z1'×List dx×List dL×z3'×Int)×z4'×z5')×Int×z1'×Int×Int×z1'×Int×Int×z3'×(Int×Int×Int×Int×z1')×Unit)=>letI k:=D.2.2.2;letI c:=k.2.2;letI i:=c.2.2;if decide (i.1<c.2.1)=true then A.ad (0<=i.1/\i.1<Int.ofNat (List.length c.1)) (A.ad (b9 (Add.add (List.length i.2.1) (Add.add 0 1))) (A.pure (V.next (D.1,D.2.1,D.2.2.1,k.1,k.2.1,c.1,c.2.1,IntKind.wrap .i64 (Add.add i.1 1),i.2.1++[(i.2.2.1.2.2.2.1,List.getD c.1 (Int.toNat i.1) 0,D.2.1)],i.2.2.1,())))) else A.bind (A.pure (V.next (D.1,D.2.2.1,k.1,k.2.1,i.2.1,()))) λr=>A.pure (V.done r)) (D.1,D.2.1,D.2.2.1,D.2.2.2.1,h.1,h.2.2.1.2.2.2.2,Int.ofNat (List.length h.2.2.1.2.2.2.2),0,h.2.1,h.2.2.1,()))))))))) (V.bD (λ(D:Option (bI×z4'×z5')×z1'×Int×Int×z3'×Unit)=>A.pure (V.next (D.1,D.2.1,D.2.2.1,IntKind.wrap .i64 (Add.add D.2.2.2.1 1),D.2.2.2.2.1,())))) else A.bind (A.pure (V.next (e.2.1,()))) λr=>A.pure (V.done r)) (x.1,x.2,Int.ofNat (List.length x.2),0,[],())) (V.bD (λ(D:z3'×Unit)=>A.pure (D.1,true)))
def On(H_:Option dv×(Int×Int)×Int×Int×Int->A Bool)(x:Option dv×z3'):A Bool:=
 A.bind (A.loop (λ(D:Option ((bz×z1'×List dx×List dL×z3'×Int)×z4'×z5')×z3'×Int×Int×Unit)=>letI b:=D.2.2.2.1;if decide (b<D.2.2.1)=true then A.bind (A.ad (0<=b/\b<Int.ofNat (List.length D.2.1)) (A.bind (A.ad (Option.isSome D.1=true) (A.loop (λ(D:Option ((bI)×z4'×z5')×Bool×z3'×Int×Int×Int×Int×(Int×Int×Int)×Unit)=>letI a:=D.2.2.2.2;if decide (a.2.2.1<a.2.1)=true then A.bind (ct (!D.2.1) (H_ (D.1,(a.2.2.1,0),a.2.2.2.1)) false) λy=>A.pure (V.next (D.1,D.2.1||y,D.2.2.1,D.2.2.2.1,a.1,a.2.1,IntKind.wrap .i64 (Add.add a.2.2.1 1),a.2.2.2.1,())) else A.bind (A.pure (V.next (D.1,D.2.1,D.2.2.1,D.2.2.2.1,a.1,()))) λr=>A.pure (V.done r)) (D.1,false,D.2.1,D.2.2.1,b,Int.ofNat (List.length (Option.getD D.1 ((([],[],0,[]),[],[],[],[],0),[],[])).1.2.1),0,List.getD D.2.1 (Int.toNat b) (0,0,0),()))) (V.bD (λ(D:Option ((bz×z1'×List dx×List (z1'×(Int×Int)×Int×Int×Int)×z3'×Int)×z4'×z5')×Bool×z3'×Int×Int×Unit)=>if (!D.2.1)=true then A.bind (A.bind (A.bind (A.pure false) (λr=>A.pure (V.done r))) (λr=>A.pure (V.done r))) λr=>A.pure (V.done r) else A.pure (V.next (D.1,D.2.2.1,D.2.2.2.1,D.2.2.2.2.1,())))))) (V.bD (λ(D:Option ((bz×z1'×List (Int×Int×Int×Int×z1')×List dL×z3'×Int)×z4'×z5')×z3'×Int×Int×Unit)=>A.pure (V.next (D.1,D.2.1,D.2.2.1,IntKind.wrap .i64 (Add.add D.2.2.2.1 1),())))) else A.bind (A.pure (V.next ())) λr=>A.pure (V.done r)) (x.1,x.2,Int.ofNat (List.length x.2),0,())) (V.bD (λ(D:Unit)=>A.pure true))
def Oo(Oj:z1'×Int×Unit->A (z1'×Unit))(Oq:Option dv×z3'×Int×z4'×z1'×Unit->A (Bool×z4'×z1'×Unit))(x:Option dv×z3'):A Int:=
 A.ad (Option.isSome x.1=true) (A.bind (Oj ([-1],Int.ofNat (List.length (Option.getD x.1 ((([],[],0,[]),[],[],[],[],0),[],[])).2.1),())) (λy=>A.bind (A.loop (λ(D:Option ((bz×z1'×List dx×List (z1'×(Int×Int)×Int×Int×Int)×z3'×Int)×z4'×z5')×z3'×Int×Int×Int×z1'×Unit)=>letI a:=D.2.2.2;if decide (a.2.1<a.1)=true then A.bind (A.bind (Oq (D.1,D.2.1,a.2.1,[],a.2.2.1,())) (λy=>if (!y.1)=true then A.pure (V.next (D.1,D.2.1,IntKind.wrap .i64 (Add.add D.2.2.1 1),a.1,a.2.1,y.2.2.1,())) else A.pure (V.next (D.1,D.2.1,D.2.2.1,a.1,a.2.1,y.2.2.1,())))) (V.bD (λ(D:Option ((bz×z1'×List (Int×Int×Int×Int×z1')×List dL×z3'×Int)×z4'×z5')×z3'×Int×Int×Int×z1'×Unit)=>A.pure (V.next (D.1,D.2.1,D.2.2.1,D.2.2.2.1,IntKind.wrap .i64 (Add.add D.2.2.2.2.1 1),D.2.2.2.2.2.1,())))) else A.bind (A.pure (V.next (D.2.2.1,()))) λr=>A.pure (V.done r)) (x.1,x.2,0,Int.ofNat (List.length x.2),0,y.1,())) (V.bD (λ(D:Int×Unit)=>A.pure D.1))))
def V3(kK:Int×Int×Int->A Bool)(x:bI×Int):A Bool:=
 A.bind (kK (x.2,0,IntKind.wrap .i64 (Int.ofNat (List.length x.1.2.2.2.1)-1))) λy=>A.pure y
def akg(yj:Int×Int->A (Int×Int))(x:z1'×Int):A (z1'):=
 A.bind (if decide (x.2<0)=true then A.ad False (A.ad False (A.pure (V.next (x.1,x.2,())))) else A.pure (V.next (x.1,x.2,()))) (V.bD (λ(D:z1'×Int×Unit)=>A.bind (yj (IntKind.wrap .u64 (Int.ofNat (List.length D.1)),IntKind.wrap .u64 D.2.1)) λy=>A.bind (if (decide (y.1 > 0)||decide (y.2 > 9223372036854775807))=true then A.ad False (A.ad False (A.pure (V.next (D.1,y.2,())))) else A.pure (V.next (D.1,y.2,()))) (V.bD (λ(D:z1'×Int×Unit)=>letI b:=IntKind.wrap .i64 D.2.1;letI f:=Int.toNat b;letI e:=List.take (List.length (List.replicate f (0:Int))-0) D.1;A.ad (0<=b/\b=b/\b9 f) (A.ad True (A.bind (A.loop (λ(D:Int×z1'×Unit)=>letI g:=Int.toNat D.1;letI c:=List.take g D.2.1;letI a:=Int.ofNat (List.length D.2.1);letI d:=Int.toNat a-g;if decide (D.1<a)=true then A.ad (0<=D.1/\D.1<=a/\a<=a) (A.ad ((0:Int)<=0/\0<=D.1/\D.1<=a) (A.ad True (A.pure (V.next (IntKind.wrap .i64 (Add.add D.1 (Int.ofNat (if d<=List.length c then d else List.length c))),c++List.take d c++List.drop (Add.add g (List.length (List.take d c))) D.2.1,()))))) else A.bind (A.pure (V.next (D.2.1,()))) λr=>A.pure (V.done r)) (Int.ofNat (if List.length (List.replicate f (0:Int))-0<=List.length D.1 then List.length (List.replicate f (0:Int))-0 else List.length D.1),[]++e++List.drop (Add.add 0 (List.length e)) (List.replicate f (0:Int)),())) (V.bD (λ(D:z1'×Unit)=>A.pure D.1))))))))
def V4(Oh:Option dv×z1'->A (z3'×Bool))(Oi:Option dv×z3'->A Int)(x:Option dv×z1'):A Bool:=
 A.bind (Oh x) λy=>A.bind (ct y.2 (Oi (x.1,y.1)) 0) λb3=>A.pure (y.2&&decide (b3=0))
def V5(Ei:Int->A Bool)(Ot:z1'×(Int->A Bool)->A Bool)(akh:List dx×(Int×Int×Int×Int×z1'->A Bool)->A Bool)(aki:List dL×(z1'×(Int×Int)×Int×Int×Int->A Bool)->A Bool)(akj:z3'×(Int×Int×Int->A Bool)->A Bool)(akk:(Int×Int×Int×Int×z1')×Option bz->A Bool)(akl:(Int×Int×Int)×Option bz->A Bool)(akm:z1'×(Int×Int)×Int×Int×Int->A Bool)(akn:Int->A Bool)(x:bI):A Bool:=
 letI e:=x.2.2.2;letI b:=decide (Int.ofNat (List.length x.2.1)=Int.ofNat (List.length x.1.1));A.bind (ct b (Ot (x.2.1,akn)) false) λy=>letI d:=b&&!y&&decide (Int.ofNat (List.length x.2.2.1)<=8);A.bind (ct d (akh (x.2.2.1,λhA=>akk (hA,some x.1))) false) λb3=>letI a:=d&&!b3&&decide (Int.ofNat (List.length e.1)<=6);A.bind (ct a (aki (e.1,akm)) false) λdK=>letI c:=a&&!dK&&decide (Int.ofNat (List.length e.2.1)<=8);A.bind (ct c (akj (e.2.1,λhA=>akl (hA,some x.1))) false) λga=>A.bind (ct (c&&!ga) (Ei e.2.2) false) λkL=>A.pure (c&&!ga&&kL)
def ako(x:Int×Int×Int):A Bool:=
 A.pure (decide (x.2.1<=x.1)&&decide (x.1<=x.2.2))
def V6(oe:Int×Int×Int->A Bool)(Ia:z1'×Int->A Bool)(x:bI×Int×Int×Int×Int×z1'):A Bool:=
 letI c:=x.2.2.2.2;letI b:=Int.ofNat (List.length x.1.1.2.1);letI a:=(c.2,IntKind.wrap .i64 (Int.ofNat (List.length (List.getD x.1.1.2.1 (Int.toNat c.1) []))-1));A.bind (oe (x.2.1,0,99)) λy=>A.bind (ct (!(!y)) (oe (x.2.2.1,0,99)) false) λb3=>A.bind (ct (!(!y||!b3)) (oe (x.2.2.2.1,0,99)) false) λdK=>A.bind (ct (!(!y||!b3||!dK)) (oe (c.1,0,IntKind.wrap .i64 (b-1))) false) λga=>if (!y||!b3||!dK||!ga)=true then A.pure false else A.ad (0<=c.1/\c.1<b) (A.ad (Ia a).b1 (A.pure (A.val (Ia a) false)))
def V7(oe:Int×Int×Int->A Bool)(Ia:z1'×Int->A Bool)(x:z1'×(Int×Int)×Int×Int×Int):A Bool:=
 A.bind (oe (Int.ofNat (List.length x.1),1,8)) λy=>A.bind (ct y (Ia (x.1,99)) false) λb3=>letI a:=y&&b3&&decide (0<=x.2.1.1)&&decide (x.2.1.1<=x.2.1.2)&&decide (x.2.1.2<=99);A.bind (ct a (oe (x.2.2.1,0,99)) false) λdK=>A.bind (ct (a&&dK) (oe (x.2.2.2.1,0,99)) false) λga=>A.bind (ct (a&&dK&&ga) (oe (x.2.2.2.2,0,100000)) false) λkL=>A.pure (a&&dK&&ga&&kL)
def V8(kK:Int×Int×Int->A Bool)(x:bI×Int):A Bool:=
 A.bind (kK (x.2,0,IntKind.wrap .i64 (Int.ofNat (List.length x.1.2.2.1)-1))) λy=>A.pure y
def V9(kK:Int×Int×Int->A Bool)(hM:z1'×Int->A Bool)(x:(z1'×(Int×Int)×Int×Int×Int)×Int×Int×Int×Int×z1'):A Int:=
 A.bind (hM (x.1.1,x.2.1)) λy=>A.bind (ct (!(!y)) (kK (x.2.2.1,x.1.2.1)) false) λb3=>if (!y||!b3)=true then A.pure 0 else if decide (x.2.2.2.1=x.1.2.2.1)=true then A.pure 1 else if decide (x.2.2.2.1=0)=true then A.pure 2 else A.pure 0
def Ou(akp:z1'×Int->A (z1'))(AS:Option dv×z1'->A Bool)(l5:Option dv×z1'->A Int)(akq:Option dv->Prop)(akr:Option dv->List (z1'))(x:Option dv):A (z1'):=
 A.ad (Option.isSome x=true) (A.bind (akp ([-1],Int.ofNat (List.length (Option.getD x ((([],[],0,[]),[],[],[],[],0),[],[])).1.2.2.2.1))) (λy=>A.ad (akq x) (A.bind (jQ (λ(D:Option ((bz×z1'×List dx×List (z1'×(Int×Int)×Int×Int×Int)×z3'×Int)×z4'×z5')×z1'×Unit) (y:z1')=>letI b:=(D.1,y);letI a:=(D.1,D.2.1);A.bind (A.ad (l5 b).b1 (A.ad (l5 a).b1 (A.ad (decide (A.val (l5 b) 0 > A.val (l5 a) 0)=true->(decide (A.val (l5 b) 0 > A.val (l5 a) 0)=true/\decide (A.val (l5 b) 0 > A.val (l5 a) 0)=true/\True)/\(AS b).b1/\True) (A.ad (True/\(decide (A.val (l5 b) 0 > A.val (l5 a) 0)=true->decide (A.val (l5 b) 0 > A.val (l5 a) 0)=true)) (if (decide (A.val (l5 b) 0 > A.val (l5 a) 0)&&A.val (AS b) false)=true then A.pure (di.normal,D.1,y,()) else A.pure (di.normal,D.1,D.2.1,())))))) λp=>A.pure (p.1,p.2.1,p.2.2.1,())) (akr x) (x,y,())) (λp=>sI (A.pure p.2.2.1) (λid=>if id=0 then A.pure p.2.2.1 else A.fail) A.fail p.1))))
def V_(aks:bI×Int->A Bool)(hM:z1'×Int->A Bool)(x:bI×z1'):A Bool:=
 A.bind (A.loop (λ(D:z1'×z1'×Int×Int×(bz×z1'×List dx×List (z1'×(Int×Int)×Int×Int×Int)×z3'×Int)×Unit)=>letI e:=D.2.2;letI b:=e.2.1;letI c:=Int.toNat b;letI f:=List.getD D.2.1 c 0;letI a:=decide (List.getD D.2.1 c (0:Int)≠-1);if decide (b<e.1)=true then A.ad (0<=b/\b<Int.ofNat (List.length D.2.1)) (A.bind (ct a (aks (e.2.2.1,f)) false) (λy=>letI d:=(a&&!(!y))=true;A.ad (d->(d/\True/\d)/\((0:Int)<=0/\0<=b/\b<=Int.ofNat (List.length D.1))/\True) (A.bind (ct (a&&!(!y)) (hM (List.take c D.1,f)) false) (λb3=>if (a&&(!y||b3))=true then A.bind (A.bind (A.pure false) (λr=>A.pure (V.done r))) λr=>A.pure (V.done r) else A.pure (V.next (D.1,D.2.1,e.1,IntKind.wrap .i64 (Add.add b 1),e.2.2.1,())))))) else A.bind (A.pure (V.next (D.1,e.2.2.1,()))) λr=>A.pure (V.done r)) (x.2,x.2,Int.ofNat (List.length x.2),0,x.1,())) (V.bD (λ(D:z1'×(bz×z1'×List dx×List dL×z3'×Int)×Unit)=>A.pure (decide (Int.ofNat (List.length D.1)=Int.ofNat (List.length D.2.1.2.2.2.1)))))
def Ov(x:Option dv×z1'):A Int:=
 A.bind (A.loop (λ(D:Option ((bz×z1'×List dx×List dL×z3'×Int)×z4'×z5')×Int×z1'×Int×Int×Unit)=>letI c:=D.2.2;letI b:=(Option.getD D.1 ((([],[],0,[]),[],[],[],[],0),[],[])).1.2.2.2.1;letI a:=c.2.2.1;if decide (a<c.2.1)=true then A.bind (A.ad (0<=a/\a<Int.ofNat (List.length c.1)) (if decide (List.getD c.1 (Int.toNat a) (0:Int)≠-1)=true then A.ad (Option.isSome D.1=true) (A.ad (0<=a/\a<Int.ofNat (List.length b)) (A.pure (V.next (D.1,IntKind.wrap .i64 (Add.add D.2.1 (List.getD b (Int.toNat a) ([],(0,0),0,0,0)).2.2.2.2),c.1,c.2.1,a,())))) else A.pure (V.next (D.1,D.2.1,c.1,c.2.1,a,())))) (V.bD (λ(D:Option ((bz×z1'×List (Int×Int×Int×Int×z1')×List dL×z3'×Int)×z4'×z5')×Int×z1'×Int×Int×Unit)=>A.pure (V.next (D.1,D.2.1,D.2.2.1,D.2.2.2.1,IntKind.wrap .i64 (Add.add D.2.2.2.2.1 1),())))) else A.bind (A.pure (V.next (D.2.1,()))) λr=>A.pure (V.done r)) (x.1,0,x.2,Int.ofNat (List.length x.2),0,())) (V.bD (λ(D:Int×Unit)=>A.pure D.1))
def akt(yj:Int×Int->A (Int×Int))(x:z4'×Int):A (z4'):=
 A.bind (if decide (x.2<0)=true then A.ad False (A.ad False (A.pure (V.next (x.1,x.2,())))) else A.pure (V.next (x.1,x.2,()))) (V.bD (λ(D:z4'×Int×Unit)=>A.bind (yj (IntKind.wrap .u64 (Int.ofNat (List.length D.1)),IntKind.wrap .u64 D.2.1)) λy=>A.bind (if (decide (y.1 > 0)||decide (y.2 > 9223372036854775807))=true then A.ad False (A.ad False (A.pure (V.next (D.1,y.2,())))) else A.pure (V.next (D.1,y.2,()))) (V.bD (λ(D:z4'×Int×Unit)=>letI b:=IntKind.wrap .i64 D.2.1;letI f:=Int.toNat b;letI d:=List.take (List.length (List.replicate f ((0:Int),(0:Int)))-0) D.1;A.ad (0<=b/\b=b/\b9 f) (A.ad True (A.bind (A.loop (λ(D:Int×z4'×Unit)=>letI g:=Int.toNat D.1;letI c:=List.take g D.2.1;letI a:=Int.ofNat (List.length D.2.1);letI e:=Int.toNat a-g;if decide (D.1<a)=true then A.ad (0<=D.1/\D.1<=a/\a<=a) (A.ad ((0:Int)<=0/\0<=D.1/\D.1<=a) (A.ad True (A.pure (V.next (IntKind.wrap .i64 (Add.add D.1 (Int.ofNat (if e<=List.length c then e else List.length c))),c++List.take e c++List.drop (Add.add g (List.length (List.take e c))) D.2.1,()))))) else A.bind (A.pure (V.next (D.2.1,()))) λr=>A.pure (V.done r)) (Int.ofNat (if List.length (List.replicate f ((0:Int),(0:Int)))-0<=List.length D.1 then List.length (List.replicate f ((0:Int),(0:Int)))-0 else List.length D.1),[]++d++List.drop (Add.add 0 (List.length d)) (List.replicate f ((0:Int),(0:Int))),())) (V.bD (λ(D:z4'×Unit)=>A.pure D.1))))))))
def V'(x:Option dv×(Int×Int)×Int×Int×Int):A Bool:=
 letI c:=decide (x.2.1.2<=x.2.2.2.2);letI a:=c=true;letI b:=a->a/\True/\True;A.ad (a->a/\Option.isSome x.1=true/\True) (A.ad b (A.ad b (A.ad b (A.ad b (A.ad b (A.ad (a->(a/\a/\a/\True)/\True/\True) (A.ad (a->(a/\a)/\True/\True) (A.ad (a->(a/\True)/\True/\True) (A.ad (True/\(a->a)) (A.pure (c&&decide (Option.getD (Option.map (λx=>x.2) (List.find? (λp=>decide (x.2.1.1=p.1.1)&&(decide (x.2.2.1=p.1.2.1)&&decide (x.2.2.2.1=p.1.2.2))) (Option.getD x.1 ((([],[],0,[]),[],[],[],[],0),[],[])).2.2)) (0:Int) > 0))))))))))))
def aku(x:Int×Int×Int):A Bool:=
 A.pure (decide (x.2.1<=x.1)&&decide (x.1<=x.2.2))
def Wa(kK:Int×Int×Int->A Bool)(vZ:Int->A Bool)(Ow:z1'×(Int->A Bool)->A Bool)(akv:Int×Option bz×Option (Int×Int×Int×Int×z1')->A Bool)(x:(Int×Int×Int×Int×z1')×Option bz):A Bool:=
 letI b:=Option.getD x.2 ([],[],0,[]);A.bind (vZ x.1.1) λy=>A.bind (ct (!(!y)) (vZ x.1.2.1) false) λb3=>A.bind (ct (!(!y||!b3)) (vZ x.1.2.2.1) false) λdK=>letI a:=!y||!b3||!dK;A.bind (ct (!a) (kK (x.1.2.2.2.1,0,IntKind.wrap .i64 (Int.ofNat (List.length b.2.1)-1))) false) λga=>A.bind (ct (!(a||!ga)) (Ow (x.1.2.2.2.2,λhA=>akv (hA,some b,some x.1))) false) λkL=>A.pure (a||!ga||!kL)
def Wb(kK:Int×Int×Int->A Bool)(x:Int):A Bool:=
 A.bind (kK (x,0,99)) λy=>A.pure y
def Wc(x:z1'×(Int->A Bool)):A Bool:=
 A.bind (A.loop (λ(D:z1'×(Int->A Bool)×z1'×Int×Int×Unit)=>letI e:=D.2.2;letI a:=e.2.2.1;letI d:=List.getD e.1 (Int.toNat a) 0;letI c:=IntKind.wrap .i64 (a-1);if decide (a<e.2.1)=true then A.ad (0<=a/\a<Int.ofNat (List.length e.1)) (A.bind (D.2.1 d) (λy=>letI b:=(!(!y)&&decide (a > 0))=true;A.ad (b->(b/\b)/\(0<=c/\c<Int.ofNat (List.length D.1))/\True) (if (!y||decide (a > 0)&&decide (d<=List.getD D.1 (Int.toNat c) 0))=true then A.bind (A.bind (A.pure false) (λr=>A.pure (V.done r))) λr=>A.pure (V.done r) else A.pure (V.next (D.1,D.2.1,e.1,e.2.1,IntKind.wrap .i64 (Add.add a 1),()))))) else A.bind (A.pure (V.next ())) λr=>A.pure (V.done r)) (x.1,x.2,x.1,Int.ofNat (List.length x.1),0,())) (V.bD (λ(D:Unit)=>A.pure true))
def Wd(kK:Int×Int×Int->A Bool)(x:Int×Option bz×Option (Int×Int×Int×Int×z1')):A Bool:=
 letI b:=(Option.getD x.2.1 ([],[],0,[])).2.1;letI a:=(Option.getD x.2.2 (0,0,0,0,[])).2.2.2.1;A.ad (0<=a/\a<Int.ofNat (List.length b)) (A.bind (kK (x.1,0,IntKind.wrap .i64 (Int.ofNat (List.length (List.getD b (Int.toNat a) []))-1))) (λy=>A.pure y))
def We(kK:Int×Int×Int->A Bool)(vZ:Int->A Bool)(Ow:z1'×(Int->A Bool)->A Bool)(Ei:Int->A Bool)(x:z1'×(Int×Int)×Int×Int×Int):A Bool:=
 A.bind (kK (Int.ofNat (List.length x.1),1,8)) λy=>A.bind (ct (!(!y)) (Ow (x.1,vZ)) false) λb3=>A.bind (ct (!(!y||!b3)) (vZ x.2.1.1) false) λdK=>A.bind (ct (!(!y||!b3||!dK)) (vZ x.2.1.2) false) λga=>letI a:=!y||!b3||!dK||!ga||decide (x.2.1.1 > x.2.1.2);A.bind (ct (!a) (vZ x.2.2.1) false) λkL=>A.bind (ct (!(a||!kL)) (Ei x.2.2.2.1) false) λs3=>A.bind (ct (!(a||!kL||!s3)) (kK (x.2.2.2.2,0,100000)) false) λuG=>A.pure (a||!kL||!s3||!uG)
def Wf(kK:Int×Int×Int->A Bool)(x:Int):A Bool:=
 A.bind (kK (x,0,99)) λy=>A.pure y
def Wg(kK:Int×Int×Int->A Bool)(Ei:Int->A Bool)(x:(Int×Int×Int)×Option bz):A Bool:=
 A.bind (Ei x.1.1) λy=>A.bind (ct (!(!y)) (kK (x.1.2.1,0,IntKind.wrap .i64 (Int.ofNat (List.length (Option.getD x.2 ([],[],0,[])).1)-1))) false) λb3=>A.bind (ct (!(!y||!b3)) (kK (x.1.2.2,1,10)) false) λdK=>A.pure (!y||!b3||!dK)
def Wh(kK:Int×Int×Int->A Bool)(x:Int):A Bool:=
 A.bind (kK (x,0,10)) λy=>A.pure (!y)
def Wi(x:z1'×Int):A Bool:=
 A.bind (A.loop (λ(D:z1'×Int×Int×Unit)=>letI e:=D.2.2.1;letI j:=decide (e > 0);letI i:=List.getD D.1 (Int.toNat e) 0;letI h:=IntKind.wrap .i64 (e-1);letI d:=Int.ofNat (List.length D.1);letI k:=0<=e/\e<d;letI b:=decide (List.getD D.1 (Int.toNat e) (0:Int)<0);letI f:=(!b)=true;letI a:=b||decide (i > D.2.1);letI g:=(!a)=true;letI c:=(!a&&j)=true;letI l:=c->c/\True/\True;if decide (e<d)=true then A.ad k (A.ad (f->(f/\f)/\k/\True) (A.ad (f->f/\True/\True) (A.ad (f->(f/\f)/\True/\True) (A.ad (True/\(b=false->f)) (A.ad (g->(g/\True)/\True/\True) (A.ad (g->True/\True/\g) (A.ad (c->(c/\c)/\k/\True) (A.ad l (A.ad (c->(c/\True)/\True/\True) (A.ad (c->(c/\c)/\(0<=h/\h<d)/\True) (A.ad l (A.ad (c->(c/\c)/\True/\True) (A.ad (g->(g/\(j=true->c))/\True/\True) (A.ad (True/\(a=false->g)) (if (a||j&&decide (i<=List.getD D.1 (Int.toNat h) 0))=true then A.bind (A.bind (A.pure false) (λr=>A.pure (V.done r))) λr=>A.pure (V.done r) else A.pure (V.next (D.1,D.2.1,IntKind.wrap .i64 (Add.add e 1),()))))))))))))))))) else A.bind (A.pure (V.next ())) λr=>A.pure (V.done r)) (x.1,x.2,0,())) (V.bD (λ(D:Unit)=>A.pure true))
def Ib(yk:Option dv×z1'×Int×Nat×(Nat×(List (z1')->Prop)×List (z1')×Bool)×Unit->A (Bool×(Nat×(List (z1')->Prop)×List (z1')×Bool)×Unit))(x:Option dv×Nat×(Nat×(List (z1')->Prop)×List (z1')×Bool)×Unit):A ((Nat×(List (z1')->Prop)×List (z1')×Bool)×Unit):=
 A.bind (yk (x.1,[],1,x.2.1,x.2.2.1,())) λy=>A.pure (y.2.1,())
def Ic(yk:Option dv×z1'×Int×Nat×(Nat×(List (z1')->Prop)×List (z1')×Bool)×Unit->A (Bool×(Nat×(List (z1')->Prop)×List (z1')×Bool)×Unit))(x:Option dv×Nat×(Nat×(List (z1')->Prop)×List (z1')×Bool)×Unit):A ((Nat×(List (z1')->Prop)×List (z1')×Bool)×Unit):=
 A.bind (yk (x.1,[],0,x.2.1,x.2.2.1,())) λy=>A.pure (y.2.1,())
def Ox(H_:Option dv×(Int×Int)×Int×Int×Int->A Bool)(Oq:Option dv×z3'×Int×z4'×z1'×Unit->A (Bool×z4'×z1'×Unit))(x:Option dv×z3'×Int×z4'×z1'×Unit):A (Bool×z4'×z1'×Unit):=
 letI k:=(Option.getD x.1 ((([],[],0,[]),[],[],[],[],0),[],[])).2.1;A.bind (A.ad (Option.isSome x.1=true) (A.loop (λ(D:Option ((bz×z1'×List dx×List (z1'×(Int×Int)×Int×Int×Int)×z3'×Int)×z4'×z5')×z3'×Int×z4'×Int×Int×z4'×z1'×Unit)=>letI o:=D.2.1;letI i:=D.2.2;letI c:=i.2.2.2;letI m:=c.2.2.1;letI l:=Int.toNat c.1;letI j:=Option.map (λx=>x.2) (List.find? (λp=>decide (c.1=p.1)) c.2.1);letI g:=0<=c.1/\c.1<Int.ofNat (List.length m);letI f:=(D.1,List.getD i.2.1 l (0,0),List.getD o (Int.toNat i.1) (0,0,0));letI d:=e' c.2.1 c.1 (IntKind.wrap .i64 (Add.add (Option.getD j 0) 1));letI b:=decide (List.getD m l (0:Int)=-1);letI h:=(!b)=true;letI a:=decide (Option.getD j (0:Int) > 0);letI e:=(!a)=true;letI q:=e->e/\True/\True;if decide (c.1<i.2.2.1)=true then A.bind (A.ad (0<=c.1/\c.1<Int.ofNat (List.length i.2.1)) (A.ad (e->(e/\e)/\(0<=i.1/\i.1<Int.ofNat (List.length o))/\True) (A.ad q (A.ad (e->(e/\e/\e/\True)/\(H_ f).b1/\True) (A.ad q (A.ad (True/\(a=false->e)) (if (a||!(A.val (H_ f) false))=true then A.pure (V.next (D.1,o,i.1,i.2.1,i.2.2.1,c.1,c.2.1,m,())) else A.ad g (A.ad (h->(h/\h)/\g/\True) (if h then A.ad (h/\h/\h/\h/\h/\True) (A.bind (Oq (D.1,o,List.getD m l 0,d,m,())) (λy=>if (b||y.1)=true then A.ad (0<=c.1/\c.1<Int.ofNat (List.length y.2.2.1)) (A.bind (A.bind (A.bind (A.pure (true,y.2.1,List.set y.2.2.1 l i.1,())) (λr=>A.pure (V.done r))) (λr=>A.pure (V.done r))) (λr=>A.pure (V.done r))) else A.pure (V.next (D.1,o,i.1,i.2.1,i.2.2.1,c.1,y.2.1,y.2.2.1,())))) else A.ad (True/\(b=false->false=true)) (if (b||false)=true then A.ad g (A.bind (A.bind (A.bind (A.pure (true,d,List.set m l i.1,())) (λr=>A.pure (V.done r))) (λr=>A.pure (V.done r))) (λr=>A.pure (V.done r))) else A.pure (V.next (D.1,o,i.1,i.2.1,i.2.2.1,c.1,d,m,())))))))))))) (V.bD (λ(D:Option ((bz×z1'×List dx×List dL×z3'×Int)×z4'×z5')×z3'×Int×z4'×Int×Int×z4'×z1'×Unit)=>letI n:=D.2.2.2;A.pure (V.next (D.1,D.2.1,D.2.2.1,n.1,n.2.1,IntKind.wrap .i64 (Add.add n.2.2.1 1),n.2.2.2.1,n.2.2.2.2.1,())))) else A.bind (A.pure (V.next (c.2.1,m,()))) λr=>A.pure (V.done r)) (x.1,x.2.1,x.2.2.1,k,Int.ofNat (List.length k),0,x.2.2.2.1,x.2.2.2.2.1,()))) (V.bD (λ(D:z4'×z1'×Unit)=>A.pure (false,D.1,D.2.1,())))
def Oy(H9:(z1'×(Int×Int)×Int×Int×Int)×Int×Int×Int×Int×z1'->A Int)(yk:Option dv×z1'×Int×Nat×(Nat×(List (z1')->Prop)×List (z1')×Bool)×Unit->A (Bool×(Nat×(List (z1')->Prop)×List (z1')×Bool)×Unit))(hM:z1'×Int->A Bool)(x:Option dv×z1'×Int×Nat×(Nat×(List (z1')->Prop)×List (z1')×Bool)×Unit):A (Bool×(Nat×(List (z1')->Prop)×List (z1')×Bool)×Unit):=
 letI p:=Option.isSome x.1=true;letI o:=Int.ofNat (List.length x.2.1);letI i:=x.2.2.2.2.1;letI e:=(Option.getD x.1 ((([],[],0,[]),[],[],[],[],0),[],[])).1.2.2;A.ad p (if decide (o=Int.ofNat (List.length e.2.1))=true then A.bind (A.ad (x.2.2.2.1=i.1/\i.2.2.2=false/\(∃ (T:List (z1')),i.2.1 (i.2.2.1++x.2.1::T))) (A.any (λx=>True))) λy=>A.pure (y,(i.1,i.2.1,i.2.2.1++[x.2.1],!y),()) else A.bind (A.ad p (A.loop (λ(D:Option dv×z1'×Int×Nat×Int×List dx×Int×Int×(Nat×(List (z1')->Prop)×List (z1')×Bool)×Unit)=>letI q:=D.2.1;letI l:=D.2.2;letI j:=(Option.getD D.1 ((([],[],0,[]),[],[],[],[],0),[],[])).1.2.2.2.1;letI c:=l.2.2;letI m:=List.take (Int.toNat c.1) q;letI k:=c.2.2.2;letI d:=(List.getD j (Int.toNat c.1) ([],(0,0),0,0,0),List.getD c.2.1 (Int.toNat k.1) (0,0,0,0,[]));letI a:=(q,k.1);if decide (k.1<c.2.2.1)=true then A.bind (A.ad (0<=k.1/\k.1<Int.ofNat (List.length c.2.1)) (A.ad (hM a).b1 (A.ad ((!(A.val (hM a) false))=true->(!(A.val (hM a) false))=true/\Option.isSome D.1=true/\True) (A.ad ((!(A.val (hM a) false))=true->(!(A.val (hM a) false))=true/\True/\True) (A.ad ((!(A.val (hM a) false))=true->(!(A.val (hM a) false))=true/\True/\True) (A.ad ((!(A.val (hM a) false))=true->(!(A.val (hM a) false))=true/\True/\True) (A.ad ((!(A.val (hM a) false))=true->((!(A.val (hM a) false))=true/\(!(A.val (hM a) false))=true)/\(0<=c.1/\c.1<Int.ofNat (List.length j))/\True) (A.ad ((!(A.val (hM a) false))=true->(!(A.val (hM a) false))=true/\True/\True) (A.ad ((!(A.val (hM a) false))=true->((!(A.val (hM a) false))=true/\(!(A.val (hM a) false))=true/\True)/\(H9 d).b1/\True) (A.ad ((!(A.val (hM a) false))=true->((!(A.val (hM a) false))=true/\True)/\True/\True) (A.ad (True/\(A.val (hM a) false=false->(!(A.val (hM a) false))=true)) (if (A.val (hM a) false||decide (A.val (H9 d) (0:Int)=0))=true then A.pure (V.next (D.1,q,l.1,l.2.1,c.1,c.2.1,c.2.2.1,k.1,k.2.1,())) else A.ad ((0:Int)<=0/\0<=c.1/\c.1=c.1/\c.1<=Int.ofNat (List.length q)) (A.ad (0<Add.add 0 1/\b9 (Add.add (List.length m) (Add.add 0 1))) (A.bind (yk (D.1,m++[k.1],l.1,l.2.1,k.2.1,())) (λy=>if (!y.1)=true then A.bind (A.bind (A.bind (A.pure (false,y.2.1,())) (λr=>A.pure (V.done r))) (λr=>A.pure (V.done r))) λr=>A.pure (V.done r) else A.pure (V.next (D.1,q,l.1,l.2.1,c.1,c.2.1,c.2.2.1,k.1,y.2.1,()))))))))))))))))) (V.bD (λ(D:Option dv×z1'×Int×Nat×Int×List dx×Int×Int×(Nat×(List (z1')->Prop)×List (z1')×Bool)×Unit)=>letI n:=D.2.2.2.2;A.pure (V.next (D.1,D.2.1,D.2.2.1,D.2.2.2.1,n.1,n.2.1,n.2.2.1,IntKind.wrap .i64 (Add.add n.2.2.2.1 1),n.2.2.2.2.1,())))) else A.bind (A.pure (V.next (D.1,q,l.1,l.2.1,c.1,k.2.1,()))) λr=>A.pure (V.done r)) (x.1,x.2.1,x.2.2.1,x.2.2.2.1,o,e.1,Int.ofNat (List.length e.1),0,i,()))) (V.bD (λ(D:Option dv×z1'×Int×Nat×Int×(Nat×(List (z1')->Prop)×List (z1')×Bool)×Unit)=>letI s:=D.2.2;letI h:=s.2.2;letI g:=List.take (Int.toNat h.1) D.2.1;letI f:=decide (s.1=0);letI b:=(!f)=true;A.ad (b->(b/\True/\b/\b)/\((0:Int)<=0/\0<=h.1/\h.1=h.1/\h.1<=Int.ofNat (List.length D.2.1))/\True) (if b then A.ad (b/\b) (A.ad (0<Add.add 0 1/\b9 (Add.add (List.length g) (Add.add 0 1))) (if b then A.ad (b/\b/\b/\True) (A.bind (yk (D.1,g++[-1],s.1,s.2.1,h.2.1,())) (λy=>A.pure (f||y.1,y.2.1,()))) else A.ad (True/\(f=false->false=true)) (A.pure (f||false,h.2.1,())))) else if b then A.ad (b/\false=true/\b/\b/\True) (A.bind (yk (D.1,g++[-1],s.1,s.2.1,h.2.1,())) (λy=>A.pure (f||y.1,y.2.1,()))) else A.ad (True/\(f=false->false=true)) (A.pure (f||false,h.2.1,()))))))
def akw(yj:Int×Int->A (Int×Int))(x:z1'×Int×Unit):A (z1'×Unit):=
 A.bind (if decide (x.2.1<0)=true then A.ad False (A.ad False (A.pure (V.next (x.1,x.2.1,())))) else A.pure (V.next (x.1,x.2.1,()))) (V.bD (λ(D:z1'×Int×Unit)=>A.bind (yj (IntKind.wrap .u64 (Int.ofNat (List.length D.1)),IntKind.wrap .u64 D.2.1)) λy=>A.bind (if (decide (y.1 > 0)||decide (y.2 > 9223372036854775807))=true then A.ad False (A.ad False (A.pure (V.next (D.1,y.2,())))) else A.pure (V.next (D.1,y.2,()))) (V.bD (λ(D:z1'×Int×Unit)=>letI b:=IntKind.wrap .i64 D.2.1;letI f:=Int.toNat b;letI e:=List.take (List.length (List.replicate f (0:Int))-0) D.1;A.ad (0<=b/\b=b/\b9 f) (A.ad True (A.bind (A.loop (λ(D:Int×z1'×Unit)=>letI g:=Int.toNat D.1;letI c:=List.take g D.2.1;letI a:=Int.ofNat (List.length D.2.1);letI d:=Int.toNat a-g;if decide (D.1<a)=true then A.ad (0<=D.1/\D.1<=a/\a<=a) (A.ad ((0:Int)<=0/\0<=D.1/\D.1<=a) (A.ad True (A.pure (V.next (IntKind.wrap .i64 (Add.add D.1 (Int.ofNat (if d<=List.length c then d else List.length c))),c++List.take d c++List.drop (Add.add g (List.length (List.take d c))) D.2.1,()))))) else A.bind (A.pure (V.next (D.2.1,()))) λr=>A.pure (V.done r)) (Int.ofNat (if List.length (List.replicate f (0:Int))-0<=List.length D.1 then List.length (List.replicate f (0:Int))-0 else List.length D.1),[]++e++List.drop (Add.add 0 (List.length e)) (List.replicate f (0:Int)),())) (V.bD (λ(D:z1'×Unit)=>A.pure (D.1,())))))))))
end Go.Fer
namespace Go.Fer.H
open A (V)
set_option maxRecDepth 100000
abbrev a7:Type:=Int×Int×Int×Int×Int×Int
abbrev pX:Type:=Int×Int×Int×Int×Int×Int×Int
abbrev a1:Type:=z4'×List a7×z1'×z4'×pX
abbrev bw:Type:=a7×Int
abbrev dO:Type:=z1'×List (List bw)
abbrev dZ:Type:=a1×List a7×List (Option dO)
abbrev hp:Type:=z4'×List a7×z1'×z4'×Int×Int×Int×Int×Int×Int×Int×List a7×List (Option dO)×Unit
abbrev e'(l:z4')(a b:Int):z4':=lN (k:=.int .i64) (v:=.int .i64) l a b
abbrev hq:ab:=.st (.az (.int .i64) (.az (.int .i64) (.az (.int .i64) (.az (.int .i64) (.az (.int .i64) (.int .i64))))))
abbrev k2(l:List (Int×a7))(a:Int)(b:a7):List (Int×a7):=lN (k:=.int .i64) (v:=hq) l a b
abbrev akx:List UInt8:=0::1::(List.replicate 2 2++(List.replicate 4 3++(List.replicate 8 4++(List.replicate 16 5++(List.replicate 32 6++(List.replicate 64 7++List.replicate 128 8))))))
abbrev _root_.Prod.cY{fJ fK fL fM fN fB fC:Type}(x:fJ×fK×fL×fM×fN×fB×fC):fB:=x.2.2.2.2.2.1
abbrev _root_.Prod.fa{fJ fK fL fM fN fB fC fV:Type}(x:fJ×fK×fL×fM×fN×fB×fC×fV):fC:=x.2.2.2.2.2.2.1
abbrev _root_.Prod.gw{fJ fK fL fM fN fB fC fV gx:Type}(x:fJ×fK×fL×fM×fN×fB×fC×fV×gx):fV:=x.2.2.2.2.2.2.2.1
abbrev _root_.Prod.h0{fJ fK fL fM fN fB fC fV gx gR:Type}(x:fJ×fK×fL×fM×fN×fB×fC×fV×gx×gR):gx:=x.2.2.2.2.2.2.2.2.1
abbrev _root_.Prod.jV{fJ fK fL fM fN fB fC fV gx gR hr:Type}(x:fJ×fK×fL×fM×fN×fB×fC×fV×gx×gR×hr):gR:=x.2.2.2.2.2.2.2.2.2.1
abbrev _root_.Prod.k3{fJ fK fL fM fN fB fC fV gx gR hr hN:Type}(x:fJ×fK×fL×fM×fN×fB×fC×fV×gx×gR×hr×hN):hr:=x.2.2.2.2.2.2.2.2.2.2.1
abbrev _root_.Prod.hO{fJ fK fL fM fN fB fC fV gx gR hr hN ig:Type}(x:fJ×fK×fL×fM×fN×fB×fC×fV×gx×gR×hr×hN×ig):hN:=x.2.2.2.2.2.2.2.2.2.2.2.1
abbrev _root_.Prod.nk{fJ fK fL fM fN fB fC fV gx gR hr hN ig iQ:Type}(x:fJ×fK×fL×fM×fN×fB×fC×fV×gx×gR×hr×hN×ig×iQ):ig:=x.2.2.2.2.2.2.2.2.2.2.2.2.1
abbrev _root_.Prod.pY{fJ fK fL fM fN fB fC fV gx gR hr hN ig iQ jv:Type}(x:fJ×fK×fL×fM×fN×fB×fC×fV×gx×gR×hr×hN×ig×iQ×jv):iQ:=x.2.2.2.2.2.2.2.2.2.2.2.2.2.1
abbrev _root_.Prod.s4{fJ fK fL fM fN fB fC fV gx gR hr hN ig iQ jv ko:Type}(x:fJ×fK×fL×fM×fN×fB×fC×fV×gx×gR×hr×hN×ig×iQ×jv×ko):jv:=x.2.2.2.2.2.2.2.2.2.2.2.2.2.2.1
abbrev _root_.Prod.yl{fJ fK fL fM fN fB fC fV gx gR hr hN ig iQ jv ko k4:Type}(x:fJ×fK×fL×fM×fN×fB×fC×fV×gx×gR×hr×hN×ig×iQ×jv×ko×k4):ko:=x.2.2.2.2.2.2.2.2.2.2.2.2.2.2.2.1
abbrev _root_.Prod.Oz{fJ fK fL fM fN fB fC fV gx gR hr hN ig iQ jv ko k4 l6:Type}(x:fJ×fK×fL×fM×fN×fB×fC×fV×gx×gR×hr×hN×ig×iQ×jv×ko×k4×l6):k4:=x.2.2.2.2.2.2.2.2.2.2.2.2.2.2.2.2.1
abbrev _root_.Prod.OA{fJ fK fL fM fN fB fC fV gx gR hr hN ig iQ jv ko k4 l6 nl:Type}(x:fJ×fK×fL×fM×fN×fB×fC×fV×gx×gR×hr×hN×ig×iQ×jv×ko×k4×l6×nl):l6:=x.2.2.2.2.2.2.2.2.2.2.2.2.2.2.2.2.2.1
abbrev _root_.Prod.OB{fJ fK fL fM fN fB fC fV gx gR hr hN ig iQ jv ko k4 l6 nl o5:Type}(x:fJ×fK×fL×fM×fN×fB×fC×fV×gx×gR×hr×hN×ig×iQ×jv×ko×k4×l6×nl×o5):nl:=x.2.2.2.2.2.2.2.2.2.2.2.2.2.2.2.2.2.2.1
abbrev _root_.Prod.OC{fJ fK fL fM fN fB fC fV gx gR hr hN ig iQ jv ko k4 l6 nl o5 qT:Type}(x:fJ×fK×fL×fM×fN×fB×fC×fV×gx×gR×hr×hN×ig×iQ×jv×ko×k4×l6×nl×o5×qT):o5:=x.2.2.2.2.2.2.2.2.2.2.2.2.2.2.2.2.2.2.2.1
abbrev _root_.Prod.OD{fJ fK fL fM fN fB fC fV gx gR hr hN ig iQ jv ko k4 l6 nl o5 qT s5:Type}(x:fJ×fK×fL×fM×fN×fB×fC×fV×gx×gR×hr×hN×ig×iQ×jv×ko×k4×l6×nl×o5×qT×s5):qT:=x.2.2.2.2.2.2.2.2.2.2.2.2.2.2.2.2.2.2.2.2.1
abbrev _root_.Prod.aky{fJ fK fL fM fN fB fC fV gx gR hr hN ig iQ jv ko k4 l6 nl o5 qT s5 v7:Type}(x:fJ×fK×fL×fM×fN×fB×fC×fV×gx×gR×hr×hN×ig×iQ×jv×ko×k4×l6×nl×o5×qT×s5×v7):s5:=x.2.2.2.2.2.2.2.2.2.2.2.2.2.2.2.2.2.2.2.2.2.1
abbrev _root_.Prod.akz{fJ fK fL fM fN fB fC fV gx gR hr hN ig iQ jv ko k4 l6 nl o5 qT s5 v7 AV:Type}(x:fJ×fK×fL×fM×fN×fB×fC×fV×gx×gR×hr×hN×ig×iQ×jv×ko×k4×l6×nl×o5×qT×s5×v7×AV):v7:=x.2.2.2.2.2.2.2.2.2.2.2.2.2.2.2.2.2.2.2.2.2.2.1
abbrev _root_.Prod.rW{fJ fK fL fM fN fB fC fV gx gR hr hN ig iQ jv ko k4 l6 nl o5 qT s5 v7 AV Ie:Type}(x:fJ×fK×fL×fM×fN×fB×fC×fV×gx×gR×hr×hN×ig×iQ×jv×ko×k4×l6×nl×o5×qT×s5×v7×AV×Ie):AV:=x.2.2.2.2.2.2.2.2.2.2.2.2.2.2.2.2.2.2.2.2.2.2.2.1
abbrev _root_.Prod.Ej{fJ fK fL fM fN fB fC fV gx gR hr hN ig iQ jv ko k4 l6 nl o5 qT s5 v7 AV Ie akA:Type}(x:fJ×fK×fL×fM×fN×fB×fC×fV×gx×gR×hr×hN×ig×iQ×jv×ko×k4×l6×nl×o5×qT×s5×v7×AV×Ie×akA):Ie:=x.2.2.2.2.2.2.2.2.2.2.2.2.2.2.2.2.2.2.2.2.2.2.2.2.1
def Wj(uH:a1×(Option dZ->A Bool)->A (Option dZ×Int))(Ek:Option dO×Int×Int->A (bw×Bool))(El:(z1'->Prop)->A (z1'))(akB:z4'->A (z1'->Prop))(akC:Option dZ×Option Int×Option Int->A Bool)(x:a1×Int×Int):A (z1'×Int):=
 A.bind (uH (x.1,λhA=>akC (hA,some x.2.1,some x.2.2))) λy=>letI a:=(Option.getD y.1 (([],[],[],[],0,0,0,0,0,0,0),[],[])).2.2;if decide (y.2≠0)=true then A.pure ([],y.2) else A.bind (A.ad (Option.isSome y.1=true) (A.loop (λ(D:List (Option dO)×Int×Int×Int×Int×z4'×Unit)=>letI b:=D.2.2;if decide (b.1<D.2.1)=true then A.bind (A.ad (0<=b.1/\b.1<Int.ofNat (List.length D.1)) (A.bind (Ek (List.getD D.1 (Int.toNat b.1) none,b.2.1,b.2.2.1)) (λy=>if y.2=true then A.pure (V.next (D.1,D.2.1,b.1,b.2.1,b.2.2.1,e' D.cY y.1.1.2.2.2.2.2 (IntKind.wrap .i64 (Add.add (Option.getD (Option.map (λx=>x.2) (List.find? (λp=>decide (y.1.1.2.2.2.2.2=p.1)) D.cY)) 0) 1)),())) else A.pure (V.next (D.1,D.2.1,b.1,b.2.1,b.2.2.1,e' D.cY (-1) (IntKind.wrap .i64 (Add.add (Option.getD (Option.map (λx=>x.2) (List.find? (λp=>decide (-1=p.1)) D.cY)) 0) 1)),()))))) (V.bD (λ(D:List (Option dO)×Int×Int×Int×Int×z4'×Unit)=>A.pure (V.next (D.1,D.2.1,IntKind.wrap .i64 (Add.add D.2.2.1 1),D.2.2.2.1,D.2.2.2.2.1,D.cY,())))) else A.bind (A.pure (V.next (D.cY,()))) λr=>A.pure (V.done r)) (a,Int.ofNat (List.length a),0,x.2.1,x.2.2,[],()))) (V.bD (λ(D:z4'×Unit)=>A.bind (akB D.1) λy=>A.bind (El y) λy=>A.pure (y,0)))
def Wk(OE:a1×Int×(Int->A Int)->A ((Int×Int)×Int))(akD:Int×Option a1->A Int)(x:a1×Int):A ((Int×Int)×Int):=
 A.bind (OE (x.1,x.2,λhA=>akD (hA,some x.1))) λy=>A.pure y
def Wl(OE:a1×Int×(Int->A Int)->A ((Int×Int)×Int))(akE:Int->A Int)(x:a1×Int):A ((Int×Int)×Int):=
 A.bind (OE (x.1,x.2,akE)) λy=>A.pure y
def Wm(uH:a1×(Option dZ->A Bool)->A (Option dZ×Int))(Em:Option dZ×(Option dO->A (Int×Bool))->A ((Int×Int)×Bool))(akF:Option dZ×Option Int->A Bool)(akG:Option dO×Option Int×Option a1->A (Int×Bool))(x:a1×Int):A ((Int×Int)×Int):=
 A.bind (uH (x.1,λhA=>akF (hA,some x.2))) λy=>if decide (y.2≠0)=true then A.pure ((0,0),y.2) else A.bind (Em (y.1,λhA=>akG (hA,some x.2,some x.1))) λy=>A.pure (y.1,0)
def Wn(uH:a1×(Option dZ->A Bool)->A (Option dZ×Int))(Em:Option dZ×(Option dO->A (Int×Bool))->A ((Int×Int)×Bool))(akH:Option dZ×Option Int->A Bool)(akI:Option dO×Option (Option dZ)×Option Int×Option a1->A (Int×Bool))(x:a1×Int):A ((Int×Int)×Int):=
 A.bind (uH (x.1,λhA=>akH (hA,some x.2))) λy=>if decide (y.2≠0)=true then A.pure ((0,0),y.2) else A.bind (Em (y.1,λhA=>akI (hA,some y.1,some x.2,some x.1))) λy=>A.pure (y.1,0)
def Wo(akJ:a1->A Bool)(OF:List a7->A (List a7×Bool))(x:a1):A Int:=
 A.bind (akJ x) λy=>if (!y)=true then A.pure 90 else A.bind (OF x.2.1) λy=>if (!y.2)=true then A.pure 91 else A.pure 0
def Wp(akK:a1->A Bool)(Wq:a7×Int×Int×Int×Int×Int×Int->A Bool)(x:a1):A Int:=
 A.bind (akK x) λy=>if (!y)=true then A.pure 90 else A.bind (A.loop (λ(D:Int×a1×Unit)=>if decide (D.1<Int.ofNat (List.length D.2.1.2.1))=true then A.bind (A.loop (λ(D:Int×Int×a1×Unit)=>letI c:=D.2.2.1;letI b:=Int.ofNat (List.length c.2.1);letI a:=(List.getD c.2.1 (Int.toNat D.2.1) (0,0,0,0,0,0),List.getD c.2.1 (Int.toNat D.1) (0,0,0,0,0,0));if decide (D.2.1<D.1)=true then A.ad (0<=D.2.1/\D.2.1<b) (A.ad (0<=D.1/\D.1<b) (A.ad (Wq a).b1 (if A.val (Wq a) false=true then A.bind (A.bind (A.bind (A.bind (A.pure 91) (λr=>A.pure (V.done r))) (λr=>A.pure (V.done r))) (λr=>A.pure (V.done r))) λr=>A.pure (V.done r) else A.pure (V.next (D.1,IntKind.wrap .i64 (Add.add D.2.1 1),c,()))))) else A.bind (A.pure (V.next (D.1,c,()))) λr=>A.pure (V.done r)) (D.1,0,D.2.1,())) (V.bD (λ(D:Int×a1×Unit)=>A.pure (V.next (IntKind.wrap .i64 (Add.add D.1 1),D.2.1,())))) else A.bind (A.pure (V.next ())) λr=>A.pure (V.done r)) (0,x,())) (V.bD (λ(D:Unit)=>A.pure 0))
def Wr(uH:a1×(Option dZ->A Bool)->A (Option dZ×Int))(Ek:Option dO×Int×Int->A (bw×Bool))(AW:a1×Int×Int->A Int)(akL:Option dZ×Option Int->A Bool)(x:a1×Int):A (z1'×z1'×Int):=
 A.bind (uH (x.1,λhA=>akL (hA,some x.2))) λy=>if decide (y.2≠0)=true then A.pure ([],[],y.2) else A.bind (A.loop (λ(D:Option dZ×Int×a1×Int×z1'×z1'×Unit)=>letI b:=(Option.getD D.1 (([],[],[],[],0,0,0,0,0,0,0),[],[])).2.2;if decide (D.2.1<10)=true then A.bind (A.bind (A.ad (Option.isSome D.1=true) (A.loop (λ(D:Option dZ×Int×Int×Int×List (Option dO)×Int×Int×a1×Int×z1'×z1'×Unit)=>letI d:=D.2.2.2;if decide (D.fa<D.cY)=true then A.bind (A.ad (0<=D.fa/\D.fa<Int.ofNat (List.length d.2.1)) (A.bind (Ek (List.getD d.2.1 (Int.toNat D.fa) none,D.2.1,D.h0)) (λy=>letI a:=y.2=true;letI c:=a->a/\True/\True;A.ad c (A.ad (a->(a/\a/\a/\True)/\(AW (D.gw,y.1.2,D.h0)).b1/\True) (A.ad c (A.ad c (A.ad (a->(a/\a)/\True/\True) (A.ad (True/\(a->a)) (if (y.2&&decide (A.val (AW (D.gw,y.1.2,D.h0)) 0>=D.gw.h0))=true then A.pure (V.next (D.1,D.2.1,IntKind.wrap .i64 (Add.add D.2.2.1 1),d.1,d.2.1,D.cY,D.fa,D.gw,D.h0,D.jV,D.k3,())) else A.pure (V.next (D.1,D.2.1,D.2.2.1,d.1,d.2.1,D.cY,D.fa,D.gw,D.h0,D.jV,D.k3,()))))))))))) (V.bD (λ(D:Option dZ×Int×Int×Int×List (Option dO)×Int×Int×a1×Int×z1'×z1'×Unit)=>A.pure (V.next (D.1,D.2.1,D.2.2.1,D.2.2.2.1,D.2.2.2.2.1,D.cY,IntKind.wrap .i64 (Add.add D.fa 1),D.gw,D.h0,D.jV,D.k3,())))) else A.bind (A.pure (V.next (D.1,D.2.1,D.2.2.1,d.1,D.gw,D.h0,D.jV,D.k3,()))) λr=>A.pure (V.done r)) (D.1,D.2.1,0,D.2.1,b,Int.ofNat (List.length b),0,D.2.2.1,D.2.2.2.1,D.2.2.2.2.1,D.cY,()))) (V.bD (λ(D:Option dZ×Int×Int×Int×a1×Int×z1'×z1'×Unit)=>letI e:=D.2.2;A.bind (if decide (e.1 > 0)=true then A.ad (b9 (Add.add (List.length D.gw) (Add.add 0 1))) (A.pure (V.next (D.1,D.2.1,e.1,e.2.1,e.2.2.1,D.cY,D.fa,D.gw++[D.2.1],()))) else A.pure (V.next (D.1,D.2.1,e.1,e.2.1,e.2.2.1,D.cY,D.fa,D.gw,()))) (V.bD (λ(D:Option dZ×Int×Int×Int×a1×Int×z1'×z1'×Unit)=>letI f:=D.2.2.2;A.ad (Option.isSome D.1=true) (if decide (D.2.2.1=Int.ofNat (List.length (Option.getD D.1 (([],[],[],[],0,0,0,0,0,0,0),[],[])).2.2))=true then A.ad (b9 (Add.add (List.length D.fa) (Add.add 0 1))) (A.pure (V.next (D.1,f.1,f.2.1,D.cY,D.fa++[D.2.1],D.gw,()))) else A.pure (V.next (D.1,f.1,f.2.1,D.cY,D.fa,D.gw,())))))))) (V.bD (λ(D:Option dZ×Int×a1×Int×z1'×z1'×Unit)=>A.pure (V.next (D.1,IntKind.wrap .i64 (Add.add D.2.1 1),D.2.2.1,D.2.2.2.1,D.2.2.2.2.1,D.cY,())))) else A.bind (A.pure (V.next (D.2.2.2.2.1,D.cY,()))) λr=>A.pure (V.done r)) (y.1,0,x.1,x.2,[],[],())) (V.bD (λ(D:z1'×z1'×Unit)=>A.pure (D.1,D.2.1,0)))
def Ws(AX:a1->A Int)(akM:List a7×Unit->A (Bool×List a7×Unit))(akN:(Int×Int×Int×Int×Int×Int->A Bool)×List a7×Unit->A ((Nat×Nat)×List a7×Unit))(OG:z1'×hp->A (hp))(akO:a7×Option a1->A Bool)(x:a1×(Option dZ->A Bool)):A (Option dZ×Int):=
 A.bind (AX x.1) λy=>if decide (y≠0)=true then A.pure (none,y) else A.bind (akM (x.1.2.1,())) λy=>A.ad True (A.ad True (A.bind (akN (λhA=>akO (hA,some x.1),y.2.1,())) (λy=>A.ad True (A.bind (A.bind (x.2 (some (x.1,List.drop y.1.1 (List.take y.1.2 y.2.1),[]))) (λb3=>if (!b3)=true then A.bind (A.pure (none,1)) λr=>A.pure (V.done r) else A.pure (V.next (x.1.1,x.1.2.1,x.1.2.2.1,x.1.2.2.2.1,x.1.2.2.2.2.1,x.1.cY,x.1.fa,x.1.gw,x.1.h0,x.1.jV,x.1.2.2.2.2.2.2.2.2.2.2,y.1,y.2.1,[],())))) (V.bD (λ(D:z4'×List a7×z1'×z4'×Int×Int×Int×Int×Int×Int×Int×(Nat×Nat)×List a7×List (Option dO)×Unit)=>A.bind (OG ([],D.1,D.2.1,D.2.2.1,D.2.2.2.1,D.2.2.2.2.1,D.cY,D.fa,D.gw,D.h0,D.jV,D.k3,List.drop D.hO.1 (List.take D.hO.2 D.nk),D.pY,())) λy=>A.ad True (if decide (Int.ofNat (List.length y.nk)=0)=true then A.pure (none,3) else A.pure (some ((y.1,y.2.1,y.2.2.1,y.2.2.2.1,y.2.2.2.2.1,y.cY,y.fa,y.gw,y.h0,y.jV,y.k3),y.hO,y.nk),0))))))))
def Wt(jw:Int×Int×Int->A Bool)(En:Int->A Bool)(x:Option dZ×Option Int×Option Int):A Bool:=
 A.bind (jw (Option.getD x.2.1 0,0,9)) λy=>A.bind (ct y (En (Option.getD x.2.2 0)) false) λb3=>A.pure (y&&b3)
def akP(x:Int×Int×Int):A Bool:=
 A.pure (decide (x.2.1<=x.1)&&decide (x.1<=x.2.2))
def Wu(jw:Int×Int×Int->A Bool)(x:Int):A Bool:=
 A.bind (jw (x,0,9999)) λy=>A.pure y
def Wv(x:Option dO×Int×Int):A (bw×Bool):=
 letI b:=List.getD (Option.getD x.1 ([],[[],[],[],[],[],[],[],[],[],[]])).2 (Int.toNat x.2.1) [];A.bind (A.ad (Option.isSome x.1=true) (A.ad (0<=x.2.1/\x.2.1<Int.ofNat 10) (A.loop (λ(D:Int×Bool×List bw×Int×Int×bw×bw×Unit)=>letI d:=D.2.2;letI c:=d.2.2.1;letI a:=List.getD d.1 (Int.toNat c) ((0,0,0,0,0,0),0);if decide (c<d.2.1)=true then A.bind (A.ad (0<=c/\c<Int.ofNat (List.length d.1)) (if decide (a.2<=D.1)=true then A.pure (V.next (D.1,decide (a.1.2.2.2.1=1),d.1,d.2.1,c,D.cY,a,())) else A.pure (V.next (D.1,D.2.1,d.1,d.2.1,c,D.cY,D.fa,())))) (V.bD (λ(D:Int×Bool×List bw×Int×Int×bw×bw×Unit)=>A.pure (V.next (D.1,D.2.1,D.2.2.1,D.2.2.2.1,IntKind.wrap .i64 (Add.add D.2.2.2.2.1 1),D.cY,D.fa,())))) else A.bind (A.pure (V.next (D.2.1,D.cY,D.fa,()))) λr=>A.pure (V.done r)) (x.2.2,false,b,Int.ofNat (List.length b),0,((0,0,0,0,0,0),0),((0,0,0,0,0,0),0),())))) (V.bD (λ(D:Bool×bw×bw×Unit)=>A.pure (D.2.2.1,D.1)))
def Ww(OH:z1'×Unit->A (z1'×Unit))(akQ:(z1'->Prop)×Unit->A (z1'×Unit))(x:z1'->Prop):A (z1'):=
 A.bind (akQ (x,())) λy=>A.bind (OH (y.1,())) λy=>A.pure y.1
def akR(akS:Option (z4')->z1'->Prop)(x:z4'):A (z1'->Prop):=
 A.pure (akS (some x))
def Wx(uH:a1×(Option dZ->A Bool)->A (Option dZ×Int))(Em:Option dZ×(Option dO->A (Int×Bool))->A ((Int×Int)×Bool))(akT:Option dZ×Option Int->A Bool)(akU:Option dO×Option (Option dZ)×Option Int×Option (Int->A Int)->A (Int×Bool))(x:a1×Int×(Int->A Int)):A ((Int×Int)×Int):=
 A.bind (uH (x.1,λhA=>akT (hA,some x.2.1))) λy=>if decide (y.2≠0)=true then A.pure ((0,0),y.2) else A.bind (Em (y.1,λhA=>akU (hA,some y.1,some x.2.1,some x.2.2))) λy=>if (!y.2)=true then A.pure ((0,0),3) else A.pure (y.1,0)
def Wy(If:pX×Int->A Int)(x:Int×Option a1):A Int:=
 A.bind (If ((Option.getD x.2 ([],[],[],[],0,0,0,0,0,0,0)).2.2.2.2,x.1)) λy=>A.pure y
def Wz(x:pX×Int):A Int:=
 letI c:=x.1.2;letI b:=IntKind.wrap .i64 (x.2-x.1.1);letI a:=IntKind.wrap .i64 (c.2.1*IntKind.wrap .i64 (Int.tdiv (IntKind.wrap .i64 (IntKind.wrap .i64 (Add.add (if b > 0 then b else 0) c.1)-1)) c.1));if decide (x.2>=c.2.2.2.1)=true then A.pure x.1.cY else A.ad (c.1≠0) (A.pure (if a<c.2.2.1 then a else c.2.2.1))
def akV(x:Int):A Int:=
 A.pure x
def WA(En:Int->A Bool)(x:Option dZ×Option Int):A Bool:=
 A.bind (En (Option.getD x.2 0)) λy=>A.pure y
def WB(x:Option dZ×(Option dO->A (Int×Bool))):A ((Int×Int)×Bool):=
 letI b:=(Option.getD x.1 (([],[],[],[],0,0,0,0,0,0,0),[],[])).2.2;A.bind (A.ad (Option.isSome x.1=true) (A.loop (λ(D:(Option dO->A (Int×Bool))×Bool×List (Option dO)×Int×Int×(Int×Int)×Unit)=>letI c:=D.2.2;letI a:=c.2.2.1;if decide (a<c.2.1)=true then A.bind (A.ad (0<=a/\a<Int.ofNat (List.length c.1)) (A.bind (D.1 (List.getD c.1 (Int.toNat a) none)) (λy=>if (!y.2)=true then A.pure (V.next (D.1,D.2.1,c.1,c.2.1,a,D.cY,())) else if (!D.2.1)=true then A.pure (V.next (D.1,true,c.1,c.2.1,a,(y.1,y.1),())) else A.pure (V.next (D.1,D.2.1,c.1,c.2.1,a,(if y.1<D.cY.1 then y.1 else D.cY.1,if y.1 > D.cY.2 then y.1 else D.cY.2),()))))) (V.bD (λ(D:(Option dO->A (Int×Bool))×Bool×List (Option dO)×Int×Int×(Int×Int)×Unit)=>A.pure (V.next (D.1,D.2.1,D.2.2.1,D.2.2.2.1,IntKind.wrap .i64 (Add.add D.2.2.2.2.1 1),D.cY,())))) else A.bind (A.pure (V.next (D.2.1,D.cY,()))) λr=>A.pure (V.done r)) (x.2,false,b,Int.ofNat (List.length b),0,(0,0),()))) (V.bD (λ(D:Bool×(Int×Int)×Unit)=>A.pure (D.2.1,D.1)))
def WC(Ek:Option dO×Int×Int->A (bw×Bool))(x:Option dO×Option Int×Option a1):A (Int×Bool):=
 A.bind (A.loop (λ(D:Option dO×Int×a1×Int×Int×Unit)=>letI a:=D.2.2.2;if decide (a.2.1<10)=true then A.bind (A.bind (Ek (D.1,a.2.1,D.2.1)) (λy=>if y.2=true then A.pure (V.next (D.1,D.2.1,D.2.2.1,IntKind.wrap .i64 (Add.add a.1 D.2.2.1.2.2.2.2.2.2.2.2.2.2),a.2.1,())) else A.pure (V.next (D.1,D.2.1,D.2.2.1,a.1,a.2.1,())))) (V.bD (λ(D:Option dO×Int×a1×Int×Int×Unit)=>A.pure (V.next (D.1,D.2.1,D.2.2.1,D.2.2.2.1,IntKind.wrap .i64 (Add.add D.2.2.2.2.1 1),())))) else A.bind (A.pure (V.next (a.1,()))) λr=>A.pure (V.done r)) (x.1,Option.getD x.2.1 0,Option.getD x.2.2 ([],[],[],[],0,0,0,0,0,0,0),0,0,())) (V.bD (λ(D:Int×Unit)=>A.pure (D.1,true)))
def WD(AY:Int->A Bool)(x:Option dZ×Option Int):A Bool:=
 A.bind (AY (Option.getD x.2 0)) λy=>A.pure y
def WE(jw:Int×Int×Int->A Bool)(x:Int):A Bool:=
 A.bind (jw (x,0,99)) λy=>A.pure y
def WG(If:pX×Int->A Int)(OI:Option dZ×Option dO->A (List bw->Prop))(x:Option dO×Option (Option dZ)×Option Int×Option a1):A (Int×Bool):=
 A.bind (OI (Option.getD x.2.1 none,x.1)) λy=>A.bind (A.any y) λL=>A.bind (jQ (λ(D:Int×a1×Int×Unit) (y:a7×Int)=>letI a:=(D.2.1.2.2.2.2,y.2);A.bind (if decide (y.1.2.2.2.2.2=D.1)=true then A.ad (If a).b1 (A.pure (di.normal,IntKind.wrap .i64 (Add.add D.2.2.1 (A.val (If a) 0)),())) else A.pure (di.normal,D.2.2.1,())) λp=>A.pure (p.1,D.1,D.2.1,p.2.1,())) L (Option.getD x.2.2.1 0,Option.getD x.2.2.2 ([],[],[],[],0,0,0,0,0,0,0),0,())) λp=>sI (A.pure (p.2.2.2.1,true)) (λid=>if id=0 then A.pure (p.2.2.2.1,true) else A.fail) A.fail p.1
def akW(akX:Option (Option dO)×Option (Option dZ)->List bw->Prop)(x:Option dZ×Option dO):A (List bw->Prop):=
 A.pure (akX (some x.2,some x.1))
def WH(jw:Int×Int×Int->A Bool)(OJ:List a7×(Int×Int×Int×Int×Int×Int->A Bool)->A Bool)(akY:Int×Int×Int×Int×Int×Int×Int->A Bool)(Ot:z1'×(Int->A Bool)->A Bool)(akZ:a7×Option a1->A Bool)(ak0:Int->A Bool)(x:a1):A Bool:=
 letI k:=Int.ofNat (List.length x.1);letI d:=decide (k > 3)||decide (Int.ofNat (List.length x.2.1) > 12)||decide (Int.ofNat (List.length x.2.2.1) > 12)||decide (Int.ofNat (List.length x.2.2.2.1) > 4);A.bind (ct (!d) (akY x.2.2.2.2) false) λy=>if (d||!y)=true then A.pure false else A.bind (A.loop (λ(D:z4'×Int×Int×a1×Unit)=>letI l:=D.2.2.1;letI e:=List.getD D.1 (Int.toNat l) (0,0);if decide (l<D.2.1)=true then A.ad (0<=l/\l<Int.ofNat (List.length D.1)) (A.bind (jw (e.1,-30,e.2)) (λy=>if (!y||decide (e.2 > 30))=true then A.bind (A.bind (A.pure false) (λr=>A.pure (V.done r))) λr=>A.pure (V.done r) else A.pure (V.next (D.1,D.2.1,IntKind.wrap .i64 (Add.add l 1),D.2.2.2.1,())))) else A.bind (A.pure (V.next (D.2.2.2.1,()))) λr=>A.pure (V.done r)) (x.1,k,0,x,())) (V.bD (λ(D:a1×Unit)=>A.bind (A.loop (λ(D:z4'×Int×Int×a1×Unit)=>letI m:=D.2.2.2.1;letI f:=D.2.2.1;letI j:=decide (f > 0);letI i:=IntKind.wrap .i64 (f-1);letI b:=List.getD D.1 (Int.toNat f) (0,0);letI a:=!(A.val (jw (b.1,0,b.2)) false)||decide (b.2 > 9999);letI h:=(!a)=true;letI c:=(!a&&j)=true;letI g:=c->c/\True/\True;if decide (f<D.2.1)=true then A.ad (0<=f/\f<Int.ofNat (List.length D.1)) (A.ad (jw (b.1,0,b.2)).b1 (A.ad ((!(!(A.val (jw (b.1,0,b.2)) false)))=true->(!(!(A.val (jw (b.1,0,b.2)) false)))=true/\True/\True) (A.ad ((!(!(A.val (jw (b.1,0,b.2)) false)))=true->((!(!(A.val (jw (b.1,0,b.2)) false)))=true/\True)/\True/\True) (A.ad (True/\((!(A.val (jw (b.1,0,b.2)) false))=false->(!(!(A.val (jw (b.1,0,b.2)) false)))=true)) (A.ad (h->(h/\True)/\True/\True) (A.ad (h->True/\True/\h) (A.ad g (A.ad g (A.ad (c->(c/\True)/\True/\True) (A.ad (c->(c/\c)/\(0<=i/\i<Int.ofNat (List.length m.2.2.2.1))/\True) (A.ad g (A.ad g (A.ad (c->(c/\c)/\True/\True) (A.ad (h->(h/\(j=true->c))/\True/\True) (A.ad (True/\(a=false->h)) (if (a||j&&decide (b.1<=(List.getD m.2.2.2.1 (Int.toNat i) (0,0)).2))=true then A.bind (A.bind (A.pure false) (λr=>A.pure (V.done r))) λr=>A.pure (V.done r) else A.pure (V.next (D.1,D.2.1,IntKind.wrap .i64 (Add.add f 1),m,())))))))))))))))))) else A.bind (A.pure (V.next (m,()))) λr=>A.pure (V.done r)) (D.1.2.2.2.1,Int.ofNat (List.length D.1.2.2.2.1),0,D.1,())) (V.bD (λ(D:a1×Unit)=>A.bind (OJ (D.1.2.1,λx=>akZ (x,some D.1))) λy=>A.bind (ct (!y) (Ot (D.1.2.2.1,ak0)) false) λb3=>A.pure (!y&&!b3)))))
def ak1(El:(z1'->Prop)->A (z1'))(OK:List (Int×a7)->A (z1'->Prop))(x:List a7):A (List a7×Bool):=
 A.bind (A.loop (λ(D:List a7×Int×Int×List (Int×a7)×Unit)=>letI e:=D.2.2;letI b:=List.getD D.1 (Int.toNat e.1) (0,0,0,0,0,0);letI c:=Option.map (λx=>x.2) (List.find? (λp=>decide (b.1=p.1)) e.2.1);letI a:=Option.getD c (0,0,0,0,0,0);if decide (e.1<D.2.1)=true then A.ad (0<=e.1/\e.1<Int.ofNat (List.length D.1)) (if (Option.isSome c&&!(decide (a.1=b.1)&&(decide (a.2.1=b.2.1)&&(decide (a.2.2.1=b.2.2.1)&&(decide (a.2.2.2.1=b.2.2.2.1)&&(decide (a.2.2.2.2.1=b.2.2.2.2.1)&&decide (a.2.2.2.2.2=b.2.2.2.2.2)))))))=true then A.bind (A.bind (A.pure ([],false)) (λr=>A.pure (V.done r))) λr=>A.pure (V.done r) else A.pure (V.next (D.1,D.2.1,IntKind.wrap .i64 (Add.add e.1 1),k2 e.2.1 b.1 b,()))) else A.bind (A.pure (V.next (e.2.1,()))) λr=>A.pure (V.done r)) (x,Int.ofNat (List.length x),0,[],())) (V.bD (λ(D:List (Int×a7)×Unit)=>A.bind (A.bind (OK D.1) (λy=>A.bind (El y) λy=>A.loop (λ(D:z1'×Int×Int×List a7×List (Int×a7)×Unit)=>letI d:=D.2.2;if decide (d.1<D.2.1)=true then A.ad (0<=d.1/\d.1<Int.ofNat (List.length D.1)) (A.ad (b9 (Add.add (List.length d.2.1) (Add.add 0 1))) (A.pure (V.next (D.1,D.2.1,IntKind.wrap .i64 (Add.add d.1 1),d.2.1++[Option.getD (Option.map (λx=>x.2) (List.find? (λp=>decide (List.getD D.1 (Int.toNat d.1) 0=p.1)) d.2.2.1)) (0,0,0,0,0,0)],d.2.2.1,())))) else A.bind (A.pure (V.next (d.2.1,()))) λr=>A.pure (V.done r)) (y,Int.ofNat (List.length y),0,[],D.1,()))) (V.bD (λ(D:List a7×Unit)=>A.pure (D.1,true)))))
def WI(fW:Int×Int×Int->A Bool)(ak2:Int×Int×Int×Int×Int×Int×Int->A Bool)(WJ:a1×Int×Int×Int×Int×Int×Int->A Bool)(x:a1):A Bool:=
 letI e:=decide (Int.ofNat (List.length x.1) > 3)||decide (Int.ofNat (List.length x.2.1) > 12)||decide (Int.ofNat (List.length x.2.2.1) > 12)||decide (Int.ofNat (List.length x.2.2.2.1) > 4);A.bind (ct (!e) (ak2 x.2.2.2.2) false) λy=>if (e||!y)=true then A.pure false else A.bind (A.loop (λ(D:Int×a1×Unit)=>letI f:=D.1<Int.ofNat (List.length D.2.1.1);letI o:=0<=D.1/\f;letI b:=List.getD D.2.1.1 (Int.toNat D.1) (0,0);if decide f=true then A.ad o (A.ad o (A.ad (fW (b.1,-30,b.2)).b1 (A.ad ((!(!(A.val (fW (b.1,-30,b.2)) false)))=true->(!(!(A.val (fW (b.1,-30,b.2)) false)))=true/\True/\True) (A.ad ((!(!(A.val (fW (b.1,-30,b.2)) false)))=true->((!(!(A.val (fW (b.1,-30,b.2)) false)))=true/\(!(!(A.val (fW (b.1,-30,b.2)) false)))=true)/\o/\True) (A.ad ((!(!(A.val (fW (b.1,-30,b.2)) false)))=true->(!(!(A.val (fW (b.1,-30,b.2)) false)))=true/\True/\True) (A.ad ((!(!(A.val (fW (b.1,-30,b.2)) false)))=true->(!(!(A.val (fW (b.1,-30,b.2)) false)))=true/\True/\True) (A.ad ((!(!(A.val (fW (b.1,-30,b.2)) false)))=true->((!(!(A.val (fW (b.1,-30,b.2)) false)))=true/\True)/\True/\True) (A.ad (True/\((!(A.val (fW (b.1,-30,b.2)) false))=false->(!(!(A.val (fW (b.1,-30,b.2)) false)))=true)) (if (!(A.val (fW (b.1,-30,b.2)) false)||decide (b.2 > 30))=true then A.bind (A.bind (A.pure false) (λr=>A.pure (V.done r))) λr=>A.pure (V.done r) else A.pure (V.next (IntKind.wrap .i64 (Add.add D.1 1),D.2.1,()))))))))))) else A.bind (A.pure (V.next (D.2.1,()))) λr=>A.pure (V.done r)) (0,x,())) (V.bD (λ(D:a1×Unit)=>A.bind (A.loop (λ(D:Int×a1×Unit)=>letI m:=D.1<Int.ofNat (List.length D.2.1.2.1);letI h:=(D.2.1,List.getD D.2.1.2.1 (Int.toNat D.1) (0,0,0,0,0,0));if decide m=true then A.ad (0<=D.1/\m) (A.ad (WJ h).b1 (if (!(A.val (WJ h) false))=true then A.bind (A.bind (A.pure false) (λr=>A.pure (V.done r))) λr=>A.pure (V.done r) else A.pure (V.next (IntKind.wrap .i64 (Add.add D.1 1),D.2.1,())))) else A.bind (A.pure (V.next (D.2.1,()))) λr=>A.pure (V.done r)) (0,D.1,())) (V.bD (λ(D:a1×Unit)=>A.bind (A.loop (λ(D:Int×a1×Unit)=>letI l:=D.1<Int.ofNat (List.length D.2.1.2.2.1);if decide l=true then A.ad (0<=D.1/\l) (A.bind (fW (List.getD D.2.1.2.2.1 (Int.toNat D.1) 0,0,99)) (λy=>if (!y)=true then A.bind (A.bind (A.pure false) (λr=>A.pure (V.done r))) λr=>A.pure (V.done r) else A.pure (V.next (IntKind.wrap .i64 (Add.add D.1 1),D.2.1,())))) else A.bind (A.pure (V.next (D.2.1,()))) λr=>A.pure (V.done r)) (0,D.1,())) (V.bD (λ(D:a1×Unit)=>A.bind (A.loop (λ(D:Int×a1×Unit)=>letI p:=D.2.1.2.2.2.1;letI n:=decide (D.1 > 0);letI k:=IntKind.wrap .i64 (D.1-1);letI g:=Int.ofNat (List.length p);letI c:=List.getD p (Int.toNat D.1) (0,0);letI a:=!(A.val (fW (c.1,0,c.2)) false)||decide (c.2 > 9999);letI j:=(!a)=true;letI d:=(!a&&n)=true;letI i:=d->d/\True/\True;if decide (D.1<g)=true then A.ad (0<=D.1/\D.1<g) (A.ad (fW (c.1,0,c.2)).b1 (A.ad ((!(!(A.val (fW (c.1,0,c.2)) false)))=true->(!(!(A.val (fW (c.1,0,c.2)) false)))=true/\True/\True) (A.ad ((!(!(A.val (fW (c.1,0,c.2)) false)))=true->((!(!(A.val (fW (c.1,0,c.2)) false)))=true/\True)/\True/\True) (A.ad (True/\((!(A.val (fW (c.1,0,c.2)) false))=false->(!(!(A.val (fW (c.1,0,c.2)) false)))=true)) (A.ad (j->(j/\True)/\True/\True) (A.ad (j->True/\True/\j) (A.ad i (A.ad i (A.ad (d->(d/\True)/\True/\True) (A.ad (d->(d/\d)/\(0<=k/\k<g)/\True) (A.ad i (A.ad i (A.ad (d->(d/\d)/\True/\True) (A.ad (j->(j/\(n=true->d))/\True/\True) (A.ad (True/\(a=false->j)) (if (a||n&&decide (c.1<=(List.getD p (Int.toNat k) (0,0)).2))=true then A.bind (A.bind (A.pure false) (λr=>A.pure (V.done r))) λr=>A.pure (V.done r) else A.pure (V.next (IntKind.wrap .i64 (Add.add D.1 1),D.2.1,())))))))))))))))))) else A.bind (A.pure (V.next ())) λr=>A.pure (V.done r)) (0,D.1,())) (V.bD (λ(D:Unit)=>A.pure true))))))))
def WK(x:a7×Int×Int×Int×Int×Int×Int):A Bool:=
 letI a:=decide (x.1.1=x.2.1);A.pure (a&&!(a&&(decide (x.1.2.1=x.2.2.1)&&(decide (x.1.2.2.1=x.2.2.2.1)&&(decide (x.1.2.2.2.1=x.2.2.2.2.1)&&(decide (x.1.2.2.2.2.1=x.cY)&&decide (x.1.2.2.2.2.2=x.2.2.2.2.2.2)))))))
def WL(ly:Int×Int×Int->A Bool)(x:Int×Int×Int):A Bool:=
 A.bind (ly x) λy=>A.pure y
def ak3(En:Int->A Bool)(x:Option dZ×Option Int):A Bool:=
 A.bind (En (Option.getD x.2 0)) λy=>A.pure y
def WM(x:a1×Int×Int):A Int:=
 A.bind (A.loop (λ(D:Int×Int×Int×z4'×Int×Int×Unit)=>letI c:=D.2.2.2;letI b:=IntKind.wrap .i64 (D.2.1-1);letI a:=List.getD c.1 (Int.toNat D.cY) (0,0);if decide (D.cY<c.2.1)=true then A.ad (0<=D.cY/\D.cY<Int.ofNat (List.length c.1)) (A.pure (V.next (D.1,D.2.1,IntKind.wrap .i64 (D.2.2.1-(if IntKind.wrap .i64 (Add.add (IntKind.wrap .i64 ((if b<a.2 then b else a.2)-(if D.1 > a.1 then D.1 else a.1))) 1) > 0 then IntKind.wrap .i64 (Add.add (IntKind.wrap .i64 ((if b<a.2 then b else a.2)-(if D.1 > a.1 then D.1 else a.1))) 1) else 0)),c.1,c.2.1,IntKind.wrap .i64 (Add.add D.cY 1),()))) else A.bind (A.pure (V.next (D.2.2.1,()))) λr=>A.pure (V.done r)) (x.2.1,x.2.2,IntKind.wrap .i64 (x.2.2-x.2.1),x.1.2.2.2.1,Int.ofNat (List.length x.1.2.2.2.1),0,())) (V.bD (λ(D:Int×Unit)=>A.pure D.1))
def WN(x:z4'):A (z4'):=
 A.bind (A.any (λb=>b=true->x=[])) λy=>if y=true then A.pure [] else A.ad (b9 (Add.add 0 (List.length x))) (A.pure ([]++x))
def WO(hM:z1'×Int->A Bool)(x:a7×Option a1):A Bool:=
 A.bind (hM ((Option.getD x.2 ([],[],[],[],0,0,0,0,0,0,0)).2.2.1,x.1.1)) λy=>A.pure y
def WQ(OJ:List a7×(Int×Int×Int×Int×Int×Int->A Bool)->A Bool)(ak4:a7×Option Int->A Bool)(x:Option dZ×Option Int):A Bool:=
 A.ad (Option.isSome x.1=true) (A.bind (OJ ((Option.getD x.1 (([],[],[],[],0,0,0,0,0,0,0),[],[])).2.1,λhA=>ak4 (hA,some (Option.getD x.2 0)))) (λy=>A.pure y))
def ak5(OL:List a7×(Int×Int×Int×Int×Int×Int->A Bool)->A Int)(x:List a7×(Int×Int×Int×Int×Int×Int->A Bool)):A Bool:=
 A.bind (OL x) λy=>A.pure (decide (y>=0))
def ak6(x:a7×Option Int):A Bool:=
 A.pure (decide (x.1.1=Option.getD x.2 0)&&decide (x.1.2.2.2.1=1))
def WR(OI:Option dZ×Option dO->A (List bw->Prop))(x:Option dO×Option (Option dZ)×Option Int×Option (Int->A Int)):A (Int×Bool):=
 A.bind (OI (Option.getD x.2.1 none,x.1)) λy=>A.bind (A.any y) λL=>A.bind (jQ (λ(D:Int×(Int->A Int)×Int×Bool×Unit) (y:a7×Int)=>A.bind (if decide (y.1.1=D.1)=true then A.bind (D.2.1 y.2) λy=>A.pure (di.ret,y,true,()) else A.pure (di.normal,D.2.2.1,D.2.2.2.1,())) λp=>A.pure (p.1,D.1,D.2.1,p.2.1,p.2.2.1,())) L (Option.getD x.2.2.1 0,Option.getD x.2.2.2 λx=>{ b1:=False,bQ:=λx=>False },0,false,())) λp=>sI (A.pure (0,false)) (λid=>if id=0 then A.pure (0,false) else A.fail) (A.pure (p.2.2.2.1,p.2.2.2.2.1)) p.1
def WS(jw:Int×Int×Int->A Bool)(x:Int×Int×Int×Int×Int×Int×Int):A Bool:=
 A.bind (A.loop (λ(D:Int×Int×pX×z1'×Unit)=>letI a:=D.2;if decide (a.1<D.1)=true then A.ad (0<=a.1/\a.1<Int.ofNat (List.length a.2.2.1)) (A.bind (jw (List.getD a.2.2.1 (Int.toNat a.1) 0,0,100000)) (λy=>if (!y)=true then A.bind (A.bind (A.pure false) (λr=>A.pure (V.done r))) λr=>A.pure (V.done r) else A.pure (V.next (D.1,IntKind.wrap .i64 (Add.add a.1 1),a.2.1,a.2.2.1,())))) else A.bind (A.pure (V.next (a.2.1,()))) λr=>A.pure (V.done r)) (Int.ofNat (Add.add (Add.add (Add.add (Add.add 0 1) 1) 1) 1),0,x,[x.2.2.1,x.2.2.2.1,x.cY,x.2.2.2.2.2.2],())) (V.bD (λ(D:pX×Unit)=>A.bind (jw (D.1.1,0,9999)) λy=>A.bind (ct y (jw (D.1.2.1,1,9999)) false) λb3=>A.bind (ct (y&&b3) (jw (D.1.2.2.2.2.1,1,9999)) false) λdK=>A.pure (y&&b3&&dK)))
def WT(ak7:a1×Int×Int×Int×Int×Int×Int->A Bool)(x:a7×Option a1):A Bool:=
 A.bind (ak7 (Option.getD x.2 ([],[],[],[],0,0,0,0,0,0,0),x.1)) λy=>A.pure (!y)
def WU(jw:Int×Int×Int->A Bool)(AY:Int->A Bool)(x:a1×Int×Int×Int×Int×Int×Int):A Bool:=
 letI c:=x.2.2.2.2;letI a:=decide (c.1=1)||decide (c.1=2)&&decide (c.2.2=0);A.bind (ct a (AY x.2.1) false) λy=>A.bind (ct (a&&y) (AY c.2.2) false) λb3=>A.bind (ct (a&&y&&b3) (jw (x.2.2.1,0,IntKind.wrap .i64 (Int.ofNat (List.length x.1.1)-1))) false) λdK=>letI b:=a&&y&&b3&&dK;A.bind (ct b (jw (x.2.2.2.1,0,9999)) false) λga=>A.bind (ct (b&&ga) (jw (x.cY,0,9)) false) λkL=>A.pure (b&&ga&&kL)
def WV(AY:Int->A Bool)(x:Int):A Bool:=
 A.bind (AY x) λy=>A.pure (!y)
def ak8(ak9:Option (List (Int×a7))->z1'->Prop)(x:List (Int×a7)):A (z1'->Prop):=
 A.pure (ak9 (some x))
def WW(fW:Int×Int×Int->A Bool)(x:Int×Int×Int×Int×Int×Int×Int):A Bool:=
 A.bind (fW (x.1,0,9999)) λy=>A.bind (ct y (fW (x.2.1,1,9999)) false) λb3=>A.bind (ct (y&&b3) (fW (x.2.2.2.2.1,1,9999)) false) λdK=>A.bind (ct (y&&b3&&dK) (fW (x.2.2.1,0,100000)) false) λga=>letI a:=y&&b3&&dK&&ga;A.bind (ct a (fW (x.2.2.2.1,0,100000)) false) λkL=>A.bind (ct (a&&kL) (fW (x.cY,0,100000)) false) λs3=>A.bind (ct (a&&kL&&s3) (fW (x.2.2.2.2.2.2,0,100000)) false) λuG=>A.pure (a&&kL&&s3&&uG)
def WX(fW:Int×Int×Int->A Bool)(x:a1×Int×Int×Int×Int×Int×Int):A Bool:=
 letI b:=x.2.2.2.2;A.bind (fW (x.2.1,0,99)) λy=>A.bind (ct (!(!y)) (fW (x.2.2.1,0,IntKind.wrap .i64 (Int.ofNat (List.length x.1.1)-1))) false) λb3=>A.bind (ct (!(!y||!b3)) (fW (x.2.2.2.1,0,9999)) false) λdK=>letI a:=!y||!b3||!dK;A.bind (ct (!a) (fW (x.cY,0,9)) false) λga=>A.bind (ct (!(a||!ga)) (fW (b.2.2,0,99)) false) λkL=>if (a||!ga||!kL)=true then A.pure false else A.pure (decide (b.1=1)||decide (b.1=2)&&decide (b.2.2=0))
def WY(ayJ:Int->A Int)(ak_:Int->A Int)(x:Int):A Int:=
 A.bind (ak_ x) λy=>A.pure y
def ak'(x:List a7×(Int×Int×Int×Int×Int×Int->A Bool)):A Int:=
 A.bind (A.loop (λ(D:List a7×(Int×Int×Int×Int×Int×Int->A Bool)×Int×Int×Unit)=>letI a:=D.2.2.2.1;if decide (a<D.2.2.1)=true then A.ad (0<=a/\a<Int.ofNat (List.length D.1)) (A.bind (D.2.1 (List.getD D.1 (Int.toNat a) (0,0,0,0,0,0))) (λy=>if y=true then A.bind (A.bind (A.pure a) (λr=>A.pure (V.done r))) λr=>A.pure (V.done r) else A.pure (V.next (D.1,D.2.1,D.2.2.1,IntKind.wrap .i64 (Add.add a 1),())))) else A.bind (A.pure (V.next ())) λr=>A.pure (V.done r)) (x.1,x.2,Int.ofNat (List.length x.1),0,())) (V.bD (λ(D:Unit)=>A.pure (-1)))
def Eo(x:Int):A Int:=
 A.bind (if decide (x>=4294967296)=true then A.ad ((0:Int)<=32) (A.pure (V.next (jl .u64 x 32,32,()))) else A.pure (V.next (x,0,()))) (V.bD (λ(D:Int×Int×Unit)=>A.bind (if decide (D.1>=65536)=true then A.ad ((0:Int)<=16) (A.pure (V.next (jl .u64 D.1 16,IntKind.wrap .i64 (Add.add D.2.1 16),()))) else A.pure (V.next (D.1,D.2.1,()))) (V.bD (λ(D:Int×Int×Unit)=>A.bind (if decide (D.1>=256)=true then A.ad ((0:Int)<=8) (A.pure (V.next (jl .u64 D.1 8,IntKind.wrap .i64 (Add.add D.2.1 8),()))) else A.pure (V.next (D.1,D.2.1,()))) (V.bD (λ(D:Int×Int×Unit)=>letI a:=IntKind.wrap .u8 D.1;A.ad (0<=a/\a<Int.ofNat 256) (A.pure (IntKind.wrap .i64 (Add.add D.2.1 (IntKind.wrap .i64 (Int.ofNat (List.getD akx (Int.toNat a) 0).1.1.1)))))))))))
def WZ(x:z1'):A (z1'):=
 A.bind (A.any (λb=>b=true->x=[])) λy=>if y=true then A.pure [] else A.ad (b9 (Add.add 0 (List.length x))) (A.pure ([]++x))
def W0(ala:Int×Int->A Int)(x:bw×a7×Int):A Int:=
 A.bind (ala (x.1.2,x.2.2)) λy=>A.pure y
def W1(W2:Int->A Bool)(x:Int×Int):A Int:=
 A.bind (W2 x.1) λy=>A.bind (W2 x.2) λb3=>if y=true then if b3=true then A.pure 0 else A.pure (-1) else if b3=true then A.pure 1 else if decide (x.1<x.2)=true then A.pure (-1) else if decide (x.1 > x.2)=true then A.pure 1 else A.pure 0
def W3(x:Int):A Bool:=
 A.pure (decide (x≠x))
def W4(x:(z1'->Prop)×Unit):A (z1'×Unit):=
 A.bind (A.any x.1) λL=>A.bind (jQ (λ(D:z1'×Unit) (y:Int)=>A.bind (A.ad (b9 (Add.add (List.length D.1) (Add.add 0 1))) (A.pure (di.normal,D.1++[y],()))) λp=>A.pure (p.1,p.2.1,())) L ([],())) λp=>sI (A.pure (p.2.1,())) (λid=>if id=0 then A.pure (p.2.1,()) else A.fail) A.fail p.1
def W5(alb:(z1'->Prop)×Unit->A (z1'×Unit))(x:(z1'->Prop)×Unit):A (z1'×Unit):=
 A.bind (alb (x.1,())) λy=>A.pure (y.1,())
def W6(OL:List a7×(Int×Int×Int×Int×Int×Int->A Bool)->A Int)(x:(Int×Int×Int×Int×Int×Int->A Bool)×List a7×Unit):A ((Nat×Nat)×List a7×Unit):=
 A.bind (OL (x.2.1,x.1)) λy=>if decide (y=-1)=true then A.pure ((0,List.length x.2.1),x.2.1,()) else A.bind (A.loop (λ(D:(Int×Int×Int×Int×Int×Int->A Bool)×Int×Int×List a7×Unit)=>letI g:=D.2.1;letI f:=D.2.2;letI e:=List.getD f.2.1 (Int.toNat f.1) (0,0,0,0,0,0);letI c:=Int.ofNat (List.length f.2.1);if decide (f.1<c)=true then A.bind (A.ad (0<=f.1/\f.1<c) (A.bind (D.1 e) (λy=>if (!y)=true then A.ad (0<=g/\g<c) (A.pure (V.next (D.1,IntKind.wrap .i64 (Add.add g 1),f.1,List.set f.2.1 (Int.toNat g) e,()))) else A.pure (V.next (D.1,g,f.1,f.2.1,()))))) (V.bD (λ(D:(Int×Int×Int×Int×Int×Int->A Bool)×Int×Int×List a7×Unit)=>A.pure (V.next (D.1,D.2.1,IntKind.wrap .i64 (Add.add D.2.2.1 1),D.2.2.2.1,())))) else A.bind (A.pure (V.next (g,f.2.1,()))) λr=>A.pure (V.done r)) (x.1,y,IntKind.wrap .i64 (Add.add y 1),x.2.1,())) (V.bD (λ(D:Int×List a7×Unit)=>letI d:=Int.toNat D.1;letI b:=Int.ofNat (List.length D.2.1);letI a:=List.take d D.2.1++List.replicate (Int.toNat b-d) (0,0,0,0,0,0)++List.drop (Add.add d (List.length (List.replicate (Int.toNat b-d) ((0,0,0,0,0,0):a7)))) D.2.1;A.ad (0<=D.1/\D.1<=b/\b<=b) (A.ad True (A.ad ((0:Int)<=0/\0<=D.1/\D.1<=Int.ofNat (List.length a)) (A.pure ((Int.toNat 0,d),a,()))))))
def Ig(AW:a1×Int×Int->A Int)(x:Nat×Option dO×Option dZ×(Nat×(List bw->Prop)×List bw×Bool)×Unit):A ((Nat×(List bw->Prop)×List bw×Bool)×Unit):=
 A.ad (Option.isSome x.2.1=true) (A.loop (λ(D:Nat×Option dZ×List (List bw)×Int×(Nat×(List bw->Prop)×List bw×Bool)×Unit)=>letI g:=D.2.2.2;if decide (g.1<10)=true then A.bind (A.ad (0<=g.1/\g.1<Int.ofNat 10) (A.loop (λ(D:Nat×Option dZ×List bw×Int×List (List bw)×Int×(Nat×(List bw->Prop)×List bw×Bool)×Unit)=>letI h:=D.fa;letI f:=D.2.2;letI d:=Int.ofNat (List.length f.1);letI i:=0<=f.2.1/\f.2.1<d;letI c:=IntKind.wrap .i64 (Add.add f.2.1 1);letI b:=List.getD f.1 (Int.toNat f.2.1) ((0,0,0,0,0,0),0);letI a:=((Option.getD D.2.1 (([],[],[],[],0,0,0,0,0,0,0),[],[])).1,b.2,(List.getD f.1 (Int.toNat c) ((0,0,0,0,0,0),0)).2);if decide (c<d)=true then A.ad i (A.ad (Option.isSome D.2.1=true) (A.ad i (A.ad (0<=c/\c<d) (A.ad (AW a).b1 (A.bind (A.ad (D.1=h.1/\h.2.2.2=false/\(∃ (T:List bw),h.2.1 (h.2.2.1++(b.1,A.val (AW a) 0)::T))) (A.any (λx=>True))) (λy=>letI e:=(h.1,h.2.1,h.2.2.1++[(b.1,A.val (AW a) 0)],!y);if (!y)=true then A.bind (A.bind (A.bind (A.pure (e,())) (λr=>A.pure (V.done r))) (λr=>A.pure (V.done r))) λr=>A.pure (V.done r) else A.pure (V.next (D.1,D.2.1,f.1,IntKind.wrap .i64 (Add.add f.2.1 2),f.2.2.1,D.cY,e,())))))))) else A.bind (A.pure (V.next (D.1,D.2.1,f.2.2.1,D.cY,h,()))) λr=>A.pure (V.done r)) (D.1,D.2.1,List.getD D.2.2.1 (Int.toNat g.1) [],0,D.2.2.1,g.1,g.2.1,()))) (V.bD (λ(D:Nat×Option dZ×List (List bw)×Int×(Nat×(List bw->Prop)×List bw×Bool)×Unit)=>A.pure (V.next (D.1,D.2.1,D.2.2.1,IntKind.wrap .i64 (Add.add D.2.2.2.1 1),D.2.2.2.2.1,())))) else A.bind (A.pure (g.2.1,())) λr=>A.pure (V.done r)) (x.1,x.2.2.1,(Option.getD x.2.1 ([],[[],[],[],[],[],[],[],[],[],[]])).2,0,x.2.2.2.1,()))
def W7(x:Int×Int×(bw×a7×Int->A Int)×List bw×Unit):A (List bw×Unit):=
 A.loop (λ(D:Int×Int×(bw×a7×Int->A Int)×Int×List bw×Unit)=>letI i:=D.2.2.2;if decide (i.1<D.2.1)=true then A.bind (A.loop (λ(D:Int×Int×(bw×a7×Int->A Int)×Int×Int×List bw×Unit)=>letI k:=D.2.2;letI d:=Int.ofNat (List.length D.cY);letI c:=k.2.2.1;letI j:=0<=c/\c<d;letI g:=decide (c > D.1);letI f:=List.getD D.cY (Int.toNat c) ((0,0,0,0,0,0),0);letI b:=IntKind.wrap .i64 (c-1);letI e:=List.getD D.cY (Int.toNat b) ((0,0,0,0,0,0),0);letI h:=List.set D.cY (Int.toNat c) e;letI a:=g=true;letI l:=a->a/\True/\True;A.ad (a->(a/\a)/\j/\True) (A.ad l (A.ad (a->(a/\True)/\True/\True) (A.ad (a->(a/\a)/\(0<=b/\b<d)/\True) (A.ad l (A.ad (a->a/\a/\a/\True) (A.bind (ct g (k.1 (f,e)) 0) (λy=>if (g&&decide (y<0))=true then A.ad (0<=b/\b<d) (A.ad j (A.ad j (A.ad (0<=b/\b<Int.ofNat (List.length h)) (A.pure (V.next (D.1,D.2.1,k.1,k.2.1,b,List.set h (Int.toNat b) f,())))))) else A.bind (A.pure (V.next (D.1,D.2.1,k.1,k.2.1,D.cY,()))) λr=>A.pure (V.done r))))))))) (D.1,D.2.1,D.2.2.1,i.1,i.1,i.2.1,())) (V.bD (λ(D:Int×Int×(bw×a7×Int->A Int)×Int×List bw×Unit)=>A.pure (V.next (D.1,D.2.1,D.2.2.1,IntKind.wrap .i64 (Add.add D.2.2.2.1 1),D.2.2.2.2.1,())))) else A.bind (A.pure (i.2.1,())) λr=>A.pure (V.done r)) (x.1,x.2.1,x.2.2.1,IntKind.wrap .i64 (Add.add x.1 1),x.2.2.2.1,())
def OM(x:Nat×z4'×(Nat×(z1'->Prop)×z1'×Bool)×Unit):A ((Nat×(z1'->Prop)×z1'×Bool)×Unit):=
 A.bind (A.pure ()) λy=>A.loop (λ(D:Nat×(Nat×(z1'->Prop)×z1'×Bool)×(Option (Int×Int)×z4')×Unit)=>letI c:=D.2.1;letI b:=D.2.2.1;A.bind (GQ b.2) λy=>if Option.isSome y=true then A.bind (A.ad (Option.isSome (n3 b.1 b.2 y)=true) (A.pure ())) λb3=>A.bind (A.ad (D.1=c.1/\c.2.2.2=false/\(∃ (T:z1'),c.2.1 (c.2.2.1++Option.getD (Option.map (λx=>x.1) (n3 b.1 b.2 y)) 0::T))) (A.any (λx=>True))) λdK=>letI a:=(c.1,c.2.1,c.2.2.1++[Option.getD (Option.map (λx=>x.1) (n3 b.1 b.2 y)) 0],!dK);if (!dK)=true then A.bind (A.pure (a,())) λr=>A.pure (V.done r) else A.pure (V.next (D.1,a,(n3 b.1 b.2 y,Df b.2 y),())) else A.bind (A.pure (c,())) λr=>A.pure (V.done r)) (x.1,x.2.2.1,(none,x.2.1),())
def ON(x:Nat×List (Int×a7)×(Nat×(z1'->Prop)×z1'×Bool)×Unit):A ((Nat×(z1'->Prop)×z1'×Bool)×Unit):=
 A.bind (A.pure ()) λy=>A.loop (λ(D:Nat×(Nat×(z1'->Prop)×z1'×Bool)×(Option pX×List (Int×a7))×Unit)=>letI c:=D.2.1;letI b:=D.2.2.1;A.bind (GQ b.2) λy=>if Option.isSome y=true then A.bind (A.ad (Option.isSome (n3 b.1 b.2 y)=true) (A.pure ())) λb3=>A.bind (A.ad (D.1=c.1/\c.2.2.2=false/\(∃ (T:z1'),c.2.1 (c.2.2.1++Option.getD (Option.map (λx=>x.1) (n3 b.1 b.2 y)) 0::T))) (A.any (λx=>True))) λdK=>letI a:=(c.1,c.2.1,c.2.2.1++[Option.getD (Option.map (λx=>x.1) (n3 b.1 b.2 y)) 0],!dK);if (!dK)=true then A.bind (A.pure (a,())) λr=>A.pure (V.done r) else A.pure (V.next (D.1,a,(n3 b.1 b.2 y,Df b.2 y),())) else A.bind (A.pure (c,())) λr=>A.pure (V.done r)) (x.1,x.2.2.1,(none,x.2.1),())
def alc(El:(z1'->Prop)->A (z1'))(OK:List (Int×a7)->A (z1'->Prop))(x:List a7×Unit):A (Bool×List a7×Unit):=
 A.bind (A.loop (λ(D:List a7×Int×Int×List (Int×a7)×Unit)=>letI e:=D.2.2;letI b:=List.getD D.1 (Int.toNat e.1) (0,0,0,0,0,0);letI c:=Option.map (λx=>x.2) (List.find? (λp=>decide (b.1=p.1)) e.2.1);letI a:=Option.getD c (0,0,0,0,0,0);if decide (e.1<D.2.1)=true then A.ad (0<=e.1/\e.1<Int.ofNat (List.length D.1)) (if (Option.isSome c&&!(decide (a.1=b.1)&&(decide (a.2.1=b.2.1)&&(decide (a.2.2.1=b.2.2.1)&&(decide (a.2.2.2.1=b.2.2.2.1)&&(decide (a.2.2.2.2.1=b.2.2.2.2.1)&&decide (a.2.2.2.2.2=b.2.2.2.2.2)))))))=true then A.bind (A.bind (A.pure (false,[],())) (λr=>A.pure (V.done r))) λr=>A.pure (V.done r) else A.pure (V.next (D.1,D.2.1,IntKind.wrap .i64 (Add.add e.1 1),k2 e.2.1 b.1 b,()))) else A.bind (A.pure (V.next (e.2.1,()))) λr=>A.pure (V.done r)) (x.1,Int.ofNat (List.length x.1),0,[],())) (V.bD (λ(D:List (Int×a7)×Unit)=>A.bind (A.bind (OK D.1) (λy=>A.bind (El y) λy=>A.loop (λ(D:z1'×Int×Int×List a7×List (Int×a7)×Unit)=>letI d:=D.2.2;if decide (d.1<D.2.1)=true then A.ad (0<=d.1/\d.1<Int.ofNat (List.length D.1)) (A.ad (b9 (Add.add (List.length d.2.1) (Add.add 0 1))) (A.pure (V.next (D.1,D.2.1,IntKind.wrap .i64 (Add.add d.1 1),d.2.1++[Option.getD (Option.map (λx=>x.2) (List.find? (λp=>decide (List.getD D.1 (Int.toNat d.1) 0=p.1)) d.2.2.1)) (0,0,0,0,0,0)],d.2.2.1,())))) else A.bind (A.pure (V.next (d.2.1,()))) λr=>A.pure (V.done r)) (y,Int.ofNat (List.length y),0,[],D.1,()))) (V.bD (λ(D:List a7×Unit)=>A.pure (true,D.1,())))))
abbrev lz:Type:=List bw×List bw×List bw×List bw×List bw×List bw×List bw×List bw×List bw×List bw×hp
def mI:Nat->lz->List bw
 | 0,r=>r.1
 | 1,r=>r.2.1
 | 2,r=>r.2.2.1
 | 3,r=>r.2.2.2.1
 | 4,r=>r.2.2.2.2.1
 | 5,r=>r.2.2.2.2.2.1
 | 6,r=>r.2.2.2.2.2.2.1
 | 7,r=>r.2.2.2.2.2.2.2.1
 | 8,r=>r.2.2.2.2.2.2.2.2.1
 | 9,r=>r.2.2.2.2.2.2.2.2.2.1
 | _,_=>[]
def Ih:Nat->List bw->lz->lz
 | 0,v,r=>(v,r.2)
 | 1,v,r=>(r.1,v,r.2.2)
 | 2,v,r=>(r.1,r.2.1,v,r.2.2.2)
 | 3,v,r=>(r.1,r.2.1,r.2.2.1,v,r.2.2.2.2)
 | 4,v,r=>(r.1,r.2.1,r.2.2.1,r.2.2.2.1,v,r.2.2.2.2.2)
 | 5,v,r=>(r.1,r.2.1,r.2.2.1,r.2.2.2.1,r.2.2.2.2.1,v,r.2.2.2.2.2.2)
 | 6,v,r=>(r.1,r.2.1,r.2.2.1,r.2.2.2.1,r.2.2.2.2.1,r.2.2.2.2.2.1,v,r.2.2.2.2.2.2.2)
 | 7,v,r=>(r.1,r.2.1,r.2.2.1,r.2.2.2.1,r.2.2.2.2.1,r.2.2.2.2.2.1,r.2.2.2.2.2.2.1,v,r.2.2.2.2.2.2.2.2)
 | 8,v,r=>(r.1,r.2.1,r.2.2.1,r.2.2.2.1,r.2.2.2.2.1,r.2.2.2.2.2.1,r.2.2.2.2.2.2.1,r.2.2.2.2.2.2.2.1,v,r.2.2.2.2.2.2.2.2.2)
 | 9,v,r=>(r.1,r.2.1,r.2.2.1,r.2.2.2.1,r.2.2.2.2.1,r.2.2.2.2.2.1,r.2.2.2.2.2.2.1,r.2.2.2.2.2.2.2.1,r.2.2.2.2.2.2.2.2.1,v,r.2.2.2.2.2.2.2.2.2.2)
 | _,_,r=>r
abbrev W8(r:lz):hp:=r.2.2.2.2.2.2.2.2.2.2
def OO{X:Type}(l:List bw)(x:bw)(i k:Int)(aJ B:A X):A X:=
 letI z:=decide (i > 0);letI y:=IntKind.wrap .i64 (i-1);letI n:=decide (x.1.2.2.2.1≠k);letI m:=(!n)=true;letI b:=(!n&&z)=true;letI c:=b->b/\True/\True;A.ad (m->(m/\True)/\True/\True) (A.ad (m->True/\True/\m) (A.ad c (A.ad (b->(b/\True)/\True/\True) (A.ad (b->(b/\b)/\(0<=y/\y<Int.ofNat (List.length l))/\True) (A.ad c (A.ad c (A.ad (b->(b/\b)/\True/\True) (A.ad (m->(m/\(z=true->b))/\True/\True) (A.ad (True/\(n=false->m)) (if (n||z&&decide (x.2=(List.getD l (Int.toNat y) ((0,0,0,0,0,0),0)).2))=true then aJ else B))))))))))
def Ii(k:Nat)(D:Int×Int×Int×z1'×lz):A (V (Int×Int×Int×z1'×lz) (V (Int×z1'×lz) (V (z1'×lz) (Option dO×Bool×hp)))):=
 letI i:=D.2.2.1;letI l:=mI k D.2.2.2.2;letI x:=List.getD l (Int.toNat i) ((0,0,0,0,0,0),0);if decide (i<D.2.1)=true then A.ad (0<=i/\i<Int.ofNat (List.length l)) (A.bind (A.ad ((2:Int)≠0) (if decide (Int.tmod i (2:Int)=1)=true then A.pure (V.next (i,2,D.1,D.2.1,i,x,D.2.2.2)) else A.pure (V.next (i,1,D.1,D.2.1,i,x,D.2.2.2)))) (V.bD (λ(bl:Int×Int×Int×Int×Int×bw×z1'×lz)=>letI r:=bl.2.2.2.2.2.2.2;OO (mI k r) bl.2.2.2.2.2.1 bl.1 bl.2.1 (A.bind (A.bind (A.bind (A.pure (none,false,W8 r)) (λr=>A.pure (V.done r))) (λr=>A.pure (V.done r))) λr=>A.pure (V.done r)) (A.pure (V.next (bl.2.2.1,bl.2.2.2.1,IntKind.wrap .i64 (Add.add bl.2.2.2.2.1 1),bl.2.2.2.2.2.2)))))) else A.bind (A.pure (V.next (D.1,D.2.2.2))) λr=>A.pure (V.done r)
def Ep(W9:(bw×a7×Int->A Int)×List bw×Unit->A (List bw×Unit))(W_:bw×a7×Int->A Int):Nat->Nat->z1'×lz->A (V (z1'×lz) (Option dO×Bool×hp))
 | 0,_,s=>A.pure (.next s)
 | n+1,k,s=>A.bind (A.ad (0<=Int.ofNat k/\Int.ofNat k<Int.ofNat 10) (A.bind (W9 (W_,mI k s.2,())) (λy=>A.loop (Ii k) (Int.ofNat k,Int.ofNat (List.length y.1),0,s.1,Ih k y.1 s.2)))) (V.bD (λ(bl:Int×z1'×lz)=>A.ad (IntKind.wrap .i64 (Add.add bl.1 1)=Int.ofNat (k+1)) (Ep W9 W_ n (k+1) bl.2)))
def Ij{X:Type}(f:Nat->A X)(v:Int):Nat->A X
 | 0=>f 0
 | n+1=>if v=Int.ofNat (Add.add n 1) then f (n+1) else Ij f v n
def W'{X:Type}(D:z1'×List a7×Int×Int×z1'×lz)(u:Nat):A (V (z1'×List a7×Int×Int×z1'×lz) X):=
 letI a:=List.getD D.2.1 (Int.toNat D.2.2.2.1) (0,0,0,0,0,0);letI r:=D.2.2.2.2.2;letI p:=0<=Int.ofNat u/\Int.ofNat u<Int.ofNat 10;A.ad True (A.ad p (A.ad (0<=a.2.1/\a.2.1<Int.ofNat (List.length D.1)) (A.ad (b9 (Add.add (List.length (mI u r)) (Add.add 0 1))) (A.ad True (A.ad p (A.pure (V.next (D.1,D.2.1,D.2.2.1,D.2.2.2.1,D.2.2.2.2.1,Ih u (mI u r++[((a.1,a.2.1,a.2.2.1,a.2.2.2.1,Int.ofNat u,a.2.2.2.2.2),IntKind.wrap .i64 (Add.add a.2.2.1 (List.getD D.1 (Int.toNat a.2.1) 0)))]) r))))))))
def Xa(ald:z1'->A (z1'))(ale:(bw×a7×Int->A Int)×List bw×Unit->A (List bw×Unit))(alf:bw×a7×Int->A Int)(x:z1'×hp):A (Option dO×Bool×hp):=
 A.bind (A.bind (ald x.1) (λy=>A.pure (V.next (x.1,y,x.2.1,x.2.2.1,x.2.2.2.1,x.2.2.2.2.1,x.cY,x.fa,x.gw,x.h0,x.jV,x.k3,x.hO,x.nk,x.pY,[],[],[],[],[],[],[],[],[],[],())))) (V.bD (λ(D:z1'×z1'×z4'×List a7×z1'×z4'×Int×Int×Int×Int×Int×Int×Int×List a7×List (Option dO)×List bw×List bw×List bw×List bw×List bw×List bw×List bw×List bw×List bw×List bw×Unit)=>A.bind (A.ad True (A.loop (λ(D:z1'×List a7×Int×Int×z1'×lz)=>letI a:=List.getD D.2.1 (Int.toNat D.2.2.2.1) (0,0,0,0,0,0);letI u:=a.2.2.2.2.1;if decide (D.2.2.2.1<D.2.2.1)=true then A.bind (A.ad (0<=D.2.2.2.1/\D.2.2.2.1<Int.ofNat (List.length D.2.1)) (A.ad (0<=u/\u<Int.ofNat 10) (Ij (W' D) u 9))) (V.bD (λ(D:z1'×List a7×Int×Int×z1'×lz)=>A.pure (V.next (D.1,D.2.1,D.2.2.1,IntKind.wrap .i64 (Add.add D.2.2.2.1 1),D.2.2.2.2)))) else A.bind (A.pure (V.next D.2.2.2.2)) λr=>A.pure (V.done r)) (D.1,D.pY,Int.ofNat (List.length D.pY),0,D.2.1,D.yl,D.Oz,D.OA,D.OB,D.OC,D.OD,D.aky,D.akz,D.rW,D.Ej,D.2.2.1,D.2.2.2.1,D.2.2.2.2.1,D.cY,D.fa,D.gw,D.h0,D.jV,D.k3,D.hO,D.nk,D.pY,D.s4,()))) (V.bD (λ(D:z1'×lz)=>A.bind (A.ad True (A.ad (0=Int.ofNat 0) (Ep ale alf 10 0 D))) (V.bD (λ(D:z1'×lz)=>A.pure (some (D.1,[mI 0 D.2,mI 1 D.2,mI 2 D.2,mI 3 D.2,mI 4 D.2,mI 5 D.2,mI 6 D.2,mI 7 D.2,mI 8 D.2,mI 9 D.2]),true,W8 D.2)))))))
def Xb(alg:Int×Int×(bw×a7×Int->A Int)×List bw×Unit->A (List bw×Unit))(x:Int×Int×Int×(bw×a7×Int->A Int)×List bw×Unit):A (List bw×Unit):=
 A.loop (λ(D:Int×Int×Int×(bw×a7×Int->A Int)×Bool×Bool×List bw×Unit)=>if decide (IntKind.wrap .i64 (D.2.1-D.1)<=12)=true then A.bind (alg (D.1,D.2.1,D.2.2.2.1,D.fa,())) λy=>A.bind (A.pure (y.1,())) λr=>A.pure (V.done r) else A.fail) (x.1,x.2.1,x.2.2.1,x.2.2.2.1,true,true,x.2.2.2.2.1,())
def Xc(OG:z1'×hp->A (hp))(alh:z1'×hp->A (Option dO×Bool×hp))(x:z1'×hp):A (hp):=
 letI d:=Int.ofNat (List.length x.2.1);letI a:=Int.ofNat (List.length x.1);A.ad True (if decide (a=d)=true then A.bind (A.bind (alh (x.1,x.2.1,x.2.2.1,x.2.2.2.1,x.2.2.2.2.1,x.cY,x.fa,x.gw,x.h0,x.jV,x.k3,x.hO,x.nk,x.pY,())) (λy=>if y.2.1=true then A.ad True (A.ad (b9 (Add.add (List.length y.s4) (Add.add 0 1))) (A.ad True (A.pure (V.next (y.2.2.1,y.2.2.2.1,y.2.2.2.2.1,y.cY,y.fa,y.gw,y.h0,y.jV,y.k3,y.hO,y.nk,y.pY,y.s4++[y.1],()))))) else A.pure (V.next (y.2.2.1,y.2.2.2.1,y.2.2.2.2.1,y.cY,y.fa,y.gw,y.h0,y.jV,y.k3,y.hO,y.nk,y.pY,y.s4,())))) (V.bD (λ(D:hp)=>A.pure (D.1,D.2.1,D.2.2.1,D.2.2.2.1,D.2.2.2.2.1,D.cY,D.fa,D.gw,D.h0,D.jV,D.k3,D.hO,D.nk,()))) else A.ad True (A.ad (0<=a/\a<d) (A.loop (λ(D:z1'×Int×Int×hp)=>letI c:=D.2.2;letI b:=D.2.1;letI e:=List.take (Int.toNat b) D.1;A.ad True (A.ad (0<=b/\b<Int.ofNat (List.length c.2.1)) (if decide (c.1<=(List.getD c.2.1 (Int.toNat b) (0,0)).2)=true then A.ad ((0:Int)<=0/\0<=b/\b=b/\b<=Int.ofNat (List.length D.1)) (A.ad (0<Add.add 0 1/\b9 (Add.add (List.length e) (Add.add 0 1))) (A.bind (OG (e++[c.1],c.2.1,c.2.2.1,D.cY,D.fa,D.gw,D.h0,D.jV,D.k3,D.hO,D.nk,D.pY,D.s4,D.yl,())) (λy=>A.pure (V.next (D.1,b,IntKind.wrap .i64 (Add.add c.1 1),y.1,y.2.1,y.2.2.1,y.2.2.2.1,y.2.2.2.2.1,y.cY,y.fa,y.gw,y.h0,y.jV,y.k3,y.hO,y.nk,()))))) else A.bind (A.pure (c.2.1,c.2.2.1,D.cY,D.fa,D.gw,D.h0,D.jV,D.k3,D.hO,D.nk,D.pY,D.s4,D.yl,())) λr=>A.pure (V.done r)))) (x.1,a,(List.getD x.2.1 (Int.toNat a) (0,0)).1,x.2.1,x.2.2.1,x.2.2.2.1,x.2.2.2.2.1,x.cY,x.fa,x.gw,x.h0,x.jV,x.k3,x.hO,x.nk,x.pY,()))))
def Xd(ali:Int->A Int)(alj:Int×Int×Int×(bw×a7×Int->A Int)×List bw×Unit->A (List bw×Unit))(x:(bw×a7×Int->A Int)×List bw×Unit):A (List bw×Unit):=
 letI a:=Int.ofNat (List.length x.2.1);A.bind (ali (IntKind.wrap .u64 a)) λy=>A.bind (alj (0,a,y,x.1,x.2.1,())) λy=>A.pure (y.1,())
end Go.Fer.H
